/- Layer 46 (super): superblocks as plain data, their sectors, the disk that holds them. No conditions. What super's Valid and Encode return. No conditions. What super's Decode returns. No conditions. What the reference's Valid and Decode returns. No conditions. What the reference's Encode returns. No conditions. What super's unchanged returns: a copy of the disk. No conditions but the sizes. What Best and Load of super and of its reference return. No conditions but the sizes. What Store of super and of its reference returns. No conditions but the sizes. The examples of layer 46 hold. No conditions. How superblocks are read as arguments of layer 46's laws. No conditions. -/
import Derived.Test.YtkpfkknldeafkaaWireP
import Derived.Test.YtkpfkknldeafkaaSecOpen
import Derived.Test.YtkpfkknldeafkaaDiskGood
import Derived.Test.YtkpfkknldeafkaaWireRef
import Derived.Lib.AppendStr
import Derived.Deep.RegionLaw
import Derived.Outline
import Derived.Test.YtkpfkknldeafkaaSecJoinP
import Derived.Deep.Cut
import Derived.Deep.CutRange
import Derived.Deep.DeepCutAuto
import Derived.Test.YtkpfkknldeafkaaSecRAll
import Derived.Test.YtkpfkknldeafkaaRegion
import Derived.Test.YtkpfkknldeafkaaDiskEx
import Derived.Test.YtkpfkknldeafkaaDiskRef8
import Derived.Test.YtkpfkknldeafkaaDiskRef3
import Derived.Test.YtkpfkknldeafkaaDiskLaw3
import Derived.Test.YtkpfkknldeafkaaDiskArgs
namespace Go.Proofs.Ytkpfkknldeafkaa
open Go.RowKit

structure Sp where
  g : Int
  e : Int
  a : Int
  z : Int
  p : Int
deriving DecidableEq
def spV (x : Sp) : Array Value := #[.int .i64 x.g, .int .i64 x.e, .int .i64 x.a, .int .i64 x.z, .int .i64 x.p]
def sp0 : Sp := ⟨0, 0, 0, 0, 0⟩
def spB (x : Sp) : Bool := decide (1 ≤ x.g ∧ x.g ≤ 1099511627776 ∧ 0 ≤ x.e ∧ x.e ≤ x.g ∧ 0 ≤ x.a ∧ x.a ≤ 2 ∧ (x.a = 0 → x.z = 0 ∧ x.p = 0) ∧ (x.a ≠ 0 → 1 ≤ x.z ∧ x.z ≤ 16384 ∧ 0 ≤ x.p ∧ x.p ≤ 1099511627776))
theorem spB_iff (x : Sp) : spB x = true ↔ 1 ≤ x.g ∧ x.g ≤ 1099511627776 ∧ 0 ≤ x.e ∧ x.e ≤ x.g ∧ 0 ≤ x.a ∧ x.a ≤ 2 ∧ (x.a = 0 → x.z = 0 ∧ x.p = 0) ∧ (x.a ≠ 0 → 1 ≤ x.z ∧ x.z ≤ 16384 ∧ 0 ≤ x.p ∧ x.p ≤ 1099511627776) := by unfold spB; rw [decide_eq_true_iff]
theorem spB_no {x : Sp} (h : ¬ (1 ≤ x.g ∧ x.g ≤ 1099511627776 ∧ 0 ≤ x.e ∧ x.e ≤ x.g ∧ 0 ≤ x.a ∧ x.a ≤ 2 ∧ (x.a = 0 → x.z = 0 ∧ x.p = 0) ∧ (x.a ≠ 0 → 1 ≤ x.z ∧ x.z ≤ 16384 ∧ 0 ≤ x.p ∧ x.p ≤ 1099511627776))) : spB x = false := decide_eq_false h
theorem spB_bounds {x : Sp} (h : spB x = true) : 1 ≤ x.g ∧ x.g ≤ 1099511627776 ∧ 0 ≤ x.e ∧ x.e ≤ 1099511627776 ∧ 0 ≤ x.a ∧ x.a ≤ 2 ∧ 0 ≤ x.z ∧ x.z ≤ 16384 ∧ 0 ≤ x.p ∧ x.p ≤ 1099511627776 := by
  obtain ⟨h1, h2, h3, h4, h5, h6, h7, h8⟩ := (spB_iff x).1 h
  by_cases h0 : x.a = 0
  · have := h7 h0; omega
  · have := h8 h0; omega
/-- the data of a superblock's sector -/
def encD (x : Sp) : List UInt8 := uintS x.e.toNat ++ uintS x.a.toNat ++ uintS x.z.toNat ++ uintS x.p.toNat
theorem uintS_len (u : Nat) (h : u ≤ 1099511627776) : (uintS u).length ≤ 6 := by
  refine uintF_small 9 5 u (by omega) ?_
  have e : (128 : Nat) ^ (5 + 1) = 4398046511104 := by decide
  rw [e]; omega
theorem encD_len {x : Sp} (h : spB x = true) : (encD x).length ≤ 40 := by
  obtain ⟨h1, h2, h3, h4, h5, h6, h7, h8, h9, h10⟩ := spB_bounds h
  unfold encD
  have a := uintS_len x.e.toNat (by omega)
  have b := uintS_len x.a.toNat (by omega)
  have c := uintS_len x.z.toNat (by omega)
  have d := uintS_len x.p.toNat (by omega)
  simp only [List.length_append]; omega
def encS (x : Sp) : List UInt8 × Int := if spB x = true then (sealedL x.g.toNat 0 1 (encD x), 0) else ([], 1)
theorem enc_seal {x : Sp} (h : spB x = true) : sealS x.g 0 1 (encD x) = (sealedL x.g.toNat 0 1 (encD x), 0) := by
  obtain ⟨h1, h2, _⟩ := spB_bounds h
  have hs : stampB x.g 0 1 = true := by rw [stampB_iff]; omega
  unfold sealS; rw [if_pos hs, if_pos (encD_len h)]; rfl
theorem enc_len {x : Sp} (h : spB x = true) : (sealedL x.g.toNat 0 1 (encD x)).length = 64 := sealedL_length _ _ _ _ (encD_len h)

/-- k numbers taken off some data, one behind the other: the numbers, the place behind them, the error -/
def tkN (data : List UInt8) : Nat → List Nat × Int × Int
  | 0 => ([], 0, 0)
  | k + 1 => if (tkN data k).2.2 ≠ 0 then tkN data k else if (takeS data (tkN data k).2.1).2.2 = 0 then ((tkN data k).1 ++ [(takeS data (tkN data k).2.1).1], (takeS data (tkN data k).2.1).2.1, 0) else ([], 0, (takeS data (tkN data k).2.1).2.2)
theorem tkN_ok {data : List UInt8} {k : Nat} {ns : List Nat} {at_ : Int} (h : tkN data k = (ns, at_, 0)) {u : Nat} {at2 : Int} (h2 : takeS data at_ = (u, at2, 0)) : tkN data (k + 1) = (ns ++ [u], at2, 0) := by
  unfold tkN; rw [h]; simp only; rw [h2]; simp
theorem tkN_bad {data : List UInt8} {k : Nat} {ns : List Nat} {at_ : Int} (h : tkN data k = (ns, at_, 0)) {e : Int} (h2 : (takeS data at_).2.2 = e) (he : e ≠ 0) : tkN data (k + 1) = ([], 0, e) := by
  unfold tkN; rw [h]; simp only; rw [h2, if_neg (by simp), if_neg he]
theorem tkN_stay {data : List UInt8} {k : Nat} {e : Int} (h : tkN data k = ([], 0, e)) (he : e ≠ 0) (j : Nat) : tkN data (k + j) = ([], 0, e) := by
  induction j with
  | zero => exact h
  | succ j ih => rw [← Nat.add_assoc]; unfold tkN; rw [ih]; simp only; rw [if_pos he]
def mkSp (g : Int) (ns : List Nat) : Sp := ⟨g, ns.getD 0 0, ns.getD 1 0, ns.getD 2 0, ns.getD 3 0⟩
def bigB (ns : List Nat) : Bool := ns.any fun n => decide ((1099511627776 : Int) < (n : Int))
theorem bigB_snoc (ns : List Nat) (u : Nat) : bigB (ns ++ [u]) = (bigB ns || decide ((1099511627776 : Int) < (u : Int))) := by unfold bigB; rw [List.any_append]; simp
def decD (g : Int) (data : List UInt8) : Sp × Int :=
  if (tkN data 4).2.2 ≠ 0 then (sp0, (tkN data 4).2.2)
  else if (tkN data 4).2.1 = (data.length : Int) ∧ bigB (tkN data 4).1 = false ∧ spB (mkSp g (tkN data 4).1) = true then (mkSp g (tkN data 4).1, 0) else (sp0, 5)
theorem decD_bad {g : Int} {data : List UInt8} {e : Int} (h : tkN data 4 = ([], 0, e)) (he : e ≠ 0) : decD g data = (sp0, e) := by unfold decD; rw [h]; simp only; rw [if_pos he]
theorem decD_ok {g : Int} {data : List UInt8} {ns : List Nat} {at_ : Int} (h : tkN data 4 = (ns, at_, 0)) (h1 : at_ = (data.length : Int)) (h2 : bigB ns = false) (h3 : spB (mkSp g ns) = true) : decD g data = (mkSp g ns, 0) := by
  unfold decD; rw [h]; simp only; rw [if_neg (by simp), if_pos ⟨h1, h2, h3⟩]
theorem decD_no {g : Int} {data : List UInt8} {ns : List Nat} {at_ : Int} (h : tkN data 4 = (ns, at_, 0)) (h1 : ¬ (at_ = (data.length : Int) ∧ bigB ns = false ∧ spB (mkSp g ns) = true)) : decD g data = (sp0, 5) := by
  unfold decD; rw [h]; simp only; rw [if_neg (by simp), if_neg h1]
/-- four cells of an array of numbers -/
def u64A (A : List Nat) : Array Value := (A.map fun (n : Nat) => Value.int .u64 (n : Int)).toArray
theorem u64A_get (A : List Nat) (k : Nat) (h : k < A.length) : (u64A A)[k]? = some (.int .u64 (A[k] : Int)) := by unfold u64A; simp [h]
theorem u64A_set (A : List Nat) (k u : Nat) : (u64A A).setIfInBounds k (.int .u64 (u : Int)) = u64A (A.set k u) := by unfold u64A; rw [List.setIfInBounds_toArray, List.map_set]
theorem take_set (A : List Nat) (k u : Nat) (ns : List Nat) (hk : k < A.length) (h : A.take k = ns) : (A.set k u).take (k + 1) = ns ++ [u] := by
  rw [List.take_succ_eq_append_getElem (by simpa using hk), List.getElem_set_self, List.take_set_of_le (Nat.le_refl _), h]
def decS (s : List UInt8) : Sp × Int :=
  if (openS s).2.2 ≠ 0 then (sp0, (openS s).2.2)
  else if (openS s).1.2.1 = 0 ∧ (openS s).1.2.2 = 1 then decD (openS s).1.1 (openS s).2.1 else (sp0, 5)
def bestS (a b : List UInt8) : Sp × Bool :=
  if (decS a).2 = 0 ∧ ((decS b).2 ≠ 0 ∨ (decS b).1.g ≤ (decS a).1.g) then ((decS a).1, true)
  else if (decS b).2 = 0 then ((decS b).1, true) else (sp0, false)
def loadS (d : Dk) : Sp × Int :=
  if (readS d 0).2 ≠ 0 then (sp0, (readS d 0).2)
  else if (readS d 1).2 ≠ 0 then (sp0, (readS d 1).2)
  else if (bestS (readS d 0).1 (readS d 1).1).2 = true then ((bestS (readS d 0).1 (readS d 1).1).1, 0) else (sp0, 20)
def storeS (d : Dk) (x : Sp) : Dk × Int :=
  if (encS x).2 ≠ 0 then (d, (encS x).2)
  else if (writeS d (x.g % 2) (encS x).1).2 ≠ 0 then writeS d (x.g % 2) (encS x).1
  else syncS (writeS d (x.g % 2) (encS x).1).1

theorem dec_err (s : List UInt8) : (decS s).2 ≠ 0 → (decS s).1 = sp0 := by
  unfold decS decD
  split
  · intro _; rfl
  · split
    · split
      · intro _; rfl
      · split
        · intro h; exact absurd rfl h
        · intro _; rfl
    · intro _; rfl
end Go.Proofs.Ytkpfkknldeafkaa

namespace Go.Proofs.Ytkpfkknldeafkaa
open Go.RowKit

theorem Bx.new1 (w : World) (a : Obj) (cs : Array Value) (T : TypeId) : Bx (w.heap.size + 1) cs T ((w.alloc a).alloc (.cells cs T)) := by
  have := Bx.new (w.alloc a) cs T; simpa using this
theorem Bx.new2 (w : World) (a b : Obj) (cs : Array Value) (T : TypeId) : Bx (w.heap.size + 2) cs T (((w.alloc a).alloc b).alloc (.cells cs T)) := by
  have := Bx.new ((w.alloc a).alloc b) cs T; simpa using this

/-- 'append(data[:len(data):len(data)], s...)': a row without spare capacity grows into a new one -/
theorem run_append_full {P : Program} (w : World) (t u ty e : TypeId) (i : TypeInfo) (ht : P.underlying t = some (.slice e)) (hu : P.underlying u = some .string) (hi : P.info? e = some i) (hz : i.zero = some (.int .u8 0))
    (hsize : i.size = 1) (hby : i.bytes = 1) (g n : Nat) (xs : List Value) (hxl : xs.length = n) (holds : ∀ j u, xs[j]? = some u → w.cell? ⟨g, 0 + j, none⟩ = some u) (s : ByteArray) (h0 : 0 < s.size) (hbytes : n + s.size ≤ 1000000) :
    ∃ v' w', (Builtin.append_ #[t, u] ty #[.slice (some ⟨g, 0, none⟩) n n, .string s]).run P w = .ok v' w' ∧ w'.ownsRow w.heap.size e 1 v' (n + s.size) (xs ++ Lib.strCells s) ∧ w.grownBy w' none := by
  have hlen : (xs ++ Lib.strCells s).length = (n + s.size) * 1 := by rw [List.length_append, hxl, Lib.strCells_length, Nat.mul_one]
  have holds2 : ∀ j u, xs[j]? = some u → w.cell? ((⟨g, 0, none⟩ : Addr).add j) = some u := by
    intro j u hj
    have e : (⟨g, 0, none⟩ : Addr).add j = ⟨g, 0 + j, none⟩ := by unfold Addr.add; split <;> simp_all
    rw [e]; exact holds j u hj
  have hr := Lib.run_append_grow_string (P := P) w t u ty e i (.int .u8 0) ht hu hi hz ⟨g, 0, none⟩ n n xs (by rw [hsize]; simpa using hxl) holds2 s (by omega) (by omega) (by rw [hby]; exact growslice_fits (by omega) (by omega))
  have hge := grownCap_ge w (n + s.size) n e
  have hcm : grownCap w (n + s.size) n e ≤ maxLen := grownCap_le_maxLen w (n + s.size) n e (by unfold maxLen; omega)
  refine ⟨_, _, hr, ⟨hlen, .inr ⟨w.heap.size, _, _, rfl, Nat.le_refl _, heap_alloc_new w.drew _, hge, hcm, ?_, ?_⟩⟩, ⟨rfl, rfl, rfl, by simp, fun k hk _ => heap_alloc_old w.drew _ hk⟩⟩
  · have hz1 : (Value.int IntKind.u8 0).cells.size = 1 := rfl
    simp only [Array.size_append, List.size_toArray, size_zeroCells, hz1, hxl, Lib.strCells_length]
    omega
  · simp only [Array.toList_append, List.append_assoc]
    rw [← List.append_assoc, ← hlen]
    exact List.take_left
set_option maxRecDepth 100000 in
theorem run_append_text (w : World) (ty : TypeId) (v : Value) (L y : List UInt8)
    (hv : (v = .slice none 0 0 ∧ L = []) ∨ ∃ g, v = .slice (some ⟨g, 0, none⟩) L.length L.length ∧ ∀ j u, (bcs L)[j]? = some u → w.cell? ⟨g, 0 + j, none⟩ = some u) (h0 : 0 < y.length) (hb : L.length + y.length ≤ 1000000) :
    ∃ v' w', (Builtin.append_ #[81, 9] ty #[v, .string (bs y)]).run Try.prog w = .ok v' w' ∧ w'.ownsRow w.heap.size 5 1 v' (L ++ y).length (bcs (L ++ y)) ∧ Below w.heap.size w w' := by
  obtain ⟨i0, hi, hz0, hz1, hz2⟩ := info_parts Try.infoByte
  have hsc : ∀ l : List UInt8, Lib.strCells (bs l) = bcs l := fun l => by simp [Lib.strCells, bcs, bs]
  have hcat : bcs (L ++ y) = bcs L ++ bcs y := by simp [bcs]
  rcases hv with ⟨rfl, rfl⟩ | ⟨g, rfl, hc⟩
  · have hown : w.ownsRow w.heap.size 5 1 (.slice none 0 0) 0 [] := World.ownsRow_nil _ _ _ _
    obtain ⟨v', w', h1, h2, h3, _⟩ := Lib.run_append_own_string (P := Try.prog) w w.heap.size 81 9 ty 5 i0 Try.underlying81 Try.underlying9 hi hz0 hz1 hz2 (.slice none 0 0) 0 [] hown (bs y) (by rw [bs_size]; unfold maxLen; simp at hb; omega) (by rw [bs_size]; simp at hb; omega) (Nat.le_refl _)
    refine ⟨v', w', h1, ?_, ?_⟩
    · rw [hsc, bs_size] at h2
      simpa using h2
    · exact (Below.refl _ _).grown h3 (Nat.le_refl _) (fun k hk => by cases hk)
  · obtain ⟨v', w', h1, h2, h3⟩ := run_append_full (P := Try.prog) w 81 9 ty 5 i0 Try.underlying81 Try.underlying9 hi hz0 hz1 hz2 g L.length (bcs L) (bcs_length L) hc (bs y) (by rw [bs_size]; exact h0) (by rw [bs_size]; exact hb)
    refine ⟨v', w', h1, ?_, ?_⟩
    · rw [hsc, bs_size, ← hcat, ← List.length_append] at h2
      exact h2
    · exact (Below.refl _ _).grown h3 (Nat.le_refl _) (fun k hk => by cases hk)
theorem step_append_text {ops : Array Oper} {o : Oper} {a : Act} {w : World} {K : Act → World → Prop} {Q : Exit → Act → World → Prop} {E : Prop} (hgd : o.guard = none) (s x : Operand)
    (ho : o.op = .call { callee := .builtin .append, args := #[s, x], argTypes := #[81, 9] }) (v : Value) (L y : List UInt8) (hs : a.eval s = v) (hx : a.eval x = .string (bs y))
    (hv : (v = .slice none 0 0 ∧ L = []) ∨ ∃ g, v = .slice (some ⟨g, 0, none⟩) L.length L.length ∧ ∀ j u, (bcs L)[j]? = some u → w.cell? ⟨g, 0 + j, none⟩ = some u) (h0 : 0 < y.length) (hb : L.length + y.length ≤ 1000000)
    (h : ∀ v' w', w'.ownsRow w.heap.size 5 1 v' (L ++ y).length (bcs (L ++ y)) → Below w.heap.size w w' → K (a.put o.dst v') w') :
    if Region.wanted o (yielded ops a.tmps) = true then Oper.wp Try.prog o a w K Q else E := by
  have hw : Region.wanted o (yielded ops a.tmps) = true := by simp [Region.wanted, hgd]
  rw [if_pos hw]
  obtain ⟨v', w', hr, h2, h3⟩ := run_append_text w o.type v L y hv h0 hb
  unfold Oper.wp execOp
  simp only [ho, resolve, invoke, builtin, Sem.run_bind, Sem.run_pure, Result.andThen_ok, List.map_toArray, List.map_cons, List.map_nil, hs, hx, hr]
  exact h v' w' h2 h3
theorem strCells_bs (l : List UInt8) : Lib.strCells (bs l) = bcs l := by simp [Lib.strCells, bcs, bs]

set_option maxRecDepth 100000 in
set_option maxHeartbeats 1000000 in
theorem SValid_any (x : Sp) (w : World) :
    Calls Try.prog 18 #[.agg (spV x)] w fun e w' => e = .returned (.bool (spB x)) ∧ Below w.heap.size w w' := by
  obtain ⟨g, e, a, z, p⟩ := x
  simp only [spV]
  go_enter Try.func18, Try.ntmps18
  go_wp2
  all_goals go_ret
  all_goals refine ⟨ret_bool ?_, (Below.refl _ _).alloc (Nat.le_refl _) _⟩
  all_goals (try simp only [beq_iff_eq, beq_eq_false_iff_ne, ne_eq] at *)
  all_goals first
    | exact ((spB_iff ⟨g, e, a, z, p⟩).2 (by simp only; omega)).symm
    | exact (spB_no (x := ⟨g, e, a, z, p⟩) (by simp only; omega)).symm
    | (rw [Bool.eq_iff_iff, spB_iff]; simp; omega)

/-- the numbers of a superblock's data -/
def nums4 (x : Sp) : List Int := [x.e, x.a, x.z, x.p]
def encK (x : Sp) (k : Nat) : List UInt8 := ((nums4 x).take k).flatMap fun n => uintS n.toNat
theorem encK_four (x : Sp) : encK x 4 = encD x := by simp [encK, nums4, encD, List.append_assoc]
theorem encK_succ (x : Sp) (k : Nat) (h : k < (nums4 x).length) : encK x (k + 1) = encK x k ++ uintS (nums4 x)[k].toNat := by
  unfold encK; rw [List.take_succ_eq_append_getElem h, List.flatMap_append]; simp
theorem nums_bound {x : Sp} (h : spB x = true) (k : Nat) (hk : k < (nums4 x).length) : 0 ≤ (nums4 x)[k] ∧ (nums4 x)[k] ≤ 1099511627776 := by
  obtain ⟨h1, h2, h3, h4, h5, h6, h7, h8, h9, h10⟩ := spB_bounds h
  match k, hk with
  | 0, _ => exact ⟨h3, h4⟩
  | 1, _ => exact ⟨h5, by show x.a ≤ _; omega⟩
  | 2, _ => exact ⟨h7, by show x.z ≤ _; omega⟩
  | 3, _ => exact ⟨h9, h10⟩
theorem encK_len {x : Sp} (h : spB x = true) (k : Nat) : (encK x k).length ≤ 24 := by
  have key : ∀ l : List Int, (∀ n ∈ l, 0 ≤ n ∧ n ≤ 1099511627776) → (l.flatMap fun n => uintS n.toNat).length ≤ 6 * l.length := by
    intro l
    induction l with
    | nil => intro _; simp
    | cons n r ih =>
      intro hl
      have h1 := hl n (by simp)
      have h2 := uintS_len n.toNat (by omega)
      have h3 := ih (fun m hm => hl m (by simp [hm]))
      simp only [List.flatMap_cons, List.length_append, List.length_cons]; omega
  have := key ((nums4 x).take k) (fun n hn => by
    obtain ⟨i, hi, rfl⟩ := List.mem_iff_getElem.1 (List.mem_of_mem_take hn)
    exact nums_bound h i hi)
  have h2 : ((nums4 x).take k).length ≤ 4 := by rw [List.length_take]; simp [nums4]; omega
  unfold encK; omega
set_option maxRecDepth 100000 in
set_option maxHeartbeats 2000000 in
theorem SEncode_any (x : Sp) (w : World) :
    Calls Try.prog 16 #[.agg (spV x)] w fun e w' => e = .returned (.tuple #[.string (bs (encS x).1), .int .i64 (encS x).2]) ∧ Below w.heap.size w w' := by
  have hb0 := (Below.refl w.heap.size w).alloc (Nat.le_refl _) (.cells (spV x) 23)
  have hX := Bx.new w (spV x) 23
  have x0 : (w.alloc (.cells (spV x) 23)).cell? ⟨w.heap.size, 0, none⟩ = some (.int .i64 x.g) := hX.cell 0
  have x1 : (w.alloc (.cells (spV x) 23)).cell? ⟨w.heap.size, 1, none⟩ = some (.int .i64 x.e) := hX.cell 1
  have x2 : (w.alloc (.cells (spV x) 23)).cell? ⟨w.heap.size, 2, none⟩ = some (.int .i64 x.a) := hX.cell 2
  have x3 : (w.alloc (.cells (spV x) 23)).cell? ⟨w.heap.size, 3, none⟩ = some (.int .i64 x.z) := hX.cell 3
  have x4 : (w.alloc (.cells (spV x) 23)).cell? ⟨w.heap.size, 4, none⟩ = some (.int .i64 x.p) := hX.cell 4
  have HX := Lib.hid hX; have HB0 := Lib.hid hb0; clear hX hb0
  go_enter Try.func16, Try.ntmps16
  go_wp2_with fail
  refine (SValid_any x _).mono ?_
  cases hv : spB x with
  | false =>
    rintro e w1 ⟨rfl, hb1⟩
    have HF := Lib.hid (show encS x = ([], 1) by unfold encS; rw [if_neg (by rw [hv]; decide)])
    clear hv x0 x1 x2 x3 x4
    go_wp2
    go_ret2
    rw [HF.out]
    exact ⟨rfl, btrans HB0.out HB0.out.size hb1⟩
  | true =>
    rintro e w1 ⟨rfl, hb1⟩
    have HF := Lib.hid (show encS x = (sealedL x.g.toNat 0 1 (encD x), 0) by unfold encS; rw [if_pos hv])
    have HV := Lib.hid hv
    have HX1 := Lib.hid (HX.out.call hb1)
    have HB1 := Lib.hid (btrans HB0.out HB0.out.size hb1)
    clear hv x0 x1 x2 x3 x4 hb1
    have x0 : w1.cell? ⟨w.heap.size, 0, none⟩ = some (.int .i64 x.g) := HX1.out.cell 0
    have x1 : w1.cell? ⟨w.heap.size, 1, none⟩ = some (.int .i64 x.e) := HX1.out.cell 1
    have x2 : w1.cell? ⟨w.heap.size, 2, none⟩ = some (.int .i64 x.a) := HX1.out.cell 2
    have x3 : w1.cell? ⟨w.heap.size, 3, none⟩ = some (.int .i64 x.z) := HX1.out.cell 3
    have x4 : w1.cell? ⟨w.heap.size, 4, none⟩ = some (.int .i64 x.p) := HX1.out.cell 4
    go_wp2
    clear x0 x1 x2 x3 x4
    have hr0 := Bx.new w1 #[.int .i64 x.e, .int .i64 x.a, .int .i64 x.z, .int .i64 x.p] 2
    have HR := Lib.hid hr0; clear hr0
    obtain ⟨i0, hi, hz0, hz1, hz2⟩ := info_parts Try.infoByte
    go_loopw [4, 20] (fun v i wr => ∃ k : Nat, k ≤ 4 ∧ i = .int .i64 k ∧ wr.ownsRow (w1.heap.size + 1) 5 1 v (encK x k).length (bcs (encK x k)) ∧ Below (w1.heap.size + 1) (w1.alloc (.cells #[.int .i64 x.e, .int .i64 x.a, .int .i64 x.z, .int .i64 x.p] 2)) wr) (fun _ i _ => 4 - (intOf i).toNat)
    case atStart => exact ⟨0, by omega, rfl, World.ownsRow_nil _ _ _ _, Below.refl _ _⟩
    case round =>
      obtain ⟨k, hk, rfl, hown, hbr⟩ := hrel
      have hsz : w1.heap.size + 1 ≤ wr.heap.size := by have := hbr.size; simpa using this
      have hXr := HR.out.below hbr (by omega)
      have HOW := Lib.hid hown; have HBR := Lib.hid hbr; clear hown hbr
      by_cases hlt : k < 4
      · have hkl : k < (nums4 x).length := hlt
        have hlt' : (k : Int) < 4 := by omega
        obtain ⟨n, hn⟩ : ∃ n, (nums4 x)[k] = n := ⟨_, rfl⟩
        have hnb := nums_bound HV.out k hkl
        have hes := encK_succ x k hkl
        rw [hn] at hnb hes
        have hcell : wr.cell? ⟨w1.heap.size, k, none⟩ = some (.int .i64 n) := by
          rw [hXr.cell k, ← hn]
          match k, hkl with
          | 0, _ | 1, _ | 2, _ | 3, _ => rfl
        obtain ⟨n, rfl⟩ : ∃ m : Nat, n = m := ⟨n.toNat, by omega⟩
        rw [Int.toNat_natCast] at hes
        have hw64 : IntKind.u64.wrap (n : Int) = (n : Int) := wrap_u64 n (by omega)
        have HES := Lib.hid hes; clear hn hes hXr
        have hl24 := encK_len HV.out k
        have hu6 := uintS_len n (by omega)
        have hu1 : 1 ≤ (uintS n).length := (uintF_len 9 n).1
        rcases own_form HOW.out with ⟨rfl, hz⟩ | ⟨g, cap, rfl, hc, _⟩
        · have hk0 : encK x k = [] := List.eq_nil_of_length_eq_zero hz
          have HK0 := Lib.hid hk0; clear hk0 hz
          go_wp2_with fail
          go_region_law (first
            | (go_simp; go_at_call 51; refine (Uint_any n (by omega) _).mono ?_; rintro e w2 ⟨rfl, hb2⟩)
            | (refine step_append_text rfl _ _ rfl (.slice none 0 0) [] (uintS n) rfl rfl (Or.inl ⟨rfl, rfl⟩) (by omega) (by simp; omega) ?_; intro v3 w3 hown3 hb3))
          have HO3 := Lib.hid (own_mono hown3 (Nat.le_trans hsz hb2.size)); have HB3 := Lib.hid (btrans HBR.out.drew hsz (btrans hb2 hb2.size hb3)); clear hown3 hb2 hb3
          go_wp2
          go_roundw
          case rel => exact ⟨k + 1, by omega, by go_num, by rw [HES.out, HK0.out]; exact HO3.out, HB3.out⟩
          case measure => simp [intOf]; omega
        · have hcl := own_addr HOW.out
          have hgl := (HOW.out.lt g rfl).2
          have HCL := Lib.hid hcl; clear hcl
          go_wp2_with fail
          go_region_law (first
            | (go_simp; go_at_call 51; refine (Uint_any n (by omega) _).mono ?_; rintro e w2 ⟨rfl, hb2⟩)
            | (refine step_append_text rfl _ _ rfl (.slice (some ⟨g, 0, none⟩) (encK x k).length (encK x k).length) (encK x k) (uintS n) rfl rfl (Or.inr ⟨g, rfl, fun j u hj => (hb2.cell (p := ⟨g, 0 + j, none⟩) hgl).trans (HCL.out j u hj)⟩) (by omega) (by omega) ?_; intro v3 w3 hown3 hb3))
          have HO3 := Lib.hid (own_mono hown3 (Nat.le_trans hsz hb2.size)); have HB3 := Lib.hid (btrans HBR.out.drew hsz (btrans hb2 hb2.size hb3)); clear hown3 hb2 hb3
          go_wp2
          go_roundw
          case rel => exact ⟨k + 1, by omega, by go_num, by rw [HES.out]; exact HO3.out, HB3.out⟩
          case measure => simp [intOf]; omega
      · obtain rfl : k = 4 := by omega
        have hown := HOW.out
        rw [encK_four] at hown
        have hconv := own_conv hown
        have hXs := HX1.out.below (B := w1.heap.size) (((Below.refl w1.heap.size w1).alloc (Nat.le_refl _) _).trans (HBR.out.mono (by omega))) HX1.out.lt
        have x0 : wr.cell? ⟨w.heap.size, 0, none⟩ = some (.int .i64 x.g) := hXs.cell 0
        have HES := Lib.hid (enc_seal HV.out)
        have h40 := encD_len HV.out
        clear hown hXs
        go_wp2_with fail
        refine (Seal_any x.g 0 1 (encD x) _ (by omega)).mono ?_
        rw [HES.out]
        rintro e w5 ⟨rfl, hb5⟩
        go_wp2
        go_ret2
        rw [HF.out]
        exact ⟨rfl, btrans HB1.out HB1.out.size (btrans (((Below.refl w1.heap.size w1).alloc (Nat.le_refl _) _).trans (HBR.out.mono (by omega))) (by omega) hb5)⟩
end Go.Proofs.Ytkpfkknldeafkaa

namespace Go.Proofs.Ytkpfkknldeafkaa
open Go.RowKit

theorem take4_list {A : List Nat} (h : A.length = 4) : ∃ a b c d, A = [a, b, c, d] := by
  match A, h with
  | [a, b, c, d], _ => exact ⟨a, b, c, d, rfl⟩
theorem takeV_eq {s : List UInt8} {n : Int} {u : Nat} {a e : Int} (h : takeS s n = (u, a, e)) : Ending.returned (takeV (takeS s n)) = .returned (.tuple #[.int .u64 (u : Int), .int .i64 a, .int .i64 e]) := by rw [h]; rfl

set_option maxRecDepth 100000 in
set_option maxHeartbeats 8000000 in
theorem SDecode_any (s : List UInt8) (w : World) (hl : s.length ≤ 9223372036854775807) :
    Calls Try.prog 21 #[.string (bs s)] w fun e w' => e = .returned (.tuple #[.agg (spV (decS s).1), .int .i64 (decS s).2]) ∧ Below w.heap.size w w' := by
  have hb0 := (Below.refl w.heap.size w).alloc (Nat.le_refl _) (.cells (spV sp0) 23)
  have hR := Bx.new w (spV sp0) 23
  have HR := Lib.hid hR; have HB0 := Lib.hid hb0; clear hR hb0
  obtain ⟨⟨⟨g, p, q⟩, data, er⟩, ho⟩ : ∃ r, openS s = r := ⟨_, rfl⟩
  have hdl : data.length ≤ 40 := by have := openS_len s; rw [ho] at this; exact this
  have HO := Lib.hid ho; clear ho
  go_enter Try.func21, Try.ntmps21
  go_wp2_with fail
  refine (Open_any s _ hl).mono ?_
  rw [HO.out]
  rintro e w1 ⟨rfl, hb1⟩
  have hS1 := Bx.new w1 #[.int .i64 g, .int .i64 p, .int .i64 q] 87
  have hal := (Below.refl w1.heap.size w1).alloc (Nat.le_refl _) (.cells #[.int .i64 g, .int .i64 p, .int .i64 q] 87)
  have HR1 := Lib.hid (HR.out.call hb1); have HS1 := Lib.hid hS1; have HB1 := Lib.hid (btrans HB0.out HB0.out.size hb1); have HB2 := Lib.hid (btrans (btrans HB0.out HB0.out.size hb1) (btrans HB0.out HB0.out.size hb1).size hal)
  have z1 : w.heap.size < w1.heap.size := by have := hb1.size; simp at this; omega
  have HRW := Lib.hid ((HR.out.call hb1).alloc (.cells #[.int .i64 g, .int .i64 p, .int .i64 q] 87))
  clear hS1 hal hb1 HR HB0 HR1 HB1
  go_upto_region 2 with (fail)
  generalize hW2 : w1.alloc (.cells #[.int .i64 g, .int .i64 p, .int .i64 q] 87) = w2 at HS1 HB2 HRW ⊢
  clear hW2
  have z2 : w1.heap.size < w2.heap.size := HS1.out.lt
  by_cases her : er = 0
  · subst her
    have s0 : w2.cell? ⟨w1.heap.size, 0, none⟩ = some (.int .i64 g) := HS1.out.cell 0
    have s1 : w2.cell? ⟨w1.heap.size, 1, none⟩ = some (.int .i64 p) := HS1.out.cell 1
    have s2 : w2.cell? ⟨w1.heap.size, 2, none⟩ = some (.int .i64 q) := HS1.out.cell 2
    have zw : w.heap.size < w2.heap.size := by omega
    by_cases hp : p = 0
    · by_cases hq : q = 1
      · skip
        have tp : (p != 0) = false := by rw [hp]; rfl
        have tq : (q != 1) = false := by rw [hq]; rfl
        have HP := Lib.hid hp; have HQ := Lib.hid hq; clear hp hq
        have HD := Lib.hid (show decS s = decD g data by unfold decS; rw [HO.out]; simp only; rw [if_neg (by simp), if_pos ⟨HP.out, HQ.out⟩])
        go_wp2
        clear s0 s1 s2 tp tq
        have hA0 := Bx.new w2 (u64A [0, 0, 0, 0]) 90
        have hal2 := (Below.refl w2.heap.size w2).alloc (Nat.le_refl _) (.cells (u64A [0, 0, 0, 0]) 90)
        have HA := Lib.hid hA0; have HR2 := Lib.hid (HRW.out.alloc (.cells (u64A [0, 0, 0, 0]) 90)); have HS2 := Lib.hid (HS1.out.alloc (.cells (u64A [0, 0, 0, 0]) 90)); have HB3 := Lib.hid (btrans HB2.out HB2.out.size hal2); clear hA0 hal2
        go_loopw [8, 9, 34] (fun at_ bg i wr => ∃ (k : Nat) (ns A : List Nat) (a : Int), k ≤ 4 ∧ i = .int .i64 k ∧ at_ = .int .i64 a ∧ bg = .bool (bigB ns) ∧ tkN data k = (ns, a, 0) ∧ 0 ≤ a ∧ a ≤ 40 ∧ A.length = 4 ∧ A.take k = ns ∧ (∀ n ∈ ns, n < 18446744073709551616) ∧ Bx w.heap.size (spV sp0) 23 wr ∧ Bx w1.heap.size #[.int .i64 g, .int .i64 p, .int .i64 q] 87 wr ∧ Bx (w2.heap.size) (u64A A) 90 wr ∧ Below w.heap.size w wr) (fun _ _ i _ => 4 - (intOf i).toNat)
        case atStart => exact ⟨0, [], [0, 0, 0, 0], 0, by omega, rfl, rfl, rfl, rfl, by omega, by omega, rfl, rfl, by simp, HR2.out, HS2.out, HA.out, HB3.out⟩
        case round =>
          obtain ⟨k, ns, A, a, hk, rfl, rfl, rfl, ht, ha0, ha40, hAl, hAt, hnb, hRr, hSr, hAr, hbr⟩ := hrel
          have HT := Lib.hid ht; have HAT := Lib.hid hAt; have HAL := Lib.hid hAl; have HNB := Lib.hid hnb; have HRR := Lib.hid hRr; have HSR := Lib.hid hSr; have HAR := Lib.hid hAr; have HBR := Lib.hid hbr; clear ht hAt hAl hnb hRr hSr hAr hbr
          by_cases hlt : k < 4
          · have hlt' : (k : Int) < 4 := by omega
            obtain ⟨⟨u, a2, e2⟩, htk⟩ : ∃ r, takeS data a = r := ⟨_, rfl⟩
            have hbd := takeS_bounds data a
            rw [htk] at hbd
            simp only at hbd
            obtain ⟨b1, b2, b3, b4, b5, b6⟩ := hbd
            have HTK := Lib.hid htk; clear htk
            go_wp2_with fail
            refine (TakeUint_any data a wr (by omega)).mono ?_
            rw [takeV_eq HTK.out]
            rintro e w3 ⟨rfl, rfl⟩
            by_cases he2 : e2 = 0
            · subst he2
              have htk1 := tkN_ok HT.out HTK.out
              have HTK1 := Lib.hid htk1; clear htk1
              have y : wr.cell? ⟨w2.heap.size, k, none⟩ = some (.int .u64 (A[k]'(by rw [HAL.out]; exact hlt) : Int)) := by rw [HAR.out.cell k]; exact u64A_get A k (by rw [HAL.out]; exact hlt)
              have fy := HAR.out.free k
              have hu0 : (0 : Int) ≤ (u : Int) := by omega
              have HBG := Lib.hid (bigB_snoc ns u)
              have HS5 := Lib.hid (HAR.out.set k (.int .u64 (u : Int)))
              cases hbig : bigB ns with
              | true =>
                have HBI := Lib.hid hbig; clear hbig
                go_wp2
                go_roundw
                case rel => exact ⟨k + 1, ns ++ [u], A.set k u, a2, by omega, by go_num, rfl, by rw [HBG.out, HBI.out]; first | rfl | simp, HTK1.out, b2, by omega, by rw [List.length_set]; exact HAL.out, take_set A k u ns (by rw [HAL.out]; exact hlt) HAT.out, (fun n hn => by rcases List.mem_append.1 hn with h | h; exact HNB.out n h; rw [List.mem_singleton.1 h]; exact b1), HRR.out.other (by omega) _, HSR.out.other (by omega) _, by rw [← u64A_set]; exact HS5.out, HBR.out.setCell (by simp; omega) _⟩
                case measure => simp [intOf]; omega
              | false =>
                have HBI := Lib.hid hbig; clear hbig
                go_wp2
                go_roundw
                case rel => exact ⟨k + 1, ns ++ [u], A.set k u, a2, by omega, by go_num, rfl, by rw [HBG.out, HBI.out]; first | rfl | simp, HTK1.out, b2, by omega, by rw [List.length_set]; exact HAL.out, take_set A k u ns (by rw [HAL.out]; exact hlt) HAT.out, (fun n hn => by rcases List.mem_append.1 hn with h | h; exact HNB.out n h; rw [List.mem_singleton.1 h]; exact b1), HRR.out.other (by omega) _, HSR.out.other (by omega) _, by rw [← u64A_set]; exact HS5.out, HBR.out.setCell (by simp; omega) _⟩
                case measure => simp [intOf]; omega
            · have t2 : (e2 != 0) = true := by rw [bne_iff_ne]; exact he2
              have HE2 := Lib.hid he2; clear he2
              have r0 : wr.cell? ⟨w.heap.size, 0, none⟩ = some (.int .i64 0) := HRR.out.cell 0
              have r1 : wr.cell? ⟨w.heap.size, 1, none⟩ = some (.int .i64 0) := HRR.out.cell 1
              have r2 : wr.cell? ⟨w.heap.size, 2, none⟩ = some (.int .i64 0) := HRR.out.cell 2
              have r3 : wr.cell? ⟨w.heap.size, 3, none⟩ = some (.int .i64 0) := HRR.out.cell 3
              have r4 : wr.cell? ⟨w.heap.size, 4, none⟩ = some (.int .i64 0) := HRR.out.cell 4
              have f0 := HRR.out.free 0
              have f1 := HRR.out.free 1
              have f2 := HRR.out.free 2
              have f3 := HRR.out.free 3
              have f4 := HRR.out.free 4
              have HK := Lib.hid (HRR.out.sets (.int .i64 0) (.int .i64 0) (.int .i64 0) (.int .i64 0) (.int .i64 0))
              have HDEC := Lib.hid (show decS s = (sp0, e2) by rw [HD.out]; have h := tkN_stay (tkN_bad HT.out (by rw [HTK.out]) HE2.out) HE2.out (3 - k); rw [show k + 1 + (3 - k) = 4 by omega] at h; exact decD_bad h HE2.out)
              go_wp2
              have k0 := HK.out.cell 0
              have k1 := HK.out.cell 1
              have k2 := HK.out.cell 2
              have k3 := HK.out.cell 3
              have k4 := HK.out.cell 4
              simp only [List.getElem?_toArray, List.getElem?_cons_zero, List.getElem?_cons_succ] at k0 k1 k2 k3 k4
              rw [HDEC.out]
              refine bodyPost_ret (v := .tuple #[.agg (spV sp0), .int .i64 e2]) (by simp [results, Try.results21, go_sem, spV, sp0, k0, k1, k2, k3, k4]) rfl ⟨rfl, ?_⟩
              exact below_sets HBR.out w.heap.size (Nat.le_refl _) _ _ _ _ _
          · obtain rfl : k = 4 := by omega
            obtain ⟨n0, n1, n2, n3, rfl⟩ := take4_list HAL.out
            have hns : ns = [n0, n1, n2, n3] := by rw [← HAT.out]; rfl
            subst hns
            have hb := HNB.out
            have b0 := hb n0 (by simp); have b1 := hb n1 (by simp); have b2 := hb n2 (by simp); have b3 := hb n3 (by simp)
            clear hb
            have HSP := Lib.hid (show mkSp g [n0, n1, n2, n3] = ⟨g, (n0 : Int), (n1 : Int), (n2 : Int), (n3 : Int)⟩ from rfl)
            by_cases hat : a = (data.length : Int)
            · have HAT2 := Lib.hid hat
              have tat : (a != (data.length : Int)) = false := by rw [hat]; simp
              clear hat
              cases hbig : bigB [n0, n1, n2, n3] with
              | true =>
                have HBI := Lib.hid hbig; clear hbig
                have r0 : wr.cell? ⟨w.heap.size, 0, none⟩ = some (.int .i64 0) := HRR.out.cell 0
                have r1 : wr.cell? ⟨w.heap.size, 1, none⟩ = some (.int .i64 0) := HRR.out.cell 1
                have r2 : wr.cell? ⟨w.heap.size, 2, none⟩ = some (.int .i64 0) := HRR.out.cell 2
                have r3 : wr.cell? ⟨w.heap.size, 3, none⟩ = some (.int .i64 0) := HRR.out.cell 3
                have r4 : wr.cell? ⟨w.heap.size, 4, none⟩ = some (.int .i64 0) := HRR.out.cell 4
                have f0 := HRR.out.free 0
                have f1 := HRR.out.free 1
                have f2 := HRR.out.free 2
                have f3 := HRR.out.free 3
                have f4 := HRR.out.free 4
                have HK := Lib.hid (HRR.out.sets (.int .i64 0) (.int .i64 0) (.int .i64 0) (.int .i64 0) (.int .i64 0))
                have HDEC := Lib.hid (show decS s = (sp0, 5) by rw [HD.out]; refine decD_no HT.out ?_; rw [HBI.out]; simp)
                go_wp2
                have k0 := HK.out.cell 0
                have k1 := HK.out.cell 1
                have k2 := HK.out.cell 2
                have k3 := HK.out.cell 3
                have k4 := HK.out.cell 4
                simp only [List.getElem?_toArray, List.getElem?_cons_zero, List.getElem?_cons_succ] at k0 k1 k2 k3 k4
                rw [HDEC.out]
                refine bodyPost_ret (v := .tuple #[.agg (spV sp0), .int .i64 5]) (by simp [results, Try.results21, go_sem, spV, sp0, k0, k1, k2, k3, k4]) rfl ⟨rfl, ?_⟩
                exact below_sets HBR.out w.heap.size (Nat.le_refl _) _ _ _ _ _
              | false =>
                have HFIT := Lib.hid hbig; clear hbig
                have hf := HFIT.out
                simp only [bigB, List.any_cons, List.any_nil, Bool.or_false, Bool.or_eq_false_iff, decide_eq_false_iff_not] at hf
                obtain ⟨f0, f1, f2, f3⟩ := hf
                have c0 : (n0 : Int) ≤ 1099511627776 := by omega
                have c1 : (n1 : Int) ≤ 1099511627776 := by omega
                have c2 : (n2 : Int) ≤ 1099511627776 := by omega
                have c3 : (n3 : Int) ≤ 1099511627776 := by omega
                clear f0 f1 f2 f3
                have s0 : wr.cell? ⟨w1.heap.size, 0, none⟩ = some (.int .i64 g) := HSR.out.cell 0
                have s1 : wr.cell? ⟨w1.heap.size, 1, none⟩ = some (.int .i64 p) := HSR.out.cell 1
                have s2 : wr.cell? ⟨w1.heap.size, 2, none⟩ = some (.int .i64 q) := HSR.out.cell 2
                have y0 : wr.cell? ⟨w2.heap.size, 0, none⟩ = some (.int .u64 (n0 : Int)) := HAR.out.cell 0
                have y1 : wr.cell? ⟨w2.heap.size, 1, none⟩ = some (.int .u64 (n1 : Int)) := HAR.out.cell 1
                have y2 : wr.cell? ⟨w2.heap.size, 2, none⟩ = some (.int .u64 (n2 : Int)) := HAR.out.cell 2
                have y3 : wr.cell? ⟨w2.heap.size, 3, none⟩ = some (.int .u64 (n3 : Int)) := HAR.out.cell 3
                have hx := Bx.new wr (spV ⟨g, (n0 : Int), (n1 : Int), (n2 : Int), (n3 : Int)⟩) 23
                have hal := (Below.refl wr.heap.size wr).alloc (Nat.le_refl _) (.cells (spV ⟨g, (n0 : Int), (n1 : Int), (n2 : Int), (n3 : Int)⟩) 23)
                have x0 : (wr.alloc (.cells (spV ⟨g, (n0 : Int), (n1 : Int), (n2 : Int), (n3 : Int)⟩) 23)).cell? ⟨wr.heap.size, 0, none⟩ = some (.int .i64 g) := hx.cell 0
                have x1 : (wr.alloc (.cells (spV ⟨g, (n0 : Int), (n1 : Int), (n2 : Int), (n3 : Int)⟩) 23)).cell? ⟨wr.heap.size, 1, none⟩ = some (.int .i64 (n0 : Int)) := hx.cell 1
                have x2 : (wr.alloc (.cells (spV ⟨g, (n0 : Int), (n1 : Int), (n2 : Int), (n3 : Int)⟩) 23)).cell? ⟨wr.heap.size, 2, none⟩ = some (.int .i64 (n1 : Int)) := hx.cell 2
                have x3 : (wr.alloc (.cells (spV ⟨g, (n0 : Int), (n1 : Int), (n2 : Int), (n3 : Int)⟩) 23)).cell? ⟨wr.heap.size, 3, none⟩ = some (.int .i64 (n2 : Int)) := hx.cell 3
                have x4 : (wr.alloc (.cells (spV ⟨g, (n0 : Int), (n1 : Int), (n2 : Int), (n3 : Int)⟩) 23)).cell? ⟨wr.heap.size, 4, none⟩ = some (.int .i64 (n3 : Int)) := hx.cell 4
                have HX := Lib.hid hx; have HBX := Lib.hid (btrans HBR.out HBR.out.size hal); have HRX := Lib.hid (HRR.out.alloc (.cells (spV ⟨g, (n0 : Int), (n1 : Int), (n2 : Int), (n3 : Int)⟩) 23)); clear hx hal
                have zr : w.heap.size < wr.heap.size := HRR.out.lt
                go_wp2_with fail
                refine (SValid_any ⟨g, (n0 : Int), (n1 : Int), (n2 : Int), (n3 : Int)⟩ _).mono ?_
                cases hv : spB ⟨g, (n0 : Int), (n1 : Int), (n2 : Int), (n3 : Int)⟩ with
                | false =>
                  rintro e w5 ⟨rfl, hb5⟩
                  have HV := Lib.hid hv; clear hv s0 s1 s2 y0 y1 y2 y3 x0 x1 x2 x3 x4
                  have HR5 := Lib.hid (HRX.out.call hb5); have HB5 := Lib.hid (btrans HBX.out HBX.out.size hb5); clear hb5
                  have r0 : w5.cell? ⟨w.heap.size, 0, none⟩ = some (.int .i64 0) := HR5.out.cell 0
                  have r1 : w5.cell? ⟨w.heap.size, 1, none⟩ = some (.int .i64 0) := HR5.out.cell 1
                  have r2 : w5.cell? ⟨w.heap.size, 2, none⟩ = some (.int .i64 0) := HR5.out.cell 2
                  have r3 : w5.cell? ⟨w.heap.size, 3, none⟩ = some (.int .i64 0) := HR5.out.cell 3
                  have r4 : w5.cell? ⟨w.heap.size, 4, none⟩ = some (.int .i64 0) := HR5.out.cell 4
                  have f0 := HR5.out.free 0
                  have f1 := HR5.out.free 1
                  have f2 := HR5.out.free 2
                  have f3 := HR5.out.free 3
                  have f4 := HR5.out.free 4
                  have HK := Lib.hid (HR5.out.sets (.int .i64 0) (.int .i64 0) (.int .i64 0) (.int .i64 0) (.int .i64 0))
                  have HDEC := Lib.hid (show decS s = (sp0, 5) by rw [HD.out]; refine decD_no HT.out ?_; rw [HSP.out, HV.out]; simp)
                  go_wp2
                  have k0 := HK.out.cell 0
                  have k1 := HK.out.cell 1
                  have k2 := HK.out.cell 2
                  have k3 := HK.out.cell 3
                  have k4 := HK.out.cell 4
                  simp only [List.getElem?_toArray, List.getElem?_cons_zero, List.getElem?_cons_succ] at k0 k1 k2 k3 k4
                  rw [HDEC.out]
                  refine bodyPost_ret (v := .tuple #[.agg (spV sp0), .int .i64 5]) (by simp [results, Try.results21, go_sem, spV, sp0, k0, k1, k2, k3, k4]) rfl ⟨rfl, ?_⟩
                  exact below_sets HB5.out w.heap.size (Nat.le_refl _) _ _ _ _ _
                | true =>
                  rintro e w5 ⟨rfl, hb5⟩
                  have HV := Lib.hid hv; clear hv s0 s1 s2 y0 y1 y2 y3 x0 x1 x2 x3 x4
                  have HR5 := Lib.hid (HRX.out.call hb5); have HX5 := Lib.hid (HX.out.call hb5); have HB5 := Lib.hid (btrans HBX.out HBX.out.size hb5); clear hb5
                  have x0 : w5.cell? ⟨wr.heap.size, 0, none⟩ = some (.int .i64 g) := HX5.out.cell 0
                  have x1 : w5.cell? ⟨wr.heap.size, 1, none⟩ = some (.int .i64 (n0 : Int)) := HX5.out.cell 1
                  have x2 : w5.cell? ⟨wr.heap.size, 2, none⟩ = some (.int .i64 (n1 : Int)) := HX5.out.cell 2
                  have x3 : w5.cell? ⟨wr.heap.size, 3, none⟩ = some (.int .i64 (n2 : Int)) := HX5.out.cell 3
                  have x4 : w5.cell? ⟨wr.heap.size, 4, none⟩ = some (.int .i64 (n3 : Int)) := HX5.out.cell 4
                  have r0 : w5.cell? ⟨w.heap.size, 0, none⟩ = some (.int .i64 0) := HR5.out.cell 0
                  have r1 : w5.cell? ⟨w.heap.size, 1, none⟩ = some (.int .i64 0) := HR5.out.cell 1
                  have r2 : w5.cell? ⟨w.heap.size, 2, none⟩ = some (.int .i64 0) := HR5.out.cell 2
                  have r3 : w5.cell? ⟨w.heap.size, 3, none⟩ = some (.int .i64 0) := HR5.out.cell 3
                  have r4 : w5.cell? ⟨w.heap.size, 4, none⟩ = some (.int .i64 0) := HR5.out.cell 4
                  have f0 := HR5.out.free 0
                  have f1 := HR5.out.free 1
                  have f2 := HR5.out.free 2
                  have f3 := HR5.out.free 3
                  have f4 := HR5.out.free 4
                  have HK := Lib.hid (HR5.out.sets (.int .i64 g) (.int .i64 (n0 : Int)) (.int .i64 (n1 : Int)) (.int .i64 (n2 : Int)) (.int .i64 (n3 : Int)))
                  have HDEC := Lib.hid (show decS s = (⟨g, (n0 : Int), (n1 : Int), (n2 : Int), (n3 : Int)⟩, 0) by rw [HD.out, ← HSP.out]; exact decD_ok HT.out HAT2.out HFIT.out (by rw [HSP.out]; exact HV.out))
                  go_wp2
                  have k0 := HK.out.cell 0
                  have k1 := HK.out.cell 1
                  have k2 := HK.out.cell 2
                  have k3 := HK.out.cell 3
                  have k4 := HK.out.cell 4
                  simp only [List.getElem?_toArray, List.getElem?_cons_zero, List.getElem?_cons_succ] at k0 k1 k2 k3 k4
                  rw [HDEC.out]
                  refine bodyPost_ret (v := .tuple #[.agg (spV ⟨g, (n0 : Int), (n1 : Int), (n2 : Int), (n3 : Int)⟩), .int .i64 0]) (by simp [results, Try.results21, go_sem, spV, k0, k1, k2, k3, k4]) rfl ⟨rfl, ?_⟩
                  exact below_sets HB5.out w.heap.size (Nat.le_refl _) _ _ _ _ _
            · have tat : (a != (data.length : Int)) = true := by rw [bne_iff_ne]; exact hat
              have HAT2 := Lib.hid hat; clear hat
              have r0 : wr.cell? ⟨w.heap.size, 0, none⟩ = some (.int .i64 0) := HRR.out.cell 0
              have r1 : wr.cell? ⟨w.heap.size, 1, none⟩ = some (.int .i64 0) := HRR.out.cell 1
              have r2 : wr.cell? ⟨w.heap.size, 2, none⟩ = some (.int .i64 0) := HRR.out.cell 2
              have r3 : wr.cell? ⟨w.heap.size, 3, none⟩ = some (.int .i64 0) := HRR.out.cell 3
              have r4 : wr.cell? ⟨w.heap.size, 4, none⟩ = some (.int .i64 0) := HRR.out.cell 4
              have f0 := HRR.out.free 0
              have f1 := HRR.out.free 1
              have f2 := HRR.out.free 2
              have f3 := HRR.out.free 3
              have f4 := HRR.out.free 4
              have HK := Lib.hid (HRR.out.sets (.int .i64 0) (.int .i64 0) (.int .i64 0) (.int .i64 0) (.int .i64 0))
              have HDEC := Lib.hid (show decS s = (sp0, 5) by rw [HD.out]; exact decD_no HT.out (fun h => HAT2.out h.1))
              go_wp2
              have k0 := HK.out.cell 0
              have k1 := HK.out.cell 1
              have k2 := HK.out.cell 2
              have k3 := HK.out.cell 3
              have k4 := HK.out.cell 4
              simp only [List.getElem?_toArray, List.getElem?_cons_zero, List.getElem?_cons_succ] at k0 k1 k2 k3 k4
              rw [HDEC.out]
              refine bodyPost_ret (v := .tuple #[.agg (spV sp0), .int .i64 5]) (by simp [results, Try.results21, go_sem, spV, sp0, k0, k1, k2, k3, k4]) rfl ⟨rfl, ?_⟩
              exact below_sets HBR.out w.heap.size (Nat.le_refl _) _ _ _ _ _
      · have tp : (p != 0) = false := by rw [hp]; rfl
        have tq : (q != 1) = true := by rw [bne_iff_ne]; exact hq
        have HQ := Lib.hid hq; clear hq hp
        have r0 : w2.cell? ⟨w.heap.size, 0, none⟩ = some (.int .i64 0) := HRW.out.cell 0
        have r1 : w2.cell? ⟨w.heap.size, 1, none⟩ = some (.int .i64 0) := HRW.out.cell 1
        have r2 : w2.cell? ⟨w.heap.size, 2, none⟩ = some (.int .i64 0) := HRW.out.cell 2
        have r3 : w2.cell? ⟨w.heap.size, 3, none⟩ = some (.int .i64 0) := HRW.out.cell 3
        have r4 : w2.cell? ⟨w.heap.size, 4, none⟩ = some (.int .i64 0) := HRW.out.cell 4
        have f0 := HRW.out.free 0
        have f1 := HRW.out.free 1
        have f2 := HRW.out.free 2
        have f3 := HRW.out.free 3
        have f4 := HRW.out.free 4
        have HK := Lib.hid (HRW.out.sets (.int .i64 0) (.int .i64 0) (.int .i64 0) (.int .i64 0) (.int .i64 0))
        have HDEC := Lib.hid (show decS s = (sp0, 5) by unfold decS; rw [HO.out]; simp only; rw [if_neg (by simp), if_neg (fun h => HQ.out h.2)])
        go_wp2
        have k0 := HK.out.cell 0
        have k1 := HK.out.cell 1
        have k2 := HK.out.cell 2
        have k3 := HK.out.cell 3
        have k4 := HK.out.cell 4
        simp only [List.getElem?_toArray, List.getElem?_cons_zero, List.getElem?_cons_succ] at k0 k1 k2 k3 k4
        rw [HDEC.out]
        refine bodyPost_ret (v := .tuple #[.agg (spV sp0), .int .i64 5]) (by simp [results, Try.results21, go_sem, spV, sp0, k0, k1, k2, k3, k4]) rfl ⟨rfl, ?_⟩
        exact below_sets HB2.out w.heap.size (Nat.le_refl _) _ _ _ _ _
    · have tp : (p != 0) = true := by rw [bne_iff_ne]; exact hp
      have HP := Lib.hid hp; clear hp
      have r0 : w2.cell? ⟨w.heap.size, 0, none⟩ = some (.int .i64 0) := HRW.out.cell 0
      have r1 : w2.cell? ⟨w.heap.size, 1, none⟩ = some (.int .i64 0) := HRW.out.cell 1
      have r2 : w2.cell? ⟨w.heap.size, 2, none⟩ = some (.int .i64 0) := HRW.out.cell 2
      have r3 : w2.cell? ⟨w.heap.size, 3, none⟩ = some (.int .i64 0) := HRW.out.cell 3
      have r4 : w2.cell? ⟨w.heap.size, 4, none⟩ = some (.int .i64 0) := HRW.out.cell 4
      have f0 := HRW.out.free 0
      have f1 := HRW.out.free 1
      have f2 := HRW.out.free 2
      have f3 := HRW.out.free 3
      have f4 := HRW.out.free 4
      have HK := Lib.hid (HRW.out.sets (.int .i64 0) (.int .i64 0) (.int .i64 0) (.int .i64 0) (.int .i64 0))
      have HDEC := Lib.hid (show decS s = (sp0, 5) by unfold decS; rw [HO.out]; simp only; rw [if_neg (by simp), if_neg (fun h => HP.out h.1)])
      go_wp2
      have k0 := HK.out.cell 0
      have k1 := HK.out.cell 1
      have k2 := HK.out.cell 2
      have k3 := HK.out.cell 3
      have k4 := HK.out.cell 4
      simp only [List.getElem?_toArray, List.getElem?_cons_zero, List.getElem?_cons_succ] at k0 k1 k2 k3 k4
      rw [HDEC.out]
      refine bodyPost_ret (v := .tuple #[.agg (spV sp0), .int .i64 5]) (by simp [results, Try.results21, go_sem, spV, sp0, k0, k1, k2, k3, k4]) rfl ⟨rfl, ?_⟩
      exact below_sets HB2.out w.heap.size (Nat.le_refl _) _ _ _ _ _
  · have te : (er != 0) = true := by rw [bne_iff_ne]; exact her
    have HER := Lib.hid her; clear her
    have r0 : w2.cell? ⟨w.heap.size, 0, none⟩ = some (.int .i64 0) := HRW.out.cell 0
    have r1 : w2.cell? ⟨w.heap.size, 1, none⟩ = some (.int .i64 0) := HRW.out.cell 1
    have r2 : w2.cell? ⟨w.heap.size, 2, none⟩ = some (.int .i64 0) := HRW.out.cell 2
    have r3 : w2.cell? ⟨w.heap.size, 3, none⟩ = some (.int .i64 0) := HRW.out.cell 3
    have r4 : w2.cell? ⟨w.heap.size, 4, none⟩ = some (.int .i64 0) := HRW.out.cell 4
    have f0 := HRW.out.free 0
    have f1 := HRW.out.free 1
    have f2 := HRW.out.free 2
    have f3 := HRW.out.free 3
    have f4 := HRW.out.free 4
    have HK := Lib.hid (HRW.out.sets (.int .i64 0) (.int .i64 0) (.int .i64 0) (.int .i64 0) (.int .i64 0))
    have HDEC := Lib.hid (show decS s = (sp0, er) by unfold decS; rw [HO.out]; simp only; rw [if_pos HER.out])
    go_wp2
    have k0 := HK.out.cell 0
    have k1 := HK.out.cell 1
    have k2 := HK.out.cell 2
    have k3 := HK.out.cell 3
    have k4 := HK.out.cell 4
    simp only [List.getElem?_toArray, List.getElem?_cons_zero, List.getElem?_cons_succ] at k0 k1 k2 k3 k4
    rw [HDEC.out]
    refine bodyPost_ret (v := .tuple #[.agg (spV sp0), .int .i64 er]) (by simp [results, Try.results21, go_sem, spV, sp0, k0, k1, k2, k3, k4]) rfl ⟨rfl, ?_⟩
    exact below_sets HB2.out w.heap.size (Nat.le_refl _) _ _ _ _ _
end Go.Proofs.Ytkpfkknldeafkaa

namespace Go.Proofs.Ytkpfkknldeafkaa
open Go.RowKit

set_option maxRecDepth 100000 in
set_option maxHeartbeats 1000000 in
theorem RSValid_any (x : Sp) (w : World) :
    Calls Try.prog 19 #[.agg (spV x)] w fun e w' => e = .returned (.bool (spB x)) ∧ Below w.heap.size w w' := by
  obtain ⟨g, e, a, z, p⟩ := x
  simp only [spV]
  go_enter Try.func19, Try.ntmps19
  go_wp2
  all_goals go_ret
  all_goals refine ⟨ret_bool ?_, (Below.refl _ _).alloc (Nat.le_refl _) _⟩
  all_goals (try simp only [beq_iff_eq, beq_eq_false_iff_ne, ne_eq] at *)
  all_goals first
    | exact ((spB_iff ⟨g, e, a, z, p⟩).2 (by simp only; omega)).symm
    | exact (spB_no (x := ⟨g, e, a, z, p⟩) (by simp only; omega)).symm
    | (rw [Bool.eq_iff_iff, spB_iff]; simp; omega)


set_option maxRecDepth 100000 in
set_option maxHeartbeats 8000000 in
theorem RSDecode_any (s : List UInt8) (w : World) (hl : s.length ≤ 9223372036854775807) :
    Calls Try.prog 22 #[.string (bs s)] w fun e w' => e = .returned (.tuple #[.agg (spV (decS s).1), .int .i64 (decS s).2]) ∧ Below w.heap.size w w' := by
  have hb0 := (Below.refl w.heap.size w).alloc (Nat.le_refl _) (.cells (spV sp0) 23)
  have hR := Bx.new w (spV sp0) 23
  have HR := Lib.hid hR; have HB0 := Lib.hid hb0; clear hR hb0
  obtain ⟨⟨⟨g, p, q⟩, data, er⟩, ho⟩ : ∃ r, openS s = r := ⟨_, rfl⟩
  have hdl : data.length ≤ 40 := by have := openS_len s; rw [ho] at this; exact this
  have HO := Lib.hid ho; clear ho
  go_enter Try.func22, Try.ntmps22
  go_wp2_with fail
  refine (ROpen_any s _ hl).mono ?_
  rw [HO.out]
  rintro e w1 ⟨rfl, hb1⟩
  have hS1 := Bx.new w1 #[.int .i64 g, .int .i64 p, .int .i64 q] 87
  have hal := (Below.refl w1.heap.size w1).alloc (Nat.le_refl _) (.cells #[.int .i64 g, .int .i64 p, .int .i64 q] 87)
  have HR1 := Lib.hid (HR.out.call hb1); have HS1 := Lib.hid hS1; have HB1 := Lib.hid (btrans HB0.out HB0.out.size hb1); have HB2 := Lib.hid (btrans (btrans HB0.out HB0.out.size hb1) (btrans HB0.out HB0.out.size hb1).size hal)
  have z1 : w.heap.size < w1.heap.size := by have := hb1.size; simp at this; omega
  have HRW := Lib.hid ((HR.out.call hb1).alloc (.cells #[.int .i64 g, .int .i64 p, .int .i64 q] 87))
  clear hS1 hal hb1 HR HB0 HR1 HB1
  go_upto_region 2 with (fail)
  generalize hW2 : w1.alloc (.cells #[.int .i64 g, .int .i64 p, .int .i64 q] 87) = w2 at HS1 HB2 HRW ⊢
  clear hW2
  have z2 : w1.heap.size < w2.heap.size := HS1.out.lt
  by_cases her : er = 0
  · subst her
    have s0 : w2.cell? ⟨w1.heap.size, 0, none⟩ = some (.int .i64 g) := HS1.out.cell 0
    have s1 : w2.cell? ⟨w1.heap.size, 1, none⟩ = some (.int .i64 p) := HS1.out.cell 1
    have s2 : w2.cell? ⟨w1.heap.size, 2, none⟩ = some (.int .i64 q) := HS1.out.cell 2
    have zw : w.heap.size < w2.heap.size := by omega
    by_cases hp : p = 0
    · by_cases hq : q = 1
      · skip
        have tp : (p != 0) = false := by rw [hp]; rfl
        have tq : (q != 1) = false := by rw [hq]; rfl
        have HP := Lib.hid hp; have HQ := Lib.hid hq; clear hp hq
        have HD := Lib.hid (show decS s = decD g data by unfold decS; rw [HO.out]; simp only; rw [if_neg (by simp), if_pos ⟨HP.out, HQ.out⟩])
        go_wp2
        clear s0 s1 s2 tp tq
        have hA0 := Bx.new w2 (u64A [0, 0, 0, 0]) 90
        have hal2 := (Below.refl w2.heap.size w2).alloc (Nat.le_refl _) (.cells (u64A [0, 0, 0, 0]) 90)
        have HA := Lib.hid hA0; have HR2 := Lib.hid (HRW.out.alloc (.cells (u64A [0, 0, 0, 0]) 90)); have HS2 := Lib.hid (HS1.out.alloc (.cells (u64A [0, 0, 0, 0]) 90)); have HB3 := Lib.hid (btrans HB2.out HB2.out.size hal2); clear hA0 hal2
        go_loopw [8, 9] (fun at_ i wr => ∃ (k : Nat) (ns A : List Nat) (a : Int), k ≤ 4 ∧ i = .int .i64 k ∧ at_ = .int .i64 a ∧ tkN data k = (ns, a, 0) ∧ 0 ≤ a ∧ a ≤ 40 ∧ A.length = 4 ∧ A.take k = ns ∧ (∀ n ∈ ns, n < 18446744073709551616) ∧ Bx w.heap.size (spV sp0) 23 wr ∧ Bx w1.heap.size #[.int .i64 g, .int .i64 p, .int .i64 q] 87 wr ∧ Bx (w2.heap.size) (u64A A) 90 wr ∧ Below w.heap.size w wr) (fun _ i _ => 4 - (intOf i).toNat)
        case atStart => exact ⟨0, [], [0, 0, 0, 0], 0, by omega, rfl, rfl, rfl, by omega, by omega, rfl, rfl, by simp, HR2.out, HS2.out, HA.out, HB3.out⟩
        case round =>
          obtain ⟨k, ns, A, a, hk, rfl, rfl, ht, ha0, ha40, hAl, hAt, hnb, hRr, hSr, hAr, hbr⟩ := hrel
          have HT := Lib.hid ht; have HAT := Lib.hid hAt; have HAL := Lib.hid hAl; have HNB := Lib.hid hnb; have HRR := Lib.hid hRr; have HSR := Lib.hid hSr; have HAR := Lib.hid hAr; have HBR := Lib.hid hbr; clear ht hAt hAl hnb hRr hSr hAr hbr
          by_cases hlt : k < 4
          · have hlt' : (k : Int) < 4 := by omega
            obtain ⟨⟨u, a2, e2⟩, htk⟩ : ∃ r, takeS data a = r := ⟨_, rfl⟩
            have hbd := takeS_bounds data a
            rw [htk] at hbd
            simp only at hbd
            obtain ⟨b1, b2, b3, b4, b5, b6⟩ := hbd
            have HTK := Lib.hid htk; clear htk
            go_wp2_with fail
            refine (RTakeUint_any data a wr (by omega)).mono ?_
            rw [takeV_eq HTK.out]
            rintro e w3 ⟨rfl, rfl⟩
            by_cases he2 : e2 = 0
            · subst he2
              have htk1 := tkN_ok HT.out HTK.out
              have HTK1 := Lib.hid htk1; clear htk1
              have y : wr.cell? ⟨w2.heap.size, k, none⟩ = some (.int .u64 (A[k]'(by rw [HAL.out]; exact hlt) : Int)) := by rw [HAR.out.cell k]; exact u64A_get A k (by rw [HAL.out]; exact hlt)
              have fy := HAR.out.free k
              have hu0 : (0 : Int) ≤ (u : Int) := by omega
              have HS5 := Lib.hid (HAR.out.set k (.int .u64 (u : Int)))
              go_wp2
              go_roundw
              case rel => exact ⟨k + 1, ns ++ [u], A.set k u, a2, by omega, by go_num, rfl, HTK1.out, b2, by omega, by rw [List.length_set]; exact HAL.out, take_set A k u ns (by rw [HAL.out]; exact hlt) HAT.out, (fun n hn => by rcases List.mem_append.1 hn with h | h; exact HNB.out n h; rw [List.mem_singleton.1 h]; exact b1), HRR.out.other (by omega) _, HSR.out.other (by omega) _, by rw [← u64A_set]; exact HS5.out, HBR.out.setCell (by simp; omega) _⟩
              case measure => simp [intOf]; omega
            · have t2 : (e2 != 0) = true := by rw [bne_iff_ne]; exact he2
              have HE2 := Lib.hid he2; clear he2
              have r0 : wr.cell? ⟨w.heap.size, 0, none⟩ = some (.int .i64 0) := HRR.out.cell 0
              have r1 : wr.cell? ⟨w.heap.size, 1, none⟩ = some (.int .i64 0) := HRR.out.cell 1
              have r2 : wr.cell? ⟨w.heap.size, 2, none⟩ = some (.int .i64 0) := HRR.out.cell 2
              have r3 : wr.cell? ⟨w.heap.size, 3, none⟩ = some (.int .i64 0) := HRR.out.cell 3
              have r4 : wr.cell? ⟨w.heap.size, 4, none⟩ = some (.int .i64 0) := HRR.out.cell 4
              have f0 := HRR.out.free 0
              have f1 := HRR.out.free 1
              have f2 := HRR.out.free 2
              have f3 := HRR.out.free 3
              have f4 := HRR.out.free 4
              have HK := Lib.hid (HRR.out.sets (.int .i64 0) (.int .i64 0) (.int .i64 0) (.int .i64 0) (.int .i64 0))
              have HDEC := Lib.hid (show decS s = (sp0, e2) by rw [HD.out]; have h := tkN_stay (tkN_bad HT.out (by rw [HTK.out]) HE2.out) HE2.out (3 - k); rw [show k + 1 + (3 - k) = 4 by omega] at h; exact decD_bad h HE2.out)
              go_wp2
              have k0 := HK.out.cell 0
              have k1 := HK.out.cell 1
              have k2 := HK.out.cell 2
              have k3 := HK.out.cell 3
              have k4 := HK.out.cell 4
              simp only [List.getElem?_toArray, List.getElem?_cons_zero, List.getElem?_cons_succ] at k0 k1 k2 k3 k4
              rw [HDEC.out]
              refine bodyPost_ret (v := .tuple #[.agg (spV sp0), .int .i64 e2]) (by simp [results, Try.results22, go_sem, spV, sp0, k0, k1, k2, k3, k4]) rfl ⟨rfl, ?_⟩
              exact below_sets HBR.out w.heap.size (Nat.le_refl _) _ _ _ _ _
          · obtain rfl : k = 4 := by omega
            obtain ⟨n0, n1, n2, n3, rfl⟩ := take4_list HAL.out
            have hns : ns = [n0, n1, n2, n3] := by rw [← HAT.out]; rfl
            subst hns
            have hb := HNB.out
            have b0 := hb n0 (by simp); have b1 := hb n1 (by simp); have b2 := hb n2 (by simp); have b3 := hb n3 (by simp)
            clear hb
            have HSP := Lib.hid (show mkSp g [n0, n1, n2, n3] = ⟨g, (n0 : Int), (n1 : Int), (n2 : Int), (n3 : Int)⟩ from rfl)
            by_cases hat : a = (data.length : Int)
            · have HAT2 := Lib.hid hat
              have tat : (a != (data.length : Int)) = false := by rw [hat]; simp
              clear hat
              by_cases hfit : n0 ≤ 1099511627776 ∧ n1 ≤ 2 ∧ n2 ≤ 16384 ∧ n3 ≤ 1099511627776
              · obtain ⟨d0, d1, d2, d3⟩ := hfit
                have HFIT := Lib.hid (show bigB [n0, n1, n2, n3] = false by simp only [bigB, List.any_cons, List.any_nil, Bool.or_false, Bool.or_eq_false_iff, decide_eq_false_iff_not]; omega)
                have c0 : (n0 : Int) ≤ 1099511627776 := by omega
                have c1 : (n1 : Int) ≤ 2 := by omega
                have c2 : (n2 : Int) ≤ 16384 := by omega
                have c3 : (n3 : Int) ≤ 1099511627776 := by omega
                clear d0 d1 d2 d3
                have y0 : wr.cell? ⟨w2.heap.size, 0, none⟩ = some (.int .u64 (n0 : Int)) := HAR.out.cell 0
                have y1 : wr.cell? ⟨w2.heap.size, 1, none⟩ = some (.int .u64 (n1 : Int)) := HAR.out.cell 1
                have y2 : wr.cell? ⟨w2.heap.size, 2, none⟩ = some (.int .u64 (n2 : Int)) := HAR.out.cell 2
                have y3 : wr.cell? ⟨w2.heap.size, 3, none⟩ = some (.int .u64 (n3 : Int)) := HAR.out.cell 3
                have s0 : wr.cell? ⟨w1.heap.size, 0, none⟩ = some (.int .i64 g) := HSR.out.cell 0
                have s1 : wr.cell? ⟨w1.heap.size, 1, none⟩ = some (.int .i64 p) := HSR.out.cell 1
                have s2 : wr.cell? ⟨w1.heap.size, 2, none⟩ = some (.int .i64 q) := HSR.out.cell 2
                have y0 : wr.cell? ⟨w2.heap.size, 0, none⟩ = some (.int .u64 (n0 : Int)) := HAR.out.cell 0
                have y1 : wr.cell? ⟨w2.heap.size, 1, none⟩ = some (.int .u64 (n1 : Int)) := HAR.out.cell 1
                have y2 : wr.cell? ⟨w2.heap.size, 2, none⟩ = some (.int .u64 (n2 : Int)) := HAR.out.cell 2
                have y3 : wr.cell? ⟨w2.heap.size, 3, none⟩ = some (.int .u64 (n3 : Int)) := HAR.out.cell 3
                have hx := Bx.new wr (spV ⟨g, (n0 : Int), (n1 : Int), (n2 : Int), (n3 : Int)⟩) 23
                have hal := (Below.refl wr.heap.size wr).alloc (Nat.le_refl _) (.cells (spV ⟨g, (n0 : Int), (n1 : Int), (n2 : Int), (n3 : Int)⟩) 23)
                have x0 : (wr.alloc (.cells (spV ⟨g, (n0 : Int), (n1 : Int), (n2 : Int), (n3 : Int)⟩) 23)).cell? ⟨wr.heap.size, 0, none⟩ = some (.int .i64 g) := hx.cell 0
                have x1 : (wr.alloc (.cells (spV ⟨g, (n0 : Int), (n1 : Int), (n2 : Int), (n3 : Int)⟩) 23)).cell? ⟨wr.heap.size, 1, none⟩ = some (.int .i64 (n0 : Int)) := hx.cell 1
                have x2 : (wr.alloc (.cells (spV ⟨g, (n0 : Int), (n1 : Int), (n2 : Int), (n3 : Int)⟩) 23)).cell? ⟨wr.heap.size, 2, none⟩ = some (.int .i64 (n1 : Int)) := hx.cell 2
                have x3 : (wr.alloc (.cells (spV ⟨g, (n0 : Int), (n1 : Int), (n2 : Int), (n3 : Int)⟩) 23)).cell? ⟨wr.heap.size, 3, none⟩ = some (.int .i64 (n2 : Int)) := hx.cell 3
                have x4 : (wr.alloc (.cells (spV ⟨g, (n0 : Int), (n1 : Int), (n2 : Int), (n3 : Int)⟩) 23)).cell? ⟨wr.heap.size, 4, none⟩ = some (.int .i64 (n3 : Int)) := hx.cell 4
                have HX := Lib.hid hx; have HBX := Lib.hid (btrans HBR.out HBR.out.size hal); have HRX := Lib.hid (HRR.out.alloc (.cells (spV ⟨g, (n0 : Int), (n1 : Int), (n2 : Int), (n3 : Int)⟩) 23)); clear hx hal
                have zr : w.heap.size < wr.heap.size := HRR.out.lt
                go_wp2_with fail
                refine (RSValid_any ⟨g, (n0 : Int), (n1 : Int), (n2 : Int), (n3 : Int)⟩ _).mono ?_
                cases hv : spB ⟨g, (n0 : Int), (n1 : Int), (n2 : Int), (n3 : Int)⟩ with
                | false =>
                  rintro e w5 ⟨rfl, hb5⟩
                  have HV := Lib.hid hv; clear hv s0 s1 s2 y0 y1 y2 y3 x0 x1 x2 x3 x4
                  have HR5 := Lib.hid (HRX.out.call hb5); have HB5 := Lib.hid (btrans HBX.out HBX.out.size hb5); clear hb5
                  have r0 : w5.cell? ⟨w.heap.size, 0, none⟩ = some (.int .i64 0) := HR5.out.cell 0
                  have r1 : w5.cell? ⟨w.heap.size, 1, none⟩ = some (.int .i64 0) := HR5.out.cell 1
                  have r2 : w5.cell? ⟨w.heap.size, 2, none⟩ = some (.int .i64 0) := HR5.out.cell 2
                  have r3 : w5.cell? ⟨w.heap.size, 3, none⟩ = some (.int .i64 0) := HR5.out.cell 3
                  have r4 : w5.cell? ⟨w.heap.size, 4, none⟩ = some (.int .i64 0) := HR5.out.cell 4
                  have f0 := HR5.out.free 0
                  have f1 := HR5.out.free 1
                  have f2 := HR5.out.free 2
                  have f3 := HR5.out.free 3
                  have f4 := HR5.out.free 4
                  have HK := Lib.hid (HR5.out.sets (.int .i64 0) (.int .i64 0) (.int .i64 0) (.int .i64 0) (.int .i64 0))
                  have HDEC := Lib.hid (show decS s = (sp0, 5) by rw [HD.out]; refine decD_no HT.out ?_; rw [HSP.out, HV.out]; simp)
                  go_wp2
                  have k0 := HK.out.cell 0
                  have k1 := HK.out.cell 1
                  have k2 := HK.out.cell 2
                  have k3 := HK.out.cell 3
                  have k4 := HK.out.cell 4
                  simp only [List.getElem?_toArray, List.getElem?_cons_zero, List.getElem?_cons_succ] at k0 k1 k2 k3 k4
                  rw [HDEC.out]
                  refine bodyPost_ret (v := .tuple #[.agg (spV sp0), .int .i64 5]) (by simp [results, Try.results22, go_sem, spV, sp0, k0, k1, k2, k3, k4]) rfl ⟨rfl, ?_⟩
                  exact below_sets HB5.out w.heap.size (Nat.le_refl _) _ _ _ _ _
                | true =>
                  rintro e w5 ⟨rfl, hb5⟩
                  have HV := Lib.hid hv; clear hv s0 s1 s2 y0 y1 y2 y3 x0 x1 x2 x3 x4
                  have HR5 := Lib.hid (HRX.out.call hb5); have HX5 := Lib.hid (HX.out.call hb5); have HB5 := Lib.hid (btrans HBX.out HBX.out.size hb5); clear hb5
                  have x0 : w5.cell? ⟨wr.heap.size, 0, none⟩ = some (.int .i64 g) := HX5.out.cell 0
                  have x1 : w5.cell? ⟨wr.heap.size, 1, none⟩ = some (.int .i64 (n0 : Int)) := HX5.out.cell 1
                  have x2 : w5.cell? ⟨wr.heap.size, 2, none⟩ = some (.int .i64 (n1 : Int)) := HX5.out.cell 2
                  have x3 : w5.cell? ⟨wr.heap.size, 3, none⟩ = some (.int .i64 (n2 : Int)) := HX5.out.cell 3
                  have x4 : w5.cell? ⟨wr.heap.size, 4, none⟩ = some (.int .i64 (n3 : Int)) := HX5.out.cell 4
                  have r0 : w5.cell? ⟨w.heap.size, 0, none⟩ = some (.int .i64 0) := HR5.out.cell 0
                  have r1 : w5.cell? ⟨w.heap.size, 1, none⟩ = some (.int .i64 0) := HR5.out.cell 1
                  have r2 : w5.cell? ⟨w.heap.size, 2, none⟩ = some (.int .i64 0) := HR5.out.cell 2
                  have r3 : w5.cell? ⟨w.heap.size, 3, none⟩ = some (.int .i64 0) := HR5.out.cell 3
                  have r4 : w5.cell? ⟨w.heap.size, 4, none⟩ = some (.int .i64 0) := HR5.out.cell 4
                  have f0 := HR5.out.free 0
                  have f1 := HR5.out.free 1
                  have f2 := HR5.out.free 2
                  have f3 := HR5.out.free 3
                  have f4 := HR5.out.free 4
                  have HK := Lib.hid (HR5.out.sets (.int .i64 g) (.int .i64 (n0 : Int)) (.int .i64 (n1 : Int)) (.int .i64 (n2 : Int)) (.int .i64 (n3 : Int)))
                  have HDEC := Lib.hid (show decS s = (⟨g, (n0 : Int), (n1 : Int), (n2 : Int), (n3 : Int)⟩, 0) by rw [HD.out, ← HSP.out]; exact decD_ok HT.out HAT2.out HFIT.out (by rw [HSP.out]; exact HV.out))
                  go_wp2
                  have k0 := HK.out.cell 0
                  have k1 := HK.out.cell 1
                  have k2 := HK.out.cell 2
                  have k3 := HK.out.cell 3
                  have k4 := HK.out.cell 4
                  simp only [List.getElem?_toArray, List.getElem?_cons_zero, List.getElem?_cons_succ] at k0 k1 k2 k3 k4
                  rw [HDEC.out]
                  refine bodyPost_ret (v := .tuple #[.agg (spV ⟨g, (n0 : Int), (n1 : Int), (n2 : Int), (n3 : Int)⟩), .int .i64 0]) (by simp [results, Try.results22, go_sem, spV, k0, k1, k2, k3, k4]) rfl ⟨rfl, ?_⟩
                  exact below_sets HB5.out w.heap.size (Nat.le_refl _) _ _ _ _ _
              · have HNF := Lib.hid hfit; clear hfit
                have HBAD := Lib.hid (show decS s = (sp0, 5) by rw [HD.out]; refine decD_no HT.out ?_; rintro ⟨_, h2, h3⟩; simp only [bigB, List.any_cons, List.any_nil, Bool.or_false, Bool.or_eq_false_iff, decide_eq_false_iff_not] at h2; rw [HSP.out] at h3; have h4 := spB_bounds h3; simp only at h4; have := HNF.out; omega)
                have y0 : wr.cell? ⟨w2.heap.size, 0, none⟩ = some (.int .u64 (n0 : Int)) := HAR.out.cell 0
                have y1 : wr.cell? ⟨w2.heap.size, 1, none⟩ = some (.int .u64 (n1 : Int)) := HAR.out.cell 1
                have y2 : wr.cell? ⟨w2.heap.size, 2, none⟩ = some (.int .u64 (n2 : Int)) := HAR.out.cell 2
                have y3 : wr.cell? ⟨w2.heap.size, 3, none⟩ = some (.int .u64 (n3 : Int)) := HAR.out.cell 3
                by_cases d0 : (n0 : Int) ≤ 1099511627776
                · by_cases d1 : (n1 : Int) ≤ 2
                  · by_cases d2 : (n2 : Int) ≤ 16384
                    · have d3 : ¬ (n3 : Int) ≤ 1099511627776 := by have := HNF.out; omega
                      have r0 : wr.cell? ⟨w.heap.size, 0, none⟩ = some (.int .i64 0) := HRR.out.cell 0
                      have r1 : wr.cell? ⟨w.heap.size, 1, none⟩ = some (.int .i64 0) := HRR.out.cell 1
                      have r2 : wr.cell? ⟨w.heap.size, 2, none⟩ = some (.int .i64 0) := HRR.out.cell 2
                      have r3 : wr.cell? ⟨w.heap.size, 3, none⟩ = some (.int .i64 0) := HRR.out.cell 3
                      have r4 : wr.cell? ⟨w.heap.size, 4, none⟩ = some (.int .i64 0) := HRR.out.cell 4
                      have f0 := HRR.out.free 0
                      have f1 := HRR.out.free 1
                      have f2 := HRR.out.free 2
                      have f3 := HRR.out.free 3
                      have f4 := HRR.out.free 4
                      have HK := Lib.hid (HRR.out.sets (.int .i64 0) (.int .i64 0) (.int .i64 0) (.int .i64 0) (.int .i64 0))
                      have HDEC := Lib.hid (show decS s = (sp0, 5) by exact HBAD.out)
                      go_wp2
                      have k0 := HK.out.cell 0
                      have k1 := HK.out.cell 1
                      have k2 := HK.out.cell 2
                      have k3 := HK.out.cell 3
                      have k4 := HK.out.cell 4
                      simp only [List.getElem?_toArray, List.getElem?_cons_zero, List.getElem?_cons_succ] at k0 k1 k2 k3 k4
                      rw [HDEC.out]
                      refine bodyPost_ret (v := .tuple #[.agg (spV sp0), .int .i64 5]) (by simp [results, Try.results22, go_sem, spV, sp0, k0, k1, k2, k3, k4]) rfl ⟨rfl, ?_⟩
                      exact below_sets HBR.out w.heap.size (Nat.le_refl _) _ _ _ _ _
                    · skip
                      have r0 : wr.cell? ⟨w.heap.size, 0, none⟩ = some (.int .i64 0) := HRR.out.cell 0
                      have r1 : wr.cell? ⟨w.heap.size, 1, none⟩ = some (.int .i64 0) := HRR.out.cell 1
                      have r2 : wr.cell? ⟨w.heap.size, 2, none⟩ = some (.int .i64 0) := HRR.out.cell 2
                      have r3 : wr.cell? ⟨w.heap.size, 3, none⟩ = some (.int .i64 0) := HRR.out.cell 3
                      have r4 : wr.cell? ⟨w.heap.size, 4, none⟩ = some (.int .i64 0) := HRR.out.cell 4
                      have f0 := HRR.out.free 0
                      have f1 := HRR.out.free 1
                      have f2 := HRR.out.free 2
                      have f3 := HRR.out.free 3
                      have f4 := HRR.out.free 4
                      have HK := Lib.hid (HRR.out.sets (.int .i64 0) (.int .i64 0) (.int .i64 0) (.int .i64 0) (.int .i64 0))
                      have HDEC := Lib.hid (show decS s = (sp0, 5) by exact HBAD.out)
                      go_wp2
                      have k0 := HK.out.cell 0
                      have k1 := HK.out.cell 1
                      have k2 := HK.out.cell 2
                      have k3 := HK.out.cell 3
                      have k4 := HK.out.cell 4
                      simp only [List.getElem?_toArray, List.getElem?_cons_zero, List.getElem?_cons_succ] at k0 k1 k2 k3 k4
                      rw [HDEC.out]
                      refine bodyPost_ret (v := .tuple #[.agg (spV sp0), .int .i64 5]) (by simp [results, Try.results22, go_sem, spV, sp0, k0, k1, k2, k3, k4]) rfl ⟨rfl, ?_⟩
                      exact below_sets HBR.out w.heap.size (Nat.le_refl _) _ _ _ _ _
                  · skip
                    have r0 : wr.cell? ⟨w.heap.size, 0, none⟩ = some (.int .i64 0) := HRR.out.cell 0
                    have r1 : wr.cell? ⟨w.heap.size, 1, none⟩ = some (.int .i64 0) := HRR.out.cell 1
                    have r2 : wr.cell? ⟨w.heap.size, 2, none⟩ = some (.int .i64 0) := HRR.out.cell 2
                    have r3 : wr.cell? ⟨w.heap.size, 3, none⟩ = some (.int .i64 0) := HRR.out.cell 3
                    have r4 : wr.cell? ⟨w.heap.size, 4, none⟩ = some (.int .i64 0) := HRR.out.cell 4
                    have f0 := HRR.out.free 0
                    have f1 := HRR.out.free 1
                    have f2 := HRR.out.free 2
                    have f3 := HRR.out.free 3
                    have f4 := HRR.out.free 4
                    have HK := Lib.hid (HRR.out.sets (.int .i64 0) (.int .i64 0) (.int .i64 0) (.int .i64 0) (.int .i64 0))
                    have HDEC := Lib.hid (show decS s = (sp0, 5) by exact HBAD.out)
                    go_wp2
                    have k0 := HK.out.cell 0
                    have k1 := HK.out.cell 1
                    have k2 := HK.out.cell 2
                    have k3 := HK.out.cell 3
                    have k4 := HK.out.cell 4
                    simp only [List.getElem?_toArray, List.getElem?_cons_zero, List.getElem?_cons_succ] at k0 k1 k2 k3 k4
                    rw [HDEC.out]
                    refine bodyPost_ret (v := .tuple #[.agg (spV sp0), .int .i64 5]) (by simp [results, Try.results22, go_sem, spV, sp0, k0, k1, k2, k3, k4]) rfl ⟨rfl, ?_⟩
                    exact below_sets HBR.out w.heap.size (Nat.le_refl _) _ _ _ _ _
                · skip
                  have r0 : wr.cell? ⟨w.heap.size, 0, none⟩ = some (.int .i64 0) := HRR.out.cell 0
                  have r1 : wr.cell? ⟨w.heap.size, 1, none⟩ = some (.int .i64 0) := HRR.out.cell 1
                  have r2 : wr.cell? ⟨w.heap.size, 2, none⟩ = some (.int .i64 0) := HRR.out.cell 2
                  have r3 : wr.cell? ⟨w.heap.size, 3, none⟩ = some (.int .i64 0) := HRR.out.cell 3
                  have r4 : wr.cell? ⟨w.heap.size, 4, none⟩ = some (.int .i64 0) := HRR.out.cell 4
                  have f0 := HRR.out.free 0
                  have f1 := HRR.out.free 1
                  have f2 := HRR.out.free 2
                  have f3 := HRR.out.free 3
                  have f4 := HRR.out.free 4
                  have HK := Lib.hid (HRR.out.sets (.int .i64 0) (.int .i64 0) (.int .i64 0) (.int .i64 0) (.int .i64 0))
                  have HDEC := Lib.hid (show decS s = (sp0, 5) by exact HBAD.out)
                  go_wp2
                  have k0 := HK.out.cell 0
                  have k1 := HK.out.cell 1
                  have k2 := HK.out.cell 2
                  have k3 := HK.out.cell 3
                  have k4 := HK.out.cell 4
                  simp only [List.getElem?_toArray, List.getElem?_cons_zero, List.getElem?_cons_succ] at k0 k1 k2 k3 k4
                  rw [HDEC.out]
                  refine bodyPost_ret (v := .tuple #[.agg (spV sp0), .int .i64 5]) (by simp [results, Try.results22, go_sem, spV, sp0, k0, k1, k2, k3, k4]) rfl ⟨rfl, ?_⟩
                  exact below_sets HBR.out w.heap.size (Nat.le_refl _) _ _ _ _ _
            · have tat : (a != (data.length : Int)) = true := by rw [bne_iff_ne]; exact hat
              have HAT2 := Lib.hid hat; clear hat
              have r0 : wr.cell? ⟨w.heap.size, 0, none⟩ = some (.int .i64 0) := HRR.out.cell 0
              have r1 : wr.cell? ⟨w.heap.size, 1, none⟩ = some (.int .i64 0) := HRR.out.cell 1
              have r2 : wr.cell? ⟨w.heap.size, 2, none⟩ = some (.int .i64 0) := HRR.out.cell 2
              have r3 : wr.cell? ⟨w.heap.size, 3, none⟩ = some (.int .i64 0) := HRR.out.cell 3
              have r4 : wr.cell? ⟨w.heap.size, 4, none⟩ = some (.int .i64 0) := HRR.out.cell 4
              have f0 := HRR.out.free 0
              have f1 := HRR.out.free 1
              have f2 := HRR.out.free 2
              have f3 := HRR.out.free 3
              have f4 := HRR.out.free 4
              have HK := Lib.hid (HRR.out.sets (.int .i64 0) (.int .i64 0) (.int .i64 0) (.int .i64 0) (.int .i64 0))
              have HDEC := Lib.hid (show decS s = (sp0, 5) by rw [HD.out]; exact decD_no HT.out (fun h => HAT2.out h.1))
              go_wp2
              have k0 := HK.out.cell 0
              have k1 := HK.out.cell 1
              have k2 := HK.out.cell 2
              have k3 := HK.out.cell 3
              have k4 := HK.out.cell 4
              simp only [List.getElem?_toArray, List.getElem?_cons_zero, List.getElem?_cons_succ] at k0 k1 k2 k3 k4
              rw [HDEC.out]
              refine bodyPost_ret (v := .tuple #[.agg (spV sp0), .int .i64 5]) (by simp [results, Try.results22, go_sem, spV, sp0, k0, k1, k2, k3, k4]) rfl ⟨rfl, ?_⟩
              exact below_sets HBR.out w.heap.size (Nat.le_refl _) _ _ _ _ _
      · have tp : (p != 0) = false := by rw [hp]; rfl
        have tq : (q != 1) = true := by rw [bne_iff_ne]; exact hq
        have HQ := Lib.hid hq; clear hq hp
        have r0 : w2.cell? ⟨w.heap.size, 0, none⟩ = some (.int .i64 0) := HRW.out.cell 0
        have r1 : w2.cell? ⟨w.heap.size, 1, none⟩ = some (.int .i64 0) := HRW.out.cell 1
        have r2 : w2.cell? ⟨w.heap.size, 2, none⟩ = some (.int .i64 0) := HRW.out.cell 2
        have r3 : w2.cell? ⟨w.heap.size, 3, none⟩ = some (.int .i64 0) := HRW.out.cell 3
        have r4 : w2.cell? ⟨w.heap.size, 4, none⟩ = some (.int .i64 0) := HRW.out.cell 4
        have f0 := HRW.out.free 0
        have f1 := HRW.out.free 1
        have f2 := HRW.out.free 2
        have f3 := HRW.out.free 3
        have f4 := HRW.out.free 4
        have HK := Lib.hid (HRW.out.sets (.int .i64 0) (.int .i64 0) (.int .i64 0) (.int .i64 0) (.int .i64 0))
        have HDEC := Lib.hid (show decS s = (sp0, 5) by unfold decS; rw [HO.out]; simp only; rw [if_neg (by simp), if_neg (fun h => HQ.out h.2)])
        go_wp2
        have k0 := HK.out.cell 0
        have k1 := HK.out.cell 1
        have k2 := HK.out.cell 2
        have k3 := HK.out.cell 3
        have k4 := HK.out.cell 4
        simp only [List.getElem?_toArray, List.getElem?_cons_zero, List.getElem?_cons_succ] at k0 k1 k2 k3 k4
        rw [HDEC.out]
        refine bodyPost_ret (v := .tuple #[.agg (spV sp0), .int .i64 5]) (by simp [results, Try.results22, go_sem, spV, sp0, k0, k1, k2, k3, k4]) rfl ⟨rfl, ?_⟩
        exact below_sets HB2.out w.heap.size (Nat.le_refl _) _ _ _ _ _
    · have tp : (p != 0) = true := by rw [bne_iff_ne]; exact hp
      have HP := Lib.hid hp; clear hp
      have r0 : w2.cell? ⟨w.heap.size, 0, none⟩ = some (.int .i64 0) := HRW.out.cell 0
      have r1 : w2.cell? ⟨w.heap.size, 1, none⟩ = some (.int .i64 0) := HRW.out.cell 1
      have r2 : w2.cell? ⟨w.heap.size, 2, none⟩ = some (.int .i64 0) := HRW.out.cell 2
      have r3 : w2.cell? ⟨w.heap.size, 3, none⟩ = some (.int .i64 0) := HRW.out.cell 3
      have r4 : w2.cell? ⟨w.heap.size, 4, none⟩ = some (.int .i64 0) := HRW.out.cell 4
      have f0 := HRW.out.free 0
      have f1 := HRW.out.free 1
      have f2 := HRW.out.free 2
      have f3 := HRW.out.free 3
      have f4 := HRW.out.free 4
      have HK := Lib.hid (HRW.out.sets (.int .i64 0) (.int .i64 0) (.int .i64 0) (.int .i64 0) (.int .i64 0))
      have HDEC := Lib.hid (show decS s = (sp0, 5) by unfold decS; rw [HO.out]; simp only; rw [if_neg (by simp), if_neg (fun h => HP.out h.1)])
      go_wp2
      have k0 := HK.out.cell 0
      have k1 := HK.out.cell 1
      have k2 := HK.out.cell 2
      have k3 := HK.out.cell 3
      have k4 := HK.out.cell 4
      simp only [List.getElem?_toArray, List.getElem?_cons_zero, List.getElem?_cons_succ] at k0 k1 k2 k3 k4
      rw [HDEC.out]
      refine bodyPost_ret (v := .tuple #[.agg (spV sp0), .int .i64 5]) (by simp [results, Try.results22, go_sem, spV, sp0, k0, k1, k2, k3, k4]) rfl ⟨rfl, ?_⟩
      exact below_sets HB2.out w.heap.size (Nat.le_refl _) _ _ _ _ _
  · have te : (er != 0) = true := by rw [bne_iff_ne]; exact her
    have HER := Lib.hid her; clear her
    have r0 : w2.cell? ⟨w.heap.size, 0, none⟩ = some (.int .i64 0) := HRW.out.cell 0
    have r1 : w2.cell? ⟨w.heap.size, 1, none⟩ = some (.int .i64 0) := HRW.out.cell 1
    have r2 : w2.cell? ⟨w.heap.size, 2, none⟩ = some (.int .i64 0) := HRW.out.cell 2
    have r3 : w2.cell? ⟨w.heap.size, 3, none⟩ = some (.int .i64 0) := HRW.out.cell 3
    have r4 : w2.cell? ⟨w.heap.size, 4, none⟩ = some (.int .i64 0) := HRW.out.cell 4
    have f0 := HRW.out.free 0
    have f1 := HRW.out.free 1
    have f2 := HRW.out.free 2
    have f3 := HRW.out.free 3
    have f4 := HRW.out.free 4
    have HK := Lib.hid (HRW.out.sets (.int .i64 0) (.int .i64 0) (.int .i64 0) (.int .i64 0) (.int .i64 0))
    have HDEC := Lib.hid (show decS s = (sp0, er) by unfold decS; rw [HO.out]; simp only; rw [if_pos HER.out])
    go_wp2
    have k0 := HK.out.cell 0
    have k1 := HK.out.cell 1
    have k2 := HK.out.cell 2
    have k3 := HK.out.cell 3
    have k4 := HK.out.cell 4
    simp only [List.getElem?_toArray, List.getElem?_cons_zero, List.getElem?_cons_succ] at k0 k1 k2 k3 k4
    rw [HDEC.out]
    refine bodyPost_ret (v := .tuple #[.agg (spV sp0), .int .i64 er]) (by simp [results, Try.results22, go_sem, spV, sp0, k0, k1, k2, k3, k4]) rfl ⟨rfl, ?_⟩
    exact below_sets HB2.out w.heap.size (Nat.le_refl _) _ _ _ _ _
end Go.Proofs.Ytkpfkknldeafkaa

namespace Go.Proofs.Ytkpfkknldeafkaa
open Go.RowKit

theorem Seal_r (x : Sp) (hv : spB x = true) (l : List UInt8) (w : World) (hl : l = encD x) :
    Calls Try.prog 54 #[.agg #[.int .i64 x.g, .int .i64 0, .int .i64 1], .string (bs l)] w fun e w' => e = .returned (.tuple #[.string (bs (sealedL x.g.toNat 0 1 (encD x))), .int .i64 0]) ∧ Below w.heap.size w w' := by
  subst hl
  have h40 := encD_len hv
  have h := R45Seal_any x.g 0 1 (encD x) w (by omega)
  rw [enc_seal hv] at h
  exact h

set_option maxRecDepth 100000 in
set_option maxHeartbeats 4000000 in
theorem RSEncode_any (x : Sp) (w : World) :
    Calls Try.prog 17 #[.agg (spV x)] w fun e w' => e = .returned (.tuple #[.string (bs (encS x).1), .int .i64 (encS x).2]) ∧ Below w.heap.size w w' := by
  have HX := Lib.hid (Bx.new w (spV x) 23); have HB0 := Lib.hid ((Below.refl w.heap.size w).alloc (Nat.le_refl _) (.cells (spV x) 23))
  have x0 : (w.alloc (.cells (spV x) 23)).cell? ⟨w.heap.size, 0, none⟩ = some (.int .i64 x.g) := HX.out.cell 0
  have x1 : (w.alloc (.cells (spV x) 23)).cell? ⟨w.heap.size, 1, none⟩ = some (.int .i64 x.e) := HX.out.cell 1
  have x2 : (w.alloc (.cells (spV x) 23)).cell? ⟨w.heap.size, 2, none⟩ = some (.int .i64 x.a) := HX.out.cell 2
  have x3 : (w.alloc (.cells (spV x) 23)).cell? ⟨w.heap.size, 3, none⟩ = some (.int .i64 x.z) := HX.out.cell 3
  have x4 : (w.alloc (.cells (spV x) 23)).cell? ⟨w.heap.size, 4, none⟩ = some (.int .i64 x.p) := HX.out.cell 4
  go_enter Try.func17, Try.ntmps17
  go_wp2_with fail
  refine (RSValid_any x _).mono ?_
  cases hv : spB x with
  | false =>
    rintro e w1 ⟨rfl, hb1⟩
    have HF := Lib.hid (show encS x = ([], 1) by unfold encS; rw [if_neg (by rw [hv]; decide)])
    clear hv x0 x1 x2 x3 x4
    go_wp2
    go_ret2
    rw [HF.out]
    exact ⟨rfl, btrans HB0.out HB0.out.size hb1⟩
  | true =>
    rintro e w1 ⟨rfl, hb1⟩
    have HF := Lib.hid (show encS x = (sealedL x.g.toNat 0 1 (encD x), 0) by unfold encS; rw [if_pos hv])
    have HV := Lib.hid hv; have HX1 := Lib.hid (HX.out.call hb1); have HB1 := Lib.hid (btrans HB0.out HB0.out.size hb1)
    clear hv x0 x1 x2 x3 x4 hb1
    obtain ⟨h1, h2, h3, h4, h5, h6, h7, h8, h9, h10⟩ := spB_bounds HV.out
    obtain ⟨n0, q0⟩ : ∃ n : Nat, x.e = n := ⟨x.e.toNat, by omega⟩
    obtain ⟨n1, q1⟩ : ∃ n : Nat, x.a = n := ⟨x.a.toNat, by omega⟩
    obtain ⟨n2, q2⟩ : ∃ n : Nat, x.z = n := ⟨x.z.toNat, by omega⟩
    obtain ⟨n3, q3⟩ : ∃ n : Nat, x.p = n := ⟨x.p.toNat, by omega⟩
    rw [q0] at h3 h4
    rw [q1] at h5 h6
    rw [q2] at h7 h8
    rw [q3] at h9 h10
    have w0_ : IntKind.u64.wrap (n0 : Int) = (n0 : Int) := wrap_u64 n0 (by omega)
    have w1_ : IntKind.u64.wrap (n1 : Int) = (n1 : Int) := wrap_u64 n1 (by omega)
    have w2_ : IntKind.u64.wrap (n2 : Int) = (n2 : Int) := wrap_u64 n2 (by omega)
    have w3_ : IntKind.u64.wrap (n3 : Int) = (n3 : Int) := wrap_u64 n3 (by omega)
    have lu0 := uintS_len n0 (by omega)
    have lu1 := uintS_len n1 (by omega)
    have lu2 := uintS_len n2 (by omega)
    have lu3 := uintS_len n3 (by omega)
    have HED := Lib.hid (show encD x = uintS n0 ++ uintS n1 ++ uintS n2 ++ uintS n3 by unfold encD; rw [q0, q1, q2, q3]; simp only [Int.toNat_natCast])
    have x0 : w1.cell? ⟨w.heap.size, 0, none⟩ = some (.int .i64 x.g) := by exact HX1.out.cell 0
    have x1 : w1.cell? ⟨w.heap.size, 1, none⟩ = some (.int .i64 (n0 : Int)) := by rw [← q0]; exact HX1.out.cell 1
    have x2 : w1.cell? ⟨w.heap.size, 2, none⟩ = some (.int .i64 (n1 : Int)) := by rw [← q1]; exact HX1.out.cell 2
    have x3 : w1.cell? ⟨w.heap.size, 3, none⟩ = some (.int .i64 (n2 : Int)) := by rw [← q2]; exact HX1.out.cell 3
    have x4 : w1.cell? ⟨w.heap.size, 4, none⟩ = some (.int .i64 (n3 : Int)) := by rw [← q3]; exact HX1.out.cell 4
    have s1 : ¬ 9223372036854775807 < (uintS n0).length + (uintS n1).length := by omega
    have s2 : ¬ 9223372036854775807 < (uintS n0).length + (uintS n1).length + (uintS n2).length := by omega
    have s3 : ¬ 9223372036854775807 < (uintS n0).length + (uintS n1).length + (uintS n2).length + (uintS n3).length := by omega
    have s4 : ¬ 9223372036854775807 < (uintS n0).length + ((uintS n1).length + (uintS n2).length) := by omega
    have s5 : ¬ 9223372036854775807 < (uintS n0).length + ((uintS n1).length + (uintS n2).length) + (uintS n3).length := by omega
    have s6 : ¬ 9223372036854775807 < (uintS n0).length + ((uintS n1).length + ((uintS n2).length + (uintS n3).length)) := by omega
    clear q0 q1 q2 q3
    go_wp2_with fail
    have hs0 : w1.drew.cell? ⟨w.heap.size, 0, none⟩ = some (.int .i64 x.g) ∧ w1.drew.cell? ⟨w.heap.size, 1, none⟩ = some (.int .i64 (n0 : Int)) ∧ w1.drew.cell? ⟨w.heap.size, 2, none⟩ = some (.int .i64 (n1 : Int)) ∧ w1.drew.cell? ⟨w.heap.size, 3, none⟩ = some (.int .i64 (n2 : Int)) ∧ w1.drew.cell? ⟨w.heap.size, 4, none⟩ = some (.int .i64 (n3 : Int)) := ⟨x0, x1, x2, x3, x4⟩
    refine wp_region_held_drew (S := (fun w' => w'.cell? ⟨w.heap.size, 0, none⟩ = some (.int .i64 x.g) ∧ w'.cell? ⟨w.heap.size, 1, none⟩ = some (.int .i64 (n0 : Int)) ∧ w'.cell? ⟨w.heap.size, 2, none⟩ = some (.int .i64 (n1 : Int)) ∧ w'.cell? ⟨w.heap.size, 3, none⟩ = some (.int .i64 (n2 : Int)) ∧ w'.cell? ⟨w.heap.size, 4, none⟩ = some (.int .i64 (n3 : Int)))) (by kernel_rfl) ?_ (fun hHeld => ?_)
    · exact hs0
    refine takeH (i := 0) (v := ?vv1) 10 rfl rfl (by kernel_rfl) (by kernel_rfl) (by kernel_rfl) (fun _ _ _ h => h) (Or.inl ⟨by kernel_rfl, ?yy1⟩) (by assumption) ?_
    case yy1 => intro w hSw; (try dsimp only at hSw); go_simp; (try with_reducible rfl)
    simp only [List.setIfInBounds_toArray, List.set_cons_zero, List.set_cons_succ]
    refine takeH (i := 1) (v := ?vv2) 11 rfl rfl (by kernel_rfl) (by kernel_rfl) (by kernel_rfl) (fun _ _ _ h => h) (Or.inl ⟨by kernel_rfl, ?yy2⟩) (by assumption) ?_
    case yy2 => intro w hSw; (try dsimp only at hSw); go_simp; (try with_reducible rfl)
    simp only [List.setIfInBounds_toArray, List.set_cons_zero, List.set_cons_succ]
    refine takeH (i := 2) (v := ?vv3) 12 rfl rfl (by kernel_rfl) (by kernel_rfl) (by kernel_rfl) (fun _ _ _ h => h) (Or.inl ⟨by kernel_rfl, ?yy3⟩) (by assumption) ?_
    case yy3 => intro w hSw; (try dsimp only at hSw); go_simp; (try with_reducible rfl)
    simp only [List.setIfInBounds_toArray, List.set_cons_zero, List.set_cons_succ]
    refine takeH (i := 4) (v := ?vv4) 14 rfl rfl (by kernel_rfl) (by kernel_rfl) (by kernel_rfl) (fun _ _ _ h => h) (Or.inl ⟨by kernel_rfl, ?yy4⟩) (by assumption) ?_
    case yy4 => intro w hSw; (try dsimp only at hSw); go_simp; (try with_reducible rfl)
    simp only [List.setIfInBounds_toArray, List.set_cons_zero, List.set_cons_succ]
    refine takeH (i := 5) (v := ?vv5) 15 rfl rfl (by kernel_rfl) (by kernel_rfl) (by kernel_rfl) (fun _ _ _ h => h) (Or.inl ⟨by kernel_rfl, ?yy5⟩) (by assumption) ?_
    case yy5 => intro w hSw; (try dsimp only at hSw); go_simp; (try with_reducible rfl)
    simp only [List.setIfInBounds_toArray, List.set_cons_zero, List.set_cons_succ]
    refine takeH (i := 6) (v := ?vv6) 16 rfl rfl (by kernel_rfl) (by kernel_rfl) (by kernel_rfl) (fun _ _ _ h => h) (Or.inl ⟨by kernel_rfl, ?yy6⟩) (by assumption) ?_
    case yy6 => intro w hSw; (try dsimp only at hSw); go_simp; (try with_reducible rfl)
    simp only [List.setIfInBounds_toArray, List.set_cons_zero, List.set_cons_succ]
    refine takeH (i := 9) (v := ?vv7) 19 rfl rfl (by kernel_rfl) (by kernel_rfl) (by kernel_rfl) (fun _ _ _ h => h) (Or.inl ⟨by kernel_rfl, ?yy7⟩) (by assumption) ?_
    case yy7 => intro w hSw; (try dsimp only at hSw); go_simp; (try with_reducible rfl)
    simp only [List.setIfInBounds_toArray, List.set_cons_zero, List.set_cons_succ]
    refine takeH (i := 10) (v := ?vv8) 20 rfl rfl (by kernel_rfl) (by kernel_rfl) (by kernel_rfl) (fun _ _ _ h => h) (Or.inl ⟨by kernel_rfl, ?yy8⟩) (by assumption) ?_
    case yy8 => intro w hSw; (try dsimp only at hSw); go_simp; (try with_reducible rfl)
    simp only [List.setIfInBounds_toArray, List.set_cons_zero, List.set_cons_succ]
    refine takeH (i := 11) (v := ?vv9) 21 rfl rfl (by kernel_rfl) (by kernel_rfl) (by kernel_rfl) (fun _ _ _ h => h) (Or.inl ⟨by kernel_rfl, ?yy9⟩) (by assumption) ?_
    case yy9 => intro w hSw; (try dsimp only at hSw); go_simp; (try with_reducible rfl)
    simp only [List.setIfInBounds_toArray, List.set_cons_zero, List.set_cons_succ]
    refine takeH (i := 14) (v := ?vv10) 24 rfl rfl (by kernel_rfl) (by kernel_rfl) (by kernel_rfl) (fun _ _ _ h => h) (Or.inl ⟨by kernel_rfl, ?yy10⟩) (by assumption) ?_
    case yy10 => intro w hSw; (try dsimp only at hSw); go_simp; (try with_reducible rfl)
    simp only [List.setIfInBounds_toArray, List.set_cons_zero, List.set_cons_succ]
    refine takeH (i := 15) (v := ?vv11) 25 rfl rfl (by kernel_rfl) (by kernel_rfl) (by kernel_rfl) (fun _ _ _ h => h) (Or.inl ⟨by kernel_rfl, ?yy11⟩) (by assumption) ?_
    case yy11 => intro w hSw; (try dsimp only at hSw); go_simp; (try with_reducible rfl)
    simp only [List.setIfInBounds_toArray, List.set_cons_zero, List.set_cons_succ]
    refine takeH (i := 16) (v := ?vv12) 26 rfl rfl (by kernel_rfl) (by kernel_rfl) (by kernel_rfl) (fun _ _ _ h => h) (Or.inl ⟨by kernel_rfl, ?yy12⟩) (by assumption) ?_
    case yy12 => intro w hSw; (try dsimp only at hSw); go_simp; (try with_reducible rfl)
    simp only [List.setIfInBounds_toArray, List.set_cons_zero, List.set_cons_succ]
    refine wpAnyH_ready (rs := [3]) (by kernel_rfl) (by simp) ?_
    refine (AllReadyH.cons rfl (fun K hK => ?_) AllReadyH.nil)
    go_simp
    (refine (RUint_any n0 (by omega) _).mono ?_; rintro e v0 ⟨rfl, hb5⟩)
    (try go_wp2_with fail)
    refine hK.out _ _ ?_ (fun hHeld => ?_)
    · exact cells5_below hHeld hb5
    clear hK K
    (try simp only [Act.put, List.setIfInBounds_toArray, List.set_cons_zero, List.set_cons_succ])
    refine wpAnyH_ready (rs := [7]) (by kernel_rfl) (by simp) ?_
    refine (AllReadyH.cons rfl (fun K hK => ?_) AllReadyH.nil)
    go_simp
    (refine (RUint_any n1 (by omega) _).mono ?_; rintro e v1 ⟨rfl, hb6⟩)
    (try go_wp2_with fail)
    refine hK.out _ _ ?_ (fun hHeld => ?_)
    · exact cells5_below hHeld hb6
    clear hK K
    (try simp only [Act.put, List.setIfInBounds_toArray, List.set_cons_zero, List.set_cons_succ])
    refine takeH (i := 8) (v := ?vv13) 18 rfl rfl (by kernel_rfl) (by kernel_rfl) (by kernel_rfl) (fun _ _ _ h => h) (Or.inl ⟨by kernel_rfl, ?yy13⟩) (by assumption) ?_
    case yy13 => intro w hSw; (try dsimp only at hSw); go_simp; (try with_reducible rfl)
    simp only [List.setIfInBounds_toArray, List.set_cons_zero, List.set_cons_succ]
    refine wpAnyH_ready (rs := [12]) (by kernel_rfl) (by simp) ?_
    refine (AllReadyH.cons rfl (fun K hK => ?_) AllReadyH.nil)
    go_simp
    (refine (RUint_any n2 (by omega) _).mono ?_; rintro e v2 ⟨rfl, hb7⟩)
    (try go_wp2_with fail)
    refine hK.out _ _ ?_ (fun hHeld => ?_)
    · exact cells5_below hHeld hb7
    clear hK K
    (try simp only [Act.put, List.setIfInBounds_toArray, List.set_cons_zero, List.set_cons_succ])
    refine takeH (i := 13) (v := ?vv14) 23 rfl rfl (by kernel_rfl) (by kernel_rfl) (by kernel_rfl) (fun _ _ _ h => h) (Or.inl ⟨by kernel_rfl, ?yy14⟩) (by assumption) ?_
    case yy14 => intro w hSw; (try dsimp only at hSw); go_simp; (try with_reducible rfl)
    simp only [List.setIfInBounds_toArray, List.set_cons_zero, List.set_cons_succ]
    refine wpAnyH_ready (rs := [17]) (by kernel_rfl) (by simp) ?_
    refine (AllReadyH.cons rfl (fun K hK => ?_) AllReadyH.nil)
    go_simp
    (refine (RUint_any n3 (by omega) _).mono ?_; rintro e v3 ⟨rfl, hb8⟩)
    (try go_wp2_with fail)
    refine hK.out _ _ ?_ (fun hHeld => ?_)
    · exact cells5_below hHeld hb8
    clear hK K
    (try simp only [Act.put, List.setIfInBounds_toArray, List.set_cons_zero, List.set_cons_succ])
    refine takeH (i := 18) (v := ?vv15) 28 rfl rfl (by kernel_rfl) (by kernel_rfl) (by kernel_rfl) (fun _ _ _ h => h) (Or.inl ⟨by kernel_rfl, ?yy15⟩) (by assumption) ?_
    case yy15 => intro w hSw; (try dsimp only at hSw); go_simp; (try with_reducible rfl)
    simp only [List.setIfInBounds_toArray, List.set_cons_zero, List.set_cons_succ]
    refine takeH (i := 19) (v := ?vv16) 4 rfl rfl (by kernel_rfl) (by kernel_rfl) (by kernel_rfl) (fun _ _ _ h => h) (Or.inl ⟨by kernel_rfl, ?yy16⟩) (by assumption) ?_
    case yy16 => intro w hSw; (try dsimp only at hSw); go_simp; (try with_reducible rfl)
    simp only [List.setIfInBounds_toArray, List.set_cons_zero, List.set_cons_succ]
    refine wpAnyH_done (by kernel_rfl) ?_ _
    have KB := Lib.hid (btrans (btrans (btrans (btrans HB1.out.drew (Nat.le_trans HB1.out.size (by simp)) hb5) (by have := HB1.out.size; have := hb5.size; simp at this; omega) hb6) (by have := HB1.out.size; have := hb5.size; have := hb6.size; simp at *; omega) hb7) (by have := HB1.out.size; have := hb5.size; have := hb6.size; have := hb7.size; simp at *; omega) hb8)
    clear hs0 hHeld x0 x1 x2 x3 x4
    have hX5 := HX1.out.drew.call hb5
    have hX6 := (hX5.call hb6).call hb7
    have hX8 := hX6.call hb8
    have x0 : v3.cell? ⟨w.heap.size, 0, none⟩ = some (.int .i64 x.g) := hX8.cell 0
    clear hX5 hX6 hX8 hb5 hb6 hb7 hb8
    have HES := Lib.hid (enc_seal HV.out)
    have h40 := encD_len HV.out
    rw [HED.out] at h40
    go_wp2_with fail
    skip
    have hse := Seal_r x HV.out
    refine (hse _ _ (by rw [HED.out]; simp [List.append_assoc])).mono ?_
    rintro e v9 ⟨rfl, hb9⟩
    go_wp2
    go_ret2
    rw [HF.out]
    exact ⟨rfl, btrans KB.out KB.out.size hb9⟩
end Go.Proofs.Ytkpfkknldeafkaa

namespace Go.Proofs.Ytkpfkknldeafkaa
open Go.RowKit

theorem CellsAt.of_strs {W : World} {v : Value} {L : List (List UInt8)} (h : StrS W v L) : CellsAt W v L.length (L.map strV) := by
  obtain ⟨ad, cap, rfl, hc, hx⟩ := h
  refine ⟨ad, cap, rfl, fun hne => ?_⟩
  have hL : L ≠ [] := by intro e; rw [e] at hne; exact hne rfl
  obtain ⟨b, off, rfl, hcell⟩ := hx hL
  refine ⟨b, off, rfl, fun j y hj => ?_⟩
  rw [List.getElem?_map] at hj
  rcases Nat.lt_or_ge j L.length with h1 | h1
  · rw [List.getElem?_eq_getElem h1] at hj
    simp only [Option.map_some, Option.some.injEq] at hj
    rw [← hj]; exact hcell j h1
  · rw [List.getElem?_eq_none h1] at hj; cases hj
set_option maxRecDepth 100000 in
set_option maxHeartbeats 4000000 in
theorem unchanged_any (sa pa : Option Addr) (sc pc : Nat) (d : Dk) (w : World) (hD : Lists w sa sc pa pc d) :
    Calls Try.prog 60 #[.agg #[.slice sa d.S.length sc, .slice pa d.P.length pc, .int .i64 d.fuse, .int .i64 d.ops, .bool d.dead]] w (ClonePost d w) := by
  have hX := (Bx.new w #[.slice sa d.S.length sc, .slice pa d.P.length pc, .int .i64 d.fuse, .int .i64 d.ops, .bool d.dead] 38).alloc (.cells #[.slice none 0 0, .slice none 0 0, .int .i64 0, .int .i64 0, .bool false] 38)
  have hR := Bx.new1 w (.cells #[.slice sa d.S.length sc, .slice pa d.P.length pc, .int .i64 d.fuse, .int .i64 d.ops, .bool d.dead] 38) #[.slice none 0 0, .slice none 0 0, .int .i64 0, .int .i64 0, .bool false] 38
  have hb0 := ((Below.refl w.heap.size w).alloc (Nat.le_refl _) (.cells #[.slice sa d.S.length sc, .slice pa d.P.length pc, .int .i64 d.fuse, .int .i64 d.ops, .bool d.dead] 38)).alloc (by simp) (.cells #[.slice none 0 0, .slice none 0 0, .int .i64 0, .int .i64 0, .bool false] 38)
  have hsz0 : ((w.alloc (.cells #[.slice sa d.S.length sc, .slice pa d.P.length pc, .int .i64 d.fuse, .int .i64 d.ops, .bool d.dead] 38)).alloc (.cells #[.slice none 0 0, .slice none 0 0, .int .i64 0, .int .i64 0, .bool false] 38)).heap.size = w.heap.size + 2 := by simp
  obtain ⟨i0, hi, hz0, hz1, hz2⟩ := info_parts Try.info9
  obtain ⟨i1, hi', hz0', hz1', hz2'⟩ := info_parts infoWrite
  have l3 := hD.2.2.1
  have l4 := hD.2.2.2
  have HD := Lib.hid hD; clear hD
  go_enter Try.func60, Try.ntmps60
  go_upto_region 1 with (fail)
  generalize hW0 : (w.alloc (.cells #[.slice sa d.S.length sc, .slice pa d.P.length pc, .int .i64 d.fuse, .int .i64 d.ops, .bool d.dead] 38)).alloc (.cells #[.slice none 0 0, .slice none 0 0, .int .i64 0, .int .i64 0, .bool false] 38) = w0 at hX hR hb0 hsz0 ⊢
  clear hW0
  have HX0 := Lib.hid hX; have HR0 := Lib.hid hR; have HB0 := Lib.hid hb0; have HZ0 := Lib.hid hsz0; clear hX hR hb0 hsz0
  have hC := CellsAt.of_strs (HD.out.below HB0.out).1
  have HC := Lib.hid hC; clear hC
  have x0 : w0.cell? ⟨w.heap.size, 0, none⟩ = some (.slice sa d.S.length sc) := HX0.out.cell 0
  go_wp2_with (at_builtin; refine wpList_append_any rfl _ _ 35 rfl w0.heap.size 9 i0 (.string ⟨#[]⟩) 1 16 Try.underlying35 hi hz0 hz1 hz2 rfl (by decide) (.slice none 0 0) (.slice sa d.S.length sc) 0 d.S.length [] (d.S.map strV) rfl (World.ownsRow_nil _ _ _ _) rfl HC.out (by simp) (by intro u hu; obtain ⟨l, _, rfl⟩ := List.mem_map.1 hu; rfl) (by unfold maxLen; omega) (by omega) w0 w0.heap.size (Below.refl _ _) (Nat.le_refl _) (Nat.le_refl _) ?_)
  intro v1 w1 hown1 hb1 _
  clear x0
  obtain ⟨a1, c1, rfl⟩ := own_slice hown1
  have HX1 := Lib.hid (HX0.out.call hb1); have HR1 := Lib.hid (HR0.out.call hb1); have HB1 := Lib.hid (btrans HB0.out HB0.out.size hb1)
  have x0 : w1.cell? ⟨w.heap.size, 0, none⟩ = some (.slice sa d.S.length sc) := HX1.out.cell 0
  have f0 := HX1.out.free 0
  have hne1 : (Value.slice a1 d.S.length c1).ownBlock ≠ some w.heap.size := by intro e; have := (hown1.lt _ e).1; have := HZ0.out; omega
  have HO1 := Lib.hid (own_set2 hown1 w.heap.size 0 hne1 (.slice a1 d.S.length c1)); have HX2 := Lib.hid (HX1.out.set 0 (.slice a1 d.S.length c1)); have HR2 := Lib.hid (HR1.out.other (c := w.heap.size) (i := 0) (by omega) (.slice a1 d.S.length c1)); have HB2 := Lib.hid (below_set HB1.out w.heap.size 0 (Nat.le_refl _) (.slice a1 d.S.length c1))
  have hs1 := hb1.size
  clear hown1 hb1 hne1
  go_upto_region 2 with (fail)
  generalize hW1 : w1.setCell ⟨w.heap.size, 0, none⟩ (.slice a1 d.S.length c1) = w2 at HO1 HX2 HR2 HB2 ⊢
  have HS2 := Lib.hid (show w2.heap.size = w1.heap.size by rw [← hW1]; simp)
  clear hW1 x0 f0
  have hX2 := HX2.out
  simp only [List.setIfInBounds_toArray, List.set_cons_zero] at hX2
  have HXE := Lib.hid hX2; clear hX2
  have hC := CellsAt.of_wr (HD.out.below HB2.out).2.1
  have HC2 := Lib.hid hC; clear hC
  have x1 : w2.cell? ⟨w.heap.size, 1, none⟩ = some (.slice pa d.P.length pc) := HXE.out.cell 1
  go_wp2_with (at_builtin; refine wpList_append_any rfl _ _ 36 rfl w2.heap.size 94 i1 (.agg #[.int .i64 0, .string ⟨#[]⟩]) 2 24 Try.underlying36 hi' hz0' hz1' hz2' rfl (by decide) (.slice none 0 0) (.slice pa d.P.length pc) 0 d.P.length [] (wcs d.P) rfl (World.ownsRow_nil _ _ _ _) rfl HC2.out (wcs_length _) (wcs_one _) (by unfold maxLen; omega) (by omega) w2 w2.heap.size (Below.refl _ _) (Nat.le_refl _) (Nat.le_refl _) ?_)
  intro v3 w3 hown3 hb3 _
  clear x1
  obtain ⟨a2, c2, rfl⟩ := own_slice hown3
  have HX3 := Lib.hid (HXE.out.call hb3); have HR3 := Lib.hid (HR2.out.call hb3); have HB3 := Lib.hid (btrans HB2.out HB2.out.size hb3)
  have x1 : w3.cell? ⟨w.heap.size, 1, none⟩ = some (.slice pa d.P.length pc) := HX3.out.cell 1
  have f1 := HX3.out.free 1
  have hOw : Owned (w.heap.size + 2) d w3 (.slice a1 d.S.length c1) (.slice a2 d.P.length c2) := by
    refine ⟨w2.heap.size, ?_, fun g hg => ?_, own_mono (own_below HO1.out hb3) (by rw [HZ0.out]; exact Nat.le_refl _), hown3, hb3.size⟩
    · have := HZ0.out; have := HS2.out; omega
    · have := (HO1.out.lt g hg).2; omega
  have HO4 := Lib.hid (hOw.set w.heap.size 1 (by omega) (.slice a2 d.P.length c2)); have HX4 := Lib.hid (HX3.out.set 1 (.slice a2 d.P.length c2)); have HR4 := Lib.hid (HR3.out.other (c := w.heap.size) (i := 1) (by omega) (.slice a2 d.P.length c2)); have HB4 := Lib.hid (below_set HB3.out w.heap.size 1 (Nat.le_refl _) (.slice a2 d.P.length c2))
  clear hOw hown3 hb3
  go_upto_region 3 with (fail)
  generalize hW3 : w3.setCell ⟨w.heap.size, 1, none⟩ (.slice a2 d.P.length c2) = w4 at HO4 HX4 HR4 HB4 ⊢
  clear hW3 x1 f1
  have hX4 := HX4.out
  simp only [List.setIfInBounds_toArray, List.set_cons_zero, List.set_cons_succ] at hX4
  have x0 : w4.cell? ⟨w.heap.size, 0, none⟩ = some (.slice a1 d.S.length c1) := hX4.cell 0
  have x1 : w4.cell? ⟨w.heap.size, 1, none⟩ = some (.slice a2 d.P.length c2) := hX4.cell 1
  have x2 : w4.cell? ⟨w.heap.size, 2, none⟩ = some (.int .i64 d.fuse) := hX4.cell 2
  have x3 : w4.cell? ⟨w.heap.size, 3, none⟩ = some (.int .i64 d.ops) := hX4.cell 3
  have x4 : w4.cell? ⟨w.heap.size, 4, none⟩ = some (.bool d.dead) := hX4.cell 4
  clear hX4
  have r0 : w4.cell? ⟨w.heap.size + 1, 0, none⟩ = some (.slice none 0 0) := HR4.out.cell 0
  have r1 : w4.cell? ⟨w.heap.size + 1, 1, none⟩ = some (.slice none 0 0) := HR4.out.cell 1
  have r2 : w4.cell? ⟨w.heap.size + 1, 2, none⟩ = some (.int .i64 0) := HR4.out.cell 2
  have r3 : w4.cell? ⟨w.heap.size + 1, 3, none⟩ = some (.int .i64 0) := HR4.out.cell 3
  have r4 : w4.cell? ⟨w.heap.size + 1, 4, none⟩ = some (.bool false) := HR4.out.cell 4
  have g0 := HR4.out.free 0
  have g1 := HR4.out.free 1
  have g2 := HR4.out.free 2
  have g3 := HR4.out.free 3
  have g4 := HR4.out.free 4
  have KK := Lib.hid (HR4.out.sets (.slice a1 d.S.length c1) (.slice a2 d.P.length c2) (.int .i64 d.fuse) (.int .i64 d.ops) (.bool d.dead))
  go_wp2
  have k0 := KK.out.cell 0
  have k1 := KK.out.cell 1
  have k2 := KK.out.cell 2
  have k3 := KK.out.cell 3
  have k4 := KK.out.cell 4
  simp only [List.getElem?_toArray, List.getElem?_cons_zero, List.getElem?_cons_succ] at k0 k1 k2 k3 k4
  refine bodyPost_ret (v := .agg #[.slice a1 d.S.length c1, .slice a2 d.P.length c2, .int .i64 d.fuse, .int .i64 d.ops, .bool d.dead]) (by simp [results, Try.results60, go_sem, k0, k1, k2, k3, k4]) rfl ⟨a1, c1, a2, c2, rfl, ?_, ?_⟩
  · exact (HO4.out.sets (w.heap.size + 1) (by omega) _ _ _ _ _).mono (by omega)
  · exact below_sets HB4.out (w.heap.size + 1) (by omega) _ _ _ _ _
end Go.Proofs.Ytkpfkknldeafkaa

namespace Go.Proofs.Ytkpfkknldeafkaa
open Go.RowKit

set_option maxRecDepth 100000 in
set_option maxHeartbeats 4000000 in
theorem SBest_any (a b : List UInt8) (w : World) (ha : a.length ≤ 9223372036854775807) (hb : b.length ≤ 9223372036854775807) :
    Calls Try.prog 23 #[.string (bs a), .string (bs b)] w fun e w' => e = .returned (.tuple #[.agg (spV (bestS a b).1), .bool (bestS a b).2]) ∧ Below w.heap.size w w' := by
  have HR := Lib.hid (Bx.new w #[.int .i64 0, .int .i64 0, .int .i64 0, .int .i64 0, .int .i64 0] 23); have HB0 := Lib.hid ((Below.refl w.heap.size w).alloc (Nat.le_refl _) (.cells #[.int .i64 0, .int .i64 0, .int .i64 0, .int .i64 0, .int .i64 0] 23))
  obtain ⟨⟨x, e⟩, hx⟩ : ∃ r, decS a = r := ⟨_, rfl⟩
  obtain ⟨⟨y, f⟩, hy⟩ : ∃ r, decS b = r := ⟨_, rfl⟩
  have HX := Lib.hid hx; have HY := Lib.hid hy; clear hx hy
  have HYE := Lib.hid (show f ≠ 0 → y = sp0 by have := dec_err b; rw [HY.out] at this; exact this)
  go_enter Try.func23, Try.ntmps23
  go_wp2_with fail
  refine (SDecode_any a _ ha).mono ?_
  rw [HX.out]
  simp only [spV]
  rintro e1 w1 ⟨rfl, hb1⟩
  have hal := (Below.refl w1.heap.size w1).alloc (Nat.le_refl _) (.cells #[.int .i64 x.g, .int .i64 x.e, .int .i64 x.a, .int .i64 x.z, .int .i64 x.p] 23)
  have HR1 := Lib.hid ((HR.out.call hb1).alloc (.cells #[.int .i64 x.g, .int .i64 x.e, .int .i64 x.a, .int .i64 x.z, .int .i64 x.p] 23)); have HX1 := Lib.hid (Bx.new w1 #[.int .i64 x.g, .int .i64 x.e, .int .i64 x.a, .int .i64 x.z, .int .i64 x.p] 23); have HB1 := Lib.hid (btrans (btrans HB0.out HB0.out.size hb1) (btrans HB0.out HB0.out.size hb1).size hal); have z1 : w.heap.size < w1.heap.size := by have := hb1.size; simp at this; omega
  clear hb1 hal HR HB0
  go_wp2_with fail
  refine (SDecode_any b _ hb).mono ?_
  rw [HY.out]
  simp only [spV]
  rintro e2 w2 ⟨rfl, hb2⟩
  have hal := (Below.refl w2.heap.size w2).alloc (Nat.le_refl _) (.cells #[.int .i64 y.g, .int .i64 y.e, .int .i64 y.a, .int .i64 y.z, .int .i64 y.p] 23)
  have HR2 := Lib.hid ((HR1.out.call hb2).alloc (.cells #[.int .i64 y.g, .int .i64 y.e, .int .i64 y.a, .int .i64 y.z, .int .i64 y.p] 23)); have HX2 := Lib.hid ((HX1.out.call hb2).alloc (.cells #[.int .i64 y.g, .int .i64 y.e, .int .i64 y.a, .int .i64 y.z, .int .i64 y.p] 23)); have HY2 := Lib.hid (Bx.new w2 #[.int .i64 y.g, .int .i64 y.e, .int .i64 y.a, .int .i64 y.z, .int .i64 y.p] 23); have HB2 := Lib.hid (btrans (btrans HB1.out HB1.out.size hb2) (btrans HB1.out HB1.out.size hb2).size hal); have z2 : w1.heap.size < w2.heap.size := by have := hb2.size; simp at this; omega
  clear hb2 hal HR1 HX1 HB1
  go_upto_region 3 with (fail)
  generalize hW : w2.alloc (.cells #[.int .i64 y.g, .int .i64 y.e, .int .i64 y.a, .int .i64 y.z, .int .i64 y.p] 23) = w3 at HR2 HX2 HY2 HB2 ⊢
  clear hW
  have z3 : w2.heap.size < w3.heap.size := HY2.out.lt
  have x0 : w3.cell? ⟨w1.heap.size, 0, none⟩ = some (.int .i64 x.g) := HX2.out.cell 0
  have x1 : w3.cell? ⟨w1.heap.size, 1, none⟩ = some (.int .i64 x.e) := HX2.out.cell 1
  have x2 : w3.cell? ⟨w1.heap.size, 2, none⟩ = some (.int .i64 x.a) := HX2.out.cell 2
  have x3 : w3.cell? ⟨w1.heap.size, 3, none⟩ = some (.int .i64 x.z) := HX2.out.cell 3
  have x4 : w3.cell? ⟨w1.heap.size, 4, none⟩ = some (.int .i64 x.p) := HX2.out.cell 4
  have y0 : w3.cell? ⟨w2.heap.size, 0, none⟩ = some (.int .i64 y.g) := HY2.out.cell 0
  have y1 : w3.cell? ⟨w2.heap.size, 1, none⟩ = some (.int .i64 y.e) := HY2.out.cell 1
  have y2 : w3.cell? ⟨w2.heap.size, 2, none⟩ = some (.int .i64 y.a) := HY2.out.cell 2
  have y3 : w3.cell? ⟨w2.heap.size, 3, none⟩ = some (.int .i64 y.z) := HY2.out.cell 3
  have y4 : w3.cell? ⟨w2.heap.size, 4, none⟩ = some (.int .i64 y.p) := HY2.out.cell 4
  by_cases he : e = 0
  · by_cases hf : f = 0
    · by_cases hg : y.g ≤ x.g
      · skip
        have te : (e == 0) = true := by rw [he]; rfl
        have tf : (f != 0) = false := by rw [hf]; rfl
        have tf2 : (f == 0) = true := by rw [hf]; rfl
        have HE := Lib.hid he; have HF := Lib.hid hf; clear he hf
        have HW := Lib.hid (show bestS a b = (x, true) by unfold bestS; rw [HX.out, HY.out]; simp only; rw [if_pos ⟨HE.out, Or.inr hg⟩])
        have r0 : w3.cell? ⟨w.heap.size, 0, none⟩ = some (.int .i64 0) := HR2.out.cell 0
        have r1 : w3.cell? ⟨w.heap.size, 1, none⟩ = some (.int .i64 0) := HR2.out.cell 1
        have r2 : w3.cell? ⟨w.heap.size, 2, none⟩ = some (.int .i64 0) := HR2.out.cell 2
        have r3 : w3.cell? ⟨w.heap.size, 3, none⟩ = some (.int .i64 0) := HR2.out.cell 3
        have r4 : w3.cell? ⟨w.heap.size, 4, none⟩ = some (.int .i64 0) := HR2.out.cell 4
        have f0 := HR2.out.free 0
        have f1 := HR2.out.free 1
        have f2 := HR2.out.free 2
        have f3 := HR2.out.free 3
        have f4 := HR2.out.free 4
        have HK := Lib.hid (HR2.out.sets (.int .i64 x.g) (.int .i64 x.e) (.int .i64 x.a) (.int .i64 x.z) (.int .i64 x.p))
        go_wp2
        have k0 := HK.out.cell 0
        have k1 := HK.out.cell 1
        have k2 := HK.out.cell 2
        have k3 := HK.out.cell 3
        have k4 := HK.out.cell 4
        simp only [List.getElem?_toArray, List.getElem?_cons_zero, List.getElem?_cons_succ] at k0 k1 k2 k3 k4
        rw [HW.out]
        refine bodyPost_ret (v := .tuple #[.agg (spV x), .bool true]) (by simp [results, Try.results23, go_sem, spV, k0, k1, k2, k3, k4]) rfl ⟨rfl, ?_⟩
        exact below_sets HB2.out (w.heap.size) (by omega) _ _ _ _ _
      · have te : (e == 0) = true := by rw [he]; rfl
        have tf : (f != 0) = false := by rw [hf]; rfl
        have tf2 : (f == 0) = true := by rw [hf]; rfl
        have HE := Lib.hid he; have HF := Lib.hid hf; clear he hf
        have HW := Lib.hid (show bestS a b = (y, true) by unfold bestS; rw [HX.out, HY.out]; simp only; rw [if_neg (fun h => h.2.elim (fun h2 => h2 HF.out) hg), if_pos HF.out])
        have r0 : w3.cell? ⟨w.heap.size, 0, none⟩ = some (.int .i64 0) := HR2.out.cell 0
        have r1 : w3.cell? ⟨w.heap.size, 1, none⟩ = some (.int .i64 0) := HR2.out.cell 1
        have r2 : w3.cell? ⟨w.heap.size, 2, none⟩ = some (.int .i64 0) := HR2.out.cell 2
        have r3 : w3.cell? ⟨w.heap.size, 3, none⟩ = some (.int .i64 0) := HR2.out.cell 3
        have r4 : w3.cell? ⟨w.heap.size, 4, none⟩ = some (.int .i64 0) := HR2.out.cell 4
        have f0 := HR2.out.free 0
        have f1 := HR2.out.free 1
        have f2 := HR2.out.free 2
        have f3 := HR2.out.free 3
        have f4 := HR2.out.free 4
        have HK := Lib.hid (HR2.out.sets (.int .i64 y.g) (.int .i64 y.e) (.int .i64 y.a) (.int .i64 y.z) (.int .i64 y.p))
        go_wp2
        have k0 := HK.out.cell 0
        have k1 := HK.out.cell 1
        have k2 := HK.out.cell 2
        have k3 := HK.out.cell 3
        have k4 := HK.out.cell 4
        simp only [List.getElem?_toArray, List.getElem?_cons_zero, List.getElem?_cons_succ] at k0 k1 k2 k3 k4
        rw [HW.out]
        refine bodyPost_ret (v := .tuple #[.agg (spV y), .bool true]) (by simp [results, Try.results23, go_sem, spV, k0, k1, k2, k3, k4]) rfl ⟨rfl, ?_⟩
        exact below_sets HB2.out (w.heap.size) (by omega) _ _ _ _ _
    · have te : (e == 0) = true := by rw [he]; rfl
      have tf : (f != 0) = true := by rw [bne_iff_ne]; exact hf
      have tf2 : (f == 0) = false := by rw [beq_eq_false_iff_ne]; exact hf
      have HE := Lib.hid he; have HF := Lib.hid hf; clear he hf
      have HW := Lib.hid (show bestS a b = (x, true) by unfold bestS; rw [HX.out, HY.out]; simp only; rw [if_pos ⟨HE.out, Or.inl HF.out⟩])
      have r0 : w3.cell? ⟨w.heap.size, 0, none⟩ = some (.int .i64 0) := HR2.out.cell 0
      have r1 : w3.cell? ⟨w.heap.size, 1, none⟩ = some (.int .i64 0) := HR2.out.cell 1
      have r2 : w3.cell? ⟨w.heap.size, 2, none⟩ = some (.int .i64 0) := HR2.out.cell 2
      have r3 : w3.cell? ⟨w.heap.size, 3, none⟩ = some (.int .i64 0) := HR2.out.cell 3
      have r4 : w3.cell? ⟨w.heap.size, 4, none⟩ = some (.int .i64 0) := HR2.out.cell 4
      have f0 := HR2.out.free 0
      have f1 := HR2.out.free 1
      have f2 := HR2.out.free 2
      have f3 := HR2.out.free 3
      have f4 := HR2.out.free 4
      have HK := Lib.hid (HR2.out.sets (.int .i64 x.g) (.int .i64 x.e) (.int .i64 x.a) (.int .i64 x.z) (.int .i64 x.p))
      go_wp2
      have k0 := HK.out.cell 0
      have k1 := HK.out.cell 1
      have k2 := HK.out.cell 2
      have k3 := HK.out.cell 3
      have k4 := HK.out.cell 4
      simp only [List.getElem?_toArray, List.getElem?_cons_zero, List.getElem?_cons_succ] at k0 k1 k2 k3 k4
      rw [HW.out]
      refine bodyPost_ret (v := .tuple #[.agg (spV x), .bool true]) (by simp [results, Try.results23, go_sem, spV, k0, k1, k2, k3, k4]) rfl ⟨rfl, ?_⟩
      exact below_sets HB2.out (w.heap.size) (by omega) _ _ _ _ _
  · have te : (e == 0) = false := by rw [beq_eq_false_iff_ne]; exact he
    by_cases hf : f = 0
    · have tf : (f != 0) = false := by rw [hf]; rfl
      have tf2 : (f == 0) = true := by rw [hf]; rfl
      have HE := Lib.hid he; have HF := Lib.hid hf; clear he hf
      have HW := Lib.hid (show bestS a b = (y, true) by unfold bestS; rw [HX.out, HY.out]; simp only; rw [if_neg (fun h => HE.out h.1), if_pos HF.out])
      have r0 : w3.cell? ⟨w.heap.size, 0, none⟩ = some (.int .i64 0) := HR2.out.cell 0
      have r1 : w3.cell? ⟨w.heap.size, 1, none⟩ = some (.int .i64 0) := HR2.out.cell 1
      have r2 : w3.cell? ⟨w.heap.size, 2, none⟩ = some (.int .i64 0) := HR2.out.cell 2
      have r3 : w3.cell? ⟨w.heap.size, 3, none⟩ = some (.int .i64 0) := HR2.out.cell 3
      have r4 : w3.cell? ⟨w.heap.size, 4, none⟩ = some (.int .i64 0) := HR2.out.cell 4
      have f0 := HR2.out.free 0
      have f1 := HR2.out.free 1
      have f2 := HR2.out.free 2
      have f3 := HR2.out.free 3
      have f4 := HR2.out.free 4
      have HK := Lib.hid (HR2.out.sets (.int .i64 y.g) (.int .i64 y.e) (.int .i64 y.a) (.int .i64 y.z) (.int .i64 y.p))
      go_wp2
      have k0 := HK.out.cell 0
      have k1 := HK.out.cell 1
      have k2 := HK.out.cell 2
      have k3 := HK.out.cell 3
      have k4 := HK.out.cell 4
      simp only [List.getElem?_toArray, List.getElem?_cons_zero, List.getElem?_cons_succ] at k0 k1 k2 k3 k4
      rw [HW.out]
      refine bodyPost_ret (v := .tuple #[.agg (spV y), .bool true]) (by simp [results, Try.results23, go_sem, spV, k0, k1, k2, k3, k4]) rfl ⟨rfl, ?_⟩
      exact below_sets HB2.out (w.heap.size) (by omega) _ _ _ _ _
    · obtain rfl : y = sp0 := HYE.out hf
      have tf : (f != 0) = true := by rw [bne_iff_ne]; exact hf
      have tf2 : (f == 0) = false := by rw [beq_eq_false_iff_ne]; exact hf
      have HE := Lib.hid he; have HF := Lib.hid hf; clear he hf
      simp only [sp0] at *
      have HW := Lib.hid (show bestS a b = (sp0, false) by unfold bestS; rw [HX.out, HY.out]; simp only; rw [if_neg (fun h => HE.out h.1), if_neg HF.out])
      have r0 : w3.cell? ⟨w.heap.size, 0, none⟩ = some (.int .i64 0) := HR2.out.cell 0
      have r1 : w3.cell? ⟨w.heap.size, 1, none⟩ = some (.int .i64 0) := HR2.out.cell 1
      have r2 : w3.cell? ⟨w.heap.size, 2, none⟩ = some (.int .i64 0) := HR2.out.cell 2
      have r3 : w3.cell? ⟨w.heap.size, 3, none⟩ = some (.int .i64 0) := HR2.out.cell 3
      have r4 : w3.cell? ⟨w.heap.size, 4, none⟩ = some (.int .i64 0) := HR2.out.cell 4
      have f0 := HR2.out.free 0
      have f1 := HR2.out.free 1
      have f2 := HR2.out.free 2
      have f3 := HR2.out.free 3
      have f4 := HR2.out.free 4
      have HK := Lib.hid (HR2.out.sets (.int .i64 0) (.int .i64 0) (.int .i64 0) (.int .i64 0) (.int .i64 0))
      go_wp2
      have k0 := HK.out.cell 0
      have k1 := HK.out.cell 1
      have k2 := HK.out.cell 2
      have k3 := HK.out.cell 3
      have k4 := HK.out.cell 4
      simp only [List.getElem?_toArray, List.getElem?_cons_zero, List.getElem?_cons_succ] at k0 k1 k2 k3 k4
      rw [HW.out]
      refine bodyPost_ret (v := .tuple #[.agg (spV sp0), .bool false]) (by simp [results, Try.results23, go_sem, spV, sp0, k0, k1, k2, k3, k4]) rfl ⟨rfl, ?_⟩
      exact below_sets HB2.out (w.heap.size) (by omega) _ _ _ _ _
set_option maxRecDepth 100000 in
set_option maxHeartbeats 4000000 in
theorem RSBest_any (a b : List UInt8) (w : World) (ha : a.length ≤ 9223372036854775807) (hb : b.length ≤ 9223372036854775807) :
    Calls Try.prog 24 #[.string (bs a), .string (bs b)] w fun e w' => e = .returned (.tuple #[.agg (spV (bestS a b).1), .bool (bestS a b).2]) ∧ Below w.heap.size w w' := by
  have HR := Lib.hid (Bx.new w #[.int .i64 0, .int .i64 0, .int .i64 0, .int .i64 0, .int .i64 0] 23); have HB0 := Lib.hid ((Below.refl w.heap.size w).alloc (Nat.le_refl _) (.cells #[.int .i64 0, .int .i64 0, .int .i64 0, .int .i64 0, .int .i64 0] 23))
  obtain ⟨⟨x, e⟩, hx⟩ : ∃ r, decS a = r := ⟨_, rfl⟩
  obtain ⟨⟨y, f⟩, hy⟩ : ∃ r, decS b = r := ⟨_, rfl⟩
  have HX := Lib.hid hx; have HY := Lib.hid hy; clear hx hy
  have HYE := Lib.hid (show f ≠ 0 → y = sp0 by have := dec_err b; rw [HY.out] at this; exact this)
  go_enter Try.func24, Try.ntmps24
  go_wp2_with fail
  refine (RSDecode_any a _ ha).mono ?_
  rw [HX.out]
  simp only [spV]
  rintro e1 w1 ⟨rfl, hb1⟩
  have hal := (Below.refl w1.heap.size w1).alloc (Nat.le_refl _) (.cells #[.int .i64 x.g, .int .i64 x.e, .int .i64 x.a, .int .i64 x.z, .int .i64 x.p] 23)
  have HR1 := Lib.hid ((HR.out.call hb1).alloc (.cells #[.int .i64 x.g, .int .i64 x.e, .int .i64 x.a, .int .i64 x.z, .int .i64 x.p] 23)); have HX1 := Lib.hid (Bx.new w1 #[.int .i64 x.g, .int .i64 x.e, .int .i64 x.a, .int .i64 x.z, .int .i64 x.p] 23); have HB1 := Lib.hid (btrans (btrans HB0.out HB0.out.size hb1) (btrans HB0.out HB0.out.size hb1).size hal); have z1 : w.heap.size < w1.heap.size := by have := hb1.size; simp at this; omega
  clear hb1 hal HR HB0
  go_wp2_with fail
  refine (RSDecode_any b _ hb).mono ?_
  rw [HY.out]
  simp only [spV]
  rintro e2 w2 ⟨rfl, hb2⟩
  have hal := (Below.refl w2.heap.size w2).alloc (Nat.le_refl _) (.cells #[.int .i64 y.g, .int .i64 y.e, .int .i64 y.a, .int .i64 y.z, .int .i64 y.p] 23)
  have HR2 := Lib.hid ((HR1.out.call hb2).alloc (.cells #[.int .i64 y.g, .int .i64 y.e, .int .i64 y.a, .int .i64 y.z, .int .i64 y.p] 23)); have HX2 := Lib.hid ((HX1.out.call hb2).alloc (.cells #[.int .i64 y.g, .int .i64 y.e, .int .i64 y.a, .int .i64 y.z, .int .i64 y.p] 23)); have HY2 := Lib.hid (Bx.new w2 #[.int .i64 y.g, .int .i64 y.e, .int .i64 y.a, .int .i64 y.z, .int .i64 y.p] 23); have HB2 := Lib.hid (btrans (btrans HB1.out HB1.out.size hb2) (btrans HB1.out HB1.out.size hb2).size hal); have z2 : w1.heap.size < w2.heap.size := by have := hb2.size; simp at this; omega
  clear hb2 hal HR1 HX1 HB1
  go_upto_region 3 with (fail)
  generalize hW : w2.alloc (.cells #[.int .i64 y.g, .int .i64 y.e, .int .i64 y.a, .int .i64 y.z, .int .i64 y.p] 23) = w3 at HR2 HX2 HY2 HB2 ⊢
  clear hW
  have z3 : w2.heap.size < w3.heap.size := HY2.out.lt
  have x0 : w3.cell? ⟨w1.heap.size, 0, none⟩ = some (.int .i64 x.g) := HX2.out.cell 0
  have x1 : w3.cell? ⟨w1.heap.size, 1, none⟩ = some (.int .i64 x.e) := HX2.out.cell 1
  have x2 : w3.cell? ⟨w1.heap.size, 2, none⟩ = some (.int .i64 x.a) := HX2.out.cell 2
  have x3 : w3.cell? ⟨w1.heap.size, 3, none⟩ = some (.int .i64 x.z) := HX2.out.cell 3
  have x4 : w3.cell? ⟨w1.heap.size, 4, none⟩ = some (.int .i64 x.p) := HX2.out.cell 4
  have y0 : w3.cell? ⟨w2.heap.size, 0, none⟩ = some (.int .i64 y.g) := HY2.out.cell 0
  have y1 : w3.cell? ⟨w2.heap.size, 1, none⟩ = some (.int .i64 y.e) := HY2.out.cell 1
  have y2 : w3.cell? ⟨w2.heap.size, 2, none⟩ = some (.int .i64 y.a) := HY2.out.cell 2
  have y3 : w3.cell? ⟨w2.heap.size, 3, none⟩ = some (.int .i64 y.z) := HY2.out.cell 3
  have y4 : w3.cell? ⟨w2.heap.size, 4, none⟩ = some (.int .i64 y.p) := HY2.out.cell 4
  by_cases he : e = 0
  · by_cases hf : f = 0
    · by_cases hg : y.g ≤ x.g
      · skip
        have te : (e == 0) = true := by rw [he]; rfl
        have tf : (f != 0) = false := by rw [hf]; rfl
        have tf2 : (f == 0) = true := by rw [hf]; rfl
        have HE := Lib.hid he; have HF := Lib.hid hf; clear he hf
        have HW := Lib.hid (show bestS a b = (x, true) by unfold bestS; rw [HX.out, HY.out]; simp only; rw [if_pos ⟨HE.out, Or.inr hg⟩])
        have r0 : w3.cell? ⟨w.heap.size, 0, none⟩ = some (.int .i64 0) := HR2.out.cell 0
        have r1 : w3.cell? ⟨w.heap.size, 1, none⟩ = some (.int .i64 0) := HR2.out.cell 1
        have r2 : w3.cell? ⟨w.heap.size, 2, none⟩ = some (.int .i64 0) := HR2.out.cell 2
        have r3 : w3.cell? ⟨w.heap.size, 3, none⟩ = some (.int .i64 0) := HR2.out.cell 3
        have r4 : w3.cell? ⟨w.heap.size, 4, none⟩ = some (.int .i64 0) := HR2.out.cell 4
        have f0 := HR2.out.free 0
        have f1 := HR2.out.free 1
        have f2 := HR2.out.free 2
        have f3 := HR2.out.free 3
        have f4 := HR2.out.free 4
        have HK := Lib.hid (HR2.out.sets (.int .i64 x.g) (.int .i64 x.e) (.int .i64 x.a) (.int .i64 x.z) (.int .i64 x.p))
        go_wp2
        have k0 := HK.out.cell 0
        have k1 := HK.out.cell 1
        have k2 := HK.out.cell 2
        have k3 := HK.out.cell 3
        have k4 := HK.out.cell 4
        simp only [List.getElem?_toArray, List.getElem?_cons_zero, List.getElem?_cons_succ] at k0 k1 k2 k3 k4
        rw [HW.out]
        refine bodyPost_ret (v := .tuple #[.agg (spV x), .bool true]) (by simp [results, Try.results24, go_sem, spV, k0, k1, k2, k3, k4]) rfl ⟨rfl, ?_⟩
        exact below_sets HB2.out (w.heap.size) (by omega) _ _ _ _ _
      · have te : (e == 0) = true := by rw [he]; rfl
        have tf : (f != 0) = false := by rw [hf]; rfl
        have tf2 : (f == 0) = true := by rw [hf]; rfl
        have HE := Lib.hid he; have HF := Lib.hid hf; clear he hf
        have HW := Lib.hid (show bestS a b = (y, true) by unfold bestS; rw [HX.out, HY.out]; simp only; rw [if_neg (fun h => h.2.elim (fun h2 => h2 HF.out) hg), if_pos HF.out])
        have r0 : w3.cell? ⟨w.heap.size, 0, none⟩ = some (.int .i64 0) := HR2.out.cell 0
        have r1 : w3.cell? ⟨w.heap.size, 1, none⟩ = some (.int .i64 0) := HR2.out.cell 1
        have r2 : w3.cell? ⟨w.heap.size, 2, none⟩ = some (.int .i64 0) := HR2.out.cell 2
        have r3 : w3.cell? ⟨w.heap.size, 3, none⟩ = some (.int .i64 0) := HR2.out.cell 3
        have r4 : w3.cell? ⟨w.heap.size, 4, none⟩ = some (.int .i64 0) := HR2.out.cell 4
        have f0 := HR2.out.free 0
        have f1 := HR2.out.free 1
        have f2 := HR2.out.free 2
        have f3 := HR2.out.free 3
        have f4 := HR2.out.free 4
        have HK := Lib.hid (HR2.out.sets (.int .i64 y.g) (.int .i64 y.e) (.int .i64 y.a) (.int .i64 y.z) (.int .i64 y.p))
        go_wp2
        have k0 := HK.out.cell 0
        have k1 := HK.out.cell 1
        have k2 := HK.out.cell 2
        have k3 := HK.out.cell 3
        have k4 := HK.out.cell 4
        simp only [List.getElem?_toArray, List.getElem?_cons_zero, List.getElem?_cons_succ] at k0 k1 k2 k3 k4
        rw [HW.out]
        refine bodyPost_ret (v := .tuple #[.agg (spV y), .bool true]) (by simp [results, Try.results24, go_sem, spV, k0, k1, k2, k3, k4]) rfl ⟨rfl, ?_⟩
        exact below_sets HB2.out (w.heap.size) (by omega) _ _ _ _ _
    · have te : (e == 0) = true := by rw [he]; rfl
      have tf : (f != 0) = true := by rw [bne_iff_ne]; exact hf
      have tf2 : (f == 0) = false := by rw [beq_eq_false_iff_ne]; exact hf
      have HE := Lib.hid he; have HF := Lib.hid hf; clear he hf
      have HW := Lib.hid (show bestS a b = (x, true) by unfold bestS; rw [HX.out, HY.out]; simp only; rw [if_pos ⟨HE.out, Or.inl HF.out⟩])
      have r0 : w3.cell? ⟨w.heap.size, 0, none⟩ = some (.int .i64 0) := HR2.out.cell 0
      have r1 : w3.cell? ⟨w.heap.size, 1, none⟩ = some (.int .i64 0) := HR2.out.cell 1
      have r2 : w3.cell? ⟨w.heap.size, 2, none⟩ = some (.int .i64 0) := HR2.out.cell 2
      have r3 : w3.cell? ⟨w.heap.size, 3, none⟩ = some (.int .i64 0) := HR2.out.cell 3
      have r4 : w3.cell? ⟨w.heap.size, 4, none⟩ = some (.int .i64 0) := HR2.out.cell 4
      have f0 := HR2.out.free 0
      have f1 := HR2.out.free 1
      have f2 := HR2.out.free 2
      have f3 := HR2.out.free 3
      have f4 := HR2.out.free 4
      have HK := Lib.hid (HR2.out.sets (.int .i64 x.g) (.int .i64 x.e) (.int .i64 x.a) (.int .i64 x.z) (.int .i64 x.p))
      go_wp2
      have k0 := HK.out.cell 0
      have k1 := HK.out.cell 1
      have k2 := HK.out.cell 2
      have k3 := HK.out.cell 3
      have k4 := HK.out.cell 4
      simp only [List.getElem?_toArray, List.getElem?_cons_zero, List.getElem?_cons_succ] at k0 k1 k2 k3 k4
      rw [HW.out]
      refine bodyPost_ret (v := .tuple #[.agg (spV x), .bool true]) (by simp [results, Try.results24, go_sem, spV, k0, k1, k2, k3, k4]) rfl ⟨rfl, ?_⟩
      exact below_sets HB2.out (w.heap.size) (by omega) _ _ _ _ _
  · have te : (e == 0) = false := by rw [beq_eq_false_iff_ne]; exact he
    by_cases hf : f = 0
    · have tf : (f != 0) = false := by rw [hf]; rfl
      have tf2 : (f == 0) = true := by rw [hf]; rfl
      have HE := Lib.hid he; have HF := Lib.hid hf; clear he hf
      have HW := Lib.hid (show bestS a b = (y, true) by unfold bestS; rw [HX.out, HY.out]; simp only; rw [if_neg (fun h => HE.out h.1), if_pos HF.out])
      have r0 : w3.cell? ⟨w.heap.size, 0, none⟩ = some (.int .i64 0) := HR2.out.cell 0
      have r1 : w3.cell? ⟨w.heap.size, 1, none⟩ = some (.int .i64 0) := HR2.out.cell 1
      have r2 : w3.cell? ⟨w.heap.size, 2, none⟩ = some (.int .i64 0) := HR2.out.cell 2
      have r3 : w3.cell? ⟨w.heap.size, 3, none⟩ = some (.int .i64 0) := HR2.out.cell 3
      have r4 : w3.cell? ⟨w.heap.size, 4, none⟩ = some (.int .i64 0) := HR2.out.cell 4
      have f0 := HR2.out.free 0
      have f1 := HR2.out.free 1
      have f2 := HR2.out.free 2
      have f3 := HR2.out.free 3
      have f4 := HR2.out.free 4
      have HK := Lib.hid (HR2.out.sets (.int .i64 y.g) (.int .i64 y.e) (.int .i64 y.a) (.int .i64 y.z) (.int .i64 y.p))
      go_wp2
      have k0 := HK.out.cell 0
      have k1 := HK.out.cell 1
      have k2 := HK.out.cell 2
      have k3 := HK.out.cell 3
      have k4 := HK.out.cell 4
      simp only [List.getElem?_toArray, List.getElem?_cons_zero, List.getElem?_cons_succ] at k0 k1 k2 k3 k4
      rw [HW.out]
      refine bodyPost_ret (v := .tuple #[.agg (spV y), .bool true]) (by simp [results, Try.results24, go_sem, spV, k0, k1, k2, k3, k4]) rfl ⟨rfl, ?_⟩
      exact below_sets HB2.out (w.heap.size) (by omega) _ _ _ _ _
    · obtain rfl : y = sp0 := HYE.out hf
      have tf : (f != 0) = true := by rw [bne_iff_ne]; exact hf
      have tf2 : (f == 0) = false := by rw [beq_eq_false_iff_ne]; exact hf
      have HE := Lib.hid he; have HF := Lib.hid hf; clear he hf
      simp only [sp0] at *
      have HW := Lib.hid (show bestS a b = (sp0, false) by unfold bestS; rw [HX.out, HY.out]; simp only; rw [if_neg (fun h => HE.out h.1), if_neg HF.out])
      have r0 : w3.cell? ⟨w.heap.size, 0, none⟩ = some (.int .i64 0) := HR2.out.cell 0
      have r1 : w3.cell? ⟨w.heap.size, 1, none⟩ = some (.int .i64 0) := HR2.out.cell 1
      have r2 : w3.cell? ⟨w.heap.size, 2, none⟩ = some (.int .i64 0) := HR2.out.cell 2
      have r3 : w3.cell? ⟨w.heap.size, 3, none⟩ = some (.int .i64 0) := HR2.out.cell 3
      have r4 : w3.cell? ⟨w.heap.size, 4, none⟩ = some (.int .i64 0) := HR2.out.cell 4
      have f0 := HR2.out.free 0
      have f1 := HR2.out.free 1
      have f2 := HR2.out.free 2
      have f3 := HR2.out.free 3
      have f4 := HR2.out.free 4
      have HK := Lib.hid (HR2.out.sets (.int .i64 0) (.int .i64 0) (.int .i64 0) (.int .i64 0) (.int .i64 0))
      go_wp2
      have k0 := HK.out.cell 0
      have k1 := HK.out.cell 1
      have k2 := HK.out.cell 2
      have k3 := HK.out.cell 3
      have k4 := HK.out.cell 4
      simp only [List.getElem?_toArray, List.getElem?_cons_zero, List.getElem?_cons_succ] at k0 k1 k2 k3 k4
      rw [HW.out]
      refine bodyPost_ret (v := .tuple #[.agg (spV sp0), .bool false]) (by simp [results, Try.results24, go_sem, spV, sp0, k0, k1, k2, k3, k4]) rfl ⟨rfl, ?_⟩
      exact below_sets HB2.out (w.heap.size) (by omega) _ _ _ _ _
theorem lastW_len {s : List UInt8} {P : List (Int × List UInt8)} {at_ : Int} (hs : s.length = 64) (hP : ∀ x ∈ P, x.2.length = 64) : (lastW s P at_).length = 64 := by
  unfold lastW
  induction P generalizing s with
  | nil => exact hs
  | cons x r ih =>
    rw [List.foldl_cons]
    refine ih ?_ (fun y hy => hP y (by simp [hy]))
    split
    · exact hP x (by simp)
    · exact hs
theorem read_len (d : Dk) (n : Int) : (readS d n).1.length ≤ 9223372036854775807 := by
  unfold readS
  split
  · rename_i h
    obtain ⟨h1, h2⟩ := h
    split
    · simp
    · obtain ⟨_, hs, hp⟩ := (validB_iff d).1 h1
      unfold hasB at h2
      simp only [Bool.and_eq_true, decide_eq_true_eq] at h2
      have hlt : n.toNat < d.S.length := by omega
      have := lastW_len (s := d.S.getD n.toNat []) (P := d.P) (at_ := n) (by rw [List.getD_eq_getElem?_getD, List.getElem?_eq_getElem hlt]; exact hs _ (List.getElem_mem hlt)) (fun x hx => (hp x hx).2.2)
      simp only; omega
  · simp
theorem read_both (d : Dk) : (readS d 0).2 = 0 → (readS d 1).2 = 0 := by
  intro h
  unfold readS at h ⊢
  by_cases h1 : validB d = true ∧ hasB d 0 = true
  · rw [if_pos h1] at h
    have hS := ((numsB_iff d).1 ((validB_iff d).1 h1.1).1).1
    have h2 : hasB d 1 = true := by unfold hasB; simp; omega
    rw [if_pos ⟨h1.1, h2⟩]
    split at h
    · simp at h
    · rename_i hd; rw [if_neg hd]
  · rw [if_neg h1] at h; simp at h

set_option maxRecDepth 100000 in
set_option maxHeartbeats 4000000 in
theorem SLoad_any (sa pa : Option Addr) (sc pc : Nat) (d : Dk) (w : World) (hD : Lists w sa sc pa pc d) :
    Calls Try.prog 26 #[.agg #[.slice sa d.S.length sc, .slice pa d.P.length pc, .int .i64 d.fuse, .int .i64 d.ops, .bool d.dead]] w fun e w' => e = .returned (.tuple #[.agg (spV (loadS d).1), .int .i64 (loadS d).2]) ∧ Below w.heap.size w w' := by
  have HX := Lib.hid ((Bx.new w #[.slice sa d.S.length sc, .slice pa d.P.length pc, .int .i64 d.fuse, .int .i64 d.ops, .bool d.dead] 38).alloc (.cells #[.int .i64 0, .int .i64 0, .int .i64 0, .int .i64 0, .int .i64 0] 23)); have HR := Lib.hid (Bx.new1 w (.cells #[.slice sa d.S.length sc, .slice pa d.P.length pc, .int .i64 d.fuse, .int .i64 d.ops, .bool d.dead] 38) #[.int .i64 0, .int .i64 0, .int .i64 0, .int .i64 0, .int .i64 0] 23); have HB0 := Lib.hid (((Below.refl w.heap.size w).alloc (Nat.le_refl _) (.cells #[.slice sa d.S.length sc, .slice pa d.P.length pc, .int .i64 d.fuse, .int .i64 d.ops, .bool d.dead] 38)).alloc (by simp) (.cells #[.int .i64 0, .int .i64 0, .int .i64 0, .int .i64 0, .int .i64 0] 23))
  have HD := Lib.hid (hD.below (HB0.out.mono (Nat.le_refl _))); have HDw := Lib.hid hD; clear hD
  obtain ⟨⟨a, e⟩, ha⟩ : ∃ r, readS d 0 = r := ⟨_, rfl⟩
  obtain ⟨⟨b, f⟩, hb⟩ : ∃ r, readS d 1 = r := ⟨_, rfl⟩
  obtain ⟨⟨x, ok⟩, hx⟩ : ∃ r, bestS a b = r := ⟨_, rfl⟩
  have la := read_len d 0; have lb := read_len d 1; have hrr := read_both d
  rw [ha] at la hrr; rw [hb] at lb hrr
  simp only at la lb hrr
  have HA := Lib.hid ha; have HB := Lib.hid hb; have HBE := Lib.hid hx; have HRR := Lib.hid hrr; clear ha hb hx hrr
  have x0 : ((w.alloc (.cells #[.slice sa d.S.length sc, .slice pa d.P.length pc, .int .i64 d.fuse, .int .i64 d.ops, .bool d.dead] 38)).alloc (.cells #[.int .i64 0, .int .i64 0, .int .i64 0, .int .i64 0, .int .i64 0] 23)).cell? ⟨w.heap.size, 0, none⟩ = some (.slice sa d.S.length sc) := HX.out.cell 0
  have x1 : ((w.alloc (.cells #[.slice sa d.S.length sc, .slice pa d.P.length pc, .int .i64 d.fuse, .int .i64 d.ops, .bool d.dead] 38)).alloc (.cells #[.int .i64 0, .int .i64 0, .int .i64 0, .int .i64 0, .int .i64 0] 23)).cell? ⟨w.heap.size, 1, none⟩ = some (.slice pa d.P.length pc) := HX.out.cell 1
  have x2 : ((w.alloc (.cells #[.slice sa d.S.length sc, .slice pa d.P.length pc, .int .i64 d.fuse, .int .i64 d.ops, .bool d.dead] 38)).alloc (.cells #[.int .i64 0, .int .i64 0, .int .i64 0, .int .i64 0, .int .i64 0] 23)).cell? ⟨w.heap.size, 2, none⟩ = some (.int .i64 d.fuse) := HX.out.cell 2
  have x3 : ((w.alloc (.cells #[.slice sa d.S.length sc, .slice pa d.P.length pc, .int .i64 d.fuse, .int .i64 d.ops, .bool d.dead] 38)).alloc (.cells #[.int .i64 0, .int .i64 0, .int .i64 0, .int .i64 0, .int .i64 0] 23)).cell? ⟨w.heap.size, 3, none⟩ = some (.int .i64 d.ops) := HX.out.cell 3
  have x4 : ((w.alloc (.cells #[.slice sa d.S.length sc, .slice pa d.P.length pc, .int .i64 d.fuse, .int .i64 d.ops, .bool d.dead] 38)).alloc (.cells #[.int .i64 0, .int .i64 0, .int .i64 0, .int .i64 0, .int .i64 0] 23)).cell? ⟨w.heap.size, 4, none⟩ = some (.bool d.dead) := HX.out.cell 4
  go_enter Try.func26, Try.ntmps26
  go_wp2_with fail
  refine (Read_any _ _ _ _ d 0 _ HD.out).mono ?_
  rw [HA.out]
  rintro e1 w1 ⟨rfl, hb1⟩
  clear x0 x1 x2 x3 x4
  have HX1 := Lib.hid (HX.out.call hb1); have HR1 := Lib.hid (HR.out.call hb1); have HD1 := Lib.hid (HD.out.below hb1); have HB1 := Lib.hid (btrans HB0.out HB0.out.size hb1); clear hb1
  by_cases he : e = 0
  · have te : (e != 0) = false := by rw [he]; rfl
    have hf : f = 0 := HRR.out he
    have HE := Lib.hid he; have HF := Lib.hid hf; have tf : (f != 0) = false := by rw [hf]; rfl
    clear he hf
    have x0 : w1.cell? ⟨w.heap.size, 0, none⟩ = some (.slice sa d.S.length sc) := HX1.out.cell 0
    have x1 : w1.cell? ⟨w.heap.size, 1, none⟩ = some (.slice pa d.P.length pc) := HX1.out.cell 1
    have x2 : w1.cell? ⟨w.heap.size, 2, none⟩ = some (.int .i64 d.fuse) := HX1.out.cell 2
    have x3 : w1.cell? ⟨w.heap.size, 3, none⟩ = some (.int .i64 d.ops) := HX1.out.cell 3
    have x4 : w1.cell? ⟨w.heap.size, 4, none⟩ = some (.bool d.dead) := HX1.out.cell 4
    go_wp2_with fail
    refine (Read_any _ _ _ _ d 1 _ HD1.out).mono ?_
    rw [HB.out]
    rintro e2 w2 ⟨rfl, hb2⟩
    clear x0 x1 x2 x3 x4
    have HR2 := Lib.hid (HR1.out.call hb2); have HB2 := Lib.hid (btrans HB1.out HB1.out.size hb2); clear hb2
    go_wp2_with fail
    refine (SBest_any a b _ la lb).mono ?_
    rw [HBE.out]
    simp only [spV]
    rintro e3 w3 ⟨rfl, hb3⟩
    have hal := (Below.refl w3.heap.size w3).alloc (Nat.le_refl _) (.cells #[.int .i64 x.g, .int .i64 x.e, .int .i64 x.a, .int .i64 x.z, .int .i64 x.p] 23)
    have HR3 := Lib.hid ((HR2.out.call hb3).alloc (.cells #[.int .i64 x.g, .int .i64 x.e, .int .i64 x.a, .int .i64 x.z, .int .i64 x.p] 23)); have HX3 := Lib.hid (Bx.new w3 #[.int .i64 x.g, .int .i64 x.e, .int .i64 x.a, .int .i64 x.z, .int .i64 x.p] 23); have HB3 := Lib.hid (btrans (btrans HB2.out HB2.out.size hb3) (btrans HB2.out HB2.out.size hb3).size hal)
    clear hb3 hal
    go_upto_region 8 with (fail)
    generalize hW : w3.alloc (.cells #[.int .i64 x.g, .int .i64 x.e, .int .i64 x.a, .int .i64 x.z, .int .i64 x.p] 23) = w4 at HR3 HX3 HB3 ⊢
    clear hW
    have z4 : w3.heap.size < w4.heap.size := HX3.out.lt
    have zr := HR3.out.lt
    have x0 : w4.cell? ⟨w3.heap.size, 0, none⟩ = some (.int .i64 x.g) := HX3.out.cell 0
    have x1 : w4.cell? ⟨w3.heap.size, 1, none⟩ = some (.int .i64 x.e) := HX3.out.cell 1
    have x2 : w4.cell? ⟨w3.heap.size, 2, none⟩ = some (.int .i64 x.a) := HX3.out.cell 2
    have x3 : w4.cell? ⟨w3.heap.size, 3, none⟩ = some (.int .i64 x.z) := HX3.out.cell 3
    have x4 : w4.cell? ⟨w3.heap.size, 4, none⟩ = some (.int .i64 x.p) := HX3.out.cell 4
    cases ok with
    | true =>
      have HW := Lib.hid (show loadS d = (x, 0) by unfold loadS; rw [HA.out, HB.out]; simp only; rw [if_neg (by rw [HE.out]; simp), if_neg (by rw [HF.out]; simp), HBE.out]; simp only; rw [if_pos trivial])
      have r0 : w4.cell? ⟨w.heap.size + 1, 0, none⟩ = some (.int .i64 0) := HR3.out.cell 0
      have r1 : w4.cell? ⟨w.heap.size + 1, 1, none⟩ = some (.int .i64 0) := HR3.out.cell 1
      have r2 : w4.cell? ⟨w.heap.size + 1, 2, none⟩ = some (.int .i64 0) := HR3.out.cell 2
      have r3 : w4.cell? ⟨w.heap.size + 1, 3, none⟩ = some (.int .i64 0) := HR3.out.cell 3
      have r4 : w4.cell? ⟨w.heap.size + 1, 4, none⟩ = some (.int .i64 0) := HR3.out.cell 4
      have f0 := HR3.out.free 0
      have f1 := HR3.out.free 1
      have f2 := HR3.out.free 2
      have f3 := HR3.out.free 3
      have f4 := HR3.out.free 4
      have HK := Lib.hid (HR3.out.sets (.int .i64 x.g) (.int .i64 x.e) (.int .i64 x.a) (.int .i64 x.z) (.int .i64 x.p))
      go_wp2
      have k0 := HK.out.cell 0
      have k1 := HK.out.cell 1
      have k2 := HK.out.cell 2
      have k3 := HK.out.cell 3
      have k4 := HK.out.cell 4
      simp only [List.getElem?_toArray, List.getElem?_cons_zero, List.getElem?_cons_succ] at k0 k1 k2 k3 k4
      rw [HW.out]
      refine bodyPost_ret (v := .tuple #[.agg (spV x), .int .i64 0]) (by simp [results, Try.results26, go_sem, spV, k0, k1, k2, k3, k4]) rfl ⟨rfl, ?_⟩
      exact below_sets HB3.out (w.heap.size + 1) (by omega) _ _ _ _ _
    | false =>
      have HW := Lib.hid (show loadS d = (sp0, 20) by unfold loadS; rw [HA.out, HB.out]; simp only; rw [if_neg (by rw [HE.out]; simp), if_neg (by rw [HF.out]; simp), HBE.out]; simp)
      have r0 : w4.cell? ⟨w.heap.size + 1, 0, none⟩ = some (.int .i64 0) := HR3.out.cell 0
      have r1 : w4.cell? ⟨w.heap.size + 1, 1, none⟩ = some (.int .i64 0) := HR3.out.cell 1
      have r2 : w4.cell? ⟨w.heap.size + 1, 2, none⟩ = some (.int .i64 0) := HR3.out.cell 2
      have r3 : w4.cell? ⟨w.heap.size + 1, 3, none⟩ = some (.int .i64 0) := HR3.out.cell 3
      have r4 : w4.cell? ⟨w.heap.size + 1, 4, none⟩ = some (.int .i64 0) := HR3.out.cell 4
      have f0 := HR3.out.free 0
      have f1 := HR3.out.free 1
      have f2 := HR3.out.free 2
      have f3 := HR3.out.free 3
      have f4 := HR3.out.free 4
      have HK := Lib.hid (HR3.out.sets (.int .i64 0) (.int .i64 0) (.int .i64 0) (.int .i64 0) (.int .i64 0))
      go_wp2
      have k0 := HK.out.cell 0
      have k1 := HK.out.cell 1
      have k2 := HK.out.cell 2
      have k3 := HK.out.cell 3
      have k4 := HK.out.cell 4
      simp only [List.getElem?_toArray, List.getElem?_cons_zero, List.getElem?_cons_succ] at k0 k1 k2 k3 k4
      rw [HW.out]
      refine bodyPost_ret (v := .tuple #[.agg (spV sp0), .int .i64 20]) (by simp [results, Try.results26, go_sem, spV, sp0, k0, k1, k2, k3, k4]) rfl ⟨rfl, ?_⟩
      exact below_sets HB3.out (w.heap.size + 1) (by omega) _ _ _ _ _
  · have te : (e != 0) = true := by rw [bne_iff_ne]; exact he
    have HE := Lib.hid he; clear he
    have HW := Lib.hid (show loadS d = (sp0, e) by unfold loadS; rw [HA.out]; simp only; rw [if_pos HE.out])
    have r0 : w1.cell? ⟨w.heap.size + 1, 0, none⟩ = some (.int .i64 0) := HR1.out.cell 0
    have r1 : w1.cell? ⟨w.heap.size + 1, 1, none⟩ = some (.int .i64 0) := HR1.out.cell 1
    have r2 : w1.cell? ⟨w.heap.size + 1, 2, none⟩ = some (.int .i64 0) := HR1.out.cell 2
    have r3 : w1.cell? ⟨w.heap.size + 1, 3, none⟩ = some (.int .i64 0) := HR1.out.cell 3
    have r4 : w1.cell? ⟨w.heap.size + 1, 4, none⟩ = some (.int .i64 0) := HR1.out.cell 4
    have f0 := HR1.out.free 0
    have f1 := HR1.out.free 1
    have f2 := HR1.out.free 2
    have f3 := HR1.out.free 3
    have f4 := HR1.out.free 4
    have HK := Lib.hid (HR1.out.sets (.int .i64 0) (.int .i64 0) (.int .i64 0) (.int .i64 0) (.int .i64 0))
    go_wp2
    have k0 := HK.out.cell 0
    have k1 := HK.out.cell 1
    have k2 := HK.out.cell 2
    have k3 := HK.out.cell 3
    have k4 := HK.out.cell 4
    simp only [List.getElem?_toArray, List.getElem?_cons_zero, List.getElem?_cons_succ] at k0 k1 k2 k3 k4
    rw [HW.out]
    refine bodyPost_ret (v := .tuple #[.agg (spV sp0), .int .i64 e]) (by simp [results, Try.results26, go_sem, spV, sp0, k0, k1, k2, k3, k4]) rfl ⟨rfl, ?_⟩
    exact below_sets HB1.out (w.heap.size + 1) (by omega) _ _ _ _ _
set_option maxRecDepth 100000 in
set_option maxHeartbeats 4000000 in
theorem RSLoad_any (sa pa : Option Addr) (sc pc : Nat) (d : Dk) (w : World) (hD : Lists w sa sc pa pc d) :
    Calls Try.prog 27 #[.agg #[.slice sa d.S.length sc, .slice pa d.P.length pc, .int .i64 d.fuse, .int .i64 d.ops, .bool d.dead]] w fun e w' => e = .returned (.tuple #[.agg (spV (loadS d).1), .int .i64 (loadS d).2]) ∧ Below w.heap.size w w' := by
  have HX := Lib.hid ((Bx.new w #[.slice sa d.S.length sc, .slice pa d.P.length pc, .int .i64 d.fuse, .int .i64 d.ops, .bool d.dead] 38).alloc (.cells #[.int .i64 0, .int .i64 0, .int .i64 0, .int .i64 0, .int .i64 0] 23)); have HR := Lib.hid (Bx.new1 w (.cells #[.slice sa d.S.length sc, .slice pa d.P.length pc, .int .i64 d.fuse, .int .i64 d.ops, .bool d.dead] 38) #[.int .i64 0, .int .i64 0, .int .i64 0, .int .i64 0, .int .i64 0] 23); have HB0 := Lib.hid (((Below.refl w.heap.size w).alloc (Nat.le_refl _) (.cells #[.slice sa d.S.length sc, .slice pa d.P.length pc, .int .i64 d.fuse, .int .i64 d.ops, .bool d.dead] 38)).alloc (by simp) (.cells #[.int .i64 0, .int .i64 0, .int .i64 0, .int .i64 0, .int .i64 0] 23))
  have HD := Lib.hid (hD.below (HB0.out.mono (Nat.le_refl _))); have HDw := Lib.hid hD; clear hD
  obtain ⟨⟨a, e⟩, ha⟩ : ∃ r, readS d 0 = r := ⟨_, rfl⟩
  obtain ⟨⟨b, f⟩, hb⟩ : ∃ r, readS d 1 = r := ⟨_, rfl⟩
  obtain ⟨⟨x, ok⟩, hx⟩ : ∃ r, bestS a b = r := ⟨_, rfl⟩
  have la := read_len d 0; have lb := read_len d 1; have hrr := read_both d
  rw [ha] at la hrr; rw [hb] at lb hrr
  simp only at la lb hrr
  have HA := Lib.hid ha; have HB := Lib.hid hb; have HBE := Lib.hid hx; have HRR := Lib.hid hrr; clear ha hb hx hrr
  have x0 : ((w.alloc (.cells #[.slice sa d.S.length sc, .slice pa d.P.length pc, .int .i64 d.fuse, .int .i64 d.ops, .bool d.dead] 38)).alloc (.cells #[.int .i64 0, .int .i64 0, .int .i64 0, .int .i64 0, .int .i64 0] 23)).cell? ⟨w.heap.size, 0, none⟩ = some (.slice sa d.S.length sc) := HX.out.cell 0
  have x1 : ((w.alloc (.cells #[.slice sa d.S.length sc, .slice pa d.P.length pc, .int .i64 d.fuse, .int .i64 d.ops, .bool d.dead] 38)).alloc (.cells #[.int .i64 0, .int .i64 0, .int .i64 0, .int .i64 0, .int .i64 0] 23)).cell? ⟨w.heap.size, 1, none⟩ = some (.slice pa d.P.length pc) := HX.out.cell 1
  have x2 : ((w.alloc (.cells #[.slice sa d.S.length sc, .slice pa d.P.length pc, .int .i64 d.fuse, .int .i64 d.ops, .bool d.dead] 38)).alloc (.cells #[.int .i64 0, .int .i64 0, .int .i64 0, .int .i64 0, .int .i64 0] 23)).cell? ⟨w.heap.size, 2, none⟩ = some (.int .i64 d.fuse) := HX.out.cell 2
  have x3 : ((w.alloc (.cells #[.slice sa d.S.length sc, .slice pa d.P.length pc, .int .i64 d.fuse, .int .i64 d.ops, .bool d.dead] 38)).alloc (.cells #[.int .i64 0, .int .i64 0, .int .i64 0, .int .i64 0, .int .i64 0] 23)).cell? ⟨w.heap.size, 3, none⟩ = some (.int .i64 d.ops) := HX.out.cell 3
  have x4 : ((w.alloc (.cells #[.slice sa d.S.length sc, .slice pa d.P.length pc, .int .i64 d.fuse, .int .i64 d.ops, .bool d.dead] 38)).alloc (.cells #[.int .i64 0, .int .i64 0, .int .i64 0, .int .i64 0, .int .i64 0] 23)).cell? ⟨w.heap.size, 4, none⟩ = some (.bool d.dead) := HX.out.cell 4
  go_enter Try.func27, Try.ntmps27
  go_wp2_with fail
  refine (RRead_any _ _ _ _ d 0 _ HD.out).mono ?_
  rw [HA.out]
  rintro e1 w1 ⟨rfl, hb1⟩
  clear x0 x1 x2 x3 x4
  have HX1 := Lib.hid (HX.out.call hb1); have HR1 := Lib.hid (HR.out.call hb1); have HD1 := Lib.hid (HD.out.below hb1); have HB1 := Lib.hid (btrans HB0.out HB0.out.size hb1); clear hb1
  by_cases he : e = 0
  · have te : (e != 0) = false := by rw [he]; rfl
    have hf : f = 0 := HRR.out he
    have HE := Lib.hid he; have HF := Lib.hid hf; have tf : (f != 0) = false := by rw [hf]; rfl
    clear he hf
    have x0 : w1.cell? ⟨w.heap.size, 0, none⟩ = some (.slice sa d.S.length sc) := HX1.out.cell 0
    have x1 : w1.cell? ⟨w.heap.size, 1, none⟩ = some (.slice pa d.P.length pc) := HX1.out.cell 1
    have x2 : w1.cell? ⟨w.heap.size, 2, none⟩ = some (.int .i64 d.fuse) := HX1.out.cell 2
    have x3 : w1.cell? ⟨w.heap.size, 3, none⟩ = some (.int .i64 d.ops) := HX1.out.cell 3
    have x4 : w1.cell? ⟨w.heap.size, 4, none⟩ = some (.bool d.dead) := HX1.out.cell 4
    go_wp2_with fail
    refine (RRead_any _ _ _ _ d 1 _ HD1.out).mono ?_
    rw [HB.out]
    rintro e2 w2 ⟨rfl, hb2⟩
    clear x0 x1 x2 x3 x4
    have HR2 := Lib.hid (HR1.out.call hb2); have HB2 := Lib.hid (btrans HB1.out HB1.out.size hb2); clear hb2
    go_wp2_with fail
    refine (RSBest_any a b _ la lb).mono ?_
    rw [HBE.out]
    simp only [spV]
    rintro e3 w3 ⟨rfl, hb3⟩
    have hal := (Below.refl w3.heap.size w3).alloc (Nat.le_refl _) (.cells #[.int .i64 x.g, .int .i64 x.e, .int .i64 x.a, .int .i64 x.z, .int .i64 x.p] 23)
    have HR3 := Lib.hid ((HR2.out.call hb3).alloc (.cells #[.int .i64 x.g, .int .i64 x.e, .int .i64 x.a, .int .i64 x.z, .int .i64 x.p] 23)); have HX3 := Lib.hid (Bx.new w3 #[.int .i64 x.g, .int .i64 x.e, .int .i64 x.a, .int .i64 x.z, .int .i64 x.p] 23); have HB3 := Lib.hid (btrans (btrans HB2.out HB2.out.size hb3) (btrans HB2.out HB2.out.size hb3).size hal)
    clear hb3 hal
    go_upto_region 6 with (fail)
    generalize hW : w3.alloc (.cells #[.int .i64 x.g, .int .i64 x.e, .int .i64 x.a, .int .i64 x.z, .int .i64 x.p] 23) = w4 at HR3 HX3 HB3 ⊢
    clear hW
    have z4 : w3.heap.size < w4.heap.size := HX3.out.lt
    have zr := HR3.out.lt
    have x0 : w4.cell? ⟨w3.heap.size, 0, none⟩ = some (.int .i64 x.g) := HX3.out.cell 0
    have x1 : w4.cell? ⟨w3.heap.size, 1, none⟩ = some (.int .i64 x.e) := HX3.out.cell 1
    have x2 : w4.cell? ⟨w3.heap.size, 2, none⟩ = some (.int .i64 x.a) := HX3.out.cell 2
    have x3 : w4.cell? ⟨w3.heap.size, 3, none⟩ = some (.int .i64 x.z) := HX3.out.cell 3
    have x4 : w4.cell? ⟨w3.heap.size, 4, none⟩ = some (.int .i64 x.p) := HX3.out.cell 4
    cases ok with
    | true =>
      have HW := Lib.hid (show loadS d = (x, 0) by unfold loadS; rw [HA.out, HB.out]; simp only; rw [if_neg (by rw [HE.out]; simp), if_neg (by rw [HF.out]; simp), HBE.out]; simp only; rw [if_pos trivial])
      have r0 : w4.cell? ⟨w.heap.size + 1, 0, none⟩ = some (.int .i64 0) := HR3.out.cell 0
      have r1 : w4.cell? ⟨w.heap.size + 1, 1, none⟩ = some (.int .i64 0) := HR3.out.cell 1
      have r2 : w4.cell? ⟨w.heap.size + 1, 2, none⟩ = some (.int .i64 0) := HR3.out.cell 2
      have r3 : w4.cell? ⟨w.heap.size + 1, 3, none⟩ = some (.int .i64 0) := HR3.out.cell 3
      have r4 : w4.cell? ⟨w.heap.size + 1, 4, none⟩ = some (.int .i64 0) := HR3.out.cell 4
      have f0 := HR3.out.free 0
      have f1 := HR3.out.free 1
      have f2 := HR3.out.free 2
      have f3 := HR3.out.free 3
      have f4 := HR3.out.free 4
      have HK := Lib.hid (HR3.out.sets (.int .i64 x.g) (.int .i64 x.e) (.int .i64 x.a) (.int .i64 x.z) (.int .i64 x.p))
      go_wp2
      have k0 := HK.out.cell 0
      have k1 := HK.out.cell 1
      have k2 := HK.out.cell 2
      have k3 := HK.out.cell 3
      have k4 := HK.out.cell 4
      simp only [List.getElem?_toArray, List.getElem?_cons_zero, List.getElem?_cons_succ] at k0 k1 k2 k3 k4
      rw [HW.out]
      refine bodyPost_ret (v := .tuple #[.agg (spV x), .int .i64 0]) (by simp [results, Try.results27, go_sem, spV, k0, k1, k2, k3, k4]) rfl ⟨rfl, ?_⟩
      exact below_sets HB3.out (w.heap.size + 1) (by omega) _ _ _ _ _
    | false =>
      have HW := Lib.hid (show loadS d = (sp0, 20) by unfold loadS; rw [HA.out, HB.out]; simp only; rw [if_neg (by rw [HE.out]; simp), if_neg (by rw [HF.out]; simp), HBE.out]; simp)
      have r0 : w4.cell? ⟨w.heap.size + 1, 0, none⟩ = some (.int .i64 0) := HR3.out.cell 0
      have r1 : w4.cell? ⟨w.heap.size + 1, 1, none⟩ = some (.int .i64 0) := HR3.out.cell 1
      have r2 : w4.cell? ⟨w.heap.size + 1, 2, none⟩ = some (.int .i64 0) := HR3.out.cell 2
      have r3 : w4.cell? ⟨w.heap.size + 1, 3, none⟩ = some (.int .i64 0) := HR3.out.cell 3
      have r4 : w4.cell? ⟨w.heap.size + 1, 4, none⟩ = some (.int .i64 0) := HR3.out.cell 4
      have f0 := HR3.out.free 0
      have f1 := HR3.out.free 1
      have f2 := HR3.out.free 2
      have f3 := HR3.out.free 3
      have f4 := HR3.out.free 4
      have HK := Lib.hid (HR3.out.sets (.int .i64 0) (.int .i64 0) (.int .i64 0) (.int .i64 0) (.int .i64 0))
      go_wp2
      have k0 := HK.out.cell 0
      have k1 := HK.out.cell 1
      have k2 := HK.out.cell 2
      have k3 := HK.out.cell 3
      have k4 := HK.out.cell 4
      simp only [List.getElem?_toArray, List.getElem?_cons_zero, List.getElem?_cons_succ] at k0 k1 k2 k3 k4
      rw [HW.out]
      refine bodyPost_ret (v := .tuple #[.agg (spV sp0), .int .i64 20]) (by simp [results, Try.results27, go_sem, spV, sp0, k0, k1, k2, k3, k4]) rfl ⟨rfl, ?_⟩
      exact below_sets HB3.out (w.heap.size + 1) (by omega) _ _ _ _ _
  · have te : (e != 0) = true := by rw [bne_iff_ne]; exact he
    have HE := Lib.hid he; clear he
    have HW := Lib.hid (show loadS d = (sp0, e) by unfold loadS; rw [HA.out]; simp only; rw [if_pos HE.out])
    have r0 : w1.cell? ⟨w.heap.size + 1, 0, none⟩ = some (.int .i64 0) := HR1.out.cell 0
    have r1 : w1.cell? ⟨w.heap.size + 1, 1, none⟩ = some (.int .i64 0) := HR1.out.cell 1
    have r2 : w1.cell? ⟨w.heap.size + 1, 2, none⟩ = some (.int .i64 0) := HR1.out.cell 2
    have r3 : w1.cell? ⟨w.heap.size + 1, 3, none⟩ = some (.int .i64 0) := HR1.out.cell 3
    have r4 : w1.cell? ⟨w.heap.size + 1, 4, none⟩ = some (.int .i64 0) := HR1.out.cell 4
    have f0 := HR1.out.free 0
    have f1 := HR1.out.free 1
    have f2 := HR1.out.free 2
    have f3 := HR1.out.free 3
    have f4 := HR1.out.free 4
    have HK := Lib.hid (HR1.out.sets (.int .i64 0) (.int .i64 0) (.int .i64 0) (.int .i64 0) (.int .i64 0))
    go_wp2
    have k0 := HK.out.cell 0
    have k1 := HK.out.cell 1
    have k2 := HK.out.cell 2
    have k3 := HK.out.cell 3
    have k4 := HK.out.cell 4
    simp only [List.getElem?_toArray, List.getElem?_cons_zero, List.getElem?_cons_succ] at k0 k1 k2 k3 k4
    rw [HW.out]
    refine bodyPost_ret (v := .tuple #[.agg (spV sp0), .int .i64 e]) (by simp [results, Try.results27, go_sem, spV, sp0, k0, k1, k2, k3, k4]) rfl ⟨rfl, ?_⟩
    exact below_sets HB1.out (w.heap.size + 1) (by omega) _ _ _ _ _
end Go.Proofs.Ytkpfkknldeafkaa

namespace Go.Proofs.Ytkpfkknldeafkaa
open Go.RowKit

theorem enc_len64 {x : Sp} (h : (encS x).2 = 0) : (encS x).1.length = 64 := by
  unfold encS at h ⊢
  split
  · rename_i hv; exact enc_len hv
  · rename_i hv; rw [if_neg hv] at h; simp at h
theorem enc_zero {x : Sp} (h : (encS x).2 = 0) : spB x = true := by
  unfold encS at h
  split at h
  · assumption
  · simp at h
theorem enc_err {x : Sp} (h : (encS x).2 ≠ 0) : (encS x).2 = 1 := by
  unfold encS at h ⊢
  split
  · rename_i hv; rw [if_pos hv] at h; simp at h
  · rfl

set_option maxRecDepth 100000 in
set_option maxHeartbeats 8000000 in
theorem SStore_any (sa pa : Option Addr) (sc pc : Nat) (d : Dk) (x : Sp) (w : World) (hD : Lists w sa sc pa pc d) (hp : d.P.length ≤ 8999999999999) :
    Calls Try.prog 28 #[.agg #[.slice sa d.S.length sc, .slice pa d.P.length pc, .int .i64 d.fuse, .int .i64 d.ops, .bool d.dead], .agg (spV x)] w (OpPost (storeS d x) w) := by
  have hX := ((Bx.new w #[.slice sa d.S.length sc, .slice pa d.P.length pc, .int .i64 d.fuse, .int .i64 d.ops, .bool d.dead] 38).alloc (.cells (spV x) 23)).alloc (.cells #[.slice none 0 0, .slice none 0 0, .int .i64 0, .int .i64 0, .bool false] 38)
  have hY := (Bx.new1 w (.cells #[.slice sa d.S.length sc, .slice pa d.P.length pc, .int .i64 d.fuse, .int .i64 d.ops, .bool d.dead] 38) (spV x) 23).alloc (.cells #[.slice none 0 0, .slice none 0 0, .int .i64 0, .int .i64 0, .bool false] 38)
  have hR := Bx.new2 w (.cells #[.slice sa d.S.length sc, .slice pa d.P.length pc, .int .i64 d.fuse, .int .i64 d.ops, .bool d.dead] 38) (.cells (spV x) 23) #[.slice none 0 0, .slice none 0 0, .int .i64 0, .int .i64 0, .bool false] 38
  have hb0 := (((Below.refl w.heap.size w).alloc (Nat.le_refl _) (.cells #[.slice sa d.S.length sc, .slice pa d.P.length pc, .int .i64 d.fuse, .int .i64 d.ops, .bool d.dead] 38)).alloc (by simp) (.cells (spV x) 23)).alloc (by simp; omega) (.cells #[.slice none 0 0, .slice none 0 0, .int .i64 0, .int .i64 0, .bool false] 38)
  have l4 := hD.2.2.2
  have HDw := Lib.hid hD; clear hD
  obtain ⟨⟨s, e⟩, hs⟩ : ∃ r, encS x = r := ⟨_, rfl⟩
  have hz := enc_len64 (x := x); have hsp := enc_zero (x := x); have hee := enc_err (x := x)
  rw [hs] at hz hsp hee
  simp only at hz hsp hee
  have HS := Lib.hid hs; have HZ := Lib.hid hz; have HSP := Lib.hid hsp; have HEE := Lib.hid hee; clear hs hz hsp hee
  go_enter Try.func28, Try.ntmps28
  go_upto_region 1 with (fail)
  generalize hW0 : (((w.alloc (.cells #[.slice sa d.S.length sc, .slice pa d.P.length pc, .int .i64 d.fuse, .int .i64 d.ops, .bool d.dead] 38)).alloc (.cells (spV x) 23)).alloc (.cells #[.slice none 0 0, .slice none 0 0, .int .i64 0, .int .i64 0, .bool false] 38)) = w0 at hX hY hR hb0 ⊢
  clear hW0
  have HX0 := Lib.hid hX; have HY0 := Lib.hid hY; have HR0 := Lib.hid hR; have HB0 := Lib.hid hb0; clear hX hY hR hb0
  have y0 : w0.cell? ⟨w.heap.size + 1, 0, none⟩ = some (.int .i64 x.g) := HY0.out.cell 0
  have y1 : w0.cell? ⟨w.heap.size + 1, 1, none⟩ = some (.int .i64 x.e) := HY0.out.cell 1
  have y2 : w0.cell? ⟨w.heap.size + 1, 2, none⟩ = some (.int .i64 x.a) := HY0.out.cell 2
  have y3 : w0.cell? ⟨w.heap.size + 1, 3, none⟩ = some (.int .i64 x.z) := HY0.out.cell 3
  have y4 : w0.cell? ⟨w.heap.size + 1, 4, none⟩ = some (.int .i64 x.p) := HY0.out.cell 4
  go_wp2_with fail
  refine (SEncode_any x _).mono ?_
  rw [HS.out]
  rintro e1 w1 ⟨rfl, hb1⟩
  clear y0 y1 y2 y3 y4
  have HX1 := Lib.hid (HX0.out.call hb1); have HY1 := Lib.hid (HY0.out.call hb1); have HR1 := Lib.hid (HR0.out.call hb1); have HB1 := Lib.hid (btrans HB0.out HB0.out.size hb1); clear hb1
  have z1 : w.heap.size + 2 < w1.heap.size := HR1.out.lt
  by_cases he : e = 0
  · subst he
    have hv := HSP.out rfl
    have h64 := HZ.out rfl
    obtain ⟨g1, g2, _⟩ := spB_bounds hv
    have hg0 : 0 ≤ x.g := by omega
    clear hv g1 g2
    have x0 : w1.cell? ⟨w.heap.size, 0, none⟩ = some (.slice sa d.S.length sc) := HX1.out.cell 0
    have x1 : w1.cell? ⟨w.heap.size, 1, none⟩ = some (.slice pa d.P.length pc) := HX1.out.cell 1
    have x2 : w1.cell? ⟨w.heap.size, 2, none⟩ = some (.int .i64 d.fuse) := HX1.out.cell 2
    have x3 : w1.cell? ⟨w.heap.size, 3, none⟩ = some (.int .i64 d.ops) := HX1.out.cell 3
    have x4 : w1.cell? ⟨w.heap.size, 4, none⟩ = some (.bool d.dead) := HX1.out.cell 4
    have y0 : w1.cell? ⟨w.heap.size + 1, 0, none⟩ = some (.int .i64 x.g) := HY1.out.cell 0
    obtain ⟨⟨d2, er⟩, hw⟩ : ∃ r, writeS d (x.g % 2) s = r := ⟨_, rfl⟩
    have hl := write_len d (x.g % 2) s
    rw [hw] at hl
    simp only at hl
    obtain ⟨hl1, hl2⟩ := hl
    have HL1 := Lib.hid hl1; have HWQ := Lib.hid hw; clear hw hl1
    go_wp2_with fail
    refine (Write_any _ _ _ _ d (x.g % 2) s _ (HDw.out.below HB1.out) hp).mono ?_
    rw [HWQ.out]
    rintro e2 w2 ⟨a1, c1, a2, c2, rfl, hO2, hb2⟩
    clear x0 x1 x2 x3 x4 y0
    have hal := (Below.refl w2.heap.size w2).alloc (Nat.le_refl _) (.cells #[.slice a1 d2.S.length c1, .slice a2 d2.P.length c2, .int .i64 d2.fuse, .int .i64 d2.ops, .bool d2.dead] 38)
    have HR2 := Lib.hid ((HR1.out.call hb2).alloc (.cells #[.slice a1 d2.S.length c1, .slice a2 d2.P.length c2, .int .i64 d2.fuse, .int .i64 d2.ops, .bool d2.dead] 38)); have HX2 := Lib.hid (Bx.new w2 #[.slice a1 d2.S.length c1, .slice a2 d2.P.length c2, .int .i64 d2.fuse, .int .i64 d2.ops, .bool d2.dead] 38); have HB2 := Lib.hid (btrans (btrans HB1.out HB1.out.size hb2) (btrans HB1.out HB1.out.size hb2).size hal); have z2 := hb2.size
    have HO2 := Lib.hid (hO2.alloc (.cells #[.slice a1 d2.S.length c1, .slice a2 d2.P.length c2, .int .i64 d2.fuse, .int .i64 d2.ops, .bool d2.dead] 38))
    clear hb2 hal hO2
    go_upto_region 5 with (fail)
    generalize hW2 : w2.alloc (.cells #[.slice a1 d2.S.length c1, .slice a2 d2.P.length c2, .int .i64 d2.fuse, .int .i64 d2.ops, .bool d2.dead] 38) = w3 at HR2 HX2 HB2 HO2 ⊢
    clear hW2
    have z3 : w2.heap.size < w3.heap.size := HX2.out.lt
    have x0 : w3.cell? ⟨w2.heap.size, 0, none⟩ = some (.slice a1 d2.S.length c1) := HX2.out.cell 0
    have x1 : w3.cell? ⟨w2.heap.size, 1, none⟩ = some (.slice a2 d2.P.length c2) := HX2.out.cell 1
    have x2 : w3.cell? ⟨w2.heap.size, 2, none⟩ = some (.int .i64 d2.fuse) := HX2.out.cell 2
    have x3 : w3.cell? ⟨w2.heap.size, 3, none⟩ = some (.int .i64 d2.ops) := HX2.out.cell 3
    have x4 : w3.cell? ⟨w2.heap.size, 4, none⟩ = some (.bool d2.dead) := HX2.out.cell 4
    by_cases her : er = 0
    · subst her
      obtain ⟨⟨d3, es⟩, hy⟩ : ∃ r, syncS d2 = r := ⟨_, rfl⟩
      have HSY := Lib.hid hy; clear hy
      have HST := Lib.hid (show storeS d x = (d3, es) by unfold storeS; rw [HS.out]; simp only; rw [if_neg (by simp), HWQ.out]; simp only; rw [if_neg (by simp), HSY.out])
      go_wp2_with fail
      refine (Sync_any _ _ _ _ d2 _ (HO2.out.lists (by omega) (by rw [HL1.out]; exact l4))).mono ?_
      rw [HSY.out]
      rintro e3 w4 ⟨a3, c3, a4, c4, rfl, hO4, hb4⟩
      clear x0 x1 x2 x3 x4
      have HR4 := Lib.hid (HR2.out.call hb4); have HB4 := Lib.hid (btrans HB2.out HB2.out.size hb4); have HO4 := Lib.hid hO4; clear hb4 hO4
      have r0 : w4.cell? ⟨w.heap.size + 2, 0, none⟩ = some (.slice none 0 0) := HR4.out.cell 0
      have r1 : w4.cell? ⟨w.heap.size + 2, 1, none⟩ = some (.slice none 0 0) := HR4.out.cell 1
      have r2 : w4.cell? ⟨w.heap.size + 2, 2, none⟩ = some (.int .i64 0) := HR4.out.cell 2
      have r3 : w4.cell? ⟨w.heap.size + 2, 3, none⟩ = some (.int .i64 0) := HR4.out.cell 3
      have r4 : w4.cell? ⟨w.heap.size + 2, 4, none⟩ = some (.bool false) := HR4.out.cell 4
      have f0 := HR4.out.free 0
      have f1 := HR4.out.free 1
      have f2 := HR4.out.free 2
      have f3 := HR4.out.free 3
      have f4 := HR4.out.free 4
      have HK := Lib.hid (HR4.out.sets (.slice a3 d3.S.length c3) (.slice a4 d3.P.length c4) (.int .i64 d3.fuse) (.int .i64 d3.ops) (.bool d3.dead))
      go_wp2
      have k0 := HK.out.cell 0
      have k1 := HK.out.cell 1
      have k2 := HK.out.cell 2
      have k3 := HK.out.cell 3
      have k4 := HK.out.cell 4
      simp only [List.getElem?_toArray, List.getElem?_cons_zero, List.getElem?_cons_succ] at k0 k1 k2 k3 k4
      refine bodyPost_ret (v := .tuple #[.agg #[.slice a3 d3.S.length c3, .slice a4 d3.P.length c4, .int .i64 d3.fuse, .int .i64 d3.ops, .bool d3.dead], .int .i64 es]) (by simp [results, Try.results28, go_sem, k0, k1, k2, k3, k4]) rfl ?_
      rw [HST.out]
      refine ⟨a3, c3, a4, c4, rfl, ?_, ?_⟩
      exact (HO4.out.sets (w.heap.size + 2) (by omega) _ _ _ _ _).mono (by omega)
      exact below_sets HB4.out (w.heap.size + 2) (by omega) _ _ _ _ _
    · have HER := Lib.hid her; have ter : (er != 0) = true := (by rw [bne_iff_ne]; exact her); clear her
      have HST := Lib.hid (show storeS d x = (d2, er) by unfold storeS; rw [HS.out]; simp only; rw [if_neg (by simp), HWQ.out]; simp only; rw [if_pos HER.out])
      have r0 : w3.cell? ⟨w.heap.size + 2, 0, none⟩ = some (.slice none 0 0) := HR2.out.cell 0
      have r1 : w3.cell? ⟨w.heap.size + 2, 1, none⟩ = some (.slice none 0 0) := HR2.out.cell 1
      have r2 : w3.cell? ⟨w.heap.size + 2, 2, none⟩ = some (.int .i64 0) := HR2.out.cell 2
      have r3 : w3.cell? ⟨w.heap.size + 2, 3, none⟩ = some (.int .i64 0) := HR2.out.cell 3
      have r4 : w3.cell? ⟨w.heap.size + 2, 4, none⟩ = some (.bool false) := HR2.out.cell 4
      have f0 := HR2.out.free 0
      have f1 := HR2.out.free 1
      have f2 := HR2.out.free 2
      have f3 := HR2.out.free 3
      have f4 := HR2.out.free 4
      have HK := Lib.hid (HR2.out.sets (.slice a1 d2.S.length c1) (.slice a2 d2.P.length c2) (.int .i64 d2.fuse) (.int .i64 d2.ops) (.bool d2.dead))
      go_wp2
      have k0 := HK.out.cell 0
      have k1 := HK.out.cell 1
      have k2 := HK.out.cell 2
      have k3 := HK.out.cell 3
      have k4 := HK.out.cell 4
      simp only [List.getElem?_toArray, List.getElem?_cons_zero, List.getElem?_cons_succ] at k0 k1 k2 k3 k4
      refine bodyPost_ret (v := .tuple #[.agg #[.slice a1 d2.S.length c1, .slice a2 d2.P.length c2, .int .i64 d2.fuse, .int .i64 d2.ops, .bool d2.dead], .int .i64 er]) (by simp [results, Try.results28, go_sem, k0, k1, k2, k3, k4]) rfl ?_
      rw [HST.out]
      refine ⟨a1, c1, a2, c2, rfl, ?_, ?_⟩
      exact (HO2.out.sets (w.heap.size + 2) (by omega) _ _ _ _ _).mono (by omega)
      exact below_sets HB2.out (w.heap.size + 2) (by omega) _ _ _ _ _
  · obtain rfl : e = 1 := HEE.out he
    clear he
    have HST := Lib.hid (show storeS d x = (d, 1) by unfold storeS; rw [HS.out]; simp only; rw [if_pos (by simp)])
    have x0 : w1.cell? ⟨w.heap.size, 0, none⟩ = some (.slice sa d.S.length sc) := HX1.out.cell 0
    have x1 : w1.cell? ⟨w.heap.size, 1, none⟩ = some (.slice pa d.P.length pc) := HX1.out.cell 1
    have x2 : w1.cell? ⟨w.heap.size, 2, none⟩ = some (.int .i64 d.fuse) := HX1.out.cell 2
    have x3 : w1.cell? ⟨w.heap.size, 3, none⟩ = some (.int .i64 d.ops) := HX1.out.cell 3
    have x4 : w1.cell? ⟨w.heap.size, 4, none⟩ = some (.bool d.dead) := HX1.out.cell 4
    go_wp2_with fail
    refine (unchanged_any _ _ _ _ d _ (HDw.out.below HB1.out)).mono ?_
    rintro e2 w2 ⟨a1, c1, a2, c2, rfl, hO2, hb2⟩
    clear x0 x1 x2 x3 x4
    have HR2 := Lib.hid (HR1.out.call hb2); have HB2 := Lib.hid (btrans HB1.out HB1.out.size hb2); have HO2 := Lib.hid hO2; clear hb2 hO2
    have r0 : w2.cell? ⟨w.heap.size + 2, 0, none⟩ = some (.slice none 0 0) := HR2.out.cell 0
    have r1 : w2.cell? ⟨w.heap.size + 2, 1, none⟩ = some (.slice none 0 0) := HR2.out.cell 1
    have r2 : w2.cell? ⟨w.heap.size + 2, 2, none⟩ = some (.int .i64 0) := HR2.out.cell 2
    have r3 : w2.cell? ⟨w.heap.size + 2, 3, none⟩ = some (.int .i64 0) := HR2.out.cell 3
    have r4 : w2.cell? ⟨w.heap.size + 2, 4, none⟩ = some (.bool false) := HR2.out.cell 4
    have f0 := HR2.out.free 0
    have f1 := HR2.out.free 1
    have f2 := HR2.out.free 2
    have f3 := HR2.out.free 3
    have f4 := HR2.out.free 4
    have HK := Lib.hid (HR2.out.sets (.slice a1 d.S.length c1) (.slice a2 d.P.length c2) (.int .i64 d.fuse) (.int .i64 d.ops) (.bool d.dead))
    go_wp2
    have k0 := HK.out.cell 0
    have k1 := HK.out.cell 1
    have k2 := HK.out.cell 2
    have k3 := HK.out.cell 3
    have k4 := HK.out.cell 4
    simp only [List.getElem?_toArray, List.getElem?_cons_zero, List.getElem?_cons_succ] at k0 k1 k2 k3 k4
    refine bodyPost_ret (v := .tuple #[.agg #[.slice a1 d.S.length c1, .slice a2 d.P.length c2, .int .i64 d.fuse, .int .i64 d.ops, .bool d.dead], .int .i64 1]) (by simp [results, Try.results28, go_sem, k0, k1, k2, k3, k4]) rfl ?_
    rw [HST.out]
    refine ⟨a1, c1, a2, c2, rfl, ?_, ?_⟩
    exact (HO2.out.sets (w.heap.size + 2) (by omega) _ _ _ _ _).mono (by omega)
    exact below_sets HB2.out (w.heap.size + 2) (by omega) _ _ _ _ _
set_option maxRecDepth 100000 in
set_option maxHeartbeats 8000000 in
theorem RSStore_any (sa pa : Option Addr) (sc pc : Nat) (d : Dk) (x : Sp) (w : World) (hD : Lists w sa sc pa pc d) (hp : d.P.length ≤ 8999999999999) :
    Calls Try.prog 29 #[.agg #[.slice sa d.S.length sc, .slice pa d.P.length pc, .int .i64 d.fuse, .int .i64 d.ops, .bool d.dead], .agg (spV x)] w (RPost (storeS d x) w) := by
  have hX := ((Bx.new w #[.slice sa d.S.length sc, .slice pa d.P.length pc, .int .i64 d.fuse, .int .i64 d.ops, .bool d.dead] 38).alloc (.cells (spV x) 23)).alloc (.cells #[.slice none 0 0, .slice none 0 0, .int .i64 0, .int .i64 0, .bool false] 38)
  have hY := (Bx.new1 w (.cells #[.slice sa d.S.length sc, .slice pa d.P.length pc, .int .i64 d.fuse, .int .i64 d.ops, .bool d.dead] 38) (spV x) 23).alloc (.cells #[.slice none 0 0, .slice none 0 0, .int .i64 0, .int .i64 0, .bool false] 38)
  have hR := Bx.new2 w (.cells #[.slice sa d.S.length sc, .slice pa d.P.length pc, .int .i64 d.fuse, .int .i64 d.ops, .bool d.dead] 38) (.cells (spV x) 23) #[.slice none 0 0, .slice none 0 0, .int .i64 0, .int .i64 0, .bool false] 38
  have hb0 := (((Below.refl w.heap.size w).alloc (Nat.le_refl _) (.cells #[.slice sa d.S.length sc, .slice pa d.P.length pc, .int .i64 d.fuse, .int .i64 d.ops, .bool d.dead] 38)).alloc (by simp) (.cells (spV x) 23)).alloc (by simp; omega) (.cells #[.slice none 0 0, .slice none 0 0, .int .i64 0, .int .i64 0, .bool false] 38)
  have l4 := hD.2.2.2
  have HDw := Lib.hid hD; clear hD
  obtain ⟨⟨s, e⟩, hs⟩ : ∃ r, encS x = r := ⟨_, rfl⟩
  have hz := enc_len64 (x := x); have hsp := enc_zero (x := x); have hee := enc_err (x := x)
  rw [hs] at hz hsp hee
  simp only at hz hsp hee
  have HS := Lib.hid hs; have HZ := Lib.hid hz; have HSP := Lib.hid hsp; have HEE := Lib.hid hee; clear hs hz hsp hee
  go_enter Try.func29, Try.ntmps29
  go_upto_region 1 with (fail)
  generalize hW0 : (((w.alloc (.cells #[.slice sa d.S.length sc, .slice pa d.P.length pc, .int .i64 d.fuse, .int .i64 d.ops, .bool d.dead] 38)).alloc (.cells (spV x) 23)).alloc (.cells #[.slice none 0 0, .slice none 0 0, .int .i64 0, .int .i64 0, .bool false] 38)) = w0 at hX hY hR hb0 ⊢
  clear hW0
  have HX0 := Lib.hid hX; have HY0 := Lib.hid hY; have HR0 := Lib.hid hR; have HB0 := Lib.hid hb0; clear hX hY hR hb0
  have y0 : w0.cell? ⟨w.heap.size + 1, 0, none⟩ = some (.int .i64 x.g) := HY0.out.cell 0
  have y1 : w0.cell? ⟨w.heap.size + 1, 1, none⟩ = some (.int .i64 x.e) := HY0.out.cell 1
  have y2 : w0.cell? ⟨w.heap.size + 1, 2, none⟩ = some (.int .i64 x.a) := HY0.out.cell 2
  have y3 : w0.cell? ⟨w.heap.size + 1, 3, none⟩ = some (.int .i64 x.z) := HY0.out.cell 3
  have y4 : w0.cell? ⟨w.heap.size + 1, 4, none⟩ = some (.int .i64 x.p) := HY0.out.cell 4
  go_wp2_with fail
  refine (RSEncode_any x _).mono ?_
  rw [HS.out]
  rintro e1 w1 ⟨rfl, hb1⟩
  clear y0 y1 y2 y3 y4
  have HX1 := Lib.hid (HX0.out.call hb1); have HY1 := Lib.hid (HY0.out.call hb1); have HR1 := Lib.hid (HR0.out.call hb1); have HB1 := Lib.hid (btrans HB0.out HB0.out.size hb1); clear hb1
  have z1 : w.heap.size + 2 < w1.heap.size := HR1.out.lt
  by_cases he : e = 0
  · subst he
    have hv := HSP.out rfl
    have h64 := HZ.out rfl
    obtain ⟨g1, g2, _⟩ := spB_bounds hv
    have hg0 : 0 ≤ x.g := by omega
    clear hv g1 g2
    have x0 : w1.cell? ⟨w.heap.size, 0, none⟩ = some (.slice sa d.S.length sc) := HX1.out.cell 0
    have x1 : w1.cell? ⟨w.heap.size, 1, none⟩ = some (.slice pa d.P.length pc) := HX1.out.cell 1
    have x2 : w1.cell? ⟨w.heap.size, 2, none⟩ = some (.int .i64 d.fuse) := HX1.out.cell 2
    have x3 : w1.cell? ⟨w.heap.size, 3, none⟩ = some (.int .i64 d.ops) := HX1.out.cell 3
    have x4 : w1.cell? ⟨w.heap.size, 4, none⟩ = some (.bool d.dead) := HX1.out.cell 4
    have y0 : w1.cell? ⟨w.heap.size + 1, 0, none⟩ = some (.int .i64 x.g) := HY1.out.cell 0
    obtain ⟨⟨d2, er⟩, hw⟩ : ∃ r, writeS d (x.g % 2) s = r := ⟨_, rfl⟩
    have hl := write_len d (x.g % 2) s
    rw [hw] at hl
    simp only at hl
    obtain ⟨hl1, hl2⟩ := hl
    have HL1 := Lib.hid hl1; have HWQ := Lib.hid hw; clear hw hl1
    go_wp2_with fail
    refine (RWrite_any _ _ _ _ d (x.g % 2) s _ (HDw.out.below HB1.out) hp).mono ?_
    rw [HWQ.out]
    rintro e2 w2 ⟨a1, c1, a2, c2, rfl, hO2, hb2⟩
    clear x0 x1 x2 x3 x4 y0
    have hal := (Below.refl w2.heap.size w2).alloc (Nat.le_refl _) (.cells #[.slice a1 d2.S.length c1, .slice a2 d2.P.length c2, .int .i64 d2.fuse, .int .i64 d2.ops, .bool d2.dead] 38)
    have HR2 := Lib.hid ((HR1.out.call hb2).alloc (.cells #[.slice a1 d2.S.length c1, .slice a2 d2.P.length c2, .int .i64 d2.fuse, .int .i64 d2.ops, .bool d2.dead] 38)); have HX2 := Lib.hid (Bx.new w2 #[.slice a1 d2.S.length c1, .slice a2 d2.P.length c2, .int .i64 d2.fuse, .int .i64 d2.ops, .bool d2.dead] 38); have HB2 := Lib.hid (btrans (btrans HB1.out HB1.out.size hb2) (btrans HB1.out HB1.out.size hb2).size hal); have z2 := hb2.size
    have HO2 := Lib.hid (hO2.below hal)
    clear hb2 hal hO2
    go_upto_region 5 with (fail)
    generalize hW2 : w2.alloc (.cells #[.slice a1 d2.S.length c1, .slice a2 d2.P.length c2, .int .i64 d2.fuse, .int .i64 d2.ops, .bool d2.dead] 38) = w3 at HR2 HX2 HB2 HO2 ⊢
    clear hW2
    have z3 : w2.heap.size < w3.heap.size := HX2.out.lt
    have x0 : w3.cell? ⟨w2.heap.size, 0, none⟩ = some (.slice a1 d2.S.length c1) := HX2.out.cell 0
    have x1 : w3.cell? ⟨w2.heap.size, 1, none⟩ = some (.slice a2 d2.P.length c2) := HX2.out.cell 1
    have x2 : w3.cell? ⟨w2.heap.size, 2, none⟩ = some (.int .i64 d2.fuse) := HX2.out.cell 2
    have x3 : w3.cell? ⟨w2.heap.size, 3, none⟩ = some (.int .i64 d2.ops) := HX2.out.cell 3
    have x4 : w3.cell? ⟨w2.heap.size, 4, none⟩ = some (.bool d2.dead) := HX2.out.cell 4
    by_cases her : er = 0
    · subst her
      obtain ⟨⟨d3, es⟩, hy⟩ : ∃ r, syncS d2 = r := ⟨_, rfl⟩
      have HSY := Lib.hid hy; clear hy
      have HST := Lib.hid (show storeS d x = (d3, es) by unfold storeS; rw [HS.out]; simp only; rw [if_neg (by simp), HWQ.out]; simp only; rw [if_neg (by simp), HSY.out])
      go_wp2_with fail
      refine (RSync_any _ _ _ _ d2 _ HO2.out).mono ?_
      rw [HSY.out]
      rintro e3 w4 ⟨a3, c3, a4, c4, rfl, hO4, hb4⟩
      clear x0 x1 x2 x3 x4
      have HR4 := Lib.hid (HR2.out.call hb4); have HB4 := Lib.hid (btrans HB2.out HB2.out.size hb4); have HO4 := Lib.hid hO4; clear hb4 hO4
      have r0 : w4.cell? ⟨w.heap.size + 2, 0, none⟩ = some (.slice none 0 0) := HR4.out.cell 0
      have r1 : w4.cell? ⟨w.heap.size + 2, 1, none⟩ = some (.slice none 0 0) := HR4.out.cell 1
      have r2 : w4.cell? ⟨w.heap.size + 2, 2, none⟩ = some (.int .i64 0) := HR4.out.cell 2
      have r3 : w4.cell? ⟨w.heap.size + 2, 3, none⟩ = some (.int .i64 0) := HR4.out.cell 3
      have r4 : w4.cell? ⟨w.heap.size + 2, 4, none⟩ = some (.bool false) := HR4.out.cell 4
      have f0 := HR4.out.free 0
      have f1 := HR4.out.free 1
      have f2 := HR4.out.free 2
      have f3 := HR4.out.free 3
      have f4 := HR4.out.free 4
      have HK := Lib.hid (HR4.out.sets (.slice a3 d3.S.length c3) (.slice a4 d3.P.length c4) (.int .i64 d3.fuse) (.int .i64 d3.ops) (.bool d3.dead))
      go_wp2
      have k0 := HK.out.cell 0
      have k1 := HK.out.cell 1
      have k2 := HK.out.cell 2
      have k3 := HK.out.cell 3
      have k4 := HK.out.cell 4
      simp only [List.getElem?_toArray, List.getElem?_cons_zero, List.getElem?_cons_succ] at k0 k1 k2 k3 k4
      refine bodyPost_ret (v := .tuple #[.agg #[.slice a3 d3.S.length c3, .slice a4 d3.P.length c4, .int .i64 d3.fuse, .int .i64 d3.ops, .bool d3.dead], .int .i64 es]) (by simp [results, Try.results29, go_sem, k0, k1, k2, k3, k4]) rfl ?_
      rw [HST.out]
      refine ⟨a3, c3, a4, c4, rfl, ?_, ?_⟩
      exact HO4.out.sets_box HR4.out _ _ _ _ _
      exact below_sets HB4.out (w.heap.size + 2) (by omega) _ _ _ _ _
    · have HER := Lib.hid her; have ter : (er != 0) = true := (by rw [bne_iff_ne]; exact her); clear her
      have HST := Lib.hid (show storeS d x = (d2, er) by unfold storeS; rw [HS.out]; simp only; rw [if_neg (by simp), HWQ.out]; simp only; rw [if_pos HER.out])
      have r0 : w3.cell? ⟨w.heap.size + 2, 0, none⟩ = some (.slice none 0 0) := HR2.out.cell 0
      have r1 : w3.cell? ⟨w.heap.size + 2, 1, none⟩ = some (.slice none 0 0) := HR2.out.cell 1
      have r2 : w3.cell? ⟨w.heap.size + 2, 2, none⟩ = some (.int .i64 0) := HR2.out.cell 2
      have r3 : w3.cell? ⟨w.heap.size + 2, 3, none⟩ = some (.int .i64 0) := HR2.out.cell 3
      have r4 : w3.cell? ⟨w.heap.size + 2, 4, none⟩ = some (.bool false) := HR2.out.cell 4
      have f0 := HR2.out.free 0
      have f1 := HR2.out.free 1
      have f2 := HR2.out.free 2
      have f3 := HR2.out.free 3
      have f4 := HR2.out.free 4
      have HK := Lib.hid (HR2.out.sets (.slice a1 d2.S.length c1) (.slice a2 d2.P.length c2) (.int .i64 d2.fuse) (.int .i64 d2.ops) (.bool d2.dead))
      go_wp2
      have k0 := HK.out.cell 0
      have k1 := HK.out.cell 1
      have k2 := HK.out.cell 2
      have k3 := HK.out.cell 3
      have k4 := HK.out.cell 4
      simp only [List.getElem?_toArray, List.getElem?_cons_zero, List.getElem?_cons_succ] at k0 k1 k2 k3 k4
      refine bodyPost_ret (v := .tuple #[.agg #[.slice a1 d2.S.length c1, .slice a2 d2.P.length c2, .int .i64 d2.fuse, .int .i64 d2.ops, .bool d2.dead], .int .i64 er]) (by simp [results, Try.results29, go_sem, k0, k1, k2, k3, k4]) rfl ?_
      rw [HST.out]
      refine ⟨a1, c1, a2, c2, rfl, ?_, ?_⟩
      exact HO2.out.sets_box HR2.out _ _ _ _ _
      exact below_sets HB2.out (w.heap.size + 2) (by omega) _ _ _ _ _
  · obtain rfl : e = 1 := HEE.out he
    clear he
    have HST := Lib.hid (show storeS d x = (d, 1) by unfold storeS; rw [HS.out]; simp only; rw [if_pos (by simp)])
    have x0 : w1.cell? ⟨w.heap.size, 0, none⟩ = some (.slice sa d.S.length sc) := HX1.out.cell 0
    have x1 : w1.cell? ⟨w.heap.size, 1, none⟩ = some (.slice pa d.P.length pc) := HX1.out.cell 1
    have x2 : w1.cell? ⟨w.heap.size, 2, none⟩ = some (.int .i64 d.fuse) := HX1.out.cell 2
    have x3 : w1.cell? ⟨w.heap.size, 3, none⟩ = some (.int .i64 d.ops) := HX1.out.cell 3
    have x4 : w1.cell? ⟨w.heap.size, 4, none⟩ = some (.bool d.dead) := HX1.out.cell 4
    have HLD := Lib.hid (HDw.out.below HB1.out)
    have r0 : w1.cell? ⟨w.heap.size + 2, 0, none⟩ = some (.slice none 0 0) := HR1.out.cell 0
    have r1 : w1.cell? ⟨w.heap.size + 2, 1, none⟩ = some (.slice none 0 0) := HR1.out.cell 1
    have r2 : w1.cell? ⟨w.heap.size + 2, 2, none⟩ = some (.int .i64 0) := HR1.out.cell 2
    have r3 : w1.cell? ⟨w.heap.size + 2, 3, none⟩ = some (.int .i64 0) := HR1.out.cell 3
    have r4 : w1.cell? ⟨w.heap.size + 2, 4, none⟩ = some (.bool false) := HR1.out.cell 4
    have f0 := HR1.out.free 0
    have f1 := HR1.out.free 1
    have f2 := HR1.out.free 2
    have f3 := HR1.out.free 3
    have f4 := HR1.out.free 4
    have HK := Lib.hid (HR1.out.sets (.slice sa d.S.length sc) (.slice pa d.P.length pc) (.int .i64 d.fuse) (.int .i64 d.ops) (.bool d.dead))
    go_wp2
    have k0 := HK.out.cell 0
    have k1 := HK.out.cell 1
    have k2 := HK.out.cell 2
    have k3 := HK.out.cell 3
    have k4 := HK.out.cell 4
    simp only [List.getElem?_toArray, List.getElem?_cons_zero, List.getElem?_cons_succ] at k0 k1 k2 k3 k4
    refine bodyPost_ret (v := .tuple #[.agg #[.slice sa d.S.length sc, .slice pa d.P.length pc, .int .i64 d.fuse, .int .i64 d.ops, .bool d.dead], .int .i64 1]) (by simp [results, Try.results29, go_sem, k0, k1, k2, k3, k4]) rfl ?_
    rw [HST.out]
    refine ⟨sa, sc, pa, pc, rfl, ?_, ?_⟩
    exact HLD.out.sets_box HR1.out _ _ _ _ _
    exact below_sets HB1.out (w.heap.size + 2) (by omega) _ _ _ _ _
end Go.Proofs.Ytkpfkknldeafkaa


namespace Go.Proofs.Ytkpfkknldeafkaa
open Go.RowKit

theorem w_load0 : loadS d16 = (sp0, 20) := by decide +kernel
theorem w_store : (storeS d16 ⟨1, 0, 0, 0, 0⟩).2 = 0 := by decide +kernel
theorem w_load : loadS (storeS d16 ⟨1, 0, 0, 0, 0⟩).1 = (⟨1, 0, 0, 0, 0⟩, 0) := by decide +kernel
theorem w_enc : (encS ⟨1, 0, 0, 0, 0⟩).2 = 0 := by decide +kernel
theorem w_open : openS (encS ⟨1, 0, 0, 0, 0⟩).1 = ((1, 0, 1), [0, 0, 0, 0], 0) := by decide +kernel
theorem w_enc4 : (encS ⟨4, 2, 1, 9, 3⟩).2 = 0 := by decide +kernel
theorem w_enc5 : (encS ⟨5, 0, 0, 0, 0⟩).2 = 0 := by decide +kernel
theorem w_best : bestS (encS ⟨4, 2, 1, 9, 3⟩).1 (encS ⟨5, 0, 0, 0, 0⟩).1 = (⟨5, 0, 0, 0, 0⟩, true) := by decide +kernel
theorem w_sec : (storeS d16 ⟨1, 0, 0, 0, 0⟩).1.S[1]? = some (encS ⟨1, 0, 0, 0, 0⟩).1 := by decide +kernel
theorem w_len : (storeS d16 ⟨1, 0, 0, 0, 0⟩).1.S.length = 16 ∧ (storeS d16 ⟨1, 0, 0, 0, 0⟩).1.P.length = 0 := by decide +kernel
theorem w_lens : (encS ⟨1, 0, 0, 0, 0⟩).1.length = 64 ∧ (encS ⟨4, 2, 1, 9, 3⟩).1.length = 64 ∧ (encS ⟨5, 0, 0, 0, 0⟩).1.length = 64 := by decide +kernel
theorem w_v1 : spB ⟨3, 4, 0, 0, 0⟩ = false := by decide +kernel
theorem w_v2 : spB ⟨1, 0, 0, 0, 0⟩ = true := by decide +kernel

set_option maxRecDepth 100000 in
set_option maxHeartbeats 8000000 in
theorem works_any (w : World) : Calls Try.prog 20 #[] w fun e w' => e = .returned (.bool true) ∧ Below w.heap.size w w' := by
  obtain ⟨d, hd⟩ : ∃ d, d = d16 := ⟨_, rfl⟩
  obtain ⟨dx, hdx⟩ : ∃ q, q = (storeS d16 ⟨1, 0, 0, 0, 0⟩).1 := ⟨_, rfl⟩
  obtain ⟨s, hs⟩ : ∃ q, q = (encS ⟨1, 0, 0, 0, 0⟩).1 := ⟨_, rfl⟩
  obtain ⟨sa, hsa⟩ : ∃ q, q = (encS ⟨4, 2, 1, 9, 3⟩).1 := ⟨_, rfl⟩
  obtain ⟨sb, hsb⟩ : ∃ q, q = (encS ⟨5, 0, 0, 0, 0⟩).1 := ⟨_, rfl⟩
  have E1 := Lib.hid (show newS 16 = (d, 0) by rw [hd]; exact ex2)
  have E2 := Lib.hid (show loadS d = (sp0, 20) by rw [hd]; exact w_load0)
  have E3 := Lib.hid (show storeS d ⟨1, 0, 0, 0, 0⟩ = (dx, 0) by rw [hd, hdx]; exact Prod.ext rfl w_store)
  have E4 := Lib.hid (show loadS dx = (⟨1, 0, 0, 0, 0⟩, 0) by rw [hdx]; exact w_load)
  have E5 := Lib.hid (show encS ⟨1, 0, 0, 0, 0⟩ = (s, 0) by rw [hs]; exact Prod.ext rfl w_enc)
  have E6 := Lib.hid (show openS s = ((1, 0, 1), [0, 0, 0, 0], 0) by rw [hs]; exact w_open)
  have E7 := Lib.hid (show encS ⟨4, 2, 1, 9, 3⟩ = (sa, 0) by rw [hsa]; exact Prod.ext rfl w_enc4)
  have E8 := Lib.hid (show encS ⟨5, 0, 0, 0, 0⟩ = (sb, 0) by rw [hsb]; exact Prod.ext rfl w_enc5)
  have E9 := Lib.hid (show bestS sa sb = (⟨5, 0, 0, 0, 0⟩, true) by rw [hsa, hsb]; exact w_best)
  have E10 := Lib.hid (show dx.S[1]? = some s by rw [hdx, hs]; exact w_sec)
  have ls : s.length ≤ 100 := by rw [hs, w_lens.1]; omega
  have lsa : sa.length ≤ 100 := by rw [hsa, w_lens.2.1]; omega
  have lsb : sb.length ≤ 100 := by rw [hsb, w_lens.2.2]; omega
  have dS := Lib.hid (show d.S.length = 16 by rw [hd]; decide +kernel)
  have dP := Lib.hid (show d.P.length = 0 by rw [hd]; rfl)
  have xS := Lib.hid (show dx.S.length = 16 by rw [hdx]; exact w_len.1)
  have xP := Lib.hid (show dx.P.length = 0 by rw [hdx]; exact w_len.2)
  clear hd hdx hs hsa hsb
  go_enter Try.func20, Try.ntmps20
  go_wp2_with fail
  refine (RNew_any 16 _).mono ?_
  rw [E1.out]
  rintro e w1 ⟨a1, c1, a2, c2, rfl, hO1, hb1⟩
  have HD := Lib.hid (Bx.new w1 #[.slice a1 d.S.length c1, .slice a2 d.P.length c2, .int .i64 d.fuse, .int .i64 d.ops, .bool d.dead] 38); have HL := Lib.hid ((hO1.alloc (.cells #[.slice a1 d.S.length c1, .slice a2 d.P.length c2, .int .i64 d.fuse, .int .i64 d.ops, .bool d.dead] 38)).lists (d := d) (by rw [dP.out]; omega) (by rw [dS.out]; omega)); have HB := Lib.hid (hb1.alloc hb1.size (.cells #[.slice a1 d.S.length c1, .slice a2 d.P.length c2, .int .i64 d.fuse, .int .i64 d.ops, .bool d.dead] 38))
  have z0 := hb1.size
  clear hO1 hb1
  go_upto_region 2 with (fail)
  generalize hW : w1.alloc (.cells #[.slice a1 d.S.length c1, .slice a2 d.P.length c2, .int .i64 d.fuse, .int .i64 d.ops, .bool d.dead] 38) = v1 at HD HL HB ⊢
  clear hW
  have x0 : v1.cell? ⟨w1.heap.size, 0, none⟩ = some (.slice a1 d.S.length c1) := HD.out.cell 0
  have x1 : v1.cell? ⟨w1.heap.size, 1, none⟩ = some (.slice a2 d.P.length c2) := HD.out.cell 1
  have x2 : v1.cell? ⟨w1.heap.size, 2, none⟩ = some (.int .i64 d.fuse) := HD.out.cell 2
  have x3 : v1.cell? ⟨w1.heap.size, 3, none⟩ = some (.int .i64 d.ops) := HD.out.cell 3
  have x4 : v1.cell? ⟨w1.heap.size, 4, none⟩ = some (.bool d.dead) := HD.out.cell 4
  go_wp2_with fail
  refine (SLoad_any _ _ _ _ d _ HL.out).mono ?_
  rw [E2.out]
  simp only [spV, sp0]
  rintro e w2 ⟨rfl, hb2⟩
  clear x0 x1 x2 x3 x4
  have hal := (Below.refl w2.heap.size w2).alloc (Nat.le_refl _) (.cells #[.int .i64 0, .int .i64 0, .int .i64 0, .int .i64 0, .int .i64 0] 23)
  have HD := Lib.hid ((HD.out.call hb2).alloc (.cells #[.int .i64 0, .int .i64 0, .int .i64 0, .int .i64 0, .int .i64 0] 23))
  have HL := Lib.hid ((HL.out.below hb2).below hal)
  have HB := Lib.hid (btrans (btrans HB.out HB.out.size hb2) (btrans HB.out HB.out.size hb2).size hal)
  clear hal hb2
  go_upto_region 3 with (fail)
  generalize hW : w2.alloc (.cells #[.int .i64 0, .int .i64 0, .int .i64 0, .int .i64 0, .int .i64 0] 23) = v2 at HD HL HB ⊢
  clear hW
  have hal := (Below.refl v2.heap.size v2).alloc (Nat.le_refl _) (.cells #[.int .i64 1, .int .i64 0, .int .i64 0, .int .i64 0, .int .i64 0] 23)
  have HX := Lib.hid (Bx.new v2 #[.int .i64 1, .int .i64 0, .int .i64 0, .int .i64 0, .int .i64 0] 23)
  have zd := HD.out.lt
  have HD := Lib.hid (HD.out.alloc (.cells #[.int .i64 1, .int .i64 0, .int .i64 0, .int .i64 0, .int .i64 0] 23))
  have HL := Lib.hid (HL.out.below hal)
  have HB := Lib.hid (btrans HB.out HB.out.size hal)
  clear hal
  go_upto_region 4 with (fail)
  generalize hW : v2.alloc (.cells #[.int .i64 1, .int .i64 0, .int .i64 0, .int .i64 0, .int .i64 0] 23) = v3 at HX HD HL HB ⊢
  clear hW
  have zx := HX.out.lt
  have x0 : v3.cell? ⟨w1.heap.size, 0, none⟩ = some (.slice a1 d.S.length c1) := HD.out.cell 0
  have x1 : v3.cell? ⟨w1.heap.size, 1, none⟩ = some (.slice a2 d.P.length c2) := HD.out.cell 1
  have x2 : v3.cell? ⟨w1.heap.size, 2, none⟩ = some (.int .i64 d.fuse) := HD.out.cell 2
  have x3 : v3.cell? ⟨w1.heap.size, 3, none⟩ = some (.int .i64 d.ops) := HD.out.cell 3
  have x4 : v3.cell? ⟨w1.heap.size, 4, none⟩ = some (.bool d.dead) := HD.out.cell 4
  have y0 : v3.cell? ⟨v2.heap.size, 0, none⟩ = some (.int .i64 1) := HX.out.cell 0
  have y1 : v3.cell? ⟨v2.heap.size, 1, none⟩ = some (.int .i64 0) := HX.out.cell 1
  have y2 : v3.cell? ⟨v2.heap.size, 2, none⟩ = some (.int .i64 0) := HX.out.cell 2
  have y3 : v3.cell? ⟨v2.heap.size, 3, none⟩ = some (.int .i64 0) := HX.out.cell 3
  have y4 : v3.cell? ⟨v2.heap.size, 4, none⟩ = some (.int .i64 0) := HX.out.cell 4
  go_wp2_with fail
  refine (SStore_any _ _ _ _ d ⟨1, 0, 0, 0, 0⟩ _ HL.out (by rw [dP.out]; omega)).mono ?_
  rw [E3.out]
  rintro e w4 ⟨a3, c3, a4, c4, rfl, hO4, hb4⟩
  clear x0 x1 x2 x3 x4 y0 y1 y2 y3 y4 HL
  have HD := Lib.hid (HD.out.call hb4); have HX := Lib.hid (HX.out.call hb4)
  have x0 : w4.cell? ⟨w1.heap.size, 0, none⟩ = some (.slice a1 d.S.length c1) := HD.out.cell 0
  have x1 : w4.cell? ⟨w1.heap.size, 1, none⟩ = some (.slice a2 d.P.length c2) := HD.out.cell 1
  have x2 : w4.cell? ⟨w1.heap.size, 2, none⟩ = some (.int .i64 d.fuse) := HD.out.cell 2
  have x3 : w4.cell? ⟨w1.heap.size, 3, none⟩ = some (.int .i64 d.ops) := HD.out.cell 3
  have x4 : w4.cell? ⟨w1.heap.size, 4, none⟩ = some (.bool d.dead) := HD.out.cell 4
  have g0 := HD.out.free 0
  have g1 := HD.out.free 1
  have g2 := HD.out.free 2
  have g3 := HD.out.free 3
  have g4 := HD.out.free 4
  have HD := Lib.hid (HD.out.sets (.slice a3 dx.S.length c3) (.slice a4 dx.P.length c4) (.int .i64 dx.fuse) (.int .i64 dx.ops) (.bool dx.dead)); have HX := Lib.hid (HX.out.sets_ne (c := w1.heap.size) (by omega) (.slice a3 dx.S.length c3) (.slice a4 dx.P.length c4) (.int .i64 dx.fuse) (.int .i64 dx.ops) (.bool dx.dead)); have HO := Lib.hid (hO4.sets w1.heap.size (by omega) (.slice a3 dx.S.length c3) (.slice a4 dx.P.length c4) (.int .i64 dx.fuse) (.int .i64 dx.ops) (.bool dx.dead)); have HB := Lib.hid (below_sets (btrans HB.out HB.out.size hb4) w1.heap.size z0 (.slice a3 dx.S.length c3) (.slice a4 dx.P.length c4) (.int .i64 dx.fuse) (.int .i64 dx.ops) (.bool dx.dead))
  clear hO4 hb4
  go_upto_region 5 with (fail)
  generalize hW : (((((w4.setCell ⟨w1.heap.size, 0, none⟩ (.slice a3 dx.S.length c3)).setCell ⟨w1.heap.size, 1, none⟩ (.slice a4 dx.P.length c4)).setCell ⟨w1.heap.size, 2, none⟩ (.int .i64 dx.fuse)).setCell ⟨w1.heap.size, 3, none⟩ (.int .i64 dx.ops)).setCell ⟨w1.heap.size, 4, none⟩ (.bool dx.dead)) = v4 at HD HX HO HB ⊢
  clear hW x0 x1 x2 x3 x4 g0 g1 g2 g3 g4
  have HL := Lib.hid (HO.out.lists (d := dx) (by rw [xP.out]; omega) (by rw [xS.out]; omega)); clear HO
  have x0 : v4.cell? ⟨w1.heap.size, 0, none⟩ = some (.slice a3 dx.S.length c3) := HD.out.cell 0
  have x1 : v4.cell? ⟨w1.heap.size, 1, none⟩ = some (.slice a4 dx.P.length c4) := HD.out.cell 1
  have x2 : v4.cell? ⟨w1.heap.size, 2, none⟩ = some (.int .i64 dx.fuse) := HD.out.cell 2
  have x3 : v4.cell? ⟨w1.heap.size, 3, none⟩ = some (.int .i64 dx.ops) := HD.out.cell 3
  have x4 : v4.cell? ⟨w1.heap.size, 4, none⟩ = some (.bool dx.dead) := HD.out.cell 4
  go_wp2_with fail
  refine (SLoad_any _ _ _ _ dx _ HL.out).mono ?_
  rw [E4.out]
  simp only [spV]
  rintro e w5 ⟨rfl, hb5⟩
  clear x0 x1 x2 x3 x4
  have hal := (Below.refl w5.heap.size w5).alloc (Nat.le_refl _) (.cells #[.int .i64 1, .int .i64 0, .int .i64 0, .int .i64 0, .int .i64 0] 23)
  have HD := Lib.hid ((HD.out.call hb5).alloc (.cells #[.int .i64 1, .int .i64 0, .int .i64 0, .int .i64 0, .int .i64 0] 23))
  have HL := Lib.hid ((HL.out.below hb5).below hal)
  have HX := Lib.hid ((HX.out.call hb5).alloc (.cells #[.int .i64 1, .int .i64 0, .int .i64 0, .int .i64 0, .int .i64 0] 23))
  have HB := Lib.hid (btrans (btrans HB.out HB.out.size hb5) (btrans HB.out HB.out.size hb5).size hal)
  have HY := Lib.hid (Bx.new w5 #[.int .i64 1, .int .i64 0, .int .i64 0, .int .i64 0, .int .i64 0] 23)
  clear hal hb5
  go_upto_region 6 with (fail)
  generalize hW : w5.alloc (.cells #[.int .i64 1, .int .i64 0, .int .i64 0, .int .i64 0, .int .i64 0] 23) = v5 at HD HL HX HB HY ⊢
  clear hW
  have y0 : v5.cell? ⟨v2.heap.size, 0, none⟩ = some (.int .i64 1) := HX.out.cell 0
  have y1 : v5.cell? ⟨v2.heap.size, 1, none⟩ = some (.int .i64 0) := HX.out.cell 1
  have y2 : v5.cell? ⟨v2.heap.size, 2, none⟩ = some (.int .i64 0) := HX.out.cell 2
  have y3 : v5.cell? ⟨v2.heap.size, 3, none⟩ = some (.int .i64 0) := HX.out.cell 3
  have y4 : v5.cell? ⟨v2.heap.size, 4, none⟩ = some (.int .i64 0) := HX.out.cell 4
  go_wp2_with fail
  refine (SEncode_any ⟨1, 0, 0, 0, 0⟩ _).mono ?_
  rw [E5.out]
  rintro e w6 ⟨rfl, hb6⟩
  clear y0 y1 y2 y3 y4
  have HD := Lib.hid (HD.out.call hb6); have HL := Lib.hid (HL.out.below hb6); have HX := Lib.hid (HX.out.call hb6); have HY := Lib.hid (HY.out.call hb6); have HB := Lib.hid (btrans HB.out HB.out.size hb6); clear hb6
  go_wp2_with fail
  refine (Open_any s _ (by omega)).mono ?_
  rw [E6.out]
  rintro e w7 ⟨rfl, hb7⟩
  have hal := (Below.refl w7.heap.size w7).alloc (Nat.le_refl _) (.cells #[.int .i64 1, .int .i64 0, .int .i64 1] 87)
  have HD := Lib.hid ((HD.out.call hb7).alloc (.cells #[.int .i64 1, .int .i64 0, .int .i64 1] 87))
  have HL := Lib.hid ((HL.out.below hb7).below hal)
  have HX := Lib.hid ((HX.out.call hb7).alloc (.cells #[.int .i64 1, .int .i64 0, .int .i64 1] 87))
  have HY := Lib.hid ((HY.out.call hb7).alloc (.cells #[.int .i64 1, .int .i64 0, .int .i64 1] 87))
  have HB := Lib.hid (btrans (btrans HB.out HB.out.size hb7) (btrans HB.out HB.out.size hb7).size hal)
  clear hal hb7
  go_upto_region 8 with (fail)
  generalize hW : w7.alloc (.cells #[.int .i64 1, .int .i64 0, .int .i64 1] 87) = v7 at HD HL HX HY HB ⊢
  clear hW
  go_wp2_with fail
  refine (SEncode_any ⟨4, 2, 1, 9, 3⟩ _).mono ?_
  rw [E7.out]
  rintro e w8 ⟨rfl, hb8⟩
  have HD := Lib.hid (HD.out.call hb8); have HL := Lib.hid (HL.out.below hb8); have HX := Lib.hid (HX.out.call hb8); have HY := Lib.hid (HY.out.call hb8); have HB := Lib.hid (btrans HB.out HB.out.size hb8); clear hb8
  go_wp2_with fail
  refine (SEncode_any ⟨5, 0, 0, 0, 0⟩ _).mono ?_
  rw [E8.out]
  rintro e w9 ⟨rfl, hb8⟩
  have HD := Lib.hid (HD.out.call hb8); have HL := Lib.hid (HL.out.below hb8); have HX := Lib.hid (HX.out.call hb8); have HY := Lib.hid (HY.out.call hb8); have HB := Lib.hid (btrans HB.out HB.out.size hb8); clear hb8
  go_wp2_with fail
  refine (SBest_any sa sb _ (by omega) (by omega)).mono ?_
  rw [E9.out]
  simp only [spV]
  rintro e w10 ⟨rfl, hb10⟩
  have hal := (Below.refl w10.heap.size w10).alloc (Nat.le_refl _) (.cells #[.int .i64 5, .int .i64 0, .int .i64 0, .int .i64 0, .int .i64 0] 23)
  have HD := Lib.hid ((HD.out.call hb10).alloc (.cells #[.int .i64 5, .int .i64 0, .int .i64 0, .int .i64 0, .int .i64 0] 23))
  have HL := Lib.hid ((HL.out.below hb10).below hal)
  have HX := Lib.hid ((HX.out.call hb10).alloc (.cells #[.int .i64 5, .int .i64 0, .int .i64 0, .int .i64 0, .int .i64 0] 23))
  have HY := Lib.hid ((HY.out.call hb10).alloc (.cells #[.int .i64 5, .int .i64 0, .int .i64 0, .int .i64 0, .int .i64 0] 23))
  have HB := Lib.hid (btrans (btrans HB.out HB.out.size hb10) (btrans HB.out HB.out.size hb10).size hal)
  have HZ := Lib.hid (Bx.new w10 #[.int .i64 5, .int .i64 0, .int .i64 0, .int .i64 0, .int .i64 0] 23)
  clear hal hb10
  go_upto_region 11 with (fail)
  generalize hW : w10.alloc (.cells #[.int .i64 5, .int .i64 0, .int .i64 0, .int .i64 0, .int .i64 0] 23) = v10 at HD HL HX HY HB HZ ⊢
  clear hW
  have h16 : 1 < dx.S.length := by rw [xS.out]; omega
  obtain ⟨b, off, rfl, hcap, hcell⟩ := HL.out.sec 1 h16
  have hs1 : dx.S[1] = s := by have h := E10.out; rw [List.getElem?_eq_getElem h16] at h; exact Option.some.inj h
  rw [hs1] at hcell
  clear hs1
  have h16' : (1 : Int) < (dx.S.length : Int) := by omega
  have t1 : ((dx.S.length : Int) != 16) = false := by rw [xS.out]; rfl
  have t2 : (s == s) = true := by simp
  have x0 : v10.cell? ⟨w1.heap.size, 0, none⟩ = some (.slice (some ⟨b, off, none⟩) dx.S.length c3) := HD.out.cell 0
  have x1 : v10.cell? ⟨w1.heap.size, 1, none⟩ = some (.slice a4 dx.P.length c4) := HD.out.cell 1
  have x2 : v10.cell? ⟨w1.heap.size, 2, none⟩ = some (.int .i64 dx.fuse) := HD.out.cell 2
  have x3 : v10.cell? ⟨w1.heap.size, 3, none⟩ = some (.int .i64 dx.ops) := HD.out.cell 3
  have x4 : v10.cell? ⟨w1.heap.size, 4, none⟩ = some (.bool dx.dead) := HD.out.cell 4
  have y0 : v10.cell? ⟨v2.heap.size, 0, none⟩ = some (.int .i64 1) := HX.out.cell 0
  have y1 : v10.cell? ⟨v2.heap.size, 1, none⟩ = some (.int .i64 0) := HX.out.cell 1
  have y2 : v10.cell? ⟨v2.heap.size, 2, none⟩ = some (.int .i64 0) := HX.out.cell 2
  have y3 : v10.cell? ⟨v2.heap.size, 3, none⟩ = some (.int .i64 0) := HX.out.cell 3
  have y4 : v10.cell? ⟨v2.heap.size, 4, none⟩ = some (.int .i64 0) := HX.out.cell 4
  have q0 : v10.cell? ⟨w5.heap.size, 0, none⟩ = some (.int .i64 1) := HY.out.cell 0
  have q1 : v10.cell? ⟨w5.heap.size, 1, none⟩ = some (.int .i64 0) := HY.out.cell 1
  have q2 : v10.cell? ⟨w5.heap.size, 2, none⟩ = some (.int .i64 0) := HY.out.cell 2
  have q3 : v10.cell? ⟨w5.heap.size, 3, none⟩ = some (.int .i64 0) := HY.out.cell 3
  have q4 : v10.cell? ⟨w5.heap.size, 4, none⟩ = some (.int .i64 0) := HY.out.cell 4
  have r0 : v10.cell? ⟨w10.heap.size, 0, none⟩ = some (.int .i64 5) := HZ.out.cell 0
  have r1 : v10.cell? ⟨w10.heap.size, 1, none⟩ = some (.int .i64 0) := HZ.out.cell 1
  have r2 : v10.cell? ⟨w10.heap.size, 2, none⟩ = some (.int .i64 0) := HZ.out.cell 2
  have r3 : v10.cell? ⟨w10.heap.size, 3, none⟩ = some (.int .i64 0) := HZ.out.cell 3
  have r4 : v10.cell? ⟨w10.heap.size, 4, none⟩ = some (.int .i64 0) := HZ.out.cell 4
  go_wp2_with fail
  refine (SValid_any ⟨3, 4, 0, 0, 0⟩ _).mono ?_
  rw [w_v1]
  rintro e w11 ⟨rfl, hb11⟩
  have HX := Lib.hid (HX.out.call hb11); have HB := Lib.hid (btrans HB.out HB.out.size hb11)
  clear hb11 x0 x1 x2 x3 x4 y0 y1 y2 y3 y4 q0 q1 q2 q3 q4 r0 r1 r2 r3 r4 hcell t1 t2
  have y0 : w11.cell? ⟨v2.heap.size, 0, none⟩ = some (.int .i64 1) := HX.out.cell 0
  have y1 : w11.cell? ⟨v2.heap.size, 1, none⟩ = some (.int .i64 0) := HX.out.cell 1
  have y2 : w11.cell? ⟨v2.heap.size, 2, none⟩ = some (.int .i64 0) := HX.out.cell 2
  have y3 : w11.cell? ⟨v2.heap.size, 3, none⟩ = some (.int .i64 0) := HX.out.cell 3
  have y4 : w11.cell? ⟨v2.heap.size, 4, none⟩ = some (.int .i64 0) := HX.out.cell 4
  go_wp2_with fail
  refine (SValid_any ⟨1, 0, 0, 0, 0⟩ _).mono ?_
  rw [w_v2]
  rintro e w12 ⟨rfl, hb12⟩
  have HB := Lib.hid (btrans HB.out HB.out.size hb12)
  clear hb12
  go_wp2
  go_ret
  exact ⟨rfl, HB.out⟩
end Go.Proofs.Ytkpfkknldeafkaa

namespace Go.Proofs.Ytkpfkknldeafkaa
open Go.ChangeShapes Go.WideShapes Go.ChangeAt Go.RowKit

section
variable {H : Type} {enc : TypeId × Value → H} {W : World} {base : Nat} {spare : Nat → Bool} {held : Bool}
set_option maxRecDepth 100000 in
theorem trod_super {fuel : Nat} {cs : List Value} {x : DataW H × List MemPlace} (h : DataW.trod enc Try.prog W base spare held fuel 23 cs = some x) : ∃ q : Sp, cs = (spV q).toList := by
  obtain ⟨ys, n, _, _, hlen, hyl, hf⟩ := DataW.trod_struct Try.underlying23 h
  rw [show Try.prog.cellsOf 23 = 5 by kernel_rfl] at hlen
  match cs, hlen with
  | [u0, u1, u2, u3, u4], _ =>
    match ys, hyl with
    | [y0, y1, y2, y3, y4], _ =>
      have g0 : DataW.trod enc Try.prog W base spare held n 2 (([u0, u1, u2, u3, u4].drop 0).take (Try.prog.cellsOf 2)) = some y0 := hf 0 _ rfl
      have g1 : DataW.trod enc Try.prog W base spare held n 2 (([u0, u1, u2, u3, u4].drop 1).take (Try.prog.cellsOf 2)) = some y1 := hf 1 _ rfl
      have g2 : DataW.trod enc Try.prog W base spare held n 3 (([u0, u1, u2, u3, u4].drop 2).take (Try.prog.cellsOf 3)) = some y2 := hf 2 _ rfl
      have g3 : DataW.trod enc Try.prog W base spare held n 3 (([u0, u1, u2, u3, u4].drop 3).take (Try.prog.cellsOf 3)) = some y3 := hf 3 _ rfl
      have g4 : DataW.trod enc Try.prog W base spare held n 2 (([u0, u1, u2, u3, u4].drop 4).take (Try.prog.cellsOf 2)) = some y4 := hf 4 _ rfl
      rw [show Try.prog.cellsOf 3 = 1 by kernel_rfl] at g2 g3
      rw [show Try.prog.cellsOf 2 = 1 by kernel_rfl] at g0 g1 g4
      obtain ⟨n0, e0, _⟩ := DataW.trod_int Try.underlying2 g0
      obtain ⟨n1, e1, _⟩ := DataW.trod_int Try.underlying2 g1
      obtain ⟨n2, e2, _⟩ := DataW.trod_int Try.underlying3 g2
      obtain ⟨n3, e3, _⟩ := DataW.trod_int Try.underlying3 g3
      obtain ⟨n4, e4, _⟩ := DataW.trod_int Try.underlying2 g4
      simp at e0 e1 e2 e3 e4
      subst e0 e1 e2 e3 e4
      exact ⟨⟨n0, n1, n2, n3, n4⟩, rfl⟩
set_option maxRecDepth 100000 in
theorem open_super {r : Reach} {b0 : Nat} {v : Value} {d : DataW H} {p : List MemPlace} (hv : Value.okWide Try.prog W r b0 23 v) (h : DataW.Trod enc Try.prog W base spare held 23 v d p) : ∃ q : Sp, v = .agg (spV q) := by
  obtain ⟨cs, rfl, hsz⟩ := okWide_struct Try.underlying23 hv
  obtain ⟨fuel, hf⟩ := h
  obtain ⟨q, hq⟩ := trod_super hf
  have hc : cs = spV q := Array.toList_inj.1 hq
  exact ⟨q, by rw [hc]⟩
end
end Go.Proofs.Ytkpfkknldeafkaa


