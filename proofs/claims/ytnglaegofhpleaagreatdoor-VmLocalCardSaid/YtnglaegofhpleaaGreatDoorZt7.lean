/- What the claim needs of: VmWg, VmWh, VmWi, VmWj, VmWk, VmWl, VmYd, VmXa. No conditions. -/
import Derived.Test.YtnglaegofhpleaaGreatDoorZt6
import Derived.Test.YtnglaegofhpleaaGreatDoorRows
import Derived.WalkKit
import Derived.WalkSpells
import Derived.WalkLawsBesides
import Derived.Lib.SlBytesRow
import Derived.Lib.Hide
import Derived.Lib.ParseIntBTie
import Derived.Lib.ItoaLen
import Derived.Shelf.Small.Strs
import Derived.Shelf.Small.Wraps
import Derived.Shelf.Strconv.Itoa0
import Derived.Shelf.Strconv.Itoa1
import Derived.Shelf.LaysM
import Derived.Shelf.Strconv.Itoa2
import Derived.Shelf.Strconv.Itoa3
import Derived.Shelf.Strconv.Itoa4
import Derived.Shelf.Strings.Fields
import Derived.Shelf.Slices.Turned
import Derived.Lib.SmallJoins
import Derived.Lib.AppendIntMem
import Derived.Deep.RegionHeld3
import Derived.Outline
import Derived.Deep.Cut
import Derived.Deep.CutRange
import Derived.Deep.DeepCutAuto
import Derived.Deep.RegionLaw
import Derived.Lib.Builder
import Derived.Lib.AppendStr
import Derived.Lib.UnsafeStr
import Derived.Laws.Externs
import Derived.Laws.AppendOwnNone
import Derived.Deep.DeepAppendWide
import Derived.Laws.RangeAny
import Derived.Lib.IndexLaws
import Derived.Lib.LaidTab
import Derived.Shelf.Spec.SlicesInsert
import Derived.Shelf.Spec.SlicesInsertGrow
import Derived.Shelf.Spec.SearchS
import Derived.OrdersIn
import Derived.TacticsIn
import Derived.BigQuiet
import Derived.Tactics
import Derived.Tactics2
import Derived.Defers
import Derived.Recover
import Derived.Laws.Pointers
import Derived.Deep.AppendLies
import Derived.Laws.CopyOwn
import Derived.Stop.LaidErr
import Derived.LaidMore
import Derived.Deep.Slices
import Derived.OpenShut
import Derived.ProofKit
import Derived.SizedLaws
import Derived.SliceStrings
import Derived.HandedShaped
import Derived.Shelf.Vars
namespace Go.Proofs.YtnglaegofhpleaaGreatDoor
open Go.RowKit

def exV (x : List UInt8) : Array Value := #[.int .i64 3, .int .i64 0, .string (bs x), .slice none 0 0]
theorem infoEx : (Tryz.prog.info? 116).map (fun i => (i.zero, i.size, i.bytes)) = some (some (.agg #[.int .i64 0, .int .i64 0, .string ⟨#[]⟩, .slice none 0 0]), 4, 56) := by kernel_rfl
theorem exLs_snoc (L : List (List UInt8)) (x : List UInt8) : exLs (L ++ [x]) = exLs L ++ exL x := by unfold exLs; rw [List.flatMap_append]; simp
/-- the names of the operands -/
def nmO (n : Nat) : List (List UInt8) := ([[97], [98]] : List (List UInt8)).take n
def varO (l : List Vl) : List Pr := (List.range l.length).map fun i => ⟨([[97], [98]] : List (List UInt8)).getD i [], l.getD i v00⟩
theorem varO_key {l : List Vl} (h : l.length ≤ 2) : (varO l).map Pr.key = nmO l.length := by
  match l, h with
  | [], _ => rfl
  | [_], _ => rfl
  | [_, _], _ => rfl
theorem varO_v {l : List Vl} (h : l.length ≤ 2) : (varO l).map Pr.v = l := by
  match l, h with
  | [], _ => rfl
  | [_], _ => rfl
  | [_, _], _ => rfl
theorem varO_len (l : List Vl) : (varO l).length = l.length := by unfold varO; simp
theorem nmO_len {n : Nat} (h : n ≤ 2) : (nmO n).length = n := by unfold nmO; simp; omega
theorem cellsAt_ex (w : World) (x : (List UInt8)) : CellsAt (w.alloc (.cells (exV x) 116)) (.slice (some ⟨w.heap.size, 0, none⟩) 1 1) 1 (exL x) := by
  refine ⟨_, _, rfl, fun _ => ⟨_, _, rfl, fun j y hj => ?_⟩⟩
  rw [Nat.zero_add]
  have h := (Bx.new w (exV x) 116).cell j
  rw [h]
  rcases j with _ | _ | _ | _ | j
  · exact hj
  · exact hj
  · exact hj
  · exact hj
  · simp [exL] at hj
/-- 'v = append(v, y)', v a slice of tokens of the call's own -/
theorem wpList_append_ex {w1 : World} {ops : Array Oper} {rest : List Oper} {o : Oper} {a : Act} {Q : Exit → Act → World → Prop} (hgd : o.guard = none) (s x : Operand)
    (ho : o.op = .call { callee := .builtin .append, args := #[s, x], argTypes := #[114, 114] }) (B : Nat) (v : Value) (L : List (List UInt8)) (y : (List UInt8)) (hown : w1.ownsRow B 116 4 v L.length (exLs L))
    (hs : a.eval s = v) (hx : a.eval x = .slice (some ⟨w1.heap.size, 0, none⟩) 1 1) (hlen : L.length ≤ 1000000000000) (W0 : World) (B0 : Nat) (hbel : Below B0 W0 w1) (hB : B ≤ w1.heap.size) (hB0 : B0 ≤ B)
    (h : ∀ v' w', w'.ownsRow B 116 4 v' (L ++ [y]).length (exLs (L ++ [y])) → Below B0 W0 w' → w1.grownBy w' v.ownBlock → wpList Tryz.prog ops Q rest (a.put o.dst v') w') :
    wpList Tryz.prog ops Q (o :: rest) a (w1.alloc (.cells (exV y) 116)) := by
  obtain ⟨i0, hi, hz0, hz1, hz2⟩ := info_parts infoEx
  refine wpList_append_any hgd s x 114 ho B 116 i0 (.agg #[.int .i64 0, .int .i64 0, .string ⟨#[]⟩, .slice none 0 0]) 4 56 Tryz.underlying114 hi hz0 hz1 hz2 rfl (by decide) v _ L.length 1 (exLs L) (exL y) hs (hown.alloc _) hx (cellsAt_ex w1 y) rfl
    (by intro u hu; simp only [exL, List.mem_cons, List.not_mem_nil, or_false] at hu; rcases hu with rfl | rfl | rfl | rfl <;> rfl) (by unfold maxLen; omega) (by omega) W0 B0 (hbel.alloc (Nat.le_trans hB0 hB) _) (by simp; omega) hB0 ?_
  intro v2 w2 hown2 hb2 hgrow
  refine h v2 w2 (by rw [exLs_snoc, List.length_append]; exact hown2) hb2 ?_
  exact ⟨hgrow.os, hgrow.tape, hgrow.output, Nat.le_trans (by simp) hgrow.size, fun k hk hne => (hgrow.block k (by simp; omega) hne).trans ((World.grownBy_alloc w1 (.cells (exV y) 116) none).block k hk (by simp))⟩

theorem cellsAt_pr (w : World) (x : Pr) : CellsAt (w.alloc (.cells (prV x) 55)) (.slice (some ⟨w.heap.size, 0, none⟩) 1 1) 1 (prL x) := by
  refine ⟨_, _, rfl, fun _ => ⟨_, _, rfl, fun j y hj => ?_⟩⟩
  rw [Nat.zero_add]
  have h := (Bx.new w (prV x) 55).cell j
  rw [h]
  rcases j with _ | _ | _ | _ | j
  · exact hj
  · exact hj
  · exact hj
  · exact hj
  · simp [prL] at hj
/-- 'v = append(v, y)', v a slice of tokens of the call's own -/
theorem wpList_append_pr {w1 : World} {ops : Array Oper} {rest : List Oper} {o : Oper} {a : Act} {Q : Exit → Act → World → Prop} (hgd : o.guard = none) (s x : Operand)
    (ho : o.op = .call { callee := .builtin .append, args := #[s, x], argTypes := #[32, 32] }) (B : Nat) (v : Value) (L : List Pr) (y : Pr) (hown : w1.ownsRow B 55 4 v L.length (prLs L))
    (hs : a.eval s = v) (hx : a.eval x = .slice (some ⟨w1.heap.size, 0, none⟩) 1 1) (hlen : L.length ≤ 1000000000000) (W0 : World) (B0 : Nat) (hbel : Below B0 W0 w1) (hB : B ≤ w1.heap.size) (hB0 : B0 ≤ B)
    (h : ∀ v' w', w'.ownsRow B 55 4 v' (L ++ [y]).length (prLs (L ++ [y])) → Below B0 W0 w' → w1.grownBy w' v.ownBlock → wpList Tryz.prog ops Q rest (a.put o.dst v') w') :
    wpList Tryz.prog ops Q (o :: rest) a (w1.alloc (.cells (prV y) 55)) := by
  obtain ⟨i0, hi, hz0, hz1, hz2⟩ := info_parts infoPr
  refine wpList_append_any hgd s x 32 ho B 55 i0 (.agg #[.string ⟨#[]⟩, .int .i64 0, .int .i64 0, .string ⟨#[]⟩]) 4 48 Tryz.underlying32 hi hz0 hz1 hz2 rfl (by decide) v _ L.length 1 (prLs L) (prL y) hs (hown.alloc _) hx (cellsAt_pr w1 y) rfl
    (by intro u hu; simp only [prL, List.mem_cons, List.not_mem_nil, or_false] at hu; rcases hu with rfl | rfl | rfl | rfl <;> rfl) (by unfold maxLen; omega) (by omega) W0 B0 (hbel.alloc (Nat.le_trans hB0 hB) _) (by simp; omega) hB0 ?_
  intro v2 w2 hown2 hb2 hgrow
  refine h v2 w2 (by rw [prLs_snoc, List.length_append]; exact hown2) hb2 ?_
  exact ⟨hgrow.os, hgrow.tape, hgrow.output, Nat.le_trans (by simp) hgrow.size, fun k hk hne => (hgrow.block k (by simp; omega) hne).trans ((World.grownBy_alloc w1 (.cells (prV y) 55) none).block k hk (by simp))⟩

theorem getP_found {k : List UInt8} : ∀ (L : List Pr) (h : L.findIdx (keyP k) < L.length), getP L k = L[L.findIdx (keyP k)].v ∧ L[L.findIdx (keyP k)].key = k
  | [], h => by simp at h
  | p :: r, h => by
    rw [getP_cons]
    by_cases e : p.key = k
    · have hi : (p :: r).findIdx (keyP k) = 0 := by rw [List.findIdx_cons, show keyP k p = true from by unfold keyP; rw [e]; exact beq_self_eq_true _]; rfl
      rw [if_pos e]
      simp only [hi, List.getElem_cons_zero]
      exact ⟨by first | exact True.intro | rfl, e⟩
    · have hi : (p :: r).findIdx (keyP k) = r.findIdx (keyP k) + 1 := by rw [List.findIdx_cons, show keyP k p = false from by unfold keyP; rw [beq_eq_false_iff_ne]; exact e]; rfl
      rw [if_neg e]
      simp only [hi, List.getElem_cons_succ]
      exact getP_found r (by rw [hi] at h; simpa using h)
theorem getP_str {L : List Pr} (h : ∀ p ∈ L, p.v.s.length ≤ 9223372036854775807) (k : List UInt8) : (getP L k).s.length ≤ 9223372036854775807 := by
  induction L with
  | nil => show ([] : List UInt8).length ≤ _; simp
  | cons p r ih =>
    rw [getP_cons]
    split
    · exact h p (List.mem_cons_self ..)
    · exact ih fun q hq => h q (List.mem_cons_of_mem _ hq)
theorem onePr_str {L : List Pr} {k : List UInt8} (h : ∀ p ∈ L, p.v.s.length ≤ 9223372036854775807) (hk : k.length ≤ 9223372036854775807) : (∀ p ∈ onePr L k, p.key.length ≤ 9223372036854775807 ∧ p.v.s.length ≤ 9223372036854775807) ∧ (onePr L k).length ≤ 9000000000000 := by
  unfold onePr
  split
  · exact ⟨by simp, by simp⟩
  · refine ⟨fun p hp => ?_, by simp⟩
    rw [List.mem_singleton] at hp
    rw [hp]
    exact ⟨hk, getP_str h k⟩
theorem own_frs {S S' : Nat → Prop} {B n k : Nat} {e : TypeId} {v : Value} {xs : List Value} {w w' : World} (h : w.ownsRow B e k v n xs) (hk : FrS S S' w w') (hn : ∀ b, v.ownBlock = some b → ¬ S b) : w'.ownsRow B e k v n xs :=
  (OwnS.blocks (S := fun _ => True) ⟨h, fun _ _ => trivial⟩ fun g _ hl hv => hk.block g hl (hn g hv)).1
/-- how an operator ended, in one form -/
theorem res_form (R : Rs) : ∃ (st c : Int) (mi : List UInt8) (v : Vl), vEnd R = vV v ∧ (∀ rv, efA R rv = #[.int .i64 st, .int .i64 c, .slice none 0 0, rv, .slice none 0 0, .slice none 0 0, .string (bs mi), .int .i64 0]) ∧ (∀ m, resM R m = if st = 1 then pushM m v else endM st c mi m) ∧ (R ≠ .ok v → st ≠ 1) := by
  rcases R with v | c | k
  · exact ⟨1, 0, [], v, rfl, fun _ => rfl, fun m => (if_pos rfl).symm, fun h => absurd rfl h⟩
  · exact ⟨2, c, [], v00, rfl, fun _ => rfl, fun m => (if_neg (by decide)).symm, fun _ => by decide⟩
  · exact ⟨3, 0, k, v00, rfl, fun _ => rfl, fun m => (if_neg (by decide)).symm, fun _ => by decide⟩
theorem own_exAt {W : World} {B n : Nat} {v : Value} (hn : n ≤ 2) (h : W.ownsRow B 116 4 v n (exLs (nmO n))) : CellsAt W v n (exLs (nmO n)) := by
  rcases own_form h with ⟨rfl, rfl⟩ | ⟨g, cap, rfl, hc, _⟩
  · exact ⟨none, 0, rfl, fun hne => absurd rfl hne⟩
  · refine ⟨_, cap, rfl, fun _ => ⟨g, 0, rfl, fun j u hj => ?_⟩⟩
    have h1 := h.cells (g := g) rfl j u hj
    have e : (⟨g, 0, none⟩ : Addr).add j = ⟨g, 0 + j, none⟩ := by unfold Addr.add; split <;> simp_all
    rw [e] at h1; exact h1
theorem own_drew {B n k : Nat} {e : TypeId} {v : Value} {xs : List Value} {W : World} (h : W.ownsRow B e k v n xs) : W.drew.ownsRow B e k v n xs := h
theorem own_kgrow {B n k : Nat} {e : TypeId} {v : Value} {xs : List Value} {W W' : World} {row : Option Nat} (h : W.ownsRow B e k v n xs) (hg : W.grownBy W' row) (hne : v.ownBlock = none ∨ v.ownBlock ≠ row) : W'.ownsRow B e k v n xs :=
  (OwnS.grow (S := fun _ => True) (S' := fun _ => True) ⟨h, fun _ _ => trivial⟩ hg hne (fun _ q => q)).1
theorem nm_at {k : Nat} (h : k < 2) : ({ data := #[97, 98] } : ByteArray).extract k (k + 1) = bs (([[97], [98]] : List (List UInt8)).getD k []) := by
  have : k = 0 ∨ k = 1 := by omega
  rcases this with rfl | rfl <;> rfl
theorem nmO_take {n k : Nat} (h : n ≤ 2) (hk : k < n) : (nmO n).take (k + 1) = (nmO n).take k ++ [([[97], [98]] : List (List UInt8)).getD k []] := by
  have h1 : k = 0 ∨ k = 1 := by omega
  have h2 : n = 1 ∨ n = 2 := by omega
  rcases h1 with rfl | rfl <;> rcases h2 with rfl | rfl <;> first | rfl | omega
theorem varO_take {l : List Vl} {k : Nat} (hk : k < l.length) : (varO l).take (k + 1) = (varO l).take k ++ [⟨([[97], [98]] : List (List UInt8)).getD k [], l[k]⟩] := by
  have h2 : k < (varO l).length := by rw [varO_len]; exact hk
  rw [List.take_succ_eq_append_getElem h2]
  congr 2
  unfold varO; simp [List.getElem?_eq_getElem hk]
set_option maxRecDepth 100000 in
set_option maxHeartbeats 32000000 in
theorem operate_any (W0 : World) (mb : Nat) (S : Nat → Prop) (H : Nat → Value) (m : Mc) (R : Rw) (M : List Pr) (F : Ft) (op : Int) (l : List Vl) (la : Option Addr) (lc : Nat) (hG : GivH H W0 M F) (hop : (l.length = 1 ∧ (op = 9 ∨ op = 18 ∨ op = 20 ∨ op = 21 ∨ op = 22 ∨ op = 23 ∨ op = 24)) ∨ (l.length = 2 ∧ 4 ≤ op ∧ op ≤ 19 ∧ op ≠ 9 ∧ op ≠ 18)) (hok : ∀ v ∈ l, OkV v) (hd : m.dep < 64) (hs : SortK m.rds) (hl : m.rds.length ≤ 100000000 ∧ m.own.length ≤ 100000000) (hlo : ∀ p ∈ m.own, p.key.length ≤ 9223372036854775807 ∧ p.v.s.length ≤ 9223372036854775807) (hLd : Laid W0) (w : World) (h : VMB W0.heap.size mb S H m R w) (hb0 : Below W0.heap.size W0 w) (hV : CellsAt w (.slice la l.length lc) l.length (vlLs l)) :
    Calls Tryz.prog 62 #[.pointer (some ⟨mb, 0, none⟩), .int .i64 op, .slice la l.length lc] w (VPost W0.heap.size mb S H (opM M F op l m) (.tuple #[]) w) := by
  have hn2 : l.length ≤ 2 ∧ 1 ≤ l.length := by omega
  have HM0 := Lib.hid h; have HB0 := Lib.hid hb0; have HG := Lib.hid hG; have HOP := Lib.hid hop; have HOK := Lib.hid hok; have HSO := Lib.hid hs; have HLO := Lib.hid hlo; have HLD := Lib.hid hLd; have HV := Lib.hid hV; clear h hb0 hG hop hok hs hlo hLd hV
  obtain ⟨v0, hW0, hb1, hx0, hy0⟩ := boxes2 w #[.slice la l.length lc] 26 #[.int .i64 op, .int .i64 0, .string ⟨#[]⟩, .slice none 0 0] 116
  have HW := Lib.hid hW0; have HB := Lib.hid hb1; have HX := Lib.hid hx0; have HE := Lib.hid hy0; clear hW0 hb1 hx0 hy0
  go_enter Tryz.func62, Tryz.ntmps62
  go_upto_region 2 with (fail)
  rw [HW.out]
  clear HW
  have x0 := HX.out.cell 0
  simp only [List.getElem?_toArray, List.getElem?_cons_zero] at x0
  go_wp2
  clear x0
  go_loopw [24, 7] (fun i s wr => ∃ (k : Nat) (ea va : Option Addr) (ec vc : Nat), k ≤ l.length ∧ i = .int .i64 k ∧ s = .slice va k vc ∧ Hid (Bx w.heap.size #[.slice la l.length lc] 26 wr) ∧ Hid (Bx (w.heap.size + 1) #[.int .i64 op, .int .i64 0, .string ⟨#[]⟩, .slice ea k ec] 116 wr) ∧ Hid (wr.ownsRow (w.heap.size + 2) 116 4 (.slice ea k ec) k (exLs ((nmO l.length).take k))) ∧ Hid (wr.ownsRow (w.heap.size + 2) 55 4 (.slice va k vc) k (prLs ((varO l).take k))) ∧ Below w.heap.size w wr) (fun i _ _ => l.length - (intOf i).toNat)
  case atStart => exact ⟨0, none, none, 0, 0, Nat.zero_le _, by first | exact True.intro | rfl, by first | exact True.intro | rfl, HX, HE, Lib.hid (own_nil _ _ _ _), Lib.hid (own_nil _ _ _ _), HB.out⟩
  case round =>
    clear HX HE HB
    obtain ⟨k, ea, va, ec, vc, hk, rfl, rfl, HX, HE, HOE, HOV, hB⟩ := hrel
    have HB := Lib.hid hB; clear hB
    by_cases hlt : k < l.length
    · have hlt' : (k : Int) < (l.length : Int) := by omega
      have hkb : (0 : Int) ≤ (k : Int) ∧ (k : Int) < (l.length : Int) := ⟨by omega, by omega⟩
      have hw1 : IntKind.i64.wrap ((k : Int) + 1) = (k : Int) + 1 := by rw [IntKind.wrap_i64]; omega
      obtain ⟨vb, off, hla, p0, p1, p2⟩ := vl_cells (HV.out.below HB.out) hlt
      obtain ⟨u, hu⟩ : ∃ u, l[k] = u := ⟨_, rfl⟩
      rw [hu] at p0 p1 p2
      have HU := Lib.hid hu; clear hu
      subst hla
      go_upto_region 6 with (fail)
      have hal := (Below.refl wr.heap.size wr).alloc (Nat.le_refl _) (.cells #[.int .i64 u.k, .int .i64 u.n, .string (bs u.s)] 52)
      have HUB := Lib.hid (Bx.new wr #[.int .i64 u.k, .int .i64 u.n, .string (bs u.s)] 52)
      have hxl := HX.out.lt; have hel := HE.out.lt
      have HX := Lib.hid (HX.out.call hal); have HE := Lib.hid (HE.out.call hal); have HOE := Lib.hid (own_below HOE.out hal); have HOV := Lib.hid (own_below HOV.out hal); have HB := Lib.hid (btrans HB.out HB.out.size hal); clear hal p0 p1 p2
      obtain ⟨ub, hub⟩ : ∃ n, wr.heap.size = n := ⟨_, rfl⟩
      generalize hW : wr.alloc (.cells #[.int .i64 u.k, .int .i64 u.n, .string (bs u.s)] 52) = v1 at HX HE HOE HOV HB HUB ⊢
      clear hW
      rw [hub] at HUB hxl hel
      (try rw [hub])
      clear hub
      have hul := HUB.out.lt
      have hnm := nm_at (k := k) (by omega)
      obtain ⟨nm, hnn⟩ : ∃ x, ([[97], [98]] : List (List UInt8)).getD k [] = x := ⟨_, rfl⟩
      rw [hnn] at hnm
      have HNN := Lib.hid hnn; clear hnn
      go_upto_region 7 with (fail)
      (try rw [hnm])
      clear hnm
      have hlk : ((nmO l.length).take k).length = k := by rw [List.length_take, nmO_len hn2.1]; omega
      have hlv : ((varO l).take k).length = k := by rw [List.length_take, varO_len]; omega
      have HOE := Lib.hid (show v1.ownsRow (w.heap.size + 2) 116 4 (.slice ea k ec) ((nmO l.length).take k).length (exLs ((nmO l.length).take k)) from by rw [hlk]; exact HOE.out)
      have HOV := Lib.hid (show v1.ownsRow (w.heap.size + 2) 55 4 (.slice va k vc) ((varO l).take k).length (prLs ((varO l).take k)) from by rw [hlv]; exact HOV.out)
      have HL1 := Lib.hid (show ((nmO l.length).take k ++ [nm]).length = k + 1 from by rw [List.length_append, hlk]; rfl)
      have HL2 := Lib.hid (show ((varO l).take k ++ [(⟨nm, u⟩ : Pr)]).length = k + 1 from by rw [List.length_append, hlv]; rfl)
      have HT1 := Lib.hid (show (nmO l.length).take k ++ [nm] = (nmO l.length).take (k + 1) from by rw [nmO_take hn2.1 hlt, HNN.out])
      have HT2 := Lib.hid (show (varO l).take k ++ [(⟨nm, u⟩ : Pr)] = (varO l).take (k + 1) from by rw [varO_take hlt, HNN.out, HU.out])
      have hk1 : ((nmO l.length).take k).length ≤ 1000000000000 := by rw [hlk]; omega
      have hk2 : ((varO l).take k).length ≤ 1000000000000 := by rw [hlv]; omega
      have HK12 := Lib.hid (And.intro hk1 hk2); clear hlk hlv hk1 hk2
      obtain ⟨e0, e1, e2, e3⟩ := HE.out.c4
      have g3 := HE.out.free 3
      go_wp2_with (first | (at_builtin; (refine wpList_append_ex rfl _ _ rfl (w.heap.size + 2) (.slice ea k ec) ((nmO l.length).take k) nm HOE.out rfl rfl HK12.out.1 w w.heap.size HB.out (by omega) (by omega) ?_); intro v5 w5 hown5 hb5 hg5; have HEB := Lib.hid (HE.out.kept hg5 (fun e => by have := (HOE.out.lt _ e).1; omega)); have HX5 := Lib.hid (HX.out.grown hg5 HOE.out (by decide)); have HUB5 := Lib.hid (HUB.out.grown hg5 HOE.out (by decide)); have HOV5 := Lib.hid (own_kgrow HOV.out hg5 (own_apart HOV.out HOE.out (by decide))); have HB5 := Lib.hid hb5; have HO5 := Lib.hid hown5; clear hg5 hb5 hown5 e0 e1 e2 e3 g3 HE HOE HX HUB HOV HB; rw [HL1.out] at HO5; obtain ⟨ea5, ec5, hv5⟩ := own_sl HO5.out; subst hv5; obtain ⟨e0, e1, e2, e3⟩ := HEB.out.c4; have g3 := HEB.out.free 3; have hel5 := HEB.out.lt; have hH2 := HEB.out.set 3 (.slice ea5 (k + 1) ec5); have HE := Lib.hid (show Bx (w.heap.size + 1) #[.int .i64 op, .int .i64 0, .string ⟨#[]⟩, .slice ea5 (k + 1) ec5] 116 (w5.setCell ⟨w.heap.size + 1, 3, none⟩ (.slice ea5 (k + 1) ec5)) from by simpa using hH2); have HX := Lib.hid (HX5.out.other (c := w.heap.size + 1) (i := 3) (by omega) (.slice ea5 (k + 1) ec5)); have HUB := Lib.hid (HUB5.out.other (c := w.heap.size + 1) (i := 3) (by omega) (.slice ea5 (k + 1) ec5)); have HOE := Lib.hid (own_set HO5.out (w.heap.size + 1) 3 (by omega) (.slice ea5 (k + 1) ec5)); have HOV := Lib.hid (own_st HOV5.out HEB.out (by decide) 3 (.slice ea5 (k + 1) ec5)); have HB := Lib.hid (below_set HB5.out (w.heap.size + 1) 3 (by omega) (.slice ea5 (k + 1) ec5)); clear hH2 HX5 HUB5 HO5 HOV5 HB5 HEB; obtain ⟨u0, u1, u2⟩ := HUB.out.c3; have hul := HUB.out.lt) | (at_builtin; (refine wpList_append_pr rfl _ _ rfl (w.heap.size + 2) (.slice va k vc) ((varO l).take k) ⟨nm, u⟩ HOV.out rfl (show _ = Value.slice (some ⟨(w5.setCell ⟨w.heap.size + 1, 3, none⟩ (.slice ea5 (k + 1) ec5)).heap.size, 0, none⟩) 1 1 from by rw [show (w5.setCell ⟨w.heap.size + 1, 3, none⟩ (.slice ea5 (k + 1) ec5)).heap.size = w5.heap.size from by simp]; rfl) HK12.out.2 w w.heap.size HB.out (by omega) (by omega) ?_); intro v7 w7 hown7 hb7 hg7; have HE := Lib.hid (HE.out.grown hg7 HOV.out (by decide)); have HX := Lib.hid (HX.out.grown hg7 HOV.out (by decide)); have HOE := Lib.hid (own_kgrow HOE.out hg7 (own_apart HOE.out HOV.out (by decide))); have HB := Lib.hid hb7; have HO7 := Lib.hid hown7; clear hg7 hb7 hown7 u0 u1 u2 HOV HUB; rw [HL2.out] at HO7; obtain ⟨va7, vc7, hv7⟩ := own_sl HO7.out; subst hv7))
      go_roundw
      case rel => exact ⟨k + 1, ea5, va7, ec5, vc7, by omega, by go_num, by first | exact True.intro | rfl, HX, HE, Lib.hid (by rw [← HT1.out]; exact HOE.out), Lib.hid (by rw [← HT2.out]; exact HO7.out), HB.out⟩
      case measure => simp [intOf]; omega
    · have hlt' : ¬ (k : Int) < (l.length : Int) := by omega
      have hkk : k = l.length := by omega
      subst hkk
      have hN := nmO_len hn2.1
      rw [List.take_of_length_le (by omega)] at HOE
      rw [List.take_of_length_le (by rw [varO_len]; omega)] at HOV
      clear hlt hk hN
      obtain ⟨sa, sc, hh3, hst⟩ := HG.out.st
      have HH3 := Lib.hid hh3
      obtain ⟨ra, rc, hh5, hrd⟩ := HG.out.rd
      obtain ⟨wa, wac, hh6, hwr⟩ := HG.out.wr
      have HST := Lib.hid hst; have HRD := Lib.hid hrd; have HWR := Lib.hid hwr; clear hst hrd hwr
      have HM := Lib.hid (HM0.out.call HB.out)
      have HBW := Lib.hid (btrans HB0.out HB0.out.size HB.out)
      have c3 : wr.cell? ⟨mb, 3, none⟩ = some (.slice sa M.length sc) := by rw [← hh3]; exact HM.out.hd 3 (by decide)
      have c4 : wr.cell? ⟨mb, 4, none⟩ = some (.bool F.all) := by rw [← HG.out.al]; exact HM.out.hd 4 (by decide)
      have c5 : wr.cell? ⟨mb, 5, none⟩ = some (.slice ra F.rd.length rc) := by rw [← hh5]; exact HM.out.hd 5 (by decide)
      have c6 : wr.cell? ⟨mb, 6, none⟩ = some (.slice wa F.wr.length wac) := by rw [← hh6]; exact HM.out.hd 6 (by decide)
      clear hh3 hh5 hh6
      have HS0 := Lib.hid (show ((fun w' => w'.cell? ⟨mb, 3, none⟩ = some (.slice sa M.length sc) ∧ w'.cell? ⟨mb, 4, none⟩ = some (.bool F.all) ∧ w'.cell? ⟨mb, 5, none⟩ = some (.slice ra F.rd.length rc) ∧ w'.cell? ⟨mb, 6, none⟩ = some (.slice wa F.wr.length wac))) wr.drew from ⟨c3, c4, c5, c6⟩)
      clear c3 c4 c5 c6
      go_upto_region 10 with (fail)
      go_wp2_with fail
      refine wp_region_held_drew (S := (fun w' => w'.cell? ⟨mb, 3, none⟩ = some (.slice sa M.length sc) ∧ w'.cell? ⟨mb, 4, none⟩ = some (.bool F.all) ∧ w'.cell? ⟨mb, 5, none⟩ = some (.slice ra F.rd.length rc) ∧ w'.cell? ⟨mb, 6, none⟩ = some (.slice wa F.wr.length wac))) (by kernel_rfl) ?_ (fun hHeld => ?_)
      · exact HS0.out
      refine tkX (i := 0) 47 ?_
      simp only [sA, sB, sC]
      refine tkX (i := 1) 48 ?_
      simp only [sA, sB, sC]
      refine tkX (i := 2) 49 ?_
      simp only [sA, sB, sC]
      refine tkY (i := 3) (v := ?vv4) 50 ?yy4 ?_
      case yy4 =>
        intro wq hSw
        have d0 := hSw.1
        clear hSw
        go_simp
        (try with_reducible rfl)
      simp only [sA, sB, sC]
      refine tkX (i := 4) 51 ?_
      simp only [sA, sB, sC]
      refine tkX (i := 5) 52 ?_
      simp only [sA, sB, sC]
      refine tkX (i := 6) 53 ?_
      simp only [sA, sB, sC]
      refine tkY (i := 7) (v := ?vv8) 54 ?yy8 ?_
      case yy8 =>
        intro wq hSw
        have d0 := hSw.2.1
        have d1 := hSw.2.2.1
        have d2 := hSw.2.2.2
        clear hSw
        go_simp
        (try with_reducible rfl)
      simp only [sA, sB, sC]
      refine wpAnyH_ready (rs := [8]) (by kernel_rfl) (by simp) ?_
      refine (AllReadyH.cons rfl (fun K hK => ?_) AllReadyH.nil)
      go_simp
      skip
      focus (try go_wp2_with fail)
      refine hK.out _ _ ?_ (fun hHeld => ?_)
      · exact ⟨cell1_below hHeld.1 ((Below.refl _ _).alloc (Nat.le_refl _) (.cells #[.bool false, .slice none 0 0, .slice none 0 0] 29)), cell1_below hHeld.2.1 ((Below.refl _ _).alloc (Nat.le_refl _) (.cells #[.bool false, .slice none 0 0, .slice none 0 0] 29)), cell1_below hHeld.2.2.1 ((Below.refl _ _).alloc (Nat.le_refl _) (.cells #[.bool false, .slice none 0 0, .slice none 0 0] 29)), cell1_below hHeld.2.2.2 ((Below.refl _ _).alloc (Nat.le_refl _) (.cells #[.bool false, .slice none 0 0, .slice none 0 0] 29))⟩
      clear hK K
      (try simp only [Act.put, sA, sB, sC])
      refine tkX (i := 9) 11 ?_
      simp only [sA, sB, sC]
      have hal := (Below.refl wr.heap.size wr).alloc (Nat.le_refl _) (.cells #[.bool false, .slice none 0 0, .slice none 0 0] 29)
      have HFB := Lib.hid (Bx.new wr #[.bool false, .slice none 0 0, .slice none 0 0] 29).drew
      have hxl := HX.out.lt; have hel := HE.out.lt; have hml := HM.out.bf.lt
      have HX := Lib.hid (HX.out.call hal).drew; have HE := Lib.hid (HE.out.call hal).drew; have HOE := Lib.hid (own_drew (own_below HOE.out hal)); have HOV := Lib.hid (own_drew (own_below HOV.out hal)); have HB := Lib.hid (btrans HB.out HB.out.size hal).drew; have HM := Lib.hid (HM.out.call hal).drew; have HBW := Lib.hid (btrans HBW.out HBW.out.size hal).drew; have HH := Lib.hid hHeld; clear hal hHeld
      generalize hW : (wr.alloc (.cells #[.bool false, .slice none 0 0, .slice none 0 0] 29)).drew = v3 at HFB HX HE HOE HOV HB HM HBW HH ⊢
      clear hW
      obtain ⟨fb, hfb⟩ : ∃ n, wr.heap.size = n := ⟨_, rfl⟩
      rw [hfb] at HFB hxl hel hml
      (try rw [hfb])
      clear hfb HS0
      have r0 : v3.cell? ⟨fb, 0, none⟩ = some (.bool false) := HFB.out.cell 0
      have r1 : v3.cell? ⟨fb, 1, none⟩ = some (.slice none 0 0) := HFB.out.cell 1
      have r2 : v3.cell? ⟨fb, 2, none⟩ = some (.slice none 0 0) := HFB.out.cell 2
      have f0 := HFB.out.free 0
      have f1 := HFB.out.free 1
      have f2 := HFB.out.free 2
      have hmfb : mb ≠ fb := by omega
      have HHF := Lib.hid (show ((fun w' => w'.cell? ⟨mb, 3, none⟩ = some (.slice sa M.length sc) ∧ w'.cell? ⟨mb, 4, none⟩ = some (.bool F.all) ∧ w'.cell? ⟨mb, 5, none⟩ = some (.slice ra F.rd.length rc) ∧ w'.cell? ⟨mb, 6, none⟩ = some (.slice wa F.wr.length wac))) (((v3.setCell ⟨fb, 0, none⟩ (.bool F.all)).setCell ⟨fb, 1, none⟩ (.slice ra F.rd.length rc)).setCell ⟨fb, 2, none⟩ (.slice wa F.wr.length wac)) from ⟨cell1_set _ (Ne.symm hmfb) (cell1_set _ (Ne.symm hmfb) (cell1_set _ (Ne.symm hmfb) HH.out.1)), cell1_set _ (Ne.symm hmfb) (cell1_set _ (Ne.symm hmfb) (cell1_set _ (Ne.symm hmfb) HH.out.2.1)), cell1_set _ (Ne.symm hmfb) (cell1_set _ (Ne.symm hmfb) (cell1_set _ (Ne.symm hmfb) HH.out.2.2.1)), cell1_set _ (Ne.symm hmfb) (cell1_set _ (Ne.symm hmfb) (cell1_set _ (Ne.symm hmfb) HH.out.2.2.2))⟩)
      refine wpAnyH_ready (rs := [10]) (by kernel_rfl) (by simp) ?_
      refine (AllReadyH.cons rfl (fun K hK => ?_) AllReadyH.nil)
      go_simp
      refine hK.out _ _ ?_ (fun hHeld => ?_)
      · exact HHF.out
      clear hK K r0 r1 r2 f0 f1 f2 HH hHeld
      (try simp only [Act.put, sA, sB, sC])
      refine wpAnyH_done (by kernel_rfl) ?_ _
      have hfbl := HFB.out.lt
      have HFB2 := Lib.hid (HFB.out.sets3 (.bool F.all) (.slice ra F.rd.length rc) (.slice wa F.wr.length wac))
      have HX := Lib.hid (((HX.out.other (c := fb) (i := 0) (by omega) (.bool F.all)).other (c := fb) (i := 1) (by omega) (.slice ra F.rd.length rc)).other (c := fb) (i := 2) (by omega) (.slice wa F.wr.length wac)); have HE := Lib.hid (((HE.out.other (c := fb) (i := 0) (by omega) (.bool F.all)).other (c := fb) (i := 1) (by omega) (.slice ra F.rd.length rc)).other (c := fb) (i := 2) (by omega) (.slice wa F.wr.length wac))
      have HOE := Lib.hid (own_st (own_st (own_st HOE.out HFB.out (by decide) 0 (.bool F.all)) (HFB.out.set 0 (.bool F.all)) (by decide) 1 (.slice ra F.rd.length rc)) ((HFB.out.set 0 (.bool F.all)).set 1 (.slice ra F.rd.length rc)) (by decide) 2 (.slice wa F.wr.length wac)); have HOV := Lib.hid (own_st (own_st (own_st HOV.out HFB.out (by decide) 0 (.bool F.all)) (HFB.out.set 0 (.bool F.all)) (by decide) 1 (.slice ra F.rd.length rc)) ((HFB.out.set 0 (.bool F.all)).set 1 (.slice ra F.rd.length rc)) (by decide) 2 (.slice wa F.wr.length wac))
      have HB := Lib.hid (below_sets3 HB.out fb (by omega) (.bool F.all) (.slice ra F.rd.length rc) (.slice wa F.wr.length wac))
      have HNS := Lib.hid (show ∀ j, w.heap.size ≤ j → ¬ S j from fun j hj e => by have := (HM0.out.rng j e).2; omega)
      have HM := Lib.hid (vm_sets3 HM.out fb (HNS.out fb (by omega)) (.bool F.all) (.slice ra F.rd.length rc) (.slice wa F.wr.length wac))
      have HBW := Lib.hid (below_sets3 HBW.out fb (by have := HB0.out.size; omega) (.bool F.all) (.slice ra F.rd.length rc) (.slice wa F.wr.length wac))
      clear HFB HHF
      generalize hW : (((v3.setCell ⟨fb, 0, none⟩ (.bool F.all)).setCell ⟨fb, 1, none⟩ (.slice ra F.rd.length rc)).setCell ⟨fb, 2, none⟩ (.slice wa F.wr.length wac)) = v4 at HFB2 HX HE HOE HOV HB HM HBW ⊢
      clear hW
      have HFB := HFB2; clear HFB2
      go_upto_region 12 with (fail)
      go_cut [14] from 55 to 155 (fun s14 W => s14 = .bool (isRd op) ∧ W = v4)
      case first =>
        by_cases h22 : op = 22
        · have HI := Lib.hid (show isRd op = true from by unfold isRd; simp [h22])
          have t22 : (op == 22) = true := by rw [h22]; rfl
          clear h22
          go_wp2_with fail
          go_meet
          exact ⟨by rw [HI.out], rfl⟩
        have t22 : (op == 22) = false := by rw [beq_eq_false_iff_ne]; exact h22
        by_cases h23 : op = 23
        · have HI := Lib.hid (show isRd op = true from by unfold isRd; simp [h23])
          have t23 : (op == 23) = true := by rw [h23]; rfl
          clear h22 h23
          go_wp2_with fail
          go_meet
          exact ⟨by rw [HI.out], rfl⟩
        have t23 : (op == 23) = false := by rw [beq_eq_false_iff_ne]; exact h23
        by_cases h24 : op = 24
        · have HI := Lib.hid (show isRd op = true from by unfold isRd; simp [h24])
          have t24 : (op == 24) = true := by rw [h24]; rfl
          clear h22 h23 h24
          go_wp2_with fail
          go_meet
          exact ⟨by rw [HI.out], rfl⟩
        have t24 : (op == 24) = false := by rw [beq_eq_false_iff_ne]; exact h24
        have HI := Lib.hid (show isRd op = false from by unfold isRd; simp [h22, h23, h24])
        clear h22 h23 h24
        go_wp2_with fail
        go_meet
        exact ⟨by rw [HI.out], rfl⟩
      case rest =>
        obtain ⟨rfl, hwc⟩ := hcut
        rw [hwc]
        clear hwc
        obtain ⟨rdb, hrdb⟩ : ∃ b, isRd op = b := ⟨_, rfl⟩
        rw [hrdb]
        have HRDB := Lib.hid hrdb; clear hrdb
        go_upto_if 65 with (fail)
        go_cut [11, 13] from 65 to 155 (fun s11 s13 W => ∃ (xa ya za : Option Addr) (xc yc zc : Nat) (Ms : List Pr) (al : Bool) (rd2 wr2 : List (List UInt8)), s11 = .slice xa Ms.length xc ∧ s13 = .bool (hidB m.own op (l.headD v00)) ∧ Hid (evE al rd2 wr2 Ms op l = opEv M F m.own op l) ∧ Hid (CellsAt W (.slice xa Ms.length xc) Ms.length (prLs Ms)) ∧ Hid (StrS W (.slice ya rd2.length yc) rd2) ∧ Hid (StrS W (.slice za wr2.length zc) wr2) ∧ Hid (Bx fb #[.bool al, .slice ya rd2.length yc, .slice za wr2.length zc] 29 W) ∧ Hid (Bx w.heap.size #[.slice la l.length lc] 26 W) ∧ Hid (Bx (w.heap.size + 1) #[.int .i64 op, .int .i64 0, .string ⟨#[]⟩, .slice ea l.length ec] 116 W) ∧ Hid (W.ownsRow (w.heap.size + 2) 116 4 (.slice ea l.length ec) l.length (exLs (nmO l.length))) ∧ Hid (W.ownsRow (w.heap.size + 2) 55 4 (.slice va l.length vc) l.length (prLs (varO l))) ∧ Hid (VMB W0.heap.size mb S H m R W) ∧ Hid (Below w.heap.size w W) ∧ Hid ((∀ p ∈ Ms, p.key.length ≤ 9223372036854775807 ∧ p.v.s.length ≤ 9223372036854775807) ∧ (∀ q ∈ rd2 ++ wr2, q.length ≤ 9223372036854775807) ∧ Ms.length ≤ 9000000000000 ∧ rd2.length ≤ 9000000000000 ∧ wr2.length ≤ 9000000000000))
        case first =>
          cases rdb with
          | false =>
            have hev : opEv M F m.own op l = evE F.all F.rd F.wr [] op l := by unfold opEv; rw [if_neg (by rw [HRDB.out]; simp)]
            have hhd : hidB m.own op (l.headD v00) = false := by unfold hidB; rw [HRDB.out]; rfl
            have HEV := Lib.hid hev; have HHD := Lib.hid hhd; clear hev hhd
            go_wp2_with fail
            go_meet
            exact ⟨none, ra, wa, 0, rc, wac, [], F.all, F.rd, F.wr, rfl, by rw [HHD.out], Lib.hid HEV.out.symm, Lib.hid ⟨none, 0, rfl, fun hne => absurd rfl hne⟩, Lib.hid (HRD.out.below HBW.out), Lib.hid (HWR.out.below HBW.out), HFB, HX, HE, HOE, HOV, HM, HB, Lib.hid ⟨by simp, HG.out.str.2, by simp, HG.out.len.2.1, HG.out.len.2.2⟩⟩
          | true =>
            have hl0 : 0 < l.length := hn2.2
            obtain ⟨oa, oc, hov⟩ := own_sl HM.out.own.1
            have HOW := Lib.hid (show R.ov = .slice oa m.own.length oc from hov)
            have c0 : v4.cell? ⟨mb, 392, none⟩ = some (.slice oa m.own.length oc) := by rw [← HOW.out]; exact HM.out.tl 0 (by decide)
            clear hov
            have hOC : CellsAt v4 (.slice oa m.own.length oc) m.own.length (prLs m.own) := (by have ho : v4.ownsRow W0.heap.size 55 4 R.ov m.own.length (prLs m.own) := HM.out.own.1; rw [HOW.out] at ho; exact own_prAt ho)
            have HOC := Lib.hid hOC; clear hOC
            obtain ⟨a, ha⟩ : ∃ a, l.headD v00 = a := ⟨_, rfl⟩
            have ha0 : l[0] = a := by rw [← ha]; cases l with | nil => simp at hl0 | cons x r => rfl
            obtain ⟨ix, hix⟩ : ∃ x, idxP (keyP (l.headD v00).s) m.own = x := ⟨_, rfl⟩
            have HIX := Lib.hid hix; clear hix
            have hmf : ∀ (fn : Fn) (first cap : Array Value) (w : World), (Instr.makeFunc fn first cap).run Tryz.prog w = .ok (.func fn first cap) w := fun _ _ _ _ => rfl
            go_wp2_with fail
            have hvw := HV.out.below HB.out
            refine (idxOp_any oa oc m.own w.heap.size la lc l hl0 _ (by omega) HX.out hvw HOC.out).mono ?_
            rw [HIX.out]
            rintro er w5 ⟨rfl, hb5⟩
            clear hvw
            have HM := Lib.hid (HM.out.call hb5); have HX := Lib.hid (HX.out.call hb5); have HE := Lib.hid (HE.out.call hb5); have HFB := Lib.hid (HFB.out.call hb5); have HOE := Lib.hid (own_below HOE.out hb5); have HOV := Lib.hid (own_below HOV.out hb5); have HB := Lib.hid (btrans HB.out HB.out.size hb5); have HBW := Lib.hid (btrans HBW.out HBW.out.size hb5)
            clear hb5 c0 hmf HOC
            have hx0 := HX.out.cell 0
            simp only [List.getElem?_toArray, List.getElem?_cons_zero] at hx0
            obtain ⟨vb, off, hla, p0, p1, p2⟩ := vl_cells (HV.out.below HB.out) hl0
            subst hla
            rw [ha0] at p0 p1 p2
            rw [Nat.zero_mul, Nat.add_zero] at p0 p1 p2
            have HHA := Lib.hid ha; have HA0 := Lib.hid ha0; clear ha ha0 p1
            have hli : (0 : Int) < (l.length : Int) := by omega
            have hak : a.s.length ≤ 1000000 ∧ True := ⟨by rw [← HA0.out]; exact (HOK.out _ (List.getElem_mem hl0)).2.2, trivial⟩
            have HAK := Lib.hid hak.1; clear hak
            rw [HHA.out] at HIX
            by_cases hk2 : a.k = 2
            rotate_left
            · skip
              have hhd : hidB m.own op (l.headD v00) = false := by unfold hidB; rw [HRDB.out, HHA.out]; simp [hk2]
              have hev : opEv M F m.own op l = evE F.all F.rd F.wr (onePr M a.s) op l := by unfold opEv; rw [if_pos HRDB.out, if_neg (by rw [hhd]; simp), HHA.out]
              have HEV := Lib.hid hev; have HHD := Lib.hid hhd; clear hev hhd
              have t2 : (a.k == 2) = false := by rw [beq_eq_false_iff_ne]; exact hk2
              clear hk2
              have c3 : w5.cell? ⟨mb, 3, none⟩ = some (.slice sa M.length sc) := by rw [← HH3.out]; exact HM.out.hd 3 (by decide)
              have HS1 := Lib.hid (show ((fun w' => w'.cell? ⟨mb, 3, none⟩ = some (.slice sa M.length sc) ∧ w'.cell? ⟨w.heap.size, 0, none⟩ = some (.slice (some ⟨vb, off, none⟩) l.length lc) ∧ w'.cell? ⟨vb, off + 2, none⟩ = some (.string (bs a.s)))) w5.drew from ⟨c3, hx0, p2⟩)
              go_upto_region 21 with (fail)
              clear c3 hx0 p0 p2
              go_wp2_with fail
              refine wp_region_held_drew (S := (fun w' => w'.cell? ⟨mb, 3, none⟩ = some (.slice sa M.length sc) ∧ w'.cell? ⟨w.heap.size, 0, none⟩ = some (.slice (some ⟨vb, off, none⟩) l.length lc) ∧ w'.cell? ⟨vb, off + 2, none⟩ = some (.string (bs a.s)))) (by kernel_rfl) ?_ (fun hHeld => ?_)
              · exact HS1.out
              refine tkX (i := 0) 101 ?_
              simp only [sA, sB, sC]
              refine tkX (i := 1) 102 ?_
              simp only [sA, sB, sC]
              refine tkX (i := 2) 103 ?_
              simp only [sA, sB, sC]
              refine tkY (i := 3) (v := ?vv13) 104 ?yy13 ?_
              case yy13 =>
                intro wq hSw
                have d0 := hSw.1
                clear hSw
                go_simp
                (try with_reducible rfl)
              simp only [sA, sB, sC]
              refine tkY (i := 4) (v := ?vv14) 105 ?yy14 ?_
              case yy14 =>
                intro wq hSw
                have d0 := hSw.2.1
                clear hSw
                go_simp
                (try with_reducible rfl)
              simp only [sA, sB, sC]
              refine tkX (i := 5) 106 ?_
              simp only [sA, sB, sC]
              refine tkX (i := 6) 107 ?_
              simp only [sA, sB, sC]
              refine tkY (i := 7) (v := ?vv17) 108 ?yy17 ?_
              case yy17 =>
                intro wq hSw
                have d0 := hSw.2.2
                clear hSw
                go_simp
                (try with_reducible rfl)
              simp only [sA, sB, sC]
              refine wpAnyH_ready (rs := [8]) (by kernel_rfl) (by simp) ?_
              refine (AllReadyH.cons rfl (fun K hK => ?_) AllReadyH.nil)
              go_simp
              refine (one_any sa sc M a.s w5.drew HG.out.len.1 (HST.out.below HBW.out.drew)).mono ?_
              rintro er w6 ⟨rv, rfl, ho6, hb6⟩
              obtain ⟨xa, xc, hrv⟩ := own_sl ho6
              subst hrv
              have HO6 := Lib.hid ho6; have HB6 := Lib.hid (show Below w5.heap.size w5 w6 from ⟨hb6.os, hb6.tape, hb6.output, hb6.size, hb6.block⟩); have HB6D := Lib.hid hb6; clear ho6 hb6
              refine hK.out _ _ ?_ (fun hHeld => ?_)
              · exact ⟨cell1_below HS1.out.1 HB6D.out, cell1_below HS1.out.2.1 HB6D.out, cell1_below HS1.out.2.2 HB6D.out⟩
              clear hK K
              (try simp only [Act.put, sA, sB, sC])
              refine tkX (i := 9) 11 ?_
              simp only [sA, sB, sC]
              refine wpAnyH_done (by kernel_rfl) ?_ _
              clear HS1 HB6D
              have HM := Lib.hid (HM.out.call HB6.out); have HX := Lib.hid (HX.out.call HB6.out); have HE := Lib.hid (HE.out.call HB6.out); have HFB := Lib.hid (HFB.out.call HB6.out); have HOE := Lib.hid (own_below HOE.out HB6.out); have HOV := Lib.hid (own_below HOV.out HB6.out); have HB := Lib.hid (btrans HB.out HB.out.size HB6.out); have HBW := Lib.hid (btrans HBW.out HBW.out.size HB6.out)
              have hos := onePr_str (L := M) (k := a.s) (fun p hp => (HG.out.str.1 p hp).2) (by have := HAK.out; omega)
              have HOS := Lib.hid hos; clear hos
              go_wp2_with fail
              go_meet
              exact ⟨xa, ra, wa, xc, rc, wac, onePr M a.s, F.all, F.rd, F.wr, rfl, by rw [HHD.out], Lib.hid HEV.out.symm, Lib.hid (own_prAt HO6.out), Lib.hid (HRD.out.below HBW.out), Lib.hid (HWR.out.below HBW.out), HFB, HX, HE, HOE, HOV, HM, HB, Lib.hid ⟨HOS.out.1, HG.out.str.2, HOS.out.2, HG.out.len.2.1, HG.out.len.2.2⟩⟩
            by_cases hfx : m.own.findIdx (keyP a.s) < m.own.length
            rotate_left
            · have hi1 : ix = -1 := HIX.out.symm.trans (idx_lost hfx)
              subst hi1
              have hhd : hidB m.own op (l.headD v00) = false := by unfold hidB; rw [HRDB.out, HHA.out]; simp [hfx]
              have hev : opEv M F m.own op l = evE F.all F.rd F.wr (onePr M a.s) op l := by unfold opEv; rw [if_pos HRDB.out, if_neg (by rw [hhd]; simp), HHA.out]
              have HEV := Lib.hid hev; have HHD := Lib.hid hhd; clear hev hhd
              have t2 : (a.k == 2) = true := by rw [hk2]; rfl
              clear hk2 hfx HIX
              have c3 : w5.cell? ⟨mb, 3, none⟩ = some (.slice sa M.length sc) := by rw [← HH3.out]; exact HM.out.hd 3 (by decide)
              have HS1 := Lib.hid (show ((fun w' => w'.cell? ⟨mb, 3, none⟩ = some (.slice sa M.length sc) ∧ w'.cell? ⟨w.heap.size, 0, none⟩ = some (.slice (some ⟨vb, off, none⟩) l.length lc) ∧ w'.cell? ⟨vb, off + 2, none⟩ = some (.string (bs a.s)))) w5.drew from ⟨c3, hx0, p2⟩)
              go_upto_region 21 with (fail)
              clear c3 hx0 p0 p2
              go_wp2_with fail
              refine wp_region_held_drew (S := (fun w' => w'.cell? ⟨mb, 3, none⟩ = some (.slice sa M.length sc) ∧ w'.cell? ⟨w.heap.size, 0, none⟩ = some (.slice (some ⟨vb, off, none⟩) l.length lc) ∧ w'.cell? ⟨vb, off + 2, none⟩ = some (.string (bs a.s)))) (by kernel_rfl) ?_ (fun hHeld => ?_)
              · exact HS1.out
              refine tkX (i := 0) 101 ?_
              simp only [sA, sB, sC]
              refine tkX (i := 1) 102 ?_
              simp only [sA, sB, sC]
              refine tkX (i := 2) 103 ?_
              simp only [sA, sB, sC]
              refine tkY (i := 3) (v := ?vv22) 104 ?yy22 ?_
              case yy22 =>
                intro wq hSw
                have d0 := hSw.1
                clear hSw
                go_simp
                (try with_reducible rfl)
              simp only [sA, sB, sC]
              refine tkY (i := 4) (v := ?vv23) 105 ?yy23 ?_
              case yy23 =>
                intro wq hSw
                have d0 := hSw.2.1
                clear hSw
                go_simp
                (try with_reducible rfl)
              simp only [sA, sB, sC]
              refine tkX (i := 5) 106 ?_
              simp only [sA, sB, sC]
              refine tkX (i := 6) 107 ?_
              simp only [sA, sB, sC]
              refine tkY (i := 7) (v := ?vv26) 108 ?yy26 ?_
              case yy26 =>
                intro wq hSw
                have d0 := hSw.2.2
                clear hSw
                go_simp
                (try with_reducible rfl)
              simp only [sA, sB, sC]
              refine wpAnyH_ready (rs := [8]) (by kernel_rfl) (by simp) ?_
              refine (AllReadyH.cons rfl (fun K hK => ?_) AllReadyH.nil)
              go_simp
              refine (one_any sa sc M a.s w5.drew HG.out.len.1 (HST.out.below HBW.out.drew)).mono ?_
              rintro er w6 ⟨rv, rfl, ho6, hb6⟩
              obtain ⟨xa, xc, hrv⟩ := own_sl ho6
              subst hrv
              have HO6 := Lib.hid ho6; have HB6 := Lib.hid (show Below w5.heap.size w5 w6 from ⟨hb6.os, hb6.tape, hb6.output, hb6.size, hb6.block⟩); have HB6D := Lib.hid hb6; clear ho6 hb6
              refine hK.out _ _ ?_ (fun hHeld => ?_)
              · exact ⟨cell1_below HS1.out.1 HB6D.out, cell1_below HS1.out.2.1 HB6D.out, cell1_below HS1.out.2.2 HB6D.out⟩
              clear hK K
              (try simp only [Act.put, sA, sB, sC])
              refine tkX (i := 9) 11 ?_
              simp only [sA, sB, sC]
              refine wpAnyH_done (by kernel_rfl) ?_ _
              clear HS1 HB6D
              have HM := Lib.hid (HM.out.call HB6.out); have HX := Lib.hid (HX.out.call HB6.out); have HE := Lib.hid (HE.out.call HB6.out); have HFB := Lib.hid (HFB.out.call HB6.out); have HOE := Lib.hid (own_below HOE.out HB6.out); have HOV := Lib.hid (own_below HOV.out HB6.out); have HB := Lib.hid (btrans HB.out HB.out.size HB6.out); have HBW := Lib.hid (btrans HBW.out HBW.out.size HB6.out)
              have hos := onePr_str (L := M) (k := a.s) (fun p hp => (HG.out.str.1 p hp).2) (by have := HAK.out; omega)
              have HOS := Lib.hid hos; clear hos
              go_wp2_with fail
              go_meet
              exact ⟨xa, ra, wa, xc, rc, wac, onePr M a.s, F.all, F.rd, F.wr, rfl, by rw [HHD.out], Lib.hid HEV.out.symm, Lib.hid (own_prAt HO6.out), Lib.hid (HRD.out.below HBW.out), Lib.hid (HWR.out.below HBW.out), HFB, HX, HE, HOE, HOV, HM, HB, Lib.hid ⟨HOS.out.1, HG.out.str.2, HOS.out.2, HG.out.len.2.1, HG.out.len.2.2⟩⟩
            have hhd : hidB m.own op (l.headD v00) = true := by unfold hidB; rw [HRDB.out, HHA.out]; simp [hk2, hfx]
            have hev : opEv M F m.own op l = evE true [] [] (onePr m.own a.s) op l := by unfold opEv; rw [if_pos HRDB.out, if_pos hhd, HHA.out]
            have HEV := Lib.hid hev; have HHD := Lib.hid hhd; clear hev hhd
            have t2 : (a.k == 2) = true := by rw [hk2]; rfl
            have hi1 : ix = (m.own.findIdx (keyP a.s) : Int) := HIX.out.symm.trans (idx_found hfx)
            obtain ⟨hgf, hgk⟩ := getP_found m.own hfx
            obtain ⟨x, hx⟩ : ∃ x, m.own.findIdx (keyP a.s) = x := ⟨_, rfl⟩
            simp only [hx] at hi1 hgf hgk hfx
            obtain ⟨pw, hpw⟩ : ∃ p, m.own[x] = p := ⟨_, rfl⟩
            rw [hpw] at hgf hgk
            subst hi1
            have hxi : (0 : Int) ≤ (x : Int) ∧ (x : Int) < (m.own.length : Int) := ⟨by omega, by omega⟩
            have HGF := Lib.hid hgf; have HGK := Lib.hid hgk; have HPW := Lib.hid hpw; clear hgf hgk hpw hk2 HIX hx
            have r0 : w5.cell? ⟨fb, 0, none⟩ = some (.bool F.all) := HFB.out.cell 0
            have r1 : w5.cell? ⟨fb, 1, none⟩ = some (.slice ra F.rd.length rc) := HFB.out.cell 1
            have r2 : w5.cell? ⟨fb, 2, none⟩ = some (.slice wa F.wr.length wac) := HFB.out.cell 2
            have f0 := HFB.out.free 0
            have f1 := HFB.out.free 1
            have f2 := HFB.out.free 2
            go_upto_region 18 with (fail)
            clear r0 r1 r2 f0 f1 f2 hx0 p0 p2 t2
            have HFB2 := Lib.hid (HFB.out.sets3 (.bool true) (.slice none 0 0) (.slice none 0 0))
            have HX := Lib.hid (((HX.out.other (c := fb) (i := 0) (by omega) (.bool true)).other (c := fb) (i := 1) (by omega) (.slice none 0 0)).other (c := fb) (i := 2) (by omega) (.slice none 0 0)); have HE := Lib.hid (((HE.out.other (c := fb) (i := 0) (by omega) (.bool true)).other (c := fb) (i := 1) (by omega) (.slice none 0 0)).other (c := fb) (i := 2) (by omega) (.slice none 0 0))
            have HOE := Lib.hid (own_st (own_st (own_st HOE.out HFB.out (by decide) 0 (.bool true)) (HFB.out.set 0 (.bool true)) (by decide) 1 (.slice none 0 0)) ((HFB.out.set 0 (.bool true)).set 1 (.slice none 0 0)) (by decide) 2 (.slice none 0 0)); have HOV := Lib.hid (own_st (own_st (own_st HOV.out HFB.out (by decide) 0 (.bool true)) (HFB.out.set 0 (.bool true)) (by decide) 1 (.slice none 0 0)) ((HFB.out.set 0 (.bool true)).set 1 (.slice none 0 0)) (by decide) 2 (.slice none 0 0))
            have HB := Lib.hid (below_sets3 HB.out fb (by omega) (.bool true) (.slice none 0 0) (.slice none 0 0))
            have HM := Lib.hid (vm_sets3 HM.out fb (HNS.out fb (by omega)) (.bool true) (.slice none 0 0) (.slice none 0 0))
            have HBW := Lib.hid (below_sets3 HBW.out fb (by have := HB0.out.size; omega) (.bool true) (.slice none 0 0) (.slice none 0 0))
            clear HFB
            generalize hW : (((w5.setCell ⟨fb, 0, none⟩ (.bool true)).setCell ⟨fb, 1, none⟩ (.slice none 0 0)).setCell ⟨fb, 2, none⟩ (.slice none 0 0)) = v6 at HFB2 HX HE HOE HOV HB HM HBW ⊢
            clear hW
            have HFB := HFB2; clear HFB2
            have c0 : v6.cell? ⟨mb, 392, none⟩ = some (.slice oa m.own.length oc) := by rw [← HOW.out]; exact HM.out.tl 0 (by decide)
            have hOC : CellsAt v6 (.slice oa m.own.length oc) m.own.length (prLs m.own) := (by have ho : v6.ownsRow W0.heap.size 55 4 R.ov m.own.length (prLs m.own) := HM.out.own.1; rw [HOW.out] at ho; exact own_prAt ho)
            obtain ⟨gg, of2, hoa, q0, q1, q2, q3⟩ := pr_cells hOC hfx
            subst hoa
            rw [HPW.out] at q0 q1 q2 q3
            clear hOC
            by_cases hz : pw.v.k = 0
            · have tz : (pw.v.k != 0) = false := by rw [hz]; rfl
              have HON := Lib.hid (show onePr m.own a.s = [] from onePr_none (by rw [HGF.out]; exact hz))
              clear hz
              go_wp2_with fail
              go_meet
              exact ⟨none, none, none, 0, 0, 0, [], true, [], [], rfl, by rw [HHD.out], Lib.hid (by rw [HEV.out, HON.out]), Lib.hid ⟨none, 0, rfl, fun hne => absurd rfl hne⟩, Lib.hid ⟨none, 0, rfl, Nat.le_refl _, fun hne => absurd rfl hne⟩, Lib.hid ⟨none, 0, rfl, Nat.le_refl _, fun hne => absurd rfl hne⟩, HFB, HX, HE, HOE, HOV, HM, HB, Lib.hid ⟨by simp, by simp, by simp, by simp, by simp⟩⟩
            have tz : (pw.v.k != 0) = true := by rw [bne_iff_ne]; exact hz
            have HON := Lib.hid (show onePr m.own a.s = [pw] from by rw [onePr_some (by rw [HGF.out]; exact hz), HGF.out]; congr 1; obtain ⟨pk, pv⟩ := pw; have := HGK.out; simp only at this; rw [this])
            clear hz
            have hal := (Below.refl v6.heap.size v6).alloc (Nat.le_refl _) (.cells #[.string (bs pw.key), .int .i64 pw.v.k, .int .i64 pw.v.n, .string (bs pw.v.s)] 55)
            have HO1 := Lib.hid (own_one (W := v6) (B := v6.heap.size) pw (Nat.le_refl _))
            simp only [prV] at HO1
            go_wp2_with fail
            have HM := Lib.hid (HM.out.call hal); have HX := Lib.hid (HX.out.call hal); have HE := Lib.hid (HE.out.call hal); have HFB := Lib.hid (HFB.out.call hal); have HOE := Lib.hid (own_below HOE.out hal); have HOV := Lib.hid (own_below HOV.out hal); have HB := Lib.hid (btrans HB.out HB.out.size hal)
            have hpl := HLO.out pw (HPW.out ▸ List.getElem_mem hfx)
            have HPL := Lib.hid hpl; clear hpl
            go_meet
            exact ⟨some ⟨v6.heap.size, 0, none⟩, none, none, 1, 0, 0, [pw], true, [], [], rfl, by rw [HHD.out], Lib.hid (by rw [HEV.out, HON.out]), Lib.hid (own_prAt (L := [pw]) (by simpa [prLs] using HO1.out)), Lib.hid ⟨none, 0, rfl, Nat.le_refl _, fun hne => absurd rfl hne⟩, Lib.hid ⟨none, 0, rfl, Nat.le_refl _, fun hne => absurd rfl hne⟩, HFB, HX, HE, HOE, HOV, HM, HB, Lib.hid ⟨by intro p hp; rw [List.mem_singleton] at hp; rw [hp]; exact HPL.out, by simp, by simp, by simp, by simp⟩⟩
        case rest =>
          obtain ⟨xa, ya, za, xc, yc, zc, Ms, al2, rd2, wr2, rfl, rfl, HEV, HMS, HR2, HW2, HFB, HX, HE, HOE, HOV, HM, HB, HSZ⟩ := hcut
          have hsz0 := HB0.out.size
          have hcs := HB.out.size
          have HBW := Lib.hid (show Below W0.heap.size W0 wc from HM0.out.below HB0.out (FrS.of_below (S := S) HB.out))
          obtain ⟨e0, e1, e2, e3⟩ := HE.out.c4
          obtain ⟨g0, g1, g2⟩ := HFB.out.c3
          obtain ⟨hid, hhid⟩ : ∃ b, hidB m.own op (l.headD v00) = b := ⟨_, rfl⟩
          rw [hhid]
          have HHID := Lib.hid hhid; clear hhid
          have hEv := Eval_any xa ya za va ea xc yc zc vc ec Ms al2 rd2 wr2 op (varO l) (nmO l.length) l (varO_key hn2.1) (varO_v hn2.1) (by unfold nmO; exact (List.take_sublist _ _).nodup (by decide)) (by intro x hx; have := List.mem_of_mem_take hx; simp only [List.mem_cons, List.not_mem_nil, or_false] at this; rcases this with rfl | rfl <;> exact ⟨by decide, by decide⟩) HOP.out HOK.out HSZ.out.1 HSZ.out.2.1 HSZ.out.2.2.1 HSZ.out.2.2.2.1 HSZ.out.2.2.2.2 wc HMS.out HR2.out HW2.out (own_prAt (by rw [varO_len]; exact HOV.out)) (own_exAt hn2.1 HOE.out) (HLD.out.below HBW.out)
          rw [varO_len, HEV.out] at hEv
          obtain ⟨⟨Rr, ks⟩, hU⟩ : ∃ x, opEv M F m.own op l = x := ⟨_, rfl⟩
          rw [hU] at hEv
          simp only at hEv
          have HU := Lib.hid hU; clear hU
          have HEVL := Lib.hid hEv; clear hEv
          go_wp2_with fail
          refine HEVL.out.mono ?_
          rintro er w5 ⟨rv, rfl, ho5, hb5⟩
          obtain ⟨st, c, mi, v, hv1, hv2, hv3, -⟩ := res_form Rr
          rw [hv1, hv2]
          obtain ⟨ka, kc, hrv⟩ := own_sl ho5
          subst hrv
          have HRM := Lib.hid hv3; have HKS := Lib.hid ho5
          clear hv1 hv2 hv3 ho5 HEVL HMS HR2 HW2 HEV HSZ e0 e1 e2 e3 g0 g1 g2
          simp only [vV]
          have HM := Lib.hid (HM.out.call hb5)
          have hwc5 := hb5.size
          have HB := Lib.hid (btrans HB.out HB.out.size hb5)
          clear hb5 HX HE HFB HOE HOV
          go_upto_region 24 with (fail)
          obtain ⟨v6, hW6, hb6, hx6, hy6⟩ := boxes2 w5 #[.int .i64 v.k, .int .i64 v.n, .string (bs v.s)] 52 #[.int .i64 st, .int .i64 c, .slice none 0 0, .slice ka ks.length kc, .slice none 0 0, .slice none 0 0, .string (bs mi), .int .i64 0] 37
          rw [hW6]
          have HVB := Lib.hid hx6; have HEB := Lib.hid hy6; have HKS := Lib.hid (own_below HKS.out hb6); have HM := Lib.hid (HM.out.call hb6); have HB := Lib.hid (btrans HB.out HB.out.size hb6); clear hW6 hx6 hy6 hb6
          obtain ⟨vb, hvb⟩ : ∃ n, w5.heap.size = n := ⟨_, rfl⟩
          rw [hvb] at HVB HEB hwc5
          (try rw [hvb])
          clear hvb
          have hszc := HB.out.size
          have hebl := HEB.out.lt
          have hkl : ks.length ≤ 1 := by have := opEv_reads M F m.own op l; rw [HU.out] at this; rcases this with e | ⟨k0, e⟩ <;> simp only at e <;> rw [e] <;> simp
          obtain ⟨N0, hN0⟩ : ∃ n, v6.heap.size = n := ⟨_, rfl⟩
          have HNS2 := Lib.hid (show ∀ b, w.heap.size ≤ b → b < N0 → ¬ S b from fun b h1 _ => HNS.out b h1)
          have hN0le : N0 ≤ v6.heap.size := by omega
          have HF := Lib.hid (FrS.of_below (S := S) HB.out)
          have hwv : w.heap.size ≤ vb ∧ vb + 1 < N0 := ⟨by omega, by omega⟩
          have HKB := Lib.hid (show ∀ b, (Value.slice ka ks.length kc).ownBlock = some b → w.heap.size ≤ b ∧ b < N0 from fun b hb => ⟨by have := (HKS.out.lt b hb).1; omega, by have := (HKS.out.lt b hb).2; omega⟩)
          clear hebl hszc
          go_upto_if 119 with (fail)
          go_cut [119] from 120 to 138 (fun s119 W => ∃ (S' : Nat → Prop) (rv' : Value), Hid (VMB W0.heap.size mb S' H { m with rds := (if hid = true then m.rds else ks.foldl withK m.rds) } { R with rv := rv' } W) ∧ Hid (FrS S S' w W) ∧ Hid (Bx vb #[.int .i64 v.k, .int .i64 v.n, .string (bs v.s)] 52 W) ∧ Hid (Bx (vb + 1) #[.int .i64 st, .int .i64 c, .slice none 0 0, .slice ka ks.length kc, .slice none 0 0, .slice none 0 0, .string (bs mi), .int .i64 0] 37 W))
          case first =>
            cases hid with
            | true => go_wp2_with fail; go_meet; exact ⟨S, R.rv, HM, HF, HVB, HEB⟩
            | false =>
              obtain ⟨e0, e1, e2, e3, e4, e5, e6, e7⟩ := HEB.out.c8
              go_wp2
              clear e0 e1 e2 e3 e4 e5 e6 e7
              go_loopw [123] (fun i wr => ∃ (kq : Nat) (S' : Nat → Prop) (rv' : Value), kq ≤ ks.length ∧ i = .int .i64 kq ∧ Hid (SortK ((ks.take kq).foldl withK m.rds)) ∧ Hid (((ks.take kq).foldl withK m.rds).length ≤ m.rds.length + kq) ∧ Hid (VMB W0.heap.size mb S' H { m with rds := (ks.take kq).foldl withK m.rds } { R with rv := rv' } wr) ∧ Hid (FrS S S' w wr) ∧ Hid (Bx vb #[.int .i64 v.k, .int .i64 v.n, .string (bs v.s)] 52 wr) ∧ Hid (Bx (vb + 1) #[.int .i64 st, .int .i64 c, .slice none 0 0, .slice ka ks.length kc, .slice none 0 0, .slice none 0 0, .string (bs mi), .int .i64 0] 37 wr) ∧ Hid (wr.ownsRow wc.heap.size 9 1 (.slice ka ks.length kc) ks.length (ks.map strV)) ∧ Hid (∀ b, w.heap.size ≤ b → b < N0 → ¬ S' b) ∧ N0 ≤ wr.heap.size) (fun i _ => ks.length - (intOf i).toNat)
              case atStart => exact ⟨0, S, R.rv, Nat.zero_le _, by first | exact True.intro | rfl, HSO, Lib.hid (by simp), HM, HF, HVB, HEB, HKS, HNS2, hN0le⟩
              case round =>
                obtain ⟨kq, S', rv', hkq, rfl, HSQ, HLQ, HMq, HFq, HVq, HEq, HKq, HNq, hNq⟩ := hrel
                by_cases hlt : kq < ks.length
                · have hlt' : (kq : Int) < (ks.length : Int) := by omega
                  have hkb : (0 : Int) ≤ (kq : Int) ∧ (kq : Int) < (ks.length : Int) := ⟨by omega, by omega⟩
                  have hw1 : IntKind.i64.wrap ((kq : Int) + 1) = (kq : Int) + 1 := by rw [IntKind.wrap_i64]; omega
                  obtain ⟨gb, hka, hgc⟩ : ∃ g, ka = some ⟨g, 0, none⟩ ∧ wr.cell? ⟨g, kq, none⟩ = some (.string (bs ks[kq])) := by
                    rcases own_strs HKq.out with ⟨h1, h0⟩ | ⟨g, cap, hv, _, hc⟩
                    · rw [h0] at hlt; simp at hlt
                    · cases hv; exact ⟨g, rfl, hc kq hlt⟩
                  subst hka
                  obtain ⟨x, hx⟩ : ∃ x, ks[kq] = x := ⟨_, rfl⟩
                  rw [hx] at hgc
                  have HX := Lib.hid hx; clear hx
                  obtain ⟨L0, hL0⟩ : ∃ L0, (ks.take kq).foldl withK m.rds = L0 := ⟨_, rfl⟩
                  rw [hL0] at HSQ HLQ HMq
                  have HL0 := Lib.hid hL0; clear hL0
                  obtain ⟨pa, pq, hpv⟩ := own_sl HMq.out.rds.1
                  have HPV := Lib.hid (show rv' = .slice pa L0.length pq from hpv); clear hpv
                  have c4 : wr.cell? ⟨mb, 396, none⟩ = some (.slice pa L0.length pq) := by rw [← HPV.out]; exact HMq.out.tl 4 (by decide)
                  have HOP2 := Lib.hid (show wr.ownsRow W0.heap.size 9 1 (.slice pa L0.length pq) L0.length (L0.map strV) from by rw [← HPV.out]; exact HMq.out.rds.1)
                  go_wp2_with fail
                  have hbq : W0.heap.size ≤ wr.heap.size := by have := HMq.out.rng mb HMq.out.mS; omega
                  refine (vwith_any W0.heap.size (.slice pa L0.length pq) L0 x wr HSQ.out HOP2.out hbq (by have := HLQ.out; omega)).mono ?_
                  rintro er w7 ⟨rv0, rfl, ho7, hg7, hv7⟩
                  obtain ⟨ra7, rc7, hrv7⟩ := own_sl ho7
                  subst hrv7
                  have hrow := HMq.out.rowRds (W' := w7) (.slice ra7 (withK L0 x).length rc7) (withK L0 x) (by show wr.grownBy w7 rv'.ownBlock; rw [HPV.out]; exact hg7) ho7 (by show _ = rv'.ownBlock ∨ _; rw [HPV.out]; exact hv7)
                  have HROW := Lib.hid hrow; clear hrow
                  have hsn : ∀ b, w.heap.size ≤ b → b < N0 → ¬ addB S' (.slice ra7 (withK L0 x).length rc7) b := by
                    rintro b h1 h2 (q1 | q1)
                    · exact HNq.out b h1 h2 q1
                    · rcases hv7 with e | ⟨c2, e, hc⟩
                      · exact HNq.out b h1 h2 (HMq.out.rds.2 b (by show rv'.ownBlock = _; rw [HPV.out]; exact e.symm.trans q1))
                      · have hcb : c2 = b := by rw [e] at q1; exact Option.some.inj q1
                        omega
                  have HSN := Lib.hid hsn; clear hsn
                  have c4b : w7.cell? ⟨mb, 396, none⟩ = some (.slice pa L0.length pq) := by rw [HROW.out.1.cell 396 (by decide), ← HPV.out]; rfl
                  have f4 := HROW.out.1.free 396
                  have hsz7 := hg7.size
                  clear hg7 ho7 hv7 c4 hgc
                  go_wp2
                  have HM8 := Lib.hid HROW.out.2.1; have HF8 := Lib.hid (HFq.out.then HROW.out.2.2); have HV8 := Lib.hid (HVq.out.frs HROW.out.2.2 (HNq.out _ (by omega) (by omega))); have HE8 := Lib.hid (HEq.out.frs HROW.out.2.2 (HNq.out _ (by omega) (by omega))); have HK8 := Lib.hid (own_frs HKq.out HROW.out.2.2 (fun b hb => HNq.out b (HKB.out b hb).1 (HKB.out b hb).2))
                  have hs8 := HROW.out.2.2.size
                  clear HROW
                  generalize hW : w7.setCell ⟨mb, 396, none⟩ (.slice ra7 (withK L0 x).length rc7) = w8 at HM8 HF8 HV8 HE8 HK8 hs8 ⊢
                  clear hW
                  have hfo : (ks.take (kq + 1)).foldl withK m.rds = withK L0 x := by rw [List.take_succ_eq_append_getElem hlt, HX.out, List.foldl_append, HL0.out]; rfl
                  have HFO := Lib.hid hfo; clear hfo
                  have hwl := withK_len L0 x
                  go_roundw
                  case rel => refine ⟨_, _, _, _, _, _, _, _, _, _, _, _, _, _, _, _, _, ?rl, rfl⟩; exact ⟨kq + 1, _, _, by omega, by go_num, Lib.hid (by rw [HFO.out]; exact sort_with x HSQ.out), Lib.hid (by rw [HFO.out]; have := HLQ.out; omega), Lib.hid (by rw [HFO.out]; exact HM8.out), HF8, HV8, HE8, HK8, HSN, by omega⟩
                  case measure => simp [intOf]; omega
                · have hlt' : ¬ (kq : Int) < (ks.length : Int) := by omega
                  have hqq : kq = ks.length := by omega
                  subst hqq
                  rw [List.take_length] at HMq
                  go_wp2_with fail
                  go_meet
                  exact ⟨S', rv', HMq, HFq, HVq, HEq⟩
          case rest =>
            obtain ⟨S', rv', HM7, HF7, HV7, HE7⟩ := hcut
            obtain ⟨e0, e1, e2, e3, e4, e5, e6, e7⟩ := HE7.out.c8
            obtain ⟨b0, b1, b2⟩ := HV7.out.c3
            obtain ⟨m7, hm7⟩ : ∃ x, x = { m with rds := (if hid = true then m.rds else ks.foldl withK m.rds) } := ⟨_, rfl⟩
            rw [← hm7] at HM7
            have HOM := Lib.hid (show opM M F op l m = if st = 1 then pushM m7 v else endM st c mi m7 from by unfold opM; rw [HU.out, HRM.out, HHID.out, hm7]; cases hid <;> rfl)
            have hd7 : m7.dep < 64 := by rw [hm7]; exact hd
            clear hm7
            by_cases hst : st = 1
            rotate_left
            · have t9 : (st != 1) = true := by rw [bne_iff_ne]; exact hst
              have HS9 := Lib.hid (show opM M F op l m = endM st c mi m7 from HOM.out.trans (if_neg hst))
              go_wp2_with fail
              refine (endN_any _ mb S' H m7 _ st c mi hst _ HM7.out).mono ?_
              rintro e w9 ⟨rfl, S9, R9, h1, h2⟩
              have H1 := Lib.hid h1; have H2 := Lib.hid h2; clear h1 h2
              go_wp2
              exact ⟨(by first | exact True.intro | rfl), .tuple #[], results_none rfl _ _ _, rfl, S9, R9, by rw [HS9.out]; exact H1.out, HF7.out.then H2.out⟩
            have t9 : (st != 1) = false := by rw [hst]; rfl
            have HS9 := Lib.hid (show opM M F op l m = pushM m7 v from HOM.out.trans (if_pos hst))
            clear hst
            have hpu := push_any _ mb S' H m7 _ v _ HM7.out hd7
            simp only [vV] at hpu
            have HPU := Lib.hid hpu; clear hpu
            go_wp2_with fail
            refine (HPU.out).mono ?_
            rintro e w9 ⟨rfl, S9, R9, h1, h2⟩
            have H1 := Lib.hid h1; have H2 := Lib.hid h2; clear h1 h2
            go_wp2
            exact ⟨(by first | exact True.intro | rfl), .tuple #[], results_none rfl _ _ _, rfl, S9, R9, by rw [HS9.out]; exact H1.out, HF7.out.then H2.out⟩
end Go.Proofs.YtnglaegofhpleaaGreatDoor
namespace Go.Proofs.YtnglaegofhpleaaGreatDoor
open Go.RowKit

theorem arr_len : Tryz.prog.arrayLen 66 = 64 := by simp [Program.arrayLen, Tryz.underlying66]
theorem arr_el : Tryz.prog.elem 66 = 52 := by simp [Program.elem, Tryz.underlying66]
theorem size_vl (w : World) : (sizeOf 52).run Tryz.prog w = .ok 3 w := by
  obtain ⟨i0, hi, hz0, hz1, hz2⟩ := info_parts infoVl
  simp [sizeOf, typeInfo, hi, hz1]
theorem slice_stk (mb dn nn : Nat) (h : dn + nn ≤ 64) (hn : 1 ≤ nn) (w : World) : (Instr.sliceAt 66 (.pointer (some ⟨mb, 7, none⟩)) (some (.int .i64 (dn : Int))) (some (.int .i64 ((dn : Int) + (nn : Int)))) none).run Tryz.prog w = .ok (.slice (some ⟨mb, 7 + dn * 3, none⟩) nn (64 - dn)) w := by
  rw [run_sliceAt_array_lh w 66 ⟨mb, 7, none⟩ (by rw [arr_len, arr_el]; exact Tryz.underlying66) .i64 .i64 (dn : Int) ((dn : Int) + (nn : Int)) (by omega) (by omega) (by rw [arr_len]; omega), arr_el, arr_len, size_vl]
  simp only [Result.andThen_ok]
  unfold slicedAt
  rw [Int.toNat_natCast, show ((dn : Int) + (nn : Int)).toNat = dn + nn by omega, if_neg (by omega), show dn + nn - dn = nn by omega, show (⟨mb, 7, none⟩ : Addr).add (dn * 3) = ⟨mb, 7 + dn * 3, none⟩ from by unfold Addr.add; split <;> simp_all]
theorem top_cells {mb : Nat} {H : Nat → Value} {m : Mc} {R : Rw} {W : World} (h : Bf mb (mcf H m R) 402 68 W) (d n cap : Nat) (hd : d + n ≤ 64) : CellsAt W (.slice (some ⟨mb, 7 + d * 3, none⟩) n cap) n (vlLs ((List.range n).map fun i => m.stk (d + i))) := by
  refine ⟨_, _, rfl, fun _ => ⟨mb, 7 + d * 3, rfl, fun j y hj => ?_⟩⟩
  have hjl : j < ((List.range n).map fun i => m.stk (d + i)).length * 3 := by
    rw [← vlLs_length]
    rcases Nat.lt_or_ge j (vlLs ((List.range n).map fun i => m.stk (d + i))).length with q | q
    · exact q
    · rw [List.getElem?_eq_none q] at hj; cases hj
  rw [List.length_map, List.length_range] at hjl
  have hi : j / 3 < ((List.range n).map fun i => m.stk (d + i)).length := by rw [List.length_map, List.length_range]; omega
  obtain ⟨g0, g1, g2⟩ := vlLs_get _ (j / 3) hi
  simp only [List.getElem_map, List.getElem_range] at g0 g1 g2
  have hc := h.cell (7 + d * 3 + j) (by omega)
  rw [hc]
  have hr : j % 3 = 0 ∨ j % 3 = 1 ∨ j % 3 = 2 := by omega
  rcases hr with r | r | r
  · rw [show j = j / 3 * 3 by omega] at hj; rw [hj] at g0; rw [show 7 + d * 3 + j = 7 + (d + j / 3) * 3 + 0 by omega, mcf_stk H m R (by omega) (by decide)]; exact g0.symm
  · rw [show j = j / 3 * 3 + 1 by omega] at hj; rw [hj] at g1; rw [show 7 + d * 3 + j = 7 + (d + j / 3) * 3 + 1 by omega, mcf_stk H m R (by omega) (by decide)]; exact g1.symm
  · rw [show j = j / 3 * 3 + 2 by omega] at hj; rw [hj] at g2; rw [show 7 + d * 3 + j = 7 + (d + j / 3) * 3 + 2 by omega, mcf_stk H m R (by omega) (by decide)]; exact g2.symm
theorem key_len {k : List UInt8} (h : keyB k = true) : k.length ≤ 24 := by
  unfold keyB at h; simp only [Bool.and_eq_true, decide_eq_true_eq] at h; exact h.2.1
theorem topV_len (m : Mc) (n : Nat) : (topV m n).length = n := by unfold topV; simp
theorem next_fal {op a b n : Int} {s : List UInt8} {pc : Int} {m : Mc} (h : op = 7) : nextI (⟨op, a, b, n, s⟩ : Ins) pc m = if (popV m).k = 3 ∧ (popV m).n = 0 then a else pc + 1 := by
  unfold nextI
  by_cases hq : (popV m).k = 3 ∧ (popV m).n = 0
  · rw [if_pos hq, if_pos (.inr ⟨h, hq⟩)]
  · rw [if_neg hq, if_neg (by rintro (q | q); exact absurd (h.symm.trans q) (by decide); exact hq q.2)]
theorem ar_cases {op : Int} (h : 1 ≤ arS op) : (arS op = 1 ∧ (op = 9 ∨ op = 18 ∨ op = 20 ∨ op = 21 ∨ op = 22 ∨ op = 23 ∨ op = 24)) ∨ (arS op = 2 ∧ 4 ≤ op ∧ op ≤ 19 ∧ op ≠ 9 ∧ op ≠ 18) := by
  unfold arS at h ⊢
  split at h
  · omega
  rename_i h1
  rw [if_neg h1]
  split at h
  · omega
  rename_i h2
  rw [if_neg h2]
  split at h
  · rename_i h3; rw [if_pos h3]; left; exact ⟨rfl, by omega⟩
  · rename_i h3; rw [if_neg h3]; right; exact ⟨rfl, by omega⟩
theorem depth_le {c : Cd} (hv : valC c = 0) : ∀ k, k < c.l.length → (depth0 c).getD k 0 ≤ 64
  | 0, _ => by rw [depR_zero]; omega
  | k + 1, h => by
    unfold depth0
    rw [depR_succ c.l 0 k h]
    split
    · omega
    · exact (step_ok hv (k := k) (by omega)).2.1
theorem step_facts {c : Cd} {pc : Int} {m : Mc} {N : Nat} (hv : valC c = 0) (h : InvM c pc m N) :
    (1 ≤ (c.l.getD pc.toNat ins0).op ∧ (c.l.getD pc.toNat ins0).op ≤ 14) ∧ takeI (c.l.getD pc.toNat ins0) ≤ (m.dep : Int) ∧ behI (m.dep : Int) (c.l.getD pc.toNat ins0) ≤ 64 ∧ m.dep ≤ 64 ∧
    ((c.l.getD pc.toNat ins0).op = 3 ∨ (c.l.getD pc.toNat ins0).op = 4 → 0 ≤ (c.l.getD pc.toNat ins0).a ∧ (c.l.getD pc.toNat ins0).a < 64) ∧
    ((c.l.getD pc.toNat ins0).op = 12 → (0 ≤ (c.l.getD pc.toNat ins0).a ∧ (c.l.getD pc.toNat ins0).a < 64) ∧ (0 ≤ (c.l.getD pc.toNat ins0).b ∧ (c.l.getD pc.toNat ins0).b < 64) ∧ 1 ≤ (c.l.getD pc.toNat ins0).n ∧ (c.l.getD pc.toNat ins0).n ≤ 16) ∧
    ((c.l.getD pc.toNat ins0).op = 5 → 1 ≤ arS (c.l.getD pc.toNat ins0).a) := by
  have hp := h.pc0
  obtain ⟨ht, h64, -, -, -⟩ := step_ok hv (k := pc.toNat) (by omega)
  have hvp := valC_parts hv
  have hi := all_get hvp.2.2.2.2.1 (k := pc.toNat) (by omega) ins0
  have hsl := hvp.2.1
  rw [← h.dep] at ht h64
  generalize c.l.getD pc.toNat ins0 = x at ht h64 hi ⊢
  unfold insS inR at hi
  simp only [Bool.and_eq_true, decide_eq_true_eq] at hi
  obtain ⟨hop, -, hi⟩ := hi
  refine ⟨hop, ht, h64, by have := depth_le hv pc.toNat (by omega); rw [← h.dep] at this; omega, fun e => ?_, fun e => ?_, fun e => ?_⟩
  · rw [if_neg (by omega), if_pos e] at hi; simp only [Bool.and_eq_true, decide_eq_true_eq] at hi; omega
  · rw [if_neg (by omega), if_neg (by omega), if_neg (by omega), if_neg (by omega), if_neg (by omega), if_pos e] at hi; simp only [Bool.and_eq_true, decide_eq_true_eq] at hi; omega
  · rw [if_neg (by omega), if_neg (by omega), if_pos e] at hi; simp only [decide_eq_true_eq] at hi; exact hi

set_option maxRecDepth 100000 in
set_option maxHeartbeats 4000000 in
theorem CloneVl_any (ad : Addr) (cap : Nat) (L : List Vl) (w : World) (hL : 0 < L.length) (hl : L.length ≤ 1000000) (hV : CellsAt w (.slice (some ad) L.length cap) L.length (vlLs L)) :
    Calls Tryz.prog 63 #[.slice (some ad) L.length cap] w fun e w' => ∃ v', e = .returned v' ∧ w'.ownsRow w.heap.size 52 3 v' L.length (vlLs L) ∧ Below w.heap.size w w' := by
  have hq : ∀ (w : World) (a : Option Addr) (n c n' c' : Nat), (binOp .eql 26 (.slice a n c) (.slice none n' c')).run Tryz.prog w = .ok (.bool a.isNone) w := fun w a n c n' c' => Lib.run_eql_slice_nil w _ _ a n c n' c' Tryz.underlying26
  obtain ⟨i0, hi, hz0, hz1, hz2⟩ := info_parts infoVl
  have hnews : ∀ j u, (vlLs L)[j]? = some u → w.cell? (ad.add j) = some u := by
    intro j u hj
    obtain ⟨ad2, cap2, he, hx⟩ := hV
    cases he
    obtain ⟨b, off, ha, hcell⟩ := hx (by intro h; rw [h] at hj; simp at hj)
    cases ha
    have e : (⟨b, off, none⟩ : Addr).add j = ⟨b, off + j, none⟩ := by unfold Addr.add; split <;> simp_all
    rw [e]; exact hcell j u hj
  have HN := Lib.hid hnews; clear hnews hV
  go_enter Tryz.func63, Tryz.ntmps63
  go_wp2_with (at_builtin; refine wpList_append_own_wide _ rfl _ _ 26 rfl w.heap.size 52 i0 (.agg #[.int .i64 0, .int .i64 0, .string ⟨#[]⟩]) 3 32 Tryz.underlying26 hi hz0 hz1 hz2 rfl (by decide) _ _ _ rfl (World.ownsRow_made w #[] 0 (Nat.le_refl _) (Nat.zero_le _) (by simp)) ad L.length cap (vlLs L) rfl ?qd1 ?qd2 ?qd3 ?qd4 ?qd5 ?qd6 ?_)
  case qd1 => exact vlLs_length L
  case qd2 =>
    intro j u hj
    exact Lib.cell?_alloc_some _ (HN.out j u hj)
  case qd3 =>
    intro u hu
    unfold vlLs at hu
    rw [List.mem_flatMap] at hu
    obtain ⟨x, _, hx⟩ := hu
    simp only [vlL, List.mem_cons, List.not_mem_nil, or_false] at hx
    rcases hx with rfl | rfl | rfl <;> rfl
  case qd4 => unfold maxLen; omega
  case qd5 => omega
  case qd6 => simp
  intro v' w' hown hgrow _
  have hb : Below w.heap.size w w' := ((Below.refl w.heap.size w).alloc (Nat.le_refl _) _).grown hgrow (by simp) (by intro k hk; simp [Value.ownBlock] at hk; omega)
  have HO := Lib.hid hown; have HB := Lib.hid hb; clear hown hgrow hb
  go_wp2
  go_ret
  exact ⟨_, rfl, HO.out, HB.out⟩
set_option maxRecDepth 100000 in
set_option maxHeartbeats 32000000 in
theorem step_any (W0 : World) (mb : Nat) (S : Nat → Prop) (H : Nat → Value) (m : Mc) (R : Rw) (M : List Pr) (F : Ft) (c : Cd) (pc : Int) (N : Nat) (ia : Option Addr) (ic : Nat) (hG : GivH H W0 M F) (hH2 : H 2 = .slice ia c.l.length ic) (hI : CellsAt W0 (.slice ia c.l.length ic) c.l.length (insLs c.l)) (hv : valC c = 0) (hinv : InvM c pc m N) (hN : N ≤ 100000000) (hLd : Laid W0) (w : World) (h : VMB W0.heap.size mb S H m R w) (hb0 : Below W0.heap.size W0 w) :
    Calls Tryz.prog 38 #[.pointer (some ⟨mb, 0, none⟩), .int .i64 pc] w (VPost W0.heap.size mb S H (stepM M F (c.l.getD pc.toNat ins0) m) (.int .i64 (nextI (c.l.getD pc.toNat ins0) pc m)) w) := by
  obtain ⟨hop, htk, hbh, hd64, hsa, hsb, hso⟩ := step_facts hv hinv
  have hpc := hinv.pc0
  have hgd := hinv.gd
  obtain ⟨k, hk⟩ : ∃ k : Nat, pc = (k : Int) := ⟨pc.toNat, by omega⟩
  subst hk
  rw [Int.toNat_natCast] at hop htk hbh hsa hsb hso ⊢
  have hkl : k < c.l.length := by omega
  obtain ⟨x, hx⟩ : ∃ x, c.l.getD k ins0 = x := ⟨_, rfl⟩
  rw [hx] at hop htk hbh hsa hsb hso ⊢
  have hxe : c.l[k] = x := by rw [← hx]; exact (getD_at hkl ins0).symm
  have hIw := hI.below hb0
  have c2 : w.cell? ⟨mb, 2, none⟩ = some (.slice ia c.l.length ic) := by rw [← hH2]; exact h.hd 2 (by decide)
  obtain ⟨ba, oa, hia, p0, p1, p2, p3, p4⟩ := ins_cells hIw hkl
  rw [hxe] at p0 p1 p2 p3 p4
  subst hia
  obtain ⟨op, a, b, n, s⟩ := x
  simp only at hop htk hbh hsa hsb hso p0 p1 p2 p3 p4
  have hkb : (0 : Int) ≤ (k : Int) ∧ (k : Int) < (c.l.length : Int) := ⟨by omega, by omega⟩
  have hw1 : IntKind.i64.wrap ((k : Int) + 1) = (k : Int) + 1 := by have := (valC_parts hv).1; rw [IntKind.wrap_i64] <;> omega
  have HM := Lib.hid h; have HBW := Lib.hid hb0; have HG := Lib.hid hG; have HGD := Lib.hid hgd; have HLD := Lib.hid hLd; have HOPR := Lib.hid hop; have HTK := Lib.hid htk; have HBH := Lib.hid hbh; have HSA := Lib.hid hsa; have HSB := Lib.hid hsb; have HSO := Lib.hid hso; clear h hb0 hG hgd hLd hop htk hbh hsa hsb hso hI hIw hH2 hx hxe hinv hpc
  go_enter Tryz.func38, Tryz.ntmps38
  go_upto_region 2 with (fail)
  have hal := (Below.refl w.heap.size w).alloc (Nat.le_refl _) (.cells #[.int .i64 op, .int .i64 a, .int .i64 b, .int .i64 n, .string (bs s)] 45)
  have HX := Lib.hid (Bx.new w #[.int .i64 op, .int .i64 a, .int .i64 b, .int .i64 n, .string (bs s)] 45); have HN := Lib.hid HM.out.not; have HF := Lib.hid (FrS.of_below (S := S) hal); have HM := Lib.hid (HM.out.call hal); have HBW := Lib.hid (btrans HBW.out HBW.out.size hal); clear hal c2 p0 p1 p2 p3 p4
  generalize hW : w.alloc (.cells #[.int .i64 op, .int .i64 a, .int .i64 b, .int .i64 n, .string (bs s)] 45) = v0 at HX HF HM HBW ⊢
  clear hW
  obtain ⟨x0, x1, x2, x3, x4⟩ := HX.out.c5
  by_cases e1 : op = 1
  · have t1 : (op == 1) = true := by rw [e1]; rfl
    have HST := Lib.hid (show stepM M F (⟨op, a, b, n, s⟩ : Ins) m = pushM m (numV n) from by unfold stepM; rw [if_pos e1])
    have HNX := Lib.hid (show nextI (⟨op, a, b, n, s⟩ : Ins) (k : Int) m = (k : Int) + 1 from by unfold nextI; rw [if_neg (by rintro (q | q); exact absurd (e1.symm.trans q) (by decide); exact absurd (e1.symm.trans q.1) (by decide))])
    have hdq : m.dep < 64 := by have h1 := HTK.out; have h2 := HBH.out; unfold behI putI takeI at h2; unfold takeI at h1; simp [e1] at h1 h2; omega
    clear e1
    have hc := push_any _ mb S H m R (numV n) _ HM.out hdq
    simp only [vV, numV] at hc
    go_wp2_with fail
    refine hc.mono ?_
    clear hc x0 x1 x2 x3 x4
    rintro e w2 ⟨rfl, S', R', h1, h2⟩
    have H1 := Lib.hid h1; have H2 := Lib.hid h2; clear h1 h2
    go_wp2
    go_ret
    exact ⟨by rw [HNX.out] <;> rfl, S', R', by rw [HST.out]; exact H1.out, HF.out.then H2.out⟩
  have t1 : (op == 1) = false := by rw [beq_eq_false_iff_ne]; exact e1
  by_cases e2 : op = 2
  · have t2 : (op == 2) = true := by rw [e2]; rfl
    have HST := Lib.hid (show stepM M F (⟨op, a, b, n, s⟩ : Ins) m = pushM m (strVl s) from by unfold stepM; rw [if_neg e1, if_pos e2])
    have HNX := Lib.hid (show nextI (⟨op, a, b, n, s⟩ : Ins) (k : Int) m = (k : Int) + 1 from by unfold nextI; rw [if_neg (by rintro (q | q); exact absurd (e2.symm.trans q) (by decide); exact absurd (e2.symm.trans q.1) (by decide))])
    have hdq : m.dep < 64 := by have h1 := HTK.out; have h2 := HBH.out; unfold behI putI takeI at h2; unfold takeI at h1; simp [e2] at h1 h2; omega
    clear e1 e2
    have hc := push_any _ mb S H m R (strVl s) _ HM.out hdq
    simp only [vV, strVl] at hc
    go_wp2_with fail
    refine hc.mono ?_
    clear hc x0 x1 x2 x3 x4
    rintro e w2 ⟨rfl, S', R', h1, h2⟩
    have H1 := Lib.hid h1; have H2 := Lib.hid h2; clear h1 h2
    go_wp2
    go_ret
    exact ⟨by rw [HNX.out] <;> rfl, S', R', by rw [HST.out]; exact H1.out, HF.out.then H2.out⟩
  have t2 : (op == 2) = false := by rw [beq_eq_false_iff_ne]; exact e2
  by_cases e3 : op = 3
  · have t3 : (op == 3) = true := by rw [e3]; rfl
    have HST := Lib.hid (show stepM M F (⟨op, a, b, n, s⟩ : Ins) m = pushM m (m.slo a.toNat) from by unfold stepM; rw [if_neg e1, if_neg e2, if_pos e3])
    have HNX := Lib.hid (show nextI (⟨op, a, b, n, s⟩ : Ins) (k : Int) m = (k : Int) + 1 from by unfold nextI; rw [if_neg (by rintro (q | q); exact absurd (e3.symm.trans q) (by decide); exact absurd (e3.symm.trans q.1) (by decide))])
    have hdq : m.dep < 64 := by have h1 := HTK.out; have h2 := HBH.out; unfold behI putI takeI at h2; unfold takeI at h1; simp [e3] at h1 h2; omega
    have haa := HSA.out (.inl e3)
    clear e1 e2 e3
    obtain ⟨an, han⟩ : ∃ q : Nat, a = (q : Int) := ⟨a.toNat, by omega⟩
    subst han
    rw [Int.toNat_natCast] at HST
    have hal : an < 64 := by omega
    have hai : (0 : Int) ≤ (an : Int) ∧ (an : Int) < 64 := by omega
    have hlc := HM.out.lc hal
    obtain ⟨u, hu⟩ : ∃ u, m.slo an = u := ⟨_, rfl⟩
    rw [hu] at hlc HST
    have HU := Lib.hid hu; clear hu
    have HS0 := Lib.hid (show ((fun w' => Bx w.heap.size #[.int .i64 op, .int .i64 (an : Int), .int .i64 b, .int .i64 n, .string (bs s)] 45 w' ∧ (w'.cell? ⟨mb, 200 + an * 3, none⟩ = some (.int .i64 u.k) ∧ w'.cell? ⟨mb, 200 + an * 3 + 1, none⟩ = some (.int .i64 u.n) ∧ w'.cell? ⟨mb, 200 + an * 3 + 2, none⟩ = some (.string (bs u.s))))) v0.drew from ⟨HX.out, hlc⟩)
    clear hlc
    go_upto_region 8 with (fail)
    clear x0 x1 x2 x3 x4
    go_wp2_with fail
    refine wp_region_held_drew (S := (fun w' => Bx w.heap.size #[.int .i64 op, .int .i64 (an : Int), .int .i64 b, .int .i64 n, .string (bs s)] 45 w' ∧ (w'.cell? ⟨mb, 200 + an * 3, none⟩ = some (.int .i64 u.k) ∧ w'.cell? ⟨mb, 200 + an * 3 + 1, none⟩ = some (.int .i64 u.n) ∧ w'.cell? ⟨mb, 200 + an * 3 + 2, none⟩ = some (.string (bs u.s))))) (by kernel_rfl) ?_ (fun hHeld => ?_)
    · exact HS0.out
    refine tkX (i := 0) 34 ?_
    simp only [sA, sB, sC]
    refine tkX (i := 1) 35 ?_
    simp only [sA, sB, sC]
    refine tkX (i := 2) 36 ?_
    simp only [sA, sB, sC]
    refine tkY (i := 3) (v := ?vv4) 37 ?yy4 ?_
    case yy4 =>
      intro wq hSw
      obtain ⟨z0, z1, z2, z3, z4⟩ := hSw.1.c5
      clear hSw
      go_simp
      (try with_reducible rfl)
    simp only [sA, sB, sC]
    refine tkX (i := 4) 38 ?_
    simp only [sA, sB, sC]
    refine tkX (i := 5) 39 ?_
    simp only [sA, sB, sC]
    refine tkX (i := 6) 40 ?_
    simp only [sA, sB, sC]
    refine tkY (i := 7) (v := ?vv8) 41 ?yy8 ?_
    case yy8 =>
      intro wq hSw
      obtain ⟨z0, z1, z2⟩ := hSw.2
      clear hSw
      go_simp
      (try with_reducible rfl)
    simp only [sA, sB, sC]
    refine wpAnyH_ready (rs := [8]) (by kernel_rfl) (by simp) ?_
    refine (AllReadyH.cons rfl (fun K hK => ?_) AllReadyH.nil)
    have hc := push_any _ mb S H m R u _ HM.out.drew hdq
    simp only [vV] at hc
    go_simp
    refine hc.mono ?_
    clear hc
    rintro e w2 ⟨rfl, S', R', h1, h2⟩
    have H1 := Lib.hid h1; have H2 := Lib.hid h2; clear h1 h2
    have hlc2 := H1.out.lc hal
    rw [show (pushM m u).slo an = u from HU.out] at hlc2
    refine hK.out _ _ ?_ (fun hHeld => ?_)
    · exact ⟨HX.out.drew.frs H2.out HN.out, hlc2⟩
    clear hK K hHeld hlc2
    (try simp only [Act.put, sA, sB, sC])
    refine wpAnyH_done (by kernel_rfl) ?_ _
    have HF2 := Lib.hid (HF.out.drew.then H2.out)
    go_wp2
    go_ret
    exact ⟨by rw [HNX.out] <;> rfl, S', R', by rw [HST.out]; exact H1.out, HF2.out⟩
  have t3 : (op == 3) = false := by rw [beq_eq_false_iff_ne]; exact e3
  by_cases e4 : op = 4
  · have t4 : (op == 4) = true := by rw [e4]; rfl
    have HST := Lib.hid (show stepM M F (⟨op, a, b, n, s⟩ : Ins) m = { popM m with slo := setV m.slo a.toNat (popV m) } from by unfold stepM; rw [if_neg e1, if_neg e2, if_neg e3, if_pos e4])
    have HNX := Lib.hid (show nextI (⟨op, a, b, n, s⟩ : Ins) (k : Int) m = (k : Int) + 1 from by unfold nextI; rw [if_neg (by rintro (q | q); exact absurd (e4.symm.trans q) (by decide); exact absurd (e4.symm.trans q.1) (by decide))])
    have hdq : 1 ≤ m.dep ∧ m.dep ≤ 64 := by have h1 := HTK.out; have h2 := HBH.out; unfold behI putI takeI at h2; unfold takeI at h1; simp [e4] at h1 h2; omega
    have haa := HSA.out (.inr e4)
    clear e1 e2 e3 e4
    obtain ⟨an, han⟩ : ∃ q : Nat, a = (q : Int) := ⟨a.toNat, by omega⟩
    subst han
    rw [Int.toNat_natCast] at HST
    have hal : an < 64 := by omega
    have hai : (0 : Int) ≤ (an : Int) ∧ (an : Int) < 64 := by omega
    have HS0 := Lib.hid (show ((fun w' => Bx w.heap.size #[.int .i64 op, .int .i64 (an : Int), .int .i64 b, .int .i64 n, .string (bs s)] 45 w')) v0.drew from HX.out)
    obtain ⟨u, hu⟩ : ∃ u, popV m = u := ⟨_, rfl⟩
    rw [hu] at HST
    have HU := Lib.hid hu; clear hu
    go_upto_region 10 with (fail)
    clear x0 x1 x2 x3 x4
    go_wp2_with fail
    refine wp_region_held_drew (S := (fun w' => Bx w.heap.size #[.int .i64 op, .int .i64 (an : Int), .int .i64 b, .int .i64 n, .string (bs s)] 45 w')) (by kernel_rfl) ?_ (fun hHeld => ?_)
    · exact HS0.out
    refine tkX (i := 0) 45 ?_
    simp only [sA, sB, sC]
    refine tkX (i := 1) 46 ?_
    simp only [sA, sB, sC]
    refine tkY (i := 2) (v := ?vv11) 47 ?yy11 ?_
    case yy11 =>
      intro wq hSw
      obtain ⟨z0, z1, z2, z3, z4⟩ := hSw.c5
      clear hSw
      go_simp
      (try with_reducible rfl)
    simp only [sA, sB, sC]
    refine tkX (i := 3) 48 ?_
    simp only [sA, sB, sC]
    refine tkX (i := 5) 50 ?_
    simp only [sA, sB, sC]
    refine tkX (i := 6) 51 ?_
    simp only [sA, sB, sC]
    refine wpAnyH_ready (rs := [4]) (by kernel_rfl) (by simp) ?_
    refine (AllReadyH.cons rfl (fun K hK => ?_) AllReadyH.nil)
    have hc := pop_any _ mb S H m R _ HM.out.drew hdq.1 hdq.2
    rw [HU.out] at hc
    simp only [vV] at hc
    go_simp
    refine hc.mono ?_
    clear hc
    rintro e w2 ⟨rfl, S', R', h1, h2⟩
    have HM2 := Lib.hid h1; have HF2 := Lib.hid (HF.out.drew.then h2); have HX2 := Lib.hid (HX.out.drew.frs h2 HN.out); clear h1 h2
    refine hK.out _ _ ?_ (fun hHeld => ?_)
    · exact HX2.out
    clear hK K
    (try simp only [Act.put, sA, sB, sC])
    refine tkX (i := 7) 52 ?_
    simp only [sA, sB, sC]
    obtain ⟨l0, l1, l2⟩ := HM2.out.lc hal
    have f0 := HM2.out.bf.free (200 + an * 3)
    have f1 := HM2.out.bf.free (200 + an * 3 + 1)
    have f2 := HM2.out.bf.free (200 + an * 3 + 2)
    have hnm : w.heap.size ≠ mb := fun e => HN.out (by rw [e]; exact (HM.out.mS))
    refine wpAnyH_ready (rs := [8]) (by kernel_rfl) (by simp) ?_
    refine (AllReadyH.cons rfl (fun K hK => ?_) AllReadyH.nil)
    go_simp
    refine hK.out _ _ ?_ (fun hHeld2 => ?_)
    · exact ((HX2.out.other (c := mb) hnm _).other (c := mb) hnm _).other (c := mb) hnm _
    clear hK K hHeld hHeld2 l0 l1 l2 f0 f1 f2
    (try simp only [Act.put, sA, sB, sC])
    refine wpAnyH_done (by kernel_rfl) ?_ _
    have HM3 := Lib.hid (HM2.out.put3 (m' := { popM m with slo := setV m.slo an u }) _ _ _ _ _ _ (upd_slo H (popM m) R' hal u) rfl rfl rfl rfl rfl)
    have HF3 := Lib.hid (((HF2.out.set mb (200 + an * 3) (.int .i64 u.k) (.inl HM2.out.mS)).set mb (200 + an * 3 + 1) (.int .i64 u.n) (.inl HM2.out.mS)).set mb (200 + an * 3 + 2) (.string (bs u.s)) (.inl HM2.out.mS))
    clear HM2 HF2 HX2 HS0
    generalize hW : (((w2.setCell ⟨mb, 200 + an * 3, none⟩ (.int .i64 u.k)).setCell ⟨mb, 200 + an * 3 + 1, none⟩ (.int .i64 u.n)).setCell ⟨mb, 200 + an * 3 + 2, none⟩ (.string (bs u.s))) = w3 at HM3 HF3 ⊢
    clear hW
    go_wp2
    go_ret
    exact ⟨by rw [HNX.out] <;> rfl, S', R', by rw [HST.out]; exact HM3.out, HF3.out⟩
  have t4 : (op == 4) = false := by rw [beq_eq_false_iff_ne]; exact e4
  by_cases e5 : op = 5
  · have t5 : (op == 5) = true := by rw [e5]; rfl
    have HST := Lib.hid (show stepM M F (⟨op, a, b, n, s⟩ : Ins) m = opM M F a (topV m (arS a).toNat) (dropM m (arS a).toNat) from by unfold stepM; rw [if_neg e1, if_neg e2, if_neg e3, if_neg e4, if_pos e5])
    have HNX := Lib.hid (show nextI (⟨op, a, b, n, s⟩ : Ins) (k : Int) m = (k : Int) + 1 from by unfold nextI; rw [if_neg (by rintro (q | q); exact absurd (e5.symm.trans q) (by decide); exact absurd (e5.symm.trans q.1) (by decide))])
    have har := HSO.out e5
    have hdq : arS a ≤ (m.dep : Int) ∧ (m.dep : Int) - arS a + 1 ≤ 64 := by have h1 := HTK.out; have h2 := HBH.out; unfold behI putI takeI at h2; unfold takeI at h1; simp [e5] at h1 h2; omega
    clear e1 e2 e3 e4 e5
    have hac := ar_cases har
    go_wp2_with fail
    refine (Arity_any a _).mono ?_
    rintro er w1 ⟨rfl, rfl⟩
    obtain ⟨nn, hnn⟩ : ∃ q : Nat, arS a = (q : Int) := ⟨(arS a).toNat, by omega⟩
    rw [hnn] at hac hdq HST ⊢
    rw [Int.toNat_natCast] at HST
    obtain ⟨dn, hdn⟩ : ∃ q : Nat, m.dep = q + nn := ⟨m.dep - nn, by omega⟩
    have hn64 : dn + nn ≤ 64 ∧ 1 ≤ nn ∧ nn ≤ 2 ∧ dn < 64 := by omega
    have hds := HM.out.dep
    rw [hdn, show ((dn + nn : Nat) : Int) = (dn : Int) + (nn : Int) from by omega] at hds
    have hfr := HM.out.bf.free 199
    have hw2 : IntKind.i64.wrap ((dn : Int) + (nn : Int) - (nn : Int)) = (dn : Int) := by rw [IntKind.wrap_i64] <;> omega
    have HM2 := Lib.hid (HM.out.put (m' := dropM m nn) 199 (.int .i64 (dn : Int)) (by have h := upd_dep H m R dn; unfold dropM; rw [show m.dep - nn = dn by omega]; exact h) rfl rfl rfl rfl rfl)
    have HF2 := Lib.hid (HF.out.set mb 199 (.int .i64 (dn : Int)) (.inl HM.out.mS))
    have hnm : w.heap.size ≠ mb := fun e => HN.out (by rw [e]; exact HM.out.mS)
    have HX2 := Lib.hid (HX.out.other (c := mb) (i := 199) hnm (.int .i64 (dn : Int)))
    have HBW2 := Lib.hid (below_set HBW.out mb 199 ((HM.out.rng mb HM.out.mS).1) (.int .i64 (dn : Int)))
    have HDN := Lib.hid hdn; have HAC := Lib.hid hac; have HNN := Lib.hid hnn; clear hnn hac hdq har hdn
    go_upto_region 14 with (fail)
    clear hds hfr x0 x1 x2 x3 x4
    generalize hW : w1.setCell ⟨mb, 199, none⟩ (.int .i64 (dn : Int)) = v1 at HM2 HF2 HX2 HBW2 ⊢
    clear hW HM HF HX HBW
    have HM := HM2; have HF := HF2; have HX := HX2; have HBW := HBW2; clear HM2 HF2 HX2 HBW2
    have hdm : (dropM m nn).dep = dn := by show m.dep - nn = dn; rw [HDN.out]; omega
    have hds := HM.out.dep
    rw [hdm] at hds
    have HDS := Lib.hid hds; have HDM := Lib.hid hdm; clear hds hdm
    have hdi : (0 : Int) ≤ (dn : Int) ∧ (dn : Int) + (nn : Int) ≤ 64 ∧ (1 : Int) ≤ (nn : Int) := by omega
    have hw3 : IntKind.i64.wrap ((dn : Int) + (nn : Int)) = (dn : Int) + (nn : Int) := by rw [IntKind.wrap_i64] <;> omega
    have HS0 := Lib.hid (show ((fun w' => Bx w.heap.size #[.int .i64 op, .int .i64 a, .int .i64 b, .int .i64 n, .string (bs s)] 45 w')) v1.drew from HX.out)
    go_wp2_with fail
    refine wp_region_held_drew (S := (fun w' => Bx w.heap.size #[.int .i64 op, .int .i64 a, .int .i64 b, .int .i64 n, .string (bs s)] 45 w')) (by kernel_rfl) ?_ (fun hHeld => ?_)
    · exact HS0.out
    refine tkX (i := 0) 66 ?_
    simp only [sA, sB, sC]
    refine tkX (i := 1) 67 ?_
    simp only [sA, sB, sC]
    refine tkY (i := 2) (v := ?vv18) 68 ?yy18 ?_
    case yy18 =>
      intro wq hSw
      obtain ⟨z0, z1, z2, z3, z4⟩ := hSw.c5
      clear hSw
      go_simp
      (try with_reducible rfl)
    simp only [sA, sB, sC]
    refine tkX (i := 3) 69 ?_
    simp only [sA, sB, sC]
    refine tkX (i := 4) 70 ?_
    simp only [sA, sB, sC]
    refine tkX (i := 5) 71 ?_
    simp only [sA, sB, sC]
    refine tkX (i := 6) 72 ?_
    simp only [sA, sB, sC]
    refine tkX (i := 7) 73 ?_
    simp only [sA, sB, sC]
    refine tkX (i := 8) 74 ?_
    simp only [sA, sB, sC]
    refine tkX (i := 10) 76 ?_
    simp only [sA, sB, sC]
    refine tkX (i := 11) 77 ?_
    simp only [sA, sB, sC]
    refine tkX (i := 12) 78 ?_
    simp only [sA, sB, sC]
    refine tkX (i := 14) 80 ?_
    simp only [sA, sB, sC]
    refine wpAnyH_ready (rs := [9, 13]) (by kernel_rfl) (by simp) ?_
    refine (AllReadyH.cons rfl (fun K hK => ?_) (AllReadyH.cons rfl (fun K hK => ?_) AllReadyH.nil))
    have d0 : v1.cell? ⟨mb, 199, none⟩ = some (.int .i64 (dn : Int)) := HDS.out
    go_simp
    skip
    refine hK.out _ _ ?_ (fun hHeld => ?_)
    · exact hHeld
    clear hK K
    (try simp only [Act.put, sA, sB, sC])
    clear d0
    refine wpAnyH_ready (rs := [13]) (by kernel_rfl) (by simp) ?_
    refine (AllReadyH.cons rfl (fun K hK => ?_) AllReadyH.nil)
    have d0 : v1.cell? ⟨mb, 199, none⟩ = some (.int .i64 (dn : Int)) := HDS.out
    go_simp
    skip
    refine hK.out _ _ ?_ (fun hHeld => ?_)
    · exact hHeld
    clear hK K
    (try simp only [Act.put, sA, sB, sC])
    clear d0
    refine tkX (i := 15) 81 ?_
    simp only [sA, sB, sC]
    rotate_left
    have d0 : v1.cell? ⟨mb, 199, none⟩ = some (.int .i64 (dn : Int)) := HDS.out
    go_simp
    skip
    refine hK.out _ _ ?_ (fun hHeld => ?_)
    · exact hHeld
    clear hK K
    (try simp only [Act.put, sA, sB, sC])
    clear d0
    refine tkX (i := 15) 81 ?_
    simp only [sA, sB, sC]
    refine wpAnyH_ready (rs := [9]) (by kernel_rfl) (by simp) ?_
    refine (AllReadyH.cons rfl (fun K hK => ?_) AllReadyH.nil)
    have d0 : v1.cell? ⟨mb, 199, none⟩ = some (.int .i64 (dn : Int)) := HDS.out
    go_simp
    skip
    refine hK.out _ _ ?_ (fun hHeld => ?_)
    · exact hHeld
    clear hK K
    (try simp only [Act.put, sA, sB, sC])
    clear d0
    all_goals
      have hsl := slice_stk mb dn nn hn64.1 hn64.2.1
      refine tkX (i := 16) 82 ?_
      simp only [sA, sB, sC]
      have hcl := top_cells HM.out.bf dn nn (64 - dn) hn64.1
      have HCL := Lib.hid hcl; clear hcl hHeld
      refine wpAnyH_ready (rs := [17]) (by kernel_rfl) (by simp) ?_
      refine (AllReadyH.cons rfl (fun K hK => ?_) AllReadyH.nil)
      go_simp
      have htv : topV m nn = (List.range nn).map fun i => m.stk (dn + i) := by unfold topV; rw [show m.dep - nn = dn by have := HDN.out; omega]
      have HCL := Lib.hid (show CellsAt v1 (.slice (some ⟨mb, 7 + dn * 3, none⟩) nn (64 - dn)) nn (vlLs (topV m nn)) from by rw [htv]; exact HCL.out)
      have hct := CloneVl_any ⟨mb, 7 + dn * 3, none⟩ (64 - dn) (topV m nn) v1.drew (by rw [topV_len]; omega) (by rw [topV_len]; omega) (by rw [topV_len]; exact HCL.out)
      rw [topV_len] at hct
      refine hct.mono ?_
      clear hct htv hsl
      rintro er w2 ⟨cv, rfl, ho2, hb2⟩
      obtain ⟨ca, cc, hcv⟩ := own_sl ho2
      subst hcv
      have HM2 := Lib.hid (HM.out.drew.call hb2); have HF2 := Lib.hid (HF.out.drew.then (FrS.of_below hb2)); have HX2 := Lib.hid (HX.out.drew.call hb2); have HBW2 := Lib.hid (btrans HBW.out.drew HBW.out.drew.size hb2)
      have HCV := Lib.hid (own_valAt (show w2.ownsRow v1.drew.heap.size 52 3 (.slice ca nn cc) (topV m nn).length (vlLs (topV m nn)) from by rw [topV_len]; exact ho2))
      clear ho2 hb2
      refine hK.out _ _ ?_ (fun hHeld => ?_)
      · exact HX2.out
      clear hK K hHeld
      (try simp only [Act.put, sA, sB, sC])
      have hgd := HGD.out
      have htok : ∀ v ∈ topV m nn, OkV v := fun v hv => gd_ok (hgd.top (by have := HDN.out; omega) v hv)
      have hlo : ∀ p ∈ m.own, p.key.length ≤ 9223372036854775807 ∧ p.v.s.length ≤ 9223372036854775807 := fun p hp => ⟨by have := key_len (hgd.own p hp).2; omega, by have := (gd_ok (hgd.own p hp).1).2.2; omega⟩
      have hpt := operate_any W0 mb S H (dropM m nn) R M F a (topV m nn) ca cc HG.out (by rw [topV_len]; rcases HAC.out with q | q; exact .inl ⟨by omega, q.2⟩; exact .inr ⟨by omega, q.2⟩) htok (by rw [HDM.out]; omega) hgd.rds ⟨by have := hgd.nr; show m.rds.length ≤ _; omega, by have := hgd.no; show m.own.length ≤ _; omega⟩ hlo HLD.out w2 HM2.out HBW2.out (by rw [topV_len]; have h := HCV.out; rw [topV_len] at h; exact h)
      rw [topV_len] at hpt
      have HPT := Lib.hid hpt; clear hpt hgd htok hlo
      refine wpAnyH_ready (rs := [18]) (by kernel_rfl) (by simp) ?_
      refine (AllReadyH.cons rfl (fun K hK => ?_) AllReadyH.nil)
      go_simp
      refine HPT.out.mono ?_
      rintro e w3 ⟨rfl, S', R', h1, h2⟩
      have H1 := Lib.hid h1; have HX3 := Lib.hid (HX2.out.frs h2 HN.out); have HF3 := Lib.hid (HF2.out.then h2); clear h1 h2
      refine hK.out _ _ ?_ (fun hHeld => ?_)
      · exact HX3.out
      clear hK K hHeld
      (try simp only [Act.put, sA, sB, sC])
      refine wpAnyH_done (by kernel_rfl) ?_ _
      go_wp2
      go_ret
      exact ⟨by rw [HNX.out] <;> rfl, S', R', by rw [HST.out]; exact H1.out, HF3.out⟩
  have t5 : (op == 5) = false := by rw [beq_eq_false_iff_ne]; exact e5
  by_cases e6 : op = 6
  · have t6 : (op == 6) = true := by rw [e6]; rfl
    have HST := Lib.hid (show stepM M F (⟨op, a, b, n, s⟩ : Ins) m = m from by unfold stepM; rw [if_neg e1, if_neg e2, if_neg e3, if_neg e4, if_neg e5, if_pos e6])
    have HNX := Lib.hid (show nextI (⟨op, a, b, n, s⟩ : Ins) (k : Int) m = a from by unfold nextI; rw [if_pos (.inl e6)])
    clear e1 e2 e3 e4 e5 e6
    go_wp2
    go_ret
    exact ⟨by rw [HNX.out] <;> rfl, S, R, by rw [HST.out]; exact HM.out, HF.out⟩
  have t6 : (op == 6) = false := by rw [beq_eq_false_iff_ne]; exact e6
  by_cases e7 : op = 7
  · have t7 : (op == 7) = true := by rw [e7]; rfl
    have HST := Lib.hid (show stepM M F (⟨op, a, b, n, s⟩ : Ins) m = falM m from by unfold stepM; rw [if_neg e1, if_neg e2, if_neg e3, if_neg e4, if_neg e5, if_neg e6, if_pos e7])
    have hdq : 1 ≤ m.dep ∧ m.dep ≤ 64 := by have h1 := HTK.out; have h2 := HBH.out; unfold behI putI takeI at h2; unfold takeI at h1; simp [e7] at h1 h2; omega
    obtain ⟨v, hv7⟩ : ∃ v, popV m = v := ⟨_, rfl⟩
    have HFM := Lib.hid (show falM m = if v.k ≠ 3 then endM 2 1009 [] (popM m) else popM m from by unfold falM; rw [hv7])
    have HNI := Lib.hid (next_fal (b := b) (n := n) (s := s) (a := a) (pc := (k : Int)) (m := m) e7)
    rw [hv7] at HNI
    have HV7 := Lib.hid hv7; clear hv7
    clear e1 e2 e3 e4 e5 e6 e7
    go_wp2_with fail
    refine (pop_any _ mb S H m R _ HM.out hdq.1 hdq.2).mono ?_
    rintro e w1 ⟨rfl, S1, R1, h1, h2⟩
    rw [HV7.out]
    simp only [vV]
    have HM1 := Lib.hid h1; have HF1 := Lib.hid (HF.out.then h2); have HX1 := Lib.hid (HX.out.frs h2 HN.out); clear h1 h2 x0 x1 x2 x3 x4
    go_upto_region 19 with (fail)
    have hal := (Below.refl w1.heap.size w1).alloc (Nat.le_refl _) (.cells #[.int .i64 v.k, .int .i64 v.n, .string (bs v.s)] 52)
    have HY := Lib.hid (Bx.new w1 #[.int .i64 v.k, .int .i64 v.n, .string (bs v.s)] 52); have HM1 := Lib.hid (HM1.out.call hal); have HF1 := Lib.hid (HF1.out.then (FrS.of_below hal)); have HX1 := Lib.hid (HX1.out.call hal); clear hal
    generalize hW : w1.alloc (.cells #[.int .i64 v.k, .int .i64 v.n, .string (bs v.s)] 52) = v1 at HY HM1 HF1 HX1 ⊢
    clear hW
    obtain ⟨y0, y1, y2⟩ := HY.out.c3
    obtain ⟨x0, x1, x2, x3, x4⟩ := HX1.out.c5
    by_cases h3 : v.k = 3
    rotate_left
    · have t3 : (v.k != 3) = true := by rw [bne_iff_ne]; exact h3
      have HST2 := Lib.hid (show stepM M F (⟨op, a, b, n, s⟩ : Ins) m = endM 2 1009 [] (popM m) from HST.out.trans (HFM.out.trans (if_pos h3)))
      have HNX := Lib.hid (HNI.out.trans (if_neg (fun q => h3 q.1)))
      clear h3
      go_wp2_with fail
      refine (vabort_any _ mb S1 H _ R1 1009 _ HM1.out).mono ?_
      rintro e w2 ⟨rfl, S', R', h1, h2⟩
      have H1 := Lib.hid h1; have H2 := Lib.hid (HF1.out.then h2); clear h1 h2 x0 x1 x2 x3 x4 y0 y1 y2
      go_wp2
      go_ret
      exact ⟨by rw [HNX.out] <;> rfl, S', R', by rw [HST2.out]; exact H1.out, H2.out⟩
    have t3 : (v.k != 3) = false := by rw [h3]; rfl
    have HST2 := Lib.hid (show stepM M F (⟨op, a, b, n, s⟩ : Ins) m = popM m from HST.out.trans (HFM.out.trans (if_neg (by rw [h3]; simp))))
    by_cases h0 : v.n = 0
    · have t0 : (v.n == 0) = true := by rw [h0]; rfl
      have HNX := Lib.hid (HNI.out.trans (if_pos ⟨h3, h0⟩))
      clear h3 h0
      go_wp2
      go_ret
      exact ⟨by rw [HNX.out] <;> rfl, S1, R1, by rw [HST2.out]; exact HM1.out, HF1.out⟩
    have t0 : (v.n == 0) = false := by rw [beq_eq_false_iff_ne]; exact h0
    have HNX := Lib.hid (HNI.out.trans (if_neg (fun q => h0 q.2)))
    clear h3 h0
    go_wp2
    go_ret
    exact ⟨by rw [HNX.out] <;> rfl, S1, R1, by rw [HST2.out]; exact HM1.out, HF1.out⟩
  have t7 : (op == 7) = false := by rw [beq_eq_false_iff_ne]; exact e7
  by_cases e8 : op = 8
  · have t8 : (op == 8) = true := by rw [e8]; rfl
    have HST := Lib.hid (show stepM M F (⟨op, a, b, n, s⟩ : Ins) m = putM F m from by unfold stepM; rw [if_neg e1, if_neg e2, if_neg e3, if_neg e4, if_neg e5, if_neg e6, if_neg e7, if_pos e8])
    have HNX := Lib.hid (show nextI (⟨op, a, b, n, s⟩ : Ins) (k : Int) m = (k : Int) + 1 from by unfold nextI; rw [if_neg (by rintro (q | q); exact absurd (e8.symm.trans q) (by decide); exact absurd (e8.symm.trans q.1) (by decide))])
    have hdq : 2 ≤ m.dep := by have h1 := HTK.out; have h2 := HBH.out; unfold behI putI takeI at h2; unfold takeI at h1; simp [e8] at h1 h2; omega
    clear e1 e2 e3 e4 e5 e6 e7 e8
    have hgd := HGD.out
    have hpt := put_any W0 mb S H m R M F HG.out hdq hd64 (fun q hq => gd_ok (hgd.stk q hq)) hgd.puts ⟨by have := hgd.np; omega, by have := hgd.no; omega⟩ v0 HM.out HBW.out
    have HPT := Lib.hid hpt; clear hpt hgd
    go_wp2_with fail
    refine (HPT.out).mono ?_
    clear x0 x1 x2 x3 x4
    rintro e w2 ⟨rfl, S', R', h1, h2⟩
    have H1 := Lib.hid h1; have H2 := Lib.hid h2; clear h1 h2
    go_wp2
    go_ret
    exact ⟨by rw [HNX.out] <;> rfl, S', R', by rw [HST.out]; exact H1.out, HF.out.then H2.out⟩
  have t8 : (op == 8) = false := by rw [beq_eq_false_iff_ne]; exact e8
  by_cases e9 : op = 9
  · have t9 : (op == 9) = true := by rw [e9]; rfl
    have HST := Lib.hid (show stepM M F (⟨op, a, b, n, s⟩ : Ins) m = storeM F (popV m) v00 (popM m) from by unfold stepM; rw [if_neg e1, if_neg e2, if_neg e3, if_neg e4, if_neg e5, if_neg e6, if_neg e7, if_neg e8, if_pos e9])
    have HNX := Lib.hid (show nextI (⟨op, a, b, n, s⟩ : Ins) (k : Int) m = (k : Int) + 1 from by unfold nextI; rw [if_neg (by rintro (q | q); exact absurd (e9.symm.trans q) (by decide); exact absurd (e9.symm.trans q.1) (by decide))])
    have hdq : 1 ≤ m.dep := by have h1 := HTK.out; have h2 := HBH.out; unfold behI putI takeI at h2; unfold takeI at h1; simp [e9] at h1 h2; omega
    clear e1 e2 e3 e4 e5 e6 e7 e8 e9
    have hgd := HGD.out
    obtain ⟨u, hu⟩ : ∃ u, popV m = u := ⟨_, rfl⟩
    have huk : u.s.length ≤ 1000000 := by rw [← hu]; exact (gd_ok (hgd.popd hdq)).2.2
    rw [hu] at HST
    have HU := Lib.hid hu; clear hu
    go_wp2_with fail
    refine (pop_any _ mb S H m R _ HM.out hdq hd64).mono ?_
    rintro e w1 ⟨rfl, S1, R1, h1, h2⟩
    rw [HU.out]
    simp only [vV]
    have HM1 := Lib.hid h1; have HF := Lib.hid (HF.out.then h2); have HBW1 := Lib.hid (HM.out.below HBW.out h2); clear h1 h2 x0 x1 x2 x3 x4
    have hpt := store_any W0 mb S1 H (popM m) R1 M F u v00 HG.out huk hgd.puts ⟨by have := hgd.np; show m.puts.length ≤ _; omega, by have := hgd.no; show m.own.length ≤ _; omega⟩ w1 HM1.out HBW1.out
    simp only [vV, v00] at hpt
    have HPT := Lib.hid hpt; clear hpt hgd
    go_wp2_with fail
    refine HPT.out.mono ?_
    rintro e w2 ⟨rfl, S', R', h1, h2⟩
    have H1 := Lib.hid h1; have H2 := Lib.hid h2; clear h1 h2
    go_wp2
    go_ret
    exact ⟨by rw [HNX.out] <;> rfl, S', R', by rw [HST.out]; exact H1.out, HF.out.then H2.out⟩
  have t9 : (op == 9) = false := by rw [beq_eq_false_iff_ne]; exact e9
  by_cases e10 : op = 10
  · have t10 : (op == 10) = true := by rw [e10]; rfl
    have HST := Lib.hid (show stepM M F (⟨op, a, b, n, s⟩ : Ins) m = emitM (popV m) (popM m) from by unfold stepM; rw [if_neg e1, if_neg e2, if_neg e3, if_neg e4, if_neg e5, if_neg e6, if_neg e7, if_neg e8, if_neg e9, if_pos e10])
    have HNX := Lib.hid (show nextI (⟨op, a, b, n, s⟩ : Ins) (k : Int) m = (k : Int) + 1 from by unfold nextI; rw [if_neg (by rintro (q | q); exact absurd (e10.symm.trans q) (by decide); exact absurd (e10.symm.trans q.1) (by decide))])
    have hdq : 1 ≤ m.dep := by have h1 := HTK.out; have h2 := HBH.out; unfold behI putI takeI at h2; unfold takeI at h1; simp [e10] at h1 h2; omega
    clear e1 e2 e3 e4 e5 e6 e7 e8 e9 e10
    have hgd := HGD.out
    obtain ⟨u, hu⟩ : ∃ u, popV m = u := ⟨_, rfl⟩
    rw [hu] at HST
    have HU := Lib.hid hu; clear hu
    go_wp2_with fail
    refine (pop_any _ mb S H m R _ HM.out hdq hd64).mono ?_
    rintro e w1 ⟨rfl, S1, R1, h1, h2⟩
    rw [HU.out]
    simp only [vV]
    have HM1 := Lib.hid h1; have HF := Lib.hid (HF.out.then h2); clear h1 h2 x0 x1 x2 x3 x4
    have hpt := emit_any _ mb S1 H (popM m) R1 u w1 HM1.out hgd.out
    simp only [vV] at hpt
    have HPT := Lib.hid hpt; clear hpt hgd
    go_wp2_with fail
    refine HPT.out.mono ?_
    rintro e w2 ⟨rfl, S', R', h1, h2⟩
    have H1 := Lib.hid h1; have H2 := Lib.hid h2; clear h1 h2
    go_wp2
    go_ret
    exact ⟨by rw [HNX.out] <;> rfl, S', R', by rw [HST.out]; exact H1.out, HF.out.then H2.out⟩
  have t10 : (op == 10) = false := by rw [beq_eq_false_iff_ne]; exact e10
  by_cases e11 : op = 11
  · have t11 : (op == 11) = true := by rw [e11]; rfl
    have HST := Lib.hid (show stepM M F (⟨op, a, b, n, s⟩ : Ins) m = endM 2 a [] m from by unfold stepM; rw [if_neg e1, if_neg e2, if_neg e3, if_neg e4, if_neg e5, if_neg e6, if_neg e7, if_neg e8, if_neg e9, if_neg e10, if_pos e11])
    have HNX := Lib.hid (show nextI (⟨op, a, b, n, s⟩ : Ins) (k : Int) m = (k : Int) + 1 from by unfold nextI; rw [if_neg (by rintro (q | q); exact absurd (e11.symm.trans q) (by decide); exact absurd (e11.symm.trans q.1) (by decide))])
    clear e1 e2 e3 e4 e5 e6 e7 e8 e9 e10 e11
    go_wp2_with fail
    refine (vabort_any _ mb S H m R a _ HM.out).mono ?_
    clear x0 x1 x2 x3 x4
    rintro e w2 ⟨rfl, S', R', h1, h2⟩
    have H1 := Lib.hid h1; have H2 := Lib.hid h2; clear h1 h2
    go_wp2
    go_ret
    exact ⟨by rw [HNX.out] <;> rfl, S', R', by rw [HST.out]; exact H1.out, HF.out.then H2.out⟩
  have t11 : (op == 11) = false := by rw [beq_eq_false_iff_ne]; exact e11
  by_cases e12 : op = 12
  · have t12 : (op == 12) = true := by rw [e12]; rfl
    have HST := Lib.hid (show stepM M F (⟨op, a, b, n, s⟩ : Ins) m = loopM (⟨op, a, b, n, s⟩ : Ins) m from by unfold stepM; rw [if_neg e1, if_neg e2, if_neg e3, if_neg e4, if_neg e5, if_neg e6, if_neg e7, if_neg e8, if_neg e9, if_neg e10, if_neg e11, if_pos e12])
    have HNX := Lib.hid (show nextI (⟨op, a, b, n, s⟩ : Ins) (k : Int) m = (k : Int) + 1 from by unfold nextI; rw [if_neg (by rintro (q | q); exact absurd (e12.symm.trans q) (by decide); exact absurd (e12.symm.trans q.1) (by decide))])
    have hbb := HSB.out e12
    clear e1 e2 e3 e4 e5 e6 e7 e8 e9 e10 e11 e12
    have hgd := HGD.out
    obtain ⟨an, han⟩ : ∃ q : Nat, a = (q : Int) := ⟨a.toNat, by omega⟩
    obtain ⟨bn, hbn⟩ : ∃ q : Nat, b = (q : Int) := ⟨b.toNat, by omega⟩
    have hpt := loop_any _ mb S H m R ⟨op, a, b, n, s⟩ an bn han hbn (by omega) (by omega) hbb.2.2 (fun q => gd_ok (hgd.slo q)) v0 HM.out
    simp only [insV] at hpt
    have HPT := Lib.hid hpt; clear hpt hgd han hbn
    go_wp2_with fail
    refine (HPT.out).mono ?_
    clear x0 x1 x2 x3 x4
    rintro e w2 ⟨rfl, S', R', h1, h2⟩
    have H1 := Lib.hid h1; have H2 := Lib.hid h2; clear h1 h2
    go_wp2
    go_ret
    exact ⟨by rw [HNX.out] <;> rfl, S', R', by rw [HST.out]; exact H1.out, HF.out.then H2.out⟩
  have t12 : (op == 12) = false := by rw [beq_eq_false_iff_ne]; exact e12
  by_cases e13 : op = 13
  · have t13 : (op == 13) = true := by rw [e13]; rfl
    have HST := Lib.hid (show stepM M F (⟨op, a, b, n, s⟩ : Ins) m = endM 1 0 [] m from by unfold stepM; rw [if_neg e1, if_neg e2, if_neg e3, if_neg e4, if_neg e5, if_neg e6, if_neg e7, if_neg e8, if_neg e9, if_neg e10, if_neg e11, if_neg e12, if_pos e13])
    have HNX := Lib.hid (show nextI (⟨op, a, b, n, s⟩ : Ins) (k : Int) m = (k : Int) + 1 from by unfold nextI; rw [if_neg (by rintro (q | q); exact absurd (e13.symm.trans q) (by decide); exact absurd (e13.symm.trans q.1) (by decide))])
    clear e1 e2 e3 e4 e5 e6 e7 e8 e9 e10 e11 e12 e13
    have hgd := HGD.out
    have hpt := endC_any _ mb S H m R 0 [] v0 HM.out ⟨by have := hgd.np; omega, by have := hgd.no; omega, by rw [hgd.wrs]; simp⟩
    have HPT := Lib.hid hpt; clear hpt hgd
    go_wp2_with fail
    refine (HPT.out).mono ?_
    clear x0 x1 x2 x3 x4
    rintro e w2 ⟨rfl, S', R', h1, h2⟩
    have H1 := Lib.hid h1; have H2 := Lib.hid h2; clear h1 h2
    go_wp2
    go_ret
    exact ⟨by rw [HNX.out] <;> rfl, S', R', by rw [HST.out]; exact H1.out, HF.out.then H2.out⟩
  have t13 : (op == 13) = false := by rw [beq_eq_false_iff_ne]; exact e13
  have e14 : op = 14 := by have := HOPR.out; omega
  have t14 : (op == 14) = true := by rw [e14]; rfl
  have HST := Lib.hid (show stepM M F (⟨op, a, b, n, s⟩ : Ins) m = tickM m from by unfold stepM; rw [if_neg e1, if_neg e2, if_neg e3, if_neg e4, if_neg e5, if_neg e6, if_neg e7, if_neg e8, if_neg e9, if_neg e10, if_neg e11, if_neg e12, if_neg e13, if_pos e14])
  have HNX := Lib.hid (show nextI (⟨op, a, b, n, s⟩ : Ins) (k : Int) m = (k : Int) + 1 from by unfold nextI; rw [if_neg (by rintro (q | q); exact absurd (e14.symm.trans q) (by decide); exact absurd (e14.symm.trans q.1) (by decide))])
  clear e1 e2 e3 e4 e5 e6 e7 e8 e9 e10 e11 e12 e13 e14
  have hgd := HGD.out
  have hpt := tick_any _ mb S H m R v0 HM.out hgd.stp.1 hgd.stp.2
  have HPT := Lib.hid hpt; clear hpt hgd
  go_wp2_with fail
  refine (HPT.out).mono ?_
  clear x0 x1 x2 x3 x4
  rintro e w2 ⟨rfl, S', R', h1, h2⟩
  have H1 := Lib.hid h1; have H2 := Lib.hid h2; clear h1 h2
  go_wp2
  go_ret
  exact ⟨by rw [HNX.out] <;> rfl, S', R', by rw [HST.out]; exact H1.out, HF.out.then H2.out⟩
end Go.Proofs.YtnglaegofhpleaaGreatDoor
namespace Go.Proofs.YtnglaegofhpleaaGreatDoor
open Go.RowKit

theorem VMB.keep {B mb : Nat} {S : Nat → Prop} {H : Nat → Value} {m : Mc} {R : Rw} {W W' : World} (h : VMB B mb S H m R W) (hs : W.heap.size ≤ W'.heap.size) (hk : ∀ j, S j → W'.heap[j]? = W.heap[j]?) : VMB B mb S H m R W' :=
  ⟨h.mS, fun j hj => ⟨(h.rng j hj).1, Nat.lt_of_lt_of_le (h.rng j hj).2 hs⟩, h.bf.block (hk mb h.mS), h.own.blocks fun j a _ _ => hk j a, h.out.blocks fun j a _ _ => hk j a, h.rds.blocks fun j a _ _ => hk j a, h.puts.blocks fun j a _ _ => hk j a, h.wrs.blocks fun j a _ _ => hk j a, h.apart, h.apart2⟩
theorem VMB.frs {B mb : Nat} {S V V' : Nat → Prop} {H : Nat → Value} {m : Mc} {R : Rw} {W W' : World} (h : VMB B mb S H m R W) (hk : FrS V V' W W') (hd : ∀ j, S j → ¬ V j) : VMB B mb S H m R W' :=
  h.keep hk.size fun j hj => hk.block j (h.rng j hj).2 (hd j hj)
theorem FrS.away {S S' : Nat → Prop} {w w' : World} (h : FrS S S' w w') {V : Nat → Prop} (hv : ∀ j, V j → j < w.heap.size) (hd : ∀ j, S j → ¬ V j) : ∀ j, S' j → ¬ V j := fun j hj hq => by
  rcases h.new j hj with q | q
  · exact hd j q hq
  · have := hv j hq; omega
/-- what is left to a run -/
def muM (m : Mc) (n : Nat) : Nat := if m.done = true then 0 else 1 + ((16385 - m.steps.toNat) * 1026 + (1025 - n))
theorem endM_steps (st c : Int) (k : List UInt8) (m : Mc) : (endM st c k m).steps = m.steps := by
  unfold endM; split <;> rfl
theorem storeM_steps (F : Ft) (k v : Vl) (m : Mc) : (storeM F k v m).steps = m.steps := by
  unfold storeM
  split
  · exact endM_steps ..
  split
  · exact endM_steps ..
  split
  · exact endM_steps ..
  · rfl
theorem opM_steps (M : List Pr) (F : Ft) (op : Int) (l : List Vl) (m : Mc) : (opM M F op l m).steps = m.steps := by
  unfold opM
  generalize (opEv M F m.own op l).1 = r
  generalize (opEv M F m.own op l).2 = ks
  have h : ∀ m2 : Mc, (resM r m2).steps = m2.steps := by
    intro m2
    cases r with
    | ok v => rfl
    | ab c => exact endM_steps ..
    | re k => exact endM_steps ..
  rw [h]
  split <;> rfl
theorem falM_steps (m : Mc) : (falM m).steps = m.steps := by
  unfold falM
  by_cases h : (popV m).k ≠ 3
  · rw [if_pos h]; exact endM_steps ..
  · rw [if_neg h]; rfl
theorem putM_steps (F : Ft) (m : Mc) : (putM F m).steps = m.steps := by
  unfold putM
  by_cases h : storedB (popV m) = false
  · rw [if_pos h]; exact endM_steps ..
  · rw [if_neg h]; exact storeM_steps ..
theorem emitM_steps (v : Vl) (m : Mc) : (emitM v m).steps = m.steps := by
  unfold emitM
  by_cases h : storedB v = false
  · rw [if_pos h]; exact endM_steps ..
  rw [if_neg h]
  by_cases h2 : m.out.length = 16
  · rw [if_pos h2]; exact endM_steps ..
  · rw [if_neg h2]
theorem loopM_steps (x : Ins) (m : Mc) : (loopM x m).steps = m.steps := by
  unfold loopM
  split
  · exact endM_steps ..
  split
  · exact endM_steps ..
  · rfl
theorem step_steps (M : List Pr) (F : Ft) (x : Ins) (m : Mc) (h : x.op ≠ 14) : (stepM M F x m).steps = m.steps := by
  unfold stepM
  by_cases e1 : x.op = 1
  · rw [if_pos e1]; rfl
  rw [if_neg e1]
  by_cases e2 : x.op = 2
  · rw [if_pos e2]; rfl
  rw [if_neg e2]
  by_cases e3 : x.op = 3
  · rw [if_pos e3]; rfl
  rw [if_neg e3]
  by_cases e4 : x.op = 4
  · rw [if_pos e4]; rfl
  rw [if_neg e4]
  by_cases e5 : x.op = 5
  · rw [if_pos e5]; exact opM_steps ..
  rw [if_neg e5]
  by_cases e6 : x.op = 6
  · rw [if_pos e6]
  rw [if_neg e6]
  by_cases e7 : x.op = 7
  · rw [if_pos e7]; exact falM_steps ..
  rw [if_neg e7]
  by_cases e8 : x.op = 8
  · rw [if_pos e8]; exact putM_steps ..
  rw [if_neg e8]
  by_cases e9 : x.op = 9
  · rw [if_pos e9]; exact storeM_steps ..
  rw [if_neg e9]
  by_cases e10 : x.op = 10
  · rw [if_pos e10]; exact emitM_steps ..
  rw [if_neg e10]
  by_cases e11 : x.op = 11
  · rw [if_pos e11]; exact endM_steps ..
  rw [if_neg e11]
  by_cases e12 : x.op = 12
  · rw [if_pos e12]; exact loopM_steps ..
  rw [if_neg e12]
  by_cases e13 : x.op = 13
  · rw [if_pos e13]; exact endM_steps ..
  rw [if_neg e13]
  rw [if_neg h]
theorem tick_steps (m : Mc) : (tickM m).steps = m.steps + 1 := by
  unfold tickM; split
  · exact endM_steps ..
  · rfl
theorem mu_step (M : List Pr) (F : Ft) (x : Ins) (m : Mc) (n : Nat) (hd : m.done = false) (hs : 0 ≤ m.steps ∧ m.steps ≤ 16384) (hn : n < 1024) : muM (stepM M F x m) (cntI x n) + 1 ≤ muM m n := by
  have e0 : muM m n = 1 + ((16385 - m.steps.toNat) * 1026 + (1025 - n)) := if_neg (by rw [hd]; simp)
  rw [e0]
  unfold muM
  by_cases hq : (stepM M F x m).done = true
  · rw [if_pos hq]; omega
  rw [if_neg hq]
  by_cases h : x.op = 14
  · have e : stepM M F x m = tickM m := by unfold stepM; simp [h]
    rw [e, tick_steps]
    unfold cntI
    rw [if_pos h, show (m.steps + 1).toNat = m.steps.toNat + 1 by omega]
    have : m.steps.toNat ≤ 16384 := by omega
    omega
  · rw [step_steps M F x m h]
    unfold cntI
    rw [if_neg h]
    omega
theorem run_done {M : List Pr} {F : Ft} {l : List Ins} {stop : List Int → Bool} {f : Nat} {m : Mc} {pc : Int} {n : Nat} {tr : List Int} (hf : muM m n < f) (h : m.done = true) : runM M F l stop f m pc n tr = (m, tr) := by
  cases f with
  | zero => omega
  | succ f => unfold runM; rw [if_pos h]
theorem run_fuel {M : List Pr} {F : Ft} {l : List Ins} {stop : List Int → Bool} {f : Nat} {m : Mc} {pc : Int} {n : Nat} {tr : List Int} (hf : muM m n < f) (h : m.done = false) (hn : n = 1024) : runM M F l stop f m pc n tr = (endM 2 1008 [] m, tr) := by
  cases f with
  | zero => omega
  | succ f => unfold runM; rw [if_neg (by rw [h]; simp), if_pos hn]
theorem run_stop {M : List Pr} {F : Ft} {l : List Ins} {stop : List Int → Bool} {f : Nat} {m : Mc} {pc : Int} {n : Nat} {tr : List Int} (hf : muM m n < f) (h : m.done = false) (hn : n ≠ 1024) (hs : stop tr = true) : runM M F l stop f m pc n tr = (m, tr) := by
  cases f with
  | zero => omega
  | succ f => unfold runM; rw [if_neg (by rw [h]; simp), if_neg hn, if_pos hs]
theorem run_step {M : List Pr} {F : Ft} {l : List Ins} {stop : List Int → Bool} {f : Nat} {m : Mc} {pc : Int} {n : Nat} {tr : List Int} (hf : muM m n < f) (h : m.done = false) (hn : n ≠ 1024) (hs : stop tr = false) : ∃ g, f = g + 1 ∧ runM M F l stop f m pc n tr = runM M F l stop g (stepM M F (l.getD pc.toNat ins0) m) (nextI (l.getD pc.toNat ins0) pc m) (cntI (l.getD pc.toNat ins0) n) (tr ++ [pc]) := by
  cases f with
  | zero => omega
  | succ f => refine ⟨f, rfl, ?_⟩; conv => lhs; unfold runM; rw [if_neg (by rw [h]; simp), if_neg hn, if_neg (by rw [hs]; simp)]
end Go.Proofs.YtnglaegofhpleaaGreatDoor
namespace Go.Proofs.YtnglaegofhpleaaGreatDoor
open Go.RowKit

def rowB (ob : Nat) (v : Value) : Nat → Prop := fun k => k = ob ∨ v.ownBlock = some k
def visL (lim : Int) (tr : List Int) (pc : Int) : List Int := if limB lim tr = true then tr else tr ++ [pc]
def VisP (B ob lb : Nat) (ta : Option Addr) (tc : Nat) (tr : List Int) (lim pc : Int) (w : World) (e : Ending) (w' : World) : Prop :=
  ∃ ta' tc', e = .returned (.bool (!limB lim tr)) ∧ Bx ob #[.slice ta' (visL lim tr pc).length tc'] 22 w' ∧ Bx lb #[.int .i64 lim] 3 w' ∧ w'.ownsRow B 3 1 (.slice ta' (visL lim tr pc).length tc') (visL lim tr pc).length (intsL (visL lim tr pc)) ∧ FrS (rowB ob (.slice ta tr.length tc)) (rowB ob (.slice ta' (visL lim tr pc).length tc')) w w'
theorem infoI : (Tryz.prog.info? 3).map (fun i => (i.zero, i.size, i.bytes)) = some (some (.int .i64 0), 1, 8) := by kernel_rfl
set_option maxRecDepth 100000 in
set_option maxHeartbeats 8000000 in
theorem visT_any (B ob lb : Nat) (ta : Option Addr) (tc : Nat) (tr : List Int) (lim pc : Int) (w : World) (hO : Bx ob #[.slice ta tr.length tc] 22 w) (hL : Bx lb #[.int .i64 lim] 3 w) (hw : w.ownsRow B 3 1 (.slice ta tr.length tc) tr.length (intsL tr)) (hob : B ≤ ob) (hlo : lb ≠ ob) (hln : (Value.slice ta tr.length tc).ownBlock ≠ some lb) (hl : tr.length ≤ 100000000) :
    Calls Tryz.prog 26 #[.int .i64 pc, .pointer (some ⟨ob, 0, none⟩), .pointer (some ⟨lb, 0, none⟩)] w (VisP B ob lb ta tc tr lim pc w) := by
  have hbl := hO.lt
  have HO := Lib.hid hO; have HL := Lib.hid hL; have HW := Lib.hid hw
  have o0 := HO.out.cell 0
  have l0 := HL.out.cell 0
  simp only [List.getElem?_toArray, List.getElem?_cons_zero] at o0 l0
  have HLN := Lib.hid hln
  clear hO hL hw hln
  by_cases hge : lim ≤ (tr.length : Int)
  · have HB := Lib.hid (show limB lim tr = true from decide_eq_true hge)
    have HVL := Lib.hid (show visL lim tr pc = tr from if_pos HB.out)
    go_enter Tryz.func26, Tryz.ntmps26
    go_wp2
    go_ret
    exact ⟨ta, tc, by rw [HB.out] <;> rfl, by rw [HVL.out]; exact HO.out, HL.out, by rw [HVL.out]; exact HW.out, by rw [HVL.out]; exact FrS.refl _ _⟩
  have hgf : ¬ lim ≤ (tr.length : Int) := hge
  have HB := Lib.hid (show limB lim tr = false from decide_eq_false hge)
  have HVL := Lib.hid (show visL lim tr pc = tr ++ [pc] from if_neg (by rw [HB.out]; simp))
  have hdf : decide (lim ≤ (tr.length : Int)) = false := decide_eq_false hge
  obtain ⟨i0, hi, hz0, hz1, hz2⟩ := info_parts infoI
  have f0 := HO.out.free 0
  have HTO := Lib.hid (show Bx ob #[.slice ta tr.length tc] 22 w from HO.out)
  go_enter Tryz.func26, Tryz.ntmps26
  go_wp2_with (at_builtin; refine wpList_append_lies (w.alloc (.cells #[.int .i64 pc] 3)) rfl _ _ 22 rfl B 3 i0 (.int .i64 0) 1 8 Tryz.underlying22 hi hz0 hz1 hz2 rfl (by decide) (.slice ta tr.length tc) tr.length (intsL tr) rfl (HW.out.alloc _) ⟨w.heap.size, 0, none⟩ 1 1 [.int .i64 pc] rfl rfl (World.news_of_block (heap_alloc_new w _)) (by intro u hu; rw [List.mem_singleton] at hu; rw [hu]; rfl) (by decide) (by unfold maxLen; omega) (by omega) (by simp; omega) _ rfl ?_; intro g5 cap5 w5 hown5 hgrow hat hlt5; have hne5 : (Value.slice ta tr.length tc).ownBlock ≠ some ob := (by intro e; rcases HW.out.2 with ⟨q, _⟩ | ⟨g, cap, cur, q, _, h3, _⟩; rw [q] at e; cases e; rw [q] at e; have hg : g = ob := (by simpa [Value.ownBlock] using e); rw [hg] at h3; have h4 := HO.out; unfold Bx at h4; rw [h4] at h3; cases h3); have HO5 := Lib.hid ((HO.out.alloc (.cells #[.int .i64 pc] 3)).kept hgrow hne5); have o0 := HO5.out.cell 0; simp only [List.getElem?_toArray, List.getElem?_cons_zero] at o0; have f0 := HO5.out.free 0)
  have hal := (Below.refl w.heap.size w).alloc (Nat.le_refl _) (.cells #[.int .i64 pc] 3)
  have hF5 : FrS (rowB ob (.slice ta tr.length tc)) (rowB ob (.slice (some ⟨g5, 0, none⟩) (tr.length + 1) cap5)) w w5 := by
    refine ⟨hgrow.os.trans hal.os, hgrow.tape.trans hal.tape, hgrow.output.trans hal.output, Nat.le_trans hal.size hgrow.size, fun k hk hn => ?_, fun k hk => ?_⟩
    · exact (hgrow.block k (Nat.lt_of_lt_of_le hk hal.size) (fun e => hn (.inr e.symm))).trans (hal.block k hk)
    · rcases hk with q | q
      · exact .inl (.inl q)
      · rcases hat with r | r
        · exact .inl (.inr (by rw [r]; exact q))
        · right; have hk5 : g5 = k := by simpa [Value.ownBlock] using q
          have := hal.size; omega
  have HF := Lib.hid (hF5.set ob 0 (.slice (some ⟨g5, 0, none⟩) (tr.length + 1) cap5) (.inl (.inl rfl)))
  have hO6 := HO5.out.set 0 (.slice (some ⟨g5, 0, none⟩) (tr.length + 1) cap5)
  have HO6 := Lib.hid (show Bx ob #[.slice (some ⟨g5, 0, none⟩) (tr.length + 1) cap5] 22 (w5.setCell ⟨ob, 0, none⟩ (.slice (some ⟨g5, 0, none⟩) (tr.length + 1) cap5)) from by simpa using hO6)
  have HW6 := Lib.hid (own_st hown5 HO5.out (by decide) 0 (.slice (some ⟨g5, 0, none⟩) (tr.length + 1) cap5))
  have HVN := Lib.hid (show (visL lim tr pc).length = tr.length + 1 from by rw [HVL.out]; simp)
  have HIL := Lib.hid (show intsL (visL lim tr pc) = intsL tr ++ [.int .i64 pc] from by rw [HVL.out]; exact intsL_snoc tr pc)
  have HL6 := Lib.hid (HL.out.frs HF.out (by rintro (q | q); exact hlo q; exact absurd q HLN.out))
  clear hal hF5 hO6 hown5 hgrow hat o0 f0
  generalize hW : w5.setCell ⟨ob, 0, none⟩ (.slice (some ⟨g5, 0, none⟩) (tr.length + 1) cap5) = w6 at HF HO6 HW6 HL6 ⊢
  clear hW
  go_wp2
  go_ret
  exact ⟨some ⟨g5, 0, none⟩, cap5, by rw [HB.out] <;> rfl, by rw [HVN.out]; exact HO6.out, HL6.out, by rw [HVN.out, HIL.out]; exact HW6.out, by rw [HVN.out]; exact HF.out⟩
theorem rowB_no {S : Nat → Prop} {ob : Nat} {v : Value} (h1 : ¬ S ob) (h2 : ∀ g, v.ownBlock = some g → ¬ S g) : ∀ j, S j → ¬ rowB ob v j := fun j hj hq => by
  rcases hq with rfl | q
  · exact h1 hj
  · exact h2 j q hj
theorem vis_not {S : Nat → Prop} {ob : Nat} {v v' : Value} {w w' : World} (h : FrS (rowB ob v) (rowB ob v') w w') (hS : ∀ j, S j → j < w.heap.size) (h1 : ¬ S ob) (h2 : ∀ g, v.ownBlock = some g → ¬ S g) : ∀ g, v'.ownBlock = some g → ¬ S g := fun g hg hs => by
  rcases h.new g (.inr hg) with (rfl | q) | q
  · exact h1 hs
  · exact h2 g q hs
  · have := hS g hs; omega
set_option maxRecDepth 100000 in
set_option maxHeartbeats 4000000 in
theorem visR_any (pc : Int) (w : World) :
    Calls Tryz.prog 23 #[.int .i64 pc] w fun e w' => e = .returned (.bool true) ∧ w' = w := by
  go_enter Tryz.func23, Tryz.ntmps23
  go_wp2
  go_ret
  exact ⟨rfl, by first | exact True.intro | rfl⟩
def TrunP (W0 : World) (mb ob : Nat) (H : Nat → Value) (fin : Mc × List Int) (e : Ending) (w' : World) : Prop := e = .returned (.tuple #[]) ∧ Below W0.heap.size W0 w' ∧ (∃ S' R', VMB W0.heap.size mb S' H fin.1 R' w') ∧ ∃ ta tc, Bx ob #[.slice ta (fin).2.length tc] 22 w' ∧ w'.ownsRow W0.heap.size 3 1 (.slice ta (fin).2.length tc) (fin).2.length (intsL (fin).2)
set_option maxRecDepth 100000 in
set_option maxHeartbeats 32000000 in
theorem Trun_any (W0 : World) (mb : Nat) (S : Nat → Prop) (H : Nat → Value) (m : Mc) (R : Rw) (M : List Pr) (F : Ft) (c : Cd) (ia : Option Addr) (ic : Nat) (ob lb : Nat) (lim : Int) (hG : GivH H W0 M F) (hH2 : H 2 = .slice ia c.l.length ic) (hI : CellsAt W0 (.slice ia c.l.length ic) c.l.length (insLs c.l)) (hv : valC c = 0) (hcn : ∀ x ∈ c.l, fits x.n = true) (hMf : ∀ p ∈ M, fits p.v.n = true) (hLd : Laid W0) (hinv : InvM c 0 m 0) (w : World) (h : VMB W0.heap.size mb S H m R w) (hb0 : Below W0.heap.size W0 w) (hO : Bx ob #[.slice none 0 0] 22 w) (hL : Bx lb #[.int .i64 lim] 3 w) (hob : W0.heap.size ≤ ob) (hne : lb ≠ ob) (hSo : ¬ S ob) (hSl : ¬ S lb) :
    Calls Tryz.prog 22 #[.pointer (some ⟨mb, 0, none⟩), .func (.func 26) #[] #[.pointer (some ⟨ob, 0, none⟩), .pointer (some ⟨lb, 0, none⟩)]] w (TrunP W0 mb ob H (runM M F c.l (limB lim) (muM m 0 + 1) m 0 0 [])) := by
  obtain ⟨FI, hFI⟩ : ∃ x, (runM M F c.l (limB lim) (muM m 0 + 1) m 0 0 []) = x := ⟨_, rfl⟩
  rw [hFI]
  have HFI := Lib.hid hFI; have HG := Lib.hid hG; have HI := Lib.hid hI; have HH2 := Lib.hid hH2; have HCN := Lib.hid hcn; have HMF := Lib.hid hMf; have HLD := Lib.hid hLd; have HINV := Lib.hid hinv; have HM := Lib.hid h; have HB := Lib.hid hb0; clear hFI hG hI hH2 hcn hMf hLd hinv h hb0
  have hmu : muM m 0 ≤ 17000000 := by unfold muM; split <;> omega
  have HO := Lib.hid hO; have HL := Lib.hid hL; have HSN := Lib.hid (show ¬ S ob ∧ ¬ S lb ∧ ∀ g, (Value.slice none 0 0).ownBlock = some g → ¬ S g ∧ g ≠ lb from ⟨hSo, hSl, fun g hg => by cases hg⟩); clear hO hL hSo hSl
  go_enter Tryz.func22, Tryz.ntmps22
  go_wp2
  go_step3
  go_wp2
  go_step3
  go_wp2
  go_loopg [4, 5] (muM m 0) (fun k i j wr => ∃ (m' : Mc) (S' : Nat → Prop) (R' : Rw) (pc : Int) (n fu N : Nat) (ta : Option Addr) (tc : Nat) (tr : List Int), i = .int .i64 pc ∧ j = .int .i64 (n : Int) ∧ k = muM m' n ∧ Hid (VMB W0.heap.size mb S' H m' R' wr) ∧ Hid (Below W0.heap.size W0 wr) ∧ Hid (m'.done = false → InvM c pc m' N) ∧ Hid (runM M F c.l (limB lim) fu m' pc n tr = FI) ∧ Hid (muM m' n < fu) ∧ Hid (N + muM m' n ≤ 20000000 ∧ tr.length ≤ N ∧ n ≤ 1024) ∧ Hid (Bx ob #[.slice ta tr.length tc] 22 wr) ∧ Hid (Bx lb #[.int .i64 lim] 3 wr) ∧ Hid (wr.ownsRow W0.heap.size 3 1 (.slice ta tr.length tc) tr.length (intsL tr)) ∧ Hid (¬ S' ob ∧ ¬ S' lb ∧ ∀ g, (Value.slice ta tr.length tc).ownBlock = some g → ¬ S' g ∧ g ≠ lb))
  case atStart => exact ⟨m, S, R, 0, 0, _, 0, none, 0, [], by first | exact True.intro | rfl, by first | exact True.intro | rfl, by first | exact True.intro | rfl, HM, HB, Lib.hid (fun _ => HINV.out), HFI, Lib.hid (Nat.lt_succ_self _), Lib.hid ⟨by omega, by simp, by omega⟩, HO, HL, Lib.hid (own_nil _ _ _ _), HSN⟩
  case round =>
    clear HM HB HFI HINV HO HL HSN
    obtain ⟨m', S', R', pc, n, fu, N, ta, tc, tr, rfl, rfl, rfl, HM, HB, HINV, HFI, HFU, HNN, HO, HL, HW, HSN⟩ := hrel
    obtain ⟨dn, hdn⟩ : ∃ b, m'.done = b := ⟨_, rfl⟩
    have HDN := Lib.hid hdn
    have c9 : wr.cell? ⟨mb, 401, none⟩ = some (.bool dn) := by rw [← hdn]; exact HM.out.tl 9 (by decide)
    clear hdn
    cases dn with
    | true =>
      have HEND := Lib.hid (show FI = (m', tr) from HFI.out.symm.trans (run_done HFU.out HDN.out))
      go_wp2
      exact ⟨(by first | exact True.intro | rfl), .tuple #[], results_none rfl _ _ _, rfl, HB.out, ⟨_, _, by rw [HEND.out]; exact HM.out⟩, _, _, by rw [HEND.out]; exact HO.out, by rw [HEND.out]; exact HW.out⟩
    | false =>
      have hnn := HNN.out.2.2
      by_cases hn : n = 1024
      · have tn : ((n : Int) == 1024) = true := by rw [hn]; rfl
        have HEND := Lib.hid (show FI = (endM 2 1008 [] m', tr) from HFI.out.symm.trans (run_fuel HFU.out HDN.out hn))
        clear hn
        go_wp2_with fail
        refine (vabort_any _ mb S' H m' R' 1008 _ HM.out).mono ?_
        rintro e w2 ⟨rfl, S2, R2, h1, h2⟩
        have HB := Lib.hid (HM.out.below HB.out h2); have HM2 := Lib.hid h1
        have HSB : ∀ j, S' j → ¬ rowB ob (.slice ta tr.length tc) j := rowB_no HSN.out.1 (fun g hg => (HSN.out.2.2 g hg).1)
        have HO := Lib.hid (HO.out.frs h2 HSN.out.1); have HW := Lib.hid (own_frs HW.out h2 (fun g hg => (HSN.out.2.2 g hg).1))
        clear h1 h2 c9
        go_wp2
        exact ⟨(by first | exact True.intro | rfl), .tuple #[], results_none rfl _ _ _, rfl, HB.out, ⟨_, _, by rw [HEND.out]; exact HM2.out⟩, _, _, by rw [HEND.out]; exact HO.out, by rw [HEND.out]; exact HW.out⟩
      have tn : ((n : Int) == 1024) = false := by rw [beq_eq_false_iff_ne]; omega
      have HINV := Lib.hid (HINV.out HDN.out)
      have hpc := HINV.out.pc0
      obtain ⟨pn, hpn⟩ : ∃ q : Nat, pc = (q : Int) := ⟨pc.toNat, by omega⟩
      subst hpn
      have hpl : pn < c.l.length := by omega
      have hw1 : IntKind.i64.wrap ((n : Int) + 1) = (n : Int) + 1 := by rw [IntKind.wrap_i64] <;> omega
      go_wp2_with fail
      have hSlt : ∀ j, S' j → j < wr.heap.size := fun j hj => (HM.out.rng j hj).2
      refine (visT_any W0.heap.size ob lb ta tc tr lim (pn : Int) _ HO.out HL.out HW.out hob hne (fun e => (HSN.out.2.2 lb e).2 rfl) (by have := HNN.out; omega)).mono ?_
      obtain ⟨sb, hsb⟩ : ∃ b, limB lim tr = b := ⟨_, rfl⟩
      rintro e w1 ⟨ta1, tc1, rfl, h1, h2, h3, h4⟩
      rw [hsb]
      have HSB := Lib.hid hsb
      have HM := Lib.hid (HM.out.frs h4 (rowB_no HSN.out.1 (fun g hg => (HSN.out.2.2 g hg).1)))
      have HB1 := Lib.hid (FrS.below HB.out h4 (by have := HB.out.size; exact this) (fun j hj => by rcases hj with rfl | q; exact hob; exact (HW.out.lt j q).1))
      have HSN1 := Lib.hid (show ¬ S' ob ∧ ¬ S' lb ∧ ∀ g, (Value.slice ta1 (visL lim tr (pn : Int)).length tc1).ownBlock = some g → ¬ S' g ∧ g ≠ lb from ⟨HSN.out.1, HSN.out.2.1, fun g hg => ⟨vis_not h4 hSlt HSN.out.1 (fun g hg => (HSN.out.2.2 g hg).1) g hg, by rcases h4.new g (.inr hg) with (rfl | q) | q; exact Ne.symm hne; exact (HSN.out.2.2 g q).2; have := HL.out.lt; omega⟩⟩)
      skip
      have HO1 := Lib.hid h1; have HL1 := Lib.hid h2; have HW1 := Lib.hid h3; clear h1 h2 h3 h4 hSlt c9 HO HL HW HSN HB hsb
      have HO := HO1; have HL := HL1; have HW := HW1; have HSN := HSN1; have HB := HB1; clear HO1 HL1 HW1 HSN1 HB1
      skip
      cases sb with
      | true =>
        have HEND := Lib.hid (show FI = (m', tr) from HFI.out.symm.trans (run_stop HFU.out HDN.out hn HSB.out))
        have HVL := Lib.hid (show visL lim tr (pn : Int) = tr from if_pos HSB.out)
        have HO := Lib.hid (show Bx ob #[.slice ta1 tr.length tc1] 22 w1 from by have h := HO.out; rw [HVL.out] at h; exact h); have HW := Lib.hid (show w1.ownsRow W0.heap.size 3 1 (.slice ta1 tr.length tc1) tr.length (intsL tr) from by have h := HW.out; rw [HVL.out] at h; exact h)
        clear hn
        go_wp2
        exact ⟨(by first | exact True.intro | rfl), .tuple #[], results_none rfl _ _ _, rfl, HB.out, ⟨_, _, by rw [HEND.out]; exact HM.out⟩, _, _, by rw [HEND.out]; exact HO.out, by rw [HEND.out]; exact HW.out⟩
      | false =>
        have HVL := Lib.hid (show visL lim tr (pn : Int) = tr ++ [(pn : Int)] from if_neg (by rw [HSB.out]; simp))
        rw [HVL.out] at HO HW HSN
        obtain ⟨g, hfu, hrs⟩ := run_step (M := M) (F := F) (l := c.l) (stop := (limB lim)) (pc := (pn : Int)) (tr := tr) HFU.out HDN.out hn HSB.out
        rw [HFI.out] at hrs
        obtain ⟨x, hx⟩ : ∃ x, c.l.getD (pn : Int).toNat ins0 = x := ⟨_, rfl⟩
        rw [hx] at hrs
        have HXE := Lib.hid hx
        have HRS := Lib.hid hrs.symm; have HFG := Lib.hid hfu; clear hrs hfu
        have hmn := mu_step M F x m' n HDN.out HINV.out.gd.stp (by omega)
        have HMN := Lib.hid hmn; clear hmn
        have hIw := HI.out.below HB.out
        have c2 : w1.cell? ⟨mb, 2, none⟩ = some (.slice ia c.l.length ic) := by rw [← HH2.out]; exact HM.out.hd 2 (by decide)
        obtain ⟨ba, oa, hia, p0, p1, p2, p3, p4⟩ := ins_cells hIw hpl
        have hxe : c.l.getD (pn : Int).toNat ins0 = c.l[pn] := by rw [Int.toNat_natCast]; exact getD_at hpl ins0
        rw [← hxe, hx] at p0
        obtain ⟨xo, hxo⟩ : ∃ q, x.op = q := ⟨_, rfl⟩
        rw [hxo] at p0
        have HXO := Lib.hid hxo; clear hxo p1 p2 p3 p4 hIw hxe hx
        subst hia
        have hkb : (0 : Int) ≤ (pn : Int) ∧ (pn : Int) < (c.l.length : Int) := ⟨by omega, by omega⟩
        have hstp := (step_any W0 mb S' H m' R' M F c (pn : Int) N _ ic HG.out HH2.out HI.out hv HINV.out (by have := HNN.out; omega) HLD.out w1 HM.out HB.out)
        rw [HXE.out] at hstp
        have HSTP := Lib.hid hstp; clear hstp
        by_cases hx14 : xo = 14
        · have tx : (xo == 14) = true := by rw [hx14]; rfl
          have HCN2 := Lib.hid (show cntI x n = 0 from by unfold cntI; rw [HXO.out]; exact if_pos hx14)
          clear hx14
          go_wp2_with fail
          refine HSTP.out.mono ?_
          rintro e w2 ⟨rfl, S2, R2, h1, h2⟩
          have HB2 := Lib.hid (HM.out.below HB.out h2)
          have haw := h2.away (V := fun j => j = ob ∨ j = lb ∨ (Value.slice ta1 (tr ++ [(pn : Int)]).length tc1).ownBlock = some j) (fun j hj => by rcases hj with rfl | rfl | q; exact HO.out.lt; exact HL.out.lt; exact (HW.out.lt j q).2) (fun j hj hq => by rcases hq with rfl | rfl | q; exact HSN.out.1 hj; exact HSN.out.2.1 hj; exact (HSN.out.2.2 j q).1 hj)
          have HO2 := Lib.hid (HO.out.frs h2 HSN.out.1); have HL2 := Lib.hid (HL.out.frs h2 HSN.out.2.1); have HW2 := Lib.hid (own_frs HW.out h2 (fun g hg => (HSN.out.2.2 g hg).1)); have HSN2 := Lib.hid (show ¬ S2 ob ∧ ¬ S2 lb ∧ ∀ g, (Value.slice ta1 (tr ++ [(pn : Int)]).length tc1).ownBlock = some g → ¬ S2 g ∧ g ≠ lb from ⟨fun e => haw ob e (.inl rfl), fun e => haw lb e (.inr (.inl rfl)), fun g hg => ⟨fun e => haw g e (.inr (.inr hg)), (HSN.out.2.2 g hg).2⟩⟩)
          clear haw
          have HM2 := Lib.hid h1; clear h1 h2
          have HRS2 := Lib.hid HRS.out; have HMN2 := Lib.hid HMN.out
          rw [HCN2.out] at HRS2 HMN2
          go_wp2
          go_roundg (muM (stepM M F x m') 0)
          case measure => have := HMN2.out; omega
          case rel => exact ⟨_, S2, R2, _, 0, _, N + 1, ta1, tc1, _, by first | exact True.intro | rfl, by first | exact True.intro | rfl | go_num, by first | exact True.intro | rfl, HM2, HB2, Lib.hid (fun hd => by have h := HINV.out.step (F := F) hv HCN.out HMF.out (by rw [HXE.out]; exact hd); rw [HXE.out] at h; exact h), HRS2, Lib.hid (by have h1 := HFU.out; have h2 := HFG.out; have h3 := HMN2.out; omega), Lib.hid ⟨by have h1 := HNN.out; have h2 := HMN2.out; omega, by have h1 := HNN.out; rw [List.length_append, List.length_singleton]; omega, by have := HNN.out; omega⟩, HO2, HL2, HW2, HSN2⟩
        have tx : (xo == 14) = false := by rw [beq_eq_false_iff_ne]; exact hx14
        have HCN2 := Lib.hid (show cntI x n = (n + 1) from by unfold cntI; rw [HXO.out]; exact if_neg hx14)
        clear hx14
        go_wp2_with fail
        refine HSTP.out.mono ?_
        rintro e w2 ⟨rfl, S2, R2, h1, h2⟩
        have HB2 := Lib.hid (HM.out.below HB.out h2)
        have haw := h2.away (V := fun j => j = ob ∨ j = lb ∨ (Value.slice ta1 (tr ++ [(pn : Int)]).length tc1).ownBlock = some j) (fun j hj => by rcases hj with rfl | rfl | q; exact HO.out.lt; exact HL.out.lt; exact (HW.out.lt j q).2) (fun j hj hq => by rcases hq with rfl | rfl | q; exact HSN.out.1 hj; exact HSN.out.2.1 hj; exact (HSN.out.2.2 j q).1 hj)
        have HO2 := Lib.hid (HO.out.frs h2 HSN.out.1); have HL2 := Lib.hid (HL.out.frs h2 HSN.out.2.1); have HW2 := Lib.hid (own_frs HW.out h2 (fun g hg => (HSN.out.2.2 g hg).1)); have HSN2 := Lib.hid (show ¬ S2 ob ∧ ¬ S2 lb ∧ ∀ g, (Value.slice ta1 (tr ++ [(pn : Int)]).length tc1).ownBlock = some g → ¬ S2 g ∧ g ≠ lb from ⟨fun e => haw ob e (.inl rfl), fun e => haw lb e (.inr (.inl rfl)), fun g hg => ⟨fun e => haw g e (.inr (.inr hg)), (HSN.out.2.2 g hg).2⟩⟩)
        clear haw
        have HM2 := Lib.hid h1; clear h1 h2
        have HRS2 := Lib.hid HRS.out; have HMN2 := Lib.hid HMN.out
        rw [HCN2.out] at HRS2 HMN2
        go_wp2
        go_roundg (muM (stepM M F x m') (n + 1))
        case measure => have := HMN2.out; omega
        case rel => exact ⟨_, S2, R2, _, (n + 1), _, N + 1, ta1, tc1, _, by first | exact True.intro | rfl, by first | exact True.intro | rfl | go_num, by first | exact True.intro | rfl, HM2, HB2, Lib.hid (fun hd => by have h := HINV.out.step (F := F) hv HCN.out HMF.out (by rw [HXE.out]; exact hd); rw [HXE.out] at h; exact h), HRS2, Lib.hid (by have h1 := HFU.out; have h2 := HFG.out; have h3 := HMN2.out; omega), Lib.hid ⟨by have h1 := HNN.out; have h2 := HMN2.out; omega, by have h1 := HNN.out; rw [List.length_append, List.length_singleton]; omega, by have := HNN.out; omega⟩, HO2, HL2, HW2, HSN2⟩
def RrunP (W0 : World) (mb : Nat) (H : Nat → Value) (fin : Mc × List Int) (e : Ending) (w' : World) : Prop := e = .returned (.tuple #[]) ∧ Below W0.heap.size W0 w' ∧ (∃ S' R', VMB W0.heap.size mb S' H fin.1 R' w')
set_option maxRecDepth 100000 in
set_option maxHeartbeats 32000000 in
theorem Rrun_any (W0 : World) (mb : Nat) (S : Nat → Prop) (H : Nat → Value) (m : Mc) (R : Rw) (M : List Pr) (F : Ft) (c : Cd) (ia : Option Addr) (ic : Nat) (hG : GivH H W0 M F) (hH2 : H 2 = .slice ia c.l.length ic) (hI : CellsAt W0 (.slice ia c.l.length ic) c.l.length (insLs c.l)) (hv : valC c = 0) (hcn : ∀ x ∈ c.l, fits x.n = true) (hMf : ∀ p ∈ M, fits p.v.n = true) (hLd : Laid W0) (hinv : InvM c 0 m 0) (w : World) (h : VMB W0.heap.size mb S H m R w) (hb0 : Below W0.heap.size W0 w) :
    Calls Tryz.prog 22 #[.pointer (some ⟨mb, 0, none⟩), .func (.func 23) #[] #[]] w (RrunP W0 mb H (runM M F c.l (fun _ => false) (muM m 0 + 1) m 0 0 [])) := by
  obtain ⟨FI, hFI⟩ : ∃ x, (runM M F c.l (fun _ => false) (muM m 0 + 1) m 0 0 []) = x := ⟨_, rfl⟩
  rw [hFI]
  have HFI := Lib.hid hFI; have HG := Lib.hid hG; have HI := Lib.hid hI; have HH2 := Lib.hid hH2; have HCN := Lib.hid hcn; have HMF := Lib.hid hMf; have HLD := Lib.hid hLd; have HINV := Lib.hid hinv; have HM := Lib.hid h; have HB := Lib.hid hb0; clear hFI hG hI hH2 hcn hMf hLd hinv h hb0
  have hmu : muM m 0 ≤ 17000000 := by unfold muM; split <;> omega
  go_enter Tryz.func22, Tryz.ntmps22
  go_wp2
  go_step3
  go_wp2
  go_step3
  go_wp2
  go_loopg [4, 5] (muM m 0) (fun k i j wr => ∃ (m' : Mc) (S' : Nat → Prop) (R' : Rw) (pc : Int) (n fu N : Nat) (tr : List Int), i = .int .i64 pc ∧ j = .int .i64 (n : Int) ∧ k = muM m' n ∧ Hid (VMB W0.heap.size mb S' H m' R' wr) ∧ Hid (Below W0.heap.size W0 wr) ∧ Hid (m'.done = false → InvM c pc m' N) ∧ Hid (runM M F c.l (fun _ => false) fu m' pc n tr = FI) ∧ Hid (muM m' n < fu) ∧ Hid (N + muM m' n ≤ 20000000 ∧ tr.length ≤ N ∧ n ≤ 1024))
  case atStart => exact ⟨m, S, R, 0, 0, _, 0, [], by first | exact True.intro | rfl, by first | exact True.intro | rfl, by first | exact True.intro | rfl, HM, HB, Lib.hid (fun _ => HINV.out), HFI, Lib.hid (Nat.lt_succ_self _), Lib.hid ⟨by omega, by simp, by omega⟩⟩
  case round =>
    clear HM HB HFI HINV
    obtain ⟨m', S', R', pc, n, fu, N, tr, rfl, rfl, rfl, HM, HB, HINV, HFI, HFU, HNN⟩ := hrel
    obtain ⟨dn, hdn⟩ : ∃ b, m'.done = b := ⟨_, rfl⟩
    have HDN := Lib.hid hdn
    have c9 : wr.cell? ⟨mb, 401, none⟩ = some (.bool dn) := by rw [← hdn]; exact HM.out.tl 9 (by decide)
    clear hdn
    cases dn with
    | true =>
      have HEND := Lib.hid (show FI = (m', tr) from HFI.out.symm.trans (run_done HFU.out HDN.out))
      go_wp2
      exact ⟨(by first | exact True.intro | rfl), .tuple #[], results_none rfl _ _ _, rfl, HB.out, ⟨_, _, by rw [HEND.out]; exact HM.out⟩⟩
    | false =>
      have hnn := HNN.out.2.2
      by_cases hn : n = 1024
      · have tn : ((n : Int) == 1024) = true := by rw [hn]; rfl
        have HEND := Lib.hid (show FI = (endM 2 1008 [] m', tr) from HFI.out.symm.trans (run_fuel HFU.out HDN.out hn))
        clear hn
        go_wp2_with fail
        refine (vabort_any _ mb S' H m' R' 1008 _ HM.out).mono ?_
        rintro e w2 ⟨rfl, S2, R2, h1, h2⟩
        have HB := Lib.hid (HM.out.below HB.out h2); have HM2 := Lib.hid h1
        clear h1 h2 c9
        go_wp2
        exact ⟨(by first | exact True.intro | rfl), .tuple #[], results_none rfl _ _ _, rfl, HB.out, ⟨_, _, by rw [HEND.out]; exact HM2.out⟩⟩
      have tn : ((n : Int) == 1024) = false := by rw [beq_eq_false_iff_ne]; omega
      have HINV := Lib.hid (HINV.out HDN.out)
      have hpc := HINV.out.pc0
      obtain ⟨pn, hpn⟩ : ∃ q : Nat, pc = (q : Int) := ⟨pc.toNat, by omega⟩
      subst hpn
      have hpl : pn < c.l.length := by omega
      have hw1 : IntKind.i64.wrap ((n : Int) + 1) = (n : Int) + 1 := by rw [IntKind.wrap_i64] <;> omega
      go_wp2_with fail
      refine (visR_any (pn : Int) _).mono ?_
      rintro e w1 ⟨rfl, rfl⟩
      clear c9
      obtain ⟨g, hfu, hrs⟩ := run_step (M := M) (F := F) (l := c.l) (stop := (fun _ => false)) (pc := (pn : Int)) (tr := tr) HFU.out HDN.out hn rfl
      rw [HFI.out] at hrs
      obtain ⟨x, hx⟩ : ∃ x, c.l.getD (pn : Int).toNat ins0 = x := ⟨_, rfl⟩
      rw [hx] at hrs
      have HXE := Lib.hid hx
      have HRS := Lib.hid hrs.symm; have HFG := Lib.hid hfu; clear hrs hfu
      have hmn := mu_step M F x m' n HDN.out HINV.out.gd.stp (by omega)
      have HMN := Lib.hid hmn; clear hmn
      have hIw := HI.out.below HB.out
      have c2 : w1.cell? ⟨mb, 2, none⟩ = some (.slice ia c.l.length ic) := by rw [← HH2.out]; exact HM.out.hd 2 (by decide)
      obtain ⟨ba, oa, hia, p0, p1, p2, p3, p4⟩ := ins_cells hIw hpl
      have hxe : c.l.getD (pn : Int).toNat ins0 = c.l[pn] := by rw [Int.toNat_natCast]; exact getD_at hpl ins0
      rw [← hxe, hx] at p0
      obtain ⟨xo, hxo⟩ : ∃ q, x.op = q := ⟨_, rfl⟩
      rw [hxo] at p0
      have HXO := Lib.hid hxo; clear hxo p1 p2 p3 p4 hIw hxe hx
      subst hia
      have hkb : (0 : Int) ≤ (pn : Int) ∧ (pn : Int) < (c.l.length : Int) := ⟨by omega, by omega⟩
      have hstp := (step_any W0 mb S' H m' R' M F c (pn : Int) N _ ic HG.out HH2.out HI.out hv HINV.out (by have := HNN.out; omega) HLD.out w1 HM.out HB.out)
      rw [HXE.out] at hstp
      have HSTP := Lib.hid hstp; clear hstp
      by_cases hx14 : xo = 14
      · have tx : (xo == 14) = true := by rw [hx14]; rfl
        have HCN2 := Lib.hid (show cntI x n = 0 from by unfold cntI; rw [HXO.out]; exact if_pos hx14)
        clear hx14
        go_wp2_with fail
        refine HSTP.out.mono ?_
        rintro e w2 ⟨rfl, S2, R2, h1, h2⟩
        have HB2 := Lib.hid (HM.out.below HB.out h2)
        have HM2 := Lib.hid h1; clear h1 h2
        have HRS2 := Lib.hid HRS.out; have HMN2 := Lib.hid HMN.out
        rw [HCN2.out] at HRS2 HMN2
        go_wp2
        go_roundg (muM (stepM M F x m') 0)
        case measure => have := HMN2.out; omega
        case rel => exact ⟨_, S2, R2, _, 0, _, N + 1, _, by first | exact True.intro | rfl, by first | exact True.intro | rfl | go_num, by first | exact True.intro | rfl, HM2, HB2, Lib.hid (fun hd => by have h := HINV.out.step (F := F) hv HCN.out HMF.out (by rw [HXE.out]; exact hd); rw [HXE.out] at h; exact h), HRS2, Lib.hid (by have h1 := HFU.out; have h2 := HFG.out; have h3 := HMN2.out; omega), Lib.hid ⟨by have h1 := HNN.out; have h2 := HMN2.out; omega, by have h1 := HNN.out; rw [List.length_append, List.length_singleton]; omega, by have := HNN.out; omega⟩⟩
      have tx : (xo == 14) = false := by rw [beq_eq_false_iff_ne]; exact hx14
      have HCN2 := Lib.hid (show cntI x n = (n + 1) from by unfold cntI; rw [HXO.out]; exact if_neg hx14)
      clear hx14
      go_wp2_with fail
      refine HSTP.out.mono ?_
      rintro e w2 ⟨rfl, S2, R2, h1, h2⟩
      have HB2 := Lib.hid (HM.out.below HB.out h2)
      have HM2 := Lib.hid h1; clear h1 h2
      have HRS2 := Lib.hid HRS.out; have HMN2 := Lib.hid HMN.out
      rw [HCN2.out] at HRS2 HMN2
      go_wp2
      go_roundg (muM (stepM M F x m') (n + 1))
      case measure => have := HMN2.out; omega
      case rel => exact ⟨_, S2, R2, _, (n + 1), _, N + 1, _, by first | exact True.intro | rfl, by first | exact True.intro | rfl | go_num, by first | exact True.intro | rfl, HM2, HB2, Lib.hid (fun hd => by have h := HINV.out.step (F := F) hv HCN.out HMF.out (by rw [HXE.out]; exact hd); rw [HXE.out] at h; exact h), HRS2, Lib.hid (by have h1 := HFU.out; have h2 := HFG.out; have h3 := HMN2.out; omega), Lib.hid ⟨by have h1 := HNN.out; have h2 := HMN2.out; omega, by have h1 := HNN.out; rw [List.length_append, List.length_singleton]; omega, by have := HNN.out; omega⟩⟩
end Go.Proofs.YtnglaegofhpleaaGreatDoor
namespace Go.Proofs.YtnglaegofhpleaaGreatDoor
open Go.RowKit

def mc0 (A : List Vl) : Mc := { stk := fun _ => v00, dep := 0, slo := fun i => A.getD i v00, own := [], st := 0, code := 0, out := [], rds := [], puts := [], wrs := [], miss := [], steps := 0, done := false }
def rw0 : Rw := ⟨.slice none 0 0, .slice none 0 0, .slice none 0 0, .slice none 0 0, .slice none 0 0⟩
def hd0 (pa : Option Addr) (np pc : Nat) (sl : Int) (ia : Option Addr) (nl ic : Nat) (sa : Option Addr) (nm sc : Nat) (al : Bool) (ra : Option Addr) (nr rc : Nat) (wa : Option Addr) (nw wc : Nat) : Nat → Value
  | 0 => .slice pa np pc
  | 1 => .int .i64 sl
  | 2 => .slice ia nl ic
  | 3 => .slice sa nm sc
  | 4 => .bool al
  | 5 => .slice ra nr rc
  | _ => .slice wa nw wc
def staB (c : Cd) (A : List Vl) (M : List Pr) (F : Ft) : Bool := decide (valC c = 0) && (accB c.p A && (stB M && ftB F))
theorem run_copy_vl (w : World) (ty : TypeId) (mb : Nat) (cur : Array Value) (T : TypeId) (hg : w.heap[mb]? = some (.cells cur T (0, 0))) (A : List Vl) (aa : Option Addr) (ac : Nat) (hA : CellsAt w (.slice aa A.length ac) A.length (vlLs A)) (hl : A.length ≤ 64) (hc : cur.size = 402) :
    (Builtin.copy_ #[26, 26] ty #[.slice (some ⟨mb, 200, none⟩) 64 64, .slice aa A.length ac]).run Tryz.prog w = .ok (goInt A.length) (w.setRow mb (cur.toList.take 200 ++ vlLs A ++ cur.toList.drop (200 + (vlLs A).length)).toArray) := by
  have hst := run_storeCells_at Tryz.prog mb 200 T (vlLs A) 0 cur w hg (by rw [vlLs_length, hc]; omega) (by
    intro u hu
    unfold vlLs at hu
    rw [List.mem_flatMap] at hu
    obtain ⟨x, _, hx⟩ := hu
    simp only [vlL, List.mem_cons, List.not_mem_nil, or_false] at hx
    rcases hx with rfl | rfl | rfl <;> rfl)
  have hf : (Builtin.firstCells 3 A.length (.slice aa A.length ac)).run Tryz.prog w = .ok (vlLs A).toArray w := by
    obtain ⟨ad, cap, he, hx⟩ := hA
    cases he
    cases aa with
    | none =>
      have h0 : vlLs A = [] := by
        rcases h : vlLs A with _ | ⟨y, r⟩
        · rfl
        · obtain ⟨b, off, hb, _⟩ := hx (by rw [h]; simp)
          cases hb
      rw [h0]
      exact run_firstCells_none w 3 A.length A.length ac
    | some ad =>
      refine run_firstCells_some w 3 A.length ad A.length ac (vlLs A) (vlLs_length A) (fun j v hj => ?_)
      obtain ⟨b, off, hb, hcell⟩ := hx (by intro h; rw [h] at hj; simp at hj)
      cases hb
      have e : (⟨b, off, none⟩ : Addr).add j = ⟨b, off + j, none⟩ := by unfold Addr.add; split <;> simp_all
      rw [e]; exact hcell j v hj
  have hmin : Nat.min A.length 64 = A.length := Nat.min_eq_left hl
  have hu := run_underlying (P := Tryz.prog) Tryz.underlying26
  simp only [Nat.add_zero] at hst
  simp [Builtin.copy_, hu, Builtin.lenOf, hmin, hf, hst]
theorem start_len {c : Cd} {A : List Vl} {M : List Pr} {F : Ft} (h : staB c A M F = true) : A.length ≤ 64 := by
  unfold staB accB at h
  simp only [Bool.and_eq_true, decide_eq_true_eq] at h
  have h1 := valC_parts h.1
  have h2 := h1.2.1; have h3 := h1.2.2.2.1; have h4 := h.2.1.1
  omega
def hdz : Nat → Value := hd0 none 0 0 0 none 0 0 none 0 0 false none 0 0 none 0 0
theorem zero_list : Tryz.zeroCells68.toList = (List.range 402).map (mcf hdz (mc0 []) rw0) := by kernel_rfl
theorem vlLs_at (A : List Vl) {q r : Nat} (hq : q < A.length) (hr : r < 3) : (vlLs A)[q * 3 + r]? = some (vlc (A.getD q v00) r) := by
  obtain ⟨h0, h1, h2⟩ := vlLs_get A q hq
  rw [getD_at hq]
  have : r = 0 ∨ r = 1 ∨ r = 2 := by omega
  rcases this with rfl | rfl | rfl
  · exact h0
  · exact h1
  · exact h2
theorem mcf_hi (H : Nat → Value) (m : Mc) (R : Rw) {j : Nat} (h : 200 ≤ j) : mcf H m R j = if j < 392 then vlc (m.slo ((j - 200) / 3)) ((j - 200) % 3) else tailM m R (j - 392) := by
  unfold mcf; rw [if_neg (by omega), if_neg (by omega), if_neg (by omega)]
theorem start_bf {mb : Nat} {W : World} {T : TypeId} {H : Nat → Value} {cs : Array Value} {A : List Vl} (hA : A.length ≤ 64) (h7 : ∀ j, j < 7 → cs.toList[j]? = some (H j)) (hz : ∀ j, 7 ≤ j → cs.toList[j]? = Tryz.zeroCells68.toList[j]?) (hc : cs.size = 402)
    (hb : W.heap[mb]? = some (.cells (cs.toList.take 200 ++ vlLs A ++ cs.toList.drop (200 + (vlLs A).length)).toArray T (0, 0))) : Bf mb (mcf H (mc0 A) rw0) 402 T W := by
  have hvl := vlLs_length A
  have hcl : cs.toList.length = 402 := by rw [Array.length_toList]; exact hc
  refine ⟨_, hb, ?_, fun j hj => ?_⟩
  · simp only [List.size_toArray, List.length_append, List.length_take, List.length_drop, hcl]; omega
  rw [List.getElem?_toArray]
  have hzj : 7 ≤ j → cs.toList[j]? = some (mcf hdz (mc0 []) rw0 j) := fun h => by
    rw [hz j h, zero_list, List.getElem?_map, List.getElem?_range hj]; rfl
  by_cases h1 : j < 200
  · rw [List.append_assoc, List.getElem?_append_left (by rw [List.length_take]; omega), List.getElem?_take, if_pos h1]
    by_cases h0 : j < 7
    · rw [h7 j h0, mcf_hd H _ _ h0]
    · rw [hzj (by omega)]
      unfold mcf
      rw [if_neg h0, if_neg h0]
      by_cases h2 : j < 199
      · rw [if_pos h2, if_pos h2]; rfl
      · rw [if_neg h2, if_neg h2, if_pos (by omega), if_pos (by omega)]; rfl
  · rw [List.append_assoc, List.getElem?_append_right (by rw [List.length_take]; omega), List.length_take, Nat.min_eq_left (by omega)]
    by_cases h2 : j - 200 < A.length * 3
    · rw [List.getElem?_append_left (by omega)]
      have e : j - 200 = (j - 200) / 3 * 3 + (j - 200) % 3 := by omega
      rw [e, vlLs_at A (by omega) (by omega)]
      unfold mcf
      rw [if_neg (by omega), if_neg (by omega), if_neg (by omega), if_pos (by omega)]
      rfl
    · rw [List.getElem?_append_right (by omega), List.getElem?_drop, show 200 + (vlLs A).length + (j - 200 - (vlLs A).length) = j by omega, hzj (by omega), mcf_hi _ _ _ (by omega), mcf_hi H (mc0 A) rw0 (by omega)]
      by_cases h3 : j < 392
      · rw [if_pos h3, if_pos h3]
        have : (mc0 A).slo ((j - 200) / 3) = v00 := by
          show A.getD ((j - 200) / 3) v00 = v00
          rw [List.getD_eq_getElem?_getD, List.getElem?_eq_none (by omega)]; rfl
        rw [this]; rfl
      · rw [if_neg h3, if_neg h3, show tailM (mc0 A) rw0 = tailM (mc0 []) rw0 from by funext k; unfold tailM; rfl]
theorem start_vm {B mb : Nat} {W : World} {H : Nat → Value} {A : List Vl} (h : Bf mb (mcf H (mc0 A) rw0) 402 68 W) (hB : B ≤ mb) : VMB B mb (fun k => k = mb) H (mc0 A) rw0 W :=
  ⟨rfl, fun j hj => ⟨by omega, by have := h.lt; omega⟩, h, own_nils _ W B _ _, own_nils _ W B _ _, own_nils _ W B _ _, own_nils _ W B _ _, own_nils _ W B _ _, .inl rfl, .inl rfl⟩
theorem slice_slo (mb : Nat) (w : World) : (Instr.sliceAt 66 (.pointer (some ⟨mb, 200, none⟩)) none none none).run Tryz.prog w = .ok (.slice (some ⟨mb, 200, none⟩) 64 64) w := by
  rw [run_sliceAt_array_all w 66 ⟨mb, 200, none⟩ (by rw [arr_len, arr_el]; exact Tryz.underlying66), arr_el, arr_len, size_vl]
  simp only [Result.andThen_ok]
  unfold slicedAt
  rfl
def StP (w : World) (H : Nat → Value) (A : List Vl) (ok : Bool) (e : Ending) (w' : World) : Prop :=
  Below w.heap.size w w' ∧ if ok = true then ∃ mb S, e = .returned (.tuple #[.pointer (some ⟨mb, 0, none⟩), .bool true]) ∧ VMB w.heap.size mb S H (mc0 A) rw0 w' else e = .returned (.tuple #[.pointer none, .bool false])
set_option maxRecDepth 100000 in
set_option maxHeartbeats 32000000 in
theorem start_any (pa ia aa sa ra wa : Option Addr) (pc ic ac sc rc wac : Nat) (P : List Int) (sl : Int) (l : List Ins) (A : List Vl) (M : List Pr) (al : Bool) (rd wr : List (List UInt8)) (w : World) (hP : CellsAt w (.slice pa P.length pc) P.length (intsL P)) (hI : CellsAt w (.slice ia l.length ic) l.length (insLs l)) (hA : CellsAt w (.slice aa A.length ac) A.length (vlLs A)) (hM : CellsAt w (.slice sa M.length sc) M.length (prLs M)) (hR : StrS w (.slice ra rd.length rc) rd) (hW : StrS w (.slice wa wr.length wac) wr) (hl : P.length ≤ 9223372036854775806 ∧ A.length ≤ 9000000000000 ∧ M.length ≤ 9000000000000 ∧ rd.length ≤ 9000000000000 ∧ wr.length ≤ 9000000000000) (hsl : ∀ x ∈ l, x.s.length ≤ 9223372036854775807) (hsA : ∀ v ∈ A, v.s.length ≤ 9223372036854775807) (hsM : ∀ p ∈ M, p.key.length ≤ 9223372036854775807 ∧ p.v.s.length ≤ 9223372036854775807) (hsR : ∀ q ∈ rd ++ wr, q.length ≤ 9223372036854775807) (hLB : LaidB w) :
    Calls Tryz.prog 21 #[.agg #[.slice pa P.length pc, .int .i64 sl, .slice ia l.length ic], .slice aa A.length ac, .slice sa M.length sc, .agg #[.bool al, .slice ra rd.length rc, .slice wa wr.length wac]] w (StP w (hd0 pa P.length pc sl ia l.length ic sa M.length sc al ra rd.length rc wa wr.length wac) A (staB ⟨P, sl, l⟩ A M ⟨al, rd, wr⟩)) := by
  obtain ⟨V, hV⟩ : ∃ V, valC ⟨P, sl, l⟩ = V := ⟨_, rfl⟩
  obtain ⟨ab, hab⟩ : ∃ b, accB P A = b := ⟨_, rfl⟩
  obtain ⟨sb, hsb⟩ : ∃ b, stB M = b := ⟨_, rfl⟩
  obtain ⟨fb, hfb⟩ : ∃ b, ftB ⟨al, rd, wr⟩ = b := ⟨_, rfl⟩
  have HST := Lib.hid (show staB ⟨P, sl, l⟩ A M ⟨al, rd, wr⟩ = (decide (V = 0) && (ab && (sb && fb))) from by unfold staB; rw [hV, hsb, hfb]; show (_ && (accB P A && _)) = _; rw [hab])
  have HV := Lib.hid hV; have HAB := Lib.hid hab; have HSB := Lib.hid hsb; have HFB := Lib.hid hfb; have HP := Lib.hid hP; have HI := Lib.hid hI; have HA := Lib.hid hA; have HM := Lib.hid hM; have HR := Lib.hid hR; have HW := Lib.hid hW; have HSL := Lib.hid hsl; have HSA := Lib.hid hsA; have HSM := Lib.hid hsM; have HSR := Lib.hid hsR; have HLB := Lib.hid hLB; clear hV hab hsb hfb hP hI hA hM hR hW hsl hsA hsM hsR hLB
  obtain ⟨v0, hW0, hb0, hx0, hy0⟩ := boxes2 w #[.slice pa P.length pc, .int .i64 sl, .slice ia l.length ic] 25 #[.bool al, .slice ra rd.length rc, .slice wa wr.length wac] 29
  have HW0 := Lib.hid hW0; have HB := Lib.hid hb0; have HC := Lib.hid hx0; have HF := Lib.hid hy0; clear hW0 hb0 hx0 hy0
  go_enter Tryz.func21, Tryz.ntmps21
  go_upto_region 1 with (fail)
  rw [HW0.out]
  clear HW0
  obtain ⟨c0, c1, c2⟩ := HC.out.c3
  obtain ⟨g0, g1, g2⟩ := HF.out.c3
  go_wp2_with fail
  refine (Validate_any pa ia pc ic P sl l _ (HP.out.below HB.out) (HI.out.below HB.out) hl.1 HSL.out (HLB.out.below HB.out)).mono ?_
  rw [HV.out]
  rintro er w1 ⟨rfl, hb1⟩
  clear c0 c1 c2 g0 g1 g2
  have HC := Lib.hid (HC.out.call hb1); have HF := Lib.hid (HF.out.call hb1); have HB := Lib.hid (btrans HB.out HB.out.size hb1); clear hb1
  obtain ⟨c0, c1, c2⟩ := HC.out.c3
  obtain ⟨g0, g1, g2⟩ := HF.out.c3
  by_cases hv0 : V = 0
  rotate_left
  · have tv : (V != 0) = true := by rw [bne_iff_ne]; exact hv0
    have HNO := Lib.hid (show staB ⟨P, sl, l⟩ A M ⟨al, rd, wr⟩ = false from by rw [HST.out, decide_eq_false hv0]; rfl)
    clear hv0
    go_wp2
    go_ret2
    exact ⟨HB.out, by rw [HNO.out]; rfl⟩
  have tv : (V != 0) = false := by rw [hv0]; rfl
  have hd0 : decide (V = 0) = true := decide_eq_true hv0
  have HST := Lib.hid (show staB ⟨P, sl, l⟩ A M ⟨al, rd, wr⟩ = (ab && (sb && fb)) from by rw [HST.out, hd0]; rfl)
  clear hd0 hv0
  go_wp2_with fail
  refine (accepts_any pa ia aa pc ic ac l.length P sl A _ (HP.out.below HB.out) (HA.out.below HB.out) hl.2.1 HSA.out).mono ?_
  rw [HAB.out]
  rintro er w2 ⟨rfl, hb2⟩
  clear c0 c1 c2 g0 g1 g2
  have HC := Lib.hid (HC.out.call hb2); have HF := Lib.hid (HF.out.call hb2); have HB := Lib.hid (btrans HB.out HB.out.size hb2); clear hb2
  obtain ⟨c0, c1, c2⟩ := HC.out.c3
  obtain ⟨g0, g1, g2⟩ := HF.out.c3
  cases ab with
  | false =>
    have HNO := Lib.hid (show staB ⟨P, sl, l⟩ A M ⟨al, rd, wr⟩ = false from by rw [HST.out]; first | rfl | simp)
    go_wp2
    go_ret2
    exact ⟨HB.out, by rw [HNO.out]; rfl⟩
  | true =>
    go_wp2_with fail
    refine (SValid_any sa sc M _ hl.2.2.1 HSM.out (HM.out.below HB.out)).mono ?_
    rw [HSB.out]
    rintro er w3 ⟨rfl, hb3⟩
    clear c0 c1 c2 g0 g1 g2
    have HC := Lib.hid (HC.out.call hb3); have HF := Lib.hid (HF.out.call hb3); have HB := Lib.hid (btrans HB.out HB.out.size hb3); clear hb3
    obtain ⟨c0, c1, c2⟩ := HC.out.c3
    obtain ⟨g0, g1, g2⟩ := HF.out.c3
    cases sb with
    | false =>
      have HNO := Lib.hid (show staB ⟨P, sl, l⟩ A M ⟨al, rd, wr⟩ = false from by rw [HST.out]; first | rfl | simp)
      go_wp2
      go_ret2
      exact ⟨HB.out, by rw [HNO.out]; rfl⟩
    | true =>
      go_wp2_with fail
      refine (allowed_any al ra wa rc wac rd wr _ (HR.out.below HB.out) (HW.out.below HB.out) ⟨hl.2.2.2.1, hl.2.2.2.2⟩ HSR.out).mono ?_
      rw [HFB.out]
      rintro er w4 ⟨rfl, hb4⟩
      clear c0 c1 c2 g0 g1 g2
      have HC := Lib.hid (HC.out.call hb4); have HF := Lib.hid (HF.out.call hb4); have HB := Lib.hid (btrans HB.out HB.out.size hb4); clear hb4
      obtain ⟨c0, c1, c2⟩ := HC.out.c3
      obtain ⟨g0, g1, g2⟩ := HF.out.c3
      cases fb with
      | false =>
        have HNO := Lib.hid (show staB ⟨P, sl, l⟩ A M ⟨al, rd, wr⟩ = false from by rw [HST.out]; first | rfl | simp)
        go_wp2
        go_ret2
        exact ⟨HB.out, by rw [HNO.out]; rfl⟩
      | true =>
        have HOK := Lib.hid (show staB ⟨P, sl, l⟩ A M ⟨al, rd, wr⟩ = true from by rw [HST.out]; rfl)
        have hvl := start_len HOK.out
        have HVL := Lib.hid hvl; clear hvl
        go_upto_region 4 with (fail)
        obtain ⟨cs, hcs⟩ : ∃ cs, cs = (((((((Tryz.zeroCells68.setIfInBounds 0 (.slice pa P.length pc)).setIfInBounds 1 (.int .i64 sl)).setIfInBounds 2 (.slice ia l.length ic)).setIfInBounds 3 (.slice sa M.length sc)).setIfInBounds 4 (.bool al)).setIfInBounds 5 (.slice ra rd.length rc)).setIfInBounds 6 (.slice wa wr.length wac)) := ⟨_, rfl⟩
        have hzs : Tryz.zeroCells68.toList.length = 402 := by rw [zero_list]; simp
        have hcz : cs.size = 402 := by rw [hcs]; simp only [Array.size_setIfInBounds]; rw [← Array.length_toList]; exact hzs
        have hc7 : ∀ j, j < 7 → cs.toList[j]? = some ((hd0 pa P.length pc sl ia l.length ic sa M.length sc al ra rd.length rc wa wr.length wac) j) := by
          intro j hj
          rw [hcs]
          simp only [Array.toList_setIfInBounds, List.getElem?_set, List.length_set, hzs]
          have : j = 0 ∨ j = 1 ∨ j = 2 ∨ j = 3 ∨ j = 4 ∨ j = 5 ∨ j = 6 := by omega
          rcases this with rfl | rfl | rfl | rfl | rfl | rfl | rfl <;> rfl
        have hcr : ∀ j, 7 ≤ j → cs.toList[j]? = Tryz.zeroCells68.toList[j]? := by
          intro j hj
          rw [hcs]
          simp only [Array.toList_setIfInBounds, List.getElem?_set]
          rw [if_neg (by omega), if_neg (by omega), if_neg (by omega), if_neg (by omega), if_neg (by omega), if_neg (by omega), if_neg (by omega)]
        rw [← hcs]
        clear hzs
        have hal := HB.out.alloc HB.out.size (.cells cs 68)
        have hg5 : (w4.alloc (.cells cs 68)).heap[w4.heap.size]? = some (.cells cs 68 (0, 0)) := heap_alloc_new w4 _
        have hsz := HB.out.size
        have HC7 := Lib.hid hc7; have HCR := Lib.hid hcr; have HCZ := Lib.hid hcz; have HB5 := Lib.hid hal; have HG5 := Lib.hid hg5; clear hc7 hcr hcz hal hg5 hcs
        generalize hW : w4.alloc (.cells cs 68) = v5 at HB5 HG5 ⊢
        clear hW
        obtain ⟨mb, hmb⟩ : ∃ n, w4.heap.size = n := ⟨_, rfl⟩
        rw [hmb] at HG5 hsz
        (try rw [hmb])
        clear hmb
        have hss := fun w => slice_slo mb w
        obtain ⟨nw, hnw⟩ : ∃ x, x = (cs.toList.take 200 ++ vlLs A ++ cs.toList.drop (200 + (vlLs A).length)).toArray := ⟨_, rfl⟩
        have hrun := run_copy_vl v5 3 mb cs 68 HG5.out A aa ac (HA.out.below HB5.out) HVL.out HCZ.out
        rw [← hnw] at hrun
        have HNW := Lib.hid hnw; clear hnw
        go_upto_region 5 with (fail)
        have hg6 := setRow_heap v5 mb _ nw _ _ HG5.out
        rw [HNW.out] at hg6
        have HBF := Lib.hid (start_vm (B := w.heap.size) (start_bf HVL.out HC7.out HCR.out HCZ.out hg6) hsz)
        have HB6 := Lib.hid (below_setRow HB5.out hsz nw)
        rw [← HNW.out] at HBF
        clear hrun hg6 hss
        generalize hW : v5.setRow mb nw = v6 at HBF HB6 ⊢
        clear hW
        go_wp2
        go_ret2
        exact ⟨HB6.out, by rw [if_pos HOK.out]; exact ⟨mb, _, rfl, HBF.out⟩⟩
end Go.Proofs.YtnglaegofhpleaaGreatDoor
namespace Go.Proofs.YtnglaegofhpleaaGreatDoor
open Go.RowKit

/-- what a run is given, in the heap -/
structure VArgs (w : World) (pa ia aa sa ra wa : Option Addr) (pc ic ac sc rc wac : Nat) (c : Cd) (A : List Vl) (M : List Pr) (F : Ft) : Prop where
  P : CellsAt w (.slice pa c.p.length pc) c.p.length (intsL c.p)
  I : CellsAt w (.slice ia c.l.length ic) c.l.length (insLs c.l)
  A : CellsAt w (.slice aa A.length ac) A.length (vlLs A)
  M : CellsAt w (.slice sa M.length sc) M.length (prLs M)
  R : StrS w (.slice ra F.rd.length rc) F.rd
  W : StrS w (.slice wa F.wr.length wac) F.wr
theorem VArgs.below {w w' : World} {pa ia aa sa ra wa : Option Addr} {pc ic ac sc rc wac : Nat} {c : Cd} {A : List Vl} {M : List Pr} {F : Ft} (h : VArgs w pa ia aa sa ra wa pc ic ac sc rc wac c A M F) (hb : Below w.heap.size w w') : VArgs w' pa ia aa sa ra wa pc ic ac sc rc wac c A M F := ⟨h.P.below hb, h.I.below hb, h.A.below hb, h.M.below hb, h.R.below hb, h.W.below hb⟩
structure VLim (c : Cd) (A : List Vl) (M : List Pr) (F : Ft) : Prop where
  len : c.p.length ≤ 9223372036854775806 ∧ A.length ≤ 9000000000000 ∧ M.length ≤ 9000000000000 ∧ F.rd.length ≤ 9000000000000 ∧ F.wr.length ≤ 9000000000000
  sl : ∀ x ∈ c.l, x.s.length ≤ 9223372036854775807
  sA : ∀ v ∈ A, v.s.length ≤ 9223372036854775807
  sM : ∀ p ∈ M, p.key.length ≤ 9223372036854775807 ∧ p.v.s.length ≤ 9223372036854775807
  sR : ∀ q ∈ F.rd ++ F.wr, q.length ≤ 9223372036854775807
  nc : ∀ x ∈ c.l, fits x.n = true
  nA : ∀ v ∈ A, fits v.n = true
  nM : ∀ p ∈ M, fits p.v.n = true
theorem start_inv {c : Cd} {A : List Vl} {M : List Pr} {F : Ft} (h : staB c A M F = true) (hA : ∀ v ∈ A, fits v.n = true) : valC c = 0 ∧ InvM c 0 (mc0 A) 0 := by
  unfold staB accB at h
  simp only [Bool.and_eq_true, decide_eq_true_eq] at h
  have h1 := valC_parts h.1
  refine ⟨h.1, ⟨⟨Int.le_refl _, by have := h1.2.2.2.2.2.1; omega⟩, ?_, ?_⟩⟩
  · show (0 : Int) = (depth0 c).getD 0 0
    rw [depR_zero]
  · refine ⟨fun i hi => absurd hi (Nat.not_lt_zero _), fun i => ?_, fun p hp => (by cases hp), List.Pairwise.nil, List.Pairwise.nil, Nat.zero_le _, rfl, ⟨Int.le_refl _, (by show (0 : Int) ≤ 16384; omega)⟩, Nat.zero_le _, Nat.zero_le _, Nat.zero_le _⟩
    show GdV (A.getD i v00)
    by_cases hi : i < A.length
    · have h2 := List.all_eq_true.1 h.2.1.2 i (List.mem_range.2 hi)
      unfold accP at h2
      simp only [Bool.and_eq_true, decide_eq_true_eq] at h2
      rw [getD_at hi] at h2 ⊢
      exact gd_key (hA _ (List.getElem_mem hi)) h2.2
    · rw [List.getD_eq_getElem?_getD, List.getElem?_eq_none (by omega)]; exact gd_v00
def runA (c : Cd) (A : List Vl) (M : List Pr) (F : Ft) (stop : List Int → Bool) : Mc × List Int := runM M F c.l stop (muM (mc0 A) 0 + 1) (mc0 A) 0 0 []
def traceS (c : Cd) (A : List Vl) (M : List Pr) (F : Ft) (lim : Int) : List Int := if staB c A M F = true then (runA c A M F (limB lim)).2 else []
theorem boxes3 (w : World) (A B C : Array Value) (S T U : TypeId) : ∃ v0, ((w.alloc (.cells A S)).alloc (.cells B T)).alloc (.cells C U) = v0 ∧ Below w.heap.size w v0 ∧ Bx w.heap.size A S v0 ∧ Bx (w.heap.size + 1) B T v0 ∧ Bx (w.heap.size + 2) C U v0 :=
  ⟨_, rfl, (((Below.refl w.heap.size w).alloc (Nat.le_refl _) _).alloc (by simp) _).alloc (by simp; omega) _, ((Bx.new w A S).alloc _).alloc _, (Bx.new1 w (.cells A S) B T).alloc _, Bx.new2 w (.cells A S) (.cells B T) C U⟩
set_option maxRecDepth 100000 in
set_option maxHeartbeats 32000000 in
theorem Trace_any (pa ia aa sa ra wa : Option Addr) (pc ic ac sc rc wac : Nat) (c : Cd) (A : List Vl) (M : List Pr) (F : Ft) (lim : Int) (w : World) (hA : VArgs w pa ia aa sa ra wa pc ic ac sc rc wac c A M F) (hl : VLim c A M F) (hLB : LaidB w) :
    Calls Tryz.prog 12 #[.agg #[.slice pa c.p.length pc, .int .i64 c.sl, .slice ia c.l.length ic], .slice aa A.length ac, .slice sa M.length sc, .agg #[.bool F.all, .slice ra F.rd.length rc, .slice wa F.wr.length wac], .int .i64 lim] w fun e w' => ∃ rv, e = .returned rv ∧ w'.ownsRow w.heap.size 3 1 rv (traceS c A M F lim).length (intsL (traceS c A M F lim)) ∧ Below w.heap.size w w' := by
  obtain ⟨tr, htr⟩ : ∃ t, traceS c A M F lim = t := ⟨_, rfl⟩
  rw [htr]
  have HTR := Lib.hid htr; have HA := Lib.hid hA; have HL := Lib.hid hl; have HLB := Lib.hid hLB; clear htr hA hl hLB
  obtain ⟨ok, hok⟩ : ∃ b, staB c A M F = b := ⟨_, rfl⟩
  have HOK := Lib.hid hok; clear hok
  obtain ⟨v0, hW0, hb0, hx0, hy0, hz0⟩ := boxes3 w #[.slice pa c.p.length pc, .int .i64 c.sl, .slice ia c.l.length ic] #[.bool F.all, .slice ra F.rd.length rc, .slice wa F.wr.length wac] #[.int .i64 lim] 25 29 3
  have HW0 := Lib.hid hW0; have HB := Lib.hid hb0; have HC := Lib.hid hx0; have HF := Lib.hid hy0; have HI := Lib.hid hz0; clear hW0 hb0 hx0 hy0 hz0
  go_enter Tryz.func12, Tryz.ntmps12
  go_upto_region 1 with (fail)
  rw [HW0.out]
  clear HW0
  have HA := Lib.hid (HA.out.below HB.out); have HLB := Lib.hid (HLB.out.below HB.out)
  obtain ⟨c0, c1, c2⟩ := HC.out.c3
  obtain ⟨g0, g1, g2⟩ := HF.out.c3
  go_wp2_with fail
  have hsv := HI.out.lt
  refine (start_any pa ia aa sa ra wa pc ic ac sc rc wac c.p c.sl c.l A M F.all F.rd F.wr v0 HA.out.P HA.out.I HA.out.A HA.out.M HA.out.R HA.out.W HL.out.len HL.out.sl HL.out.sA HL.out.sM HL.out.sR HLB.out).mono ?_
  have he : (⟨c.p, c.sl, c.l⟩ : Cd) = c := rfl
  have he2 : (⟨F.all, F.rd, F.wr⟩ : Ft) = F := rfl
  rw [he, he2, HOK.out]
  clear he he2
  rintro er w1 ⟨hb1, hst⟩
  clear c0 c1 c2 g0 g1 g2
  have HB1 := Lib.hid hb1; clear hb1
  cases ok with
  | false =>
    rw [if_neg (by simp)] at hst
    subst hst
    have HNO := Lib.hid (show tr = [] from HTR.out.symm.trans (if_neg (by rw [HOK.out]; simp)))
    go_wp2
    go_ret
    exact ⟨.slice none 0 0, rfl, by rw [HNO.out]; exact own_nil _ _ _ _, btrans HB.out HB.out.size HB1.out⟩
  | true =>
    rw [if_pos rfl] at hst
    obtain ⟨mb, S, hst, hvm⟩ := hst
    subst hst
    have HM := Lib.hid hvm; clear hvm
    obtain ⟨hvc, hinv⟩ := start_inv HOK.out HL.out.nA
    have HINV := Lib.hid hinv; clear hinv
    have hG : GivH (hd0 pa c.p.length pc c.sl ia c.l.length ic sa M.length sc F.all ra F.rd.length rc wa F.wr.length wac) v0 M F := ⟨⟨sa, sc, rfl, HA.out.M⟩, rfl, ⟨ra, rc, rfl, HA.out.R⟩, ⟨wa, wac, rfl, HA.out.W⟩, HL.out.len.2.2, ⟨HL.out.sM, HL.out.sR⟩⟩
    have HG := Lib.hid hG; clear hG
    have hal := (Below.refl w1.heap.size w1).alloc (Nat.le_refl _) (.cells #[.slice none 0 0] 22)
    have HO := Lib.hid (Bx.new w1 #[.slice none 0 0] 22)
    have HSN := Lib.hid HM.out.rng
    have HM := Lib.hid (HM.out.call hal); have HI := Lib.hid ((HI.out.call HB1.out).call hal); have hsz1 := HB1.out.size; have HB1 := Lib.hid (btrans HB1.out HB1.out.size hal)
    go_upto_region 5 with (fail)
    generalize hW : w1.alloc (.cells #[.slice none 0 0] 22) = v2 at HO HM HI HB1 ⊢
    clear hW hal
    obtain ⟨ob, hob⟩ : ∃ n, w1.heap.size = n := ⟨_, rfl⟩
    rw [hob] at HO HSN hsz1
    (try rw [hob])
    clear hob
    have hmf : ∀ (fn : Fn) (first cap : Array Value) (w : World), (Instr.makeFunc fn first cap).run Tryz.prog w = .ok (.func fn first cap) w := fun _ _ _ _ => rfl
    go_wp2_with fail
    refine (Trun_any v0 mb S (hd0 pa c.p.length pc c.sl ia c.l.length ic sa M.length sc F.all ra F.rd.length rc wa F.wr.length wac) (mc0 A) rw0 M F c ia ic ob (w.heap.size + 2) lim HG.out rfl HA.out.I hvc HL.out.nc HL.out.nM HLB.out.1 HINV.out v2 HM.out HB1.out HO.out HI.out hsz1 (by omega) (fun e => by have := (HSN.out ob e).2; omega) (fun e => by have := (HSN.out _ e).1; omega)).mono ?_
    rintro er w3 ⟨rfl, hb3, -, ta, tc, hx3, ho3⟩
    have HTT := Lib.hid (show tr = (runA c A M F (limB lim)).2 from HTR.out.symm.trans (if_pos HOK.out))
    have HX3 := Lib.hid hx3; have HO3 := Lib.hid ho3; have HB3 := Lib.hid hb3; clear hx3 ho3 hb3 hmf
    rw [show (runM M F c.l (limB lim) (muM (mc0 A) 0 + 1) (mc0 A) 0 0 []).2 = tr from HTT.out.symm] at HX3 HO3
    have o0 := HX3.out.cell 0
    simp only [List.getElem?_toArray, List.getElem?_cons_zero] at o0
    go_wp2
    go_ret
    exact ⟨.slice ta tr.length tc, rfl, own_mono HO3.out HB.out.size, btrans HB.out HB.out.size HB3.out⟩
def efM (m : Mc) : Ef := ⟨m.st, m.code, m.out, m.rds, m.puts, m.wrs, m.miss, m.steps⟩
def abE : Ef := ⟨2, 1009, [], [], [], [], [], 0⟩
def runS (c : Cd) (A : List Vl) (M : List Pr) (F : Ft) : Ef := if staB c A M F = true then efM (runA c A M F (fun _ => false)).1 else abE
def RunP (E : Ef) (w : World) (e : Ending) (w' : World) : Prop := ∃ v, e = .returned (.agg (efV E v)) ∧ EfIn E v w' ∧ Below w.heap.size w w'

set_option maxRecDepth 100000 in
set_option maxHeartbeats 32000000 in
theorem Run_any (pa ia aa sa ra wa : Option Addr) (pc ic ac sc rc wac : Nat) (c : Cd) (A : List Vl) (M : List Pr) (F : Ft) (w : World) (hA : VArgs w pa ia aa sa ra wa pc ic ac sc rc wac c A M F) (hl : VLim c A M F) (hLB : LaidB w) :
    Calls Tryz.prog 8 #[.agg #[.slice pa c.p.length pc, .int .i64 c.sl, .slice ia c.l.length ic], .slice aa A.length ac, .slice sa M.length sc, .agg #[.bool F.all, .slice ra F.rd.length rc, .slice wa F.wr.length wac]] w (RunP (runS c A M F) w) := by
  obtain ⟨E, hE⟩ : ∃ t, runS c A M F = t := ⟨_, rfl⟩
  rw [hE]
  have HE := Lib.hid hE; have HA := Lib.hid hA; have HL := Lib.hid hl; have HLB := Lib.hid hLB; clear hE hA hl hLB
  obtain ⟨ok, hok⟩ : ∃ b, staB c A M F = b := ⟨_, rfl⟩
  have HOK := Lib.hid hok; clear hok
  obtain ⟨v0, hW0, hb0, hx0, hy0, hz0⟩ := boxes3 w #[.slice pa c.p.length pc, .int .i64 c.sl, .slice ia c.l.length ic] #[.bool F.all, .slice ra F.rd.length rc, .slice wa F.wr.length wac] #[.int .i64 0, .int .i64 0, .slice none 0 0, .slice none 0 0, .slice none 0 0, .slice none 0 0, .string ⟨#[]⟩, .int .i64 0] 25 29 37
  have HW0 := Lib.hid hW0; have HB := Lib.hid hb0; have HC := Lib.hid hx0; have HF := Lib.hid hy0; have HR := Lib.hid hz0; have HR0 := Lib.hid hz0; clear hW0 hb0 hx0 hy0 hz0
  go_enter Tryz.func8, Tryz.ntmps8
  go_upto_region 1 with (fail)
  rw [HW0.out]
  clear HW0
  have HA := Lib.hid (HA.out.below HB.out); have HLB := Lib.hid (HLB.out.below HB.out)
  obtain ⟨c0, c1, c2⟩ := HC.out.c3
  obtain ⟨g0, g1, g2⟩ := HF.out.c3
  go_wp2_with fail
  have hsv := HR.out.lt
  refine (start_any pa ia aa sa ra wa pc ic ac sc rc wac c.p c.sl c.l A M F.all F.rd F.wr v0 HA.out.P HA.out.I HA.out.A HA.out.M HA.out.R HA.out.W HL.out.len HL.out.sl HL.out.sA HL.out.sM HL.out.sR HLB.out).mono ?_
  have he : (⟨c.p, c.sl, c.l⟩ : Cd) = c := rfl
  have he2 : (⟨F.all, F.rd, F.wr⟩ : Ft) = F := rfl
  rw [he, he2, HOK.out]
  clear he he2
  rintro er w1 ⟨hb1, hst⟩
  clear c0 c1 c2 g0 g1 g2
  have HB1 := Lib.hid hb1; have HR := Lib.hid (HR.out.call hb1); clear hb1
  cases ok with
  | false =>
    rw [if_neg (by simp)] at hst
    subst hst
    have HNO := Lib.hid (show E = abE from HE.out.symm.trans (if_neg (by rw [HOK.out]; simp)))
    obtain ⟨r0, r1, r2, r3, r4, r5, r6, r7⟩ := HR.out.c8
    have f0 := HR.out.free 0
    have f1 := HR.out.free 1
    have f2 := HR.out.free 2
    have f3 := HR.out.free 3
    have f4 := HR.out.free 4
    have f5 := HR.out.free 5
    have f6 := HR.out.free 6
    have f7 := HR.out.free 7
    have HK := Lib.hid (HR.out.sets8 (.int .i64 2) (.int .i64 1009) (.slice none 0 0) (.slice none 0 0) (.slice none 0 0) (.slice none 0 0) (.string ⟨#[]⟩) (.int .i64 0))
    have HBK := Lib.hid (below_sets8 (btrans HB.out HB.out.size HB1.out) (w.heap.size + 2) (by omega) (.int .i64 2) (.int .i64 1009) (.slice none 0 0) (.slice none 0 0) (.slice none 0 0) (.slice none 0 0) (.string ⟨#[]⟩) (.int .i64 0))
    go_wp2
    obtain ⟨k0, k1, k2, k3, k4, k5, k6, k7⟩ := HK.out.c8
    refine bodyPost_ret (v := .agg #[.int .i64 2, .int .i64 1009, .slice none 0 0, .slice none 0 0, .slice none 0 0, .slice none 0 0, .string ⟨#[]⟩, .int .i64 0]) (by simp [results, Tryz.results8, go_sem, k0, k1, k2, k3, k4, k5, k6, k7] <;> rfl) rfl ⟨⟨.slice none 0 0, .slice none 0 0, .slice none 0 0, .slice none 0 0⟩, by rw [HNO.out] <;> rfl, by rw [HNO.out]; exact ⟨⟨none, 0, rfl, fun hne => absurd rfl hne⟩, ⟨none, 0, rfl, Nat.le_refl _, fun hne => absurd rfl hne⟩, ⟨none, 0, rfl, Nat.le_refl _, fun hne => absurd rfl hne⟩, ⟨none, 0, rfl, fun hne => absurd rfl hne⟩⟩, HBK.out⟩
  | true =>
    rw [if_pos rfl] at hst
    obtain ⟨mb, S, hst, hvm⟩ := hst
    subst hst
    have HM := Lib.hid hvm; clear hvm
    obtain ⟨hvc, hinv⟩ := start_inv HOK.out HL.out.nA
    have HINV := Lib.hid hinv; clear hinv
    have hG : GivH (hd0 pa c.p.length pc c.sl ia c.l.length ic sa M.length sc F.all ra F.rd.length rc wa F.wr.length wac) v0 M F := ⟨⟨sa, sc, rfl, HA.out.M⟩, rfl, ⟨ra, rc, rfl, HA.out.R⟩, ⟨wa, wac, rfl, HA.out.W⟩, HL.out.len.2.2, ⟨HL.out.sM, HL.out.sR⟩⟩
    have HG := Lib.hid hG; clear hG
    have HSN := Lib.hid HM.out.rng
    go_wp2_with fail
    refine (Rrun_any v0 mb S (hd0 pa c.p.length pc c.sl ia c.l.length ic sa M.length sc F.all ra F.rd.length rc wa F.wr.length wac) (mc0 A) rw0 M F c ia ic HG.out rfl HA.out.I hvc HL.out.nc HL.out.nM HLB.out.1 HINV.out w1 HM.out HB1.out).mono ?_
    rintro er w3 ⟨rfl, hb3, S', R', hm3⟩
    obtain ⟨mE, hmE⟩ : ∃ x, (runM M F c.l (fun _ => false) (muM (mc0 A) 0 + 1) (mc0 A) 0 0 []).1 = x := ⟨_, rfl⟩
    rw [hmE] at hm3
    have HTT := Lib.hid (show E = efM mE from by rw [← hmE]; exact HE.out.symm.trans (if_pos HOK.out))
    have HM3 := Lib.hid hm3
    have HB3 := Lib.hid hb3
    have HR3 := Lib.hid (show Bx (w.heap.size + 2) #[.int .i64 0, .int .i64 0, .slice none 0 0, .slice none 0 0, .slice none 0 0, .slice none 0 0, .string ⟨#[]⟩, .int .i64 0] 37 w3 from (hb3.block _ hsv).trans HR0.out)
    clear hm3 hb3 hmE
    obtain ⟨oa, oc, h1⟩ := own_sl HM3.out.out.1
    obtain ⟨rda, rdc, h2⟩ := own_sl HM3.out.rds.1
    obtain ⟨pua, puc, h3⟩ := own_sl HM3.out.puts.1
    obtain ⟨wra, wrc, h4⟩ := own_sl HM3.out.wrs.1
    have HQ1 := Lib.hid h1; have HQ2 := Lib.hid h2; have HQ3 := Lib.hid h3; have HQ4 := Lib.hid h4
    have d0 : w3.cell? ⟨mb, 393, none⟩ = some (.int .i64 mE.st) := by have h := HM3.out.tl 1 (by decide); rw [h]; exact congrArg some (show tailM mE R' 1 = _ from rfl)
    have d1 : w3.cell? ⟨mb, 394, none⟩ = some (.int .i64 mE.code) := by have h := HM3.out.tl 2 (by decide); rw [h]; exact congrArg some (show tailM mE R' 2 = _ from rfl)
    have d2 : w3.cell? ⟨mb, 395, none⟩ = some (.slice oa mE.out.length oc) := by have h := HM3.out.tl 3 (by decide); rw [h]; exact congrArg some (show tailM mE R' 3 = _ from h1)
    have d3 : w3.cell? ⟨mb, 396, none⟩ = some (.slice rda mE.rds.length rdc) := by have h := HM3.out.tl 4 (by decide); rw [h]; exact congrArg some (show tailM mE R' 4 = _ from h2)
    have d4 : w3.cell? ⟨mb, 397, none⟩ = some (.slice pua mE.puts.length puc) := by have h := HM3.out.tl 5 (by decide); rw [h]; exact congrArg some (show tailM mE R' 5 = _ from h3)
    have d5 : w3.cell? ⟨mb, 398, none⟩ = some (.slice wra mE.wrs.length wrc) := by have h := HM3.out.tl 6 (by decide); rw [h]; exact congrArg some (show tailM mE R' 6 = _ from h4)
    have d6 : w3.cell? ⟨mb, 399, none⟩ = some (.string (bs mE.miss)) := by have h := HM3.out.tl 7 (by decide); rw [h]; exact congrArg some (show tailM mE R' 7 = _ from rfl)
    have d7 : w3.cell? ⟨mb, 400, none⟩ = some (.int .i64 mE.steps) := by have h := HM3.out.tl 8 (by decide); rw [h]; exact congrArg some (show tailM mE R' 8 = _ from rfl)
    clear h1 h2 h3 h4
    obtain ⟨r0, r1, r2, r3, r4, r5, r6, r7⟩ := HR3.out.c8
    have f0 := HR3.out.free 0
    have f1 := HR3.out.free 1
    have f2 := HR3.out.free 2
    have f3 := HR3.out.free 3
    have f4 := HR3.out.free 4
    have f5 := HR3.out.free 5
    have f6 := HR3.out.free 6
    have f7 := HR3.out.free 7
    have HK := Lib.hid (HR3.out.sets8 (.int .i64 mE.st) (.int .i64 mE.code) (.slice oa mE.out.length oc) (.slice rda mE.rds.length rdc) (.slice pua mE.puts.length puc) (.slice wra mE.wrs.length wrc) (.string (bs mE.miss)) (.int .i64 mE.steps))
    have hbw := btrans HB.out HB.out.size HB3.out
    have HBK := Lib.hid (below_sets8 hbw (w.heap.size + 2) (by omega) (.int .i64 mE.st) (.int .i64 mE.code) (.slice oa mE.out.length oc) (.slice rda mE.rds.length rdc) (.slice pua mE.puts.length puc) (.slice wra mE.wrs.length wrc) (.string (bs mE.miss)) (.int .i64 mE.steps))
    have HO0 := Lib.hid (own_st (own_st (own_st (own_st (own_st (own_st (own_st (own_st HM3.out.out.1 HR3.out (by decide) 0 (.int .i64 mE.st)) (HR3.out.set 0 (.int .i64 mE.st)) (by decide) 1 (.int .i64 mE.code)) ((HR3.out.set 0 (.int .i64 mE.st)).set 1 (.int .i64 mE.code)) (by decide) 2 (.slice oa mE.out.length oc)) (((HR3.out.set 0 (.int .i64 mE.st)).set 1 (.int .i64 mE.code)).set 2 (.slice oa mE.out.length oc)) (by decide) 3 (.slice rda mE.rds.length rdc)) ((((HR3.out.set 0 (.int .i64 mE.st)).set 1 (.int .i64 mE.code)).set 2 (.slice oa mE.out.length oc)).set 3 (.slice rda mE.rds.length rdc)) (by decide) 4 (.slice pua mE.puts.length puc)) (((((HR3.out.set 0 (.int .i64 mE.st)).set 1 (.int .i64 mE.code)).set 2 (.slice oa mE.out.length oc)).set 3 (.slice rda mE.rds.length rdc)).set 4 (.slice pua mE.puts.length puc)) (by decide) 5 (.slice wra mE.wrs.length wrc)) ((((((HR3.out.set 0 (.int .i64 mE.st)).set 1 (.int .i64 mE.code)).set 2 (.slice oa mE.out.length oc)).set 3 (.slice rda mE.rds.length rdc)).set 4 (.slice pua mE.puts.length puc)).set 5 (.slice wra mE.wrs.length wrc)) (by decide) 6 (.string (bs mE.miss))) (((((((HR3.out.set 0 (.int .i64 mE.st)).set 1 (.int .i64 mE.code)).set 2 (.slice oa mE.out.length oc)).set 3 (.slice rda mE.rds.length rdc)).set 4 (.slice pua mE.puts.length puc)).set 5 (.slice wra mE.wrs.length wrc)).set 6 (.string (bs mE.miss))) (by decide) 7 (.int .i64 mE.steps))
    have HO1 := Lib.hid (own_st (own_st (own_st (own_st (own_st (own_st (own_st (own_st HM3.out.rds.1 HR3.out (by decide) 0 (.int .i64 mE.st)) (HR3.out.set 0 (.int .i64 mE.st)) (by decide) 1 (.int .i64 mE.code)) ((HR3.out.set 0 (.int .i64 mE.st)).set 1 (.int .i64 mE.code)) (by decide) 2 (.slice oa mE.out.length oc)) (((HR3.out.set 0 (.int .i64 mE.st)).set 1 (.int .i64 mE.code)).set 2 (.slice oa mE.out.length oc)) (by decide) 3 (.slice rda mE.rds.length rdc)) ((((HR3.out.set 0 (.int .i64 mE.st)).set 1 (.int .i64 mE.code)).set 2 (.slice oa mE.out.length oc)).set 3 (.slice rda mE.rds.length rdc)) (by decide) 4 (.slice pua mE.puts.length puc)) (((((HR3.out.set 0 (.int .i64 mE.st)).set 1 (.int .i64 mE.code)).set 2 (.slice oa mE.out.length oc)).set 3 (.slice rda mE.rds.length rdc)).set 4 (.slice pua mE.puts.length puc)) (by decide) 5 (.slice wra mE.wrs.length wrc)) ((((((HR3.out.set 0 (.int .i64 mE.st)).set 1 (.int .i64 mE.code)).set 2 (.slice oa mE.out.length oc)).set 3 (.slice rda mE.rds.length rdc)).set 4 (.slice pua mE.puts.length puc)).set 5 (.slice wra mE.wrs.length wrc)) (by decide) 6 (.string (bs mE.miss))) (((((((HR3.out.set 0 (.int .i64 mE.st)).set 1 (.int .i64 mE.code)).set 2 (.slice oa mE.out.length oc)).set 3 (.slice rda mE.rds.length rdc)).set 4 (.slice pua mE.puts.length puc)).set 5 (.slice wra mE.wrs.length wrc)).set 6 (.string (bs mE.miss))) (by decide) 7 (.int .i64 mE.steps))
    have HO2 := Lib.hid (own_st (own_st (own_st (own_st (own_st (own_st (own_st (own_st HM3.out.puts.1 HR3.out (by decide) 0 (.int .i64 mE.st)) (HR3.out.set 0 (.int .i64 mE.st)) (by decide) 1 (.int .i64 mE.code)) ((HR3.out.set 0 (.int .i64 mE.st)).set 1 (.int .i64 mE.code)) (by decide) 2 (.slice oa mE.out.length oc)) (((HR3.out.set 0 (.int .i64 mE.st)).set 1 (.int .i64 mE.code)).set 2 (.slice oa mE.out.length oc)) (by decide) 3 (.slice rda mE.rds.length rdc)) ((((HR3.out.set 0 (.int .i64 mE.st)).set 1 (.int .i64 mE.code)).set 2 (.slice oa mE.out.length oc)).set 3 (.slice rda mE.rds.length rdc)) (by decide) 4 (.slice pua mE.puts.length puc)) (((((HR3.out.set 0 (.int .i64 mE.st)).set 1 (.int .i64 mE.code)).set 2 (.slice oa mE.out.length oc)).set 3 (.slice rda mE.rds.length rdc)).set 4 (.slice pua mE.puts.length puc)) (by decide) 5 (.slice wra mE.wrs.length wrc)) ((((((HR3.out.set 0 (.int .i64 mE.st)).set 1 (.int .i64 mE.code)).set 2 (.slice oa mE.out.length oc)).set 3 (.slice rda mE.rds.length rdc)).set 4 (.slice pua mE.puts.length puc)).set 5 (.slice wra mE.wrs.length wrc)) (by decide) 6 (.string (bs mE.miss))) (((((((HR3.out.set 0 (.int .i64 mE.st)).set 1 (.int .i64 mE.code)).set 2 (.slice oa mE.out.length oc)).set 3 (.slice rda mE.rds.length rdc)).set 4 (.slice pua mE.puts.length puc)).set 5 (.slice wra mE.wrs.length wrc)).set 6 (.string (bs mE.miss))) (by decide) 7 (.int .i64 mE.steps))
    have HO3 := Lib.hid (own_st (own_st (own_st (own_st (own_st (own_st (own_st (own_st HM3.out.wrs.1 HR3.out (by decide) 0 (.int .i64 mE.st)) (HR3.out.set 0 (.int .i64 mE.st)) (by decide) 1 (.int .i64 mE.code)) ((HR3.out.set 0 (.int .i64 mE.st)).set 1 (.int .i64 mE.code)) (by decide) 2 (.slice oa mE.out.length oc)) (((HR3.out.set 0 (.int .i64 mE.st)).set 1 (.int .i64 mE.code)).set 2 (.slice oa mE.out.length oc)) (by decide) 3 (.slice rda mE.rds.length rdc)) ((((HR3.out.set 0 (.int .i64 mE.st)).set 1 (.int .i64 mE.code)).set 2 (.slice oa mE.out.length oc)).set 3 (.slice rda mE.rds.length rdc)) (by decide) 4 (.slice pua mE.puts.length puc)) (((((HR3.out.set 0 (.int .i64 mE.st)).set 1 (.int .i64 mE.code)).set 2 (.slice oa mE.out.length oc)).set 3 (.slice rda mE.rds.length rdc)).set 4 (.slice pua mE.puts.length puc)) (by decide) 5 (.slice wra mE.wrs.length wrc)) ((((((HR3.out.set 0 (.int .i64 mE.st)).set 1 (.int .i64 mE.code)).set 2 (.slice oa mE.out.length oc)).set 3 (.slice rda mE.rds.length rdc)).set 4 (.slice pua mE.puts.length puc)).set 5 (.slice wra mE.wrs.length wrc)) (by decide) 6 (.string (bs mE.miss))) (((((((HR3.out.set 0 (.int .i64 mE.st)).set 1 (.int .i64 mE.code)).set 2 (.slice oa mE.out.length oc)).set 3 (.slice rda mE.rds.length rdc)).set 4 (.slice pua mE.puts.length puc)).set 5 (.slice wra mE.wrs.length wrc)).set 6 (.string (bs mE.miss))) (by decide) 7 (.int .i64 mE.steps))
    clear hbw
    go_wp2
    obtain ⟨k0, k1, k2, k3, k4, k5, k6, k7⟩ := HK.out.c8
    refine bodyPost_ret (v := .agg #[.int .i64 mE.st, .int .i64 mE.code, .slice oa mE.out.length oc, .slice rda mE.rds.length rdc, .slice pua mE.puts.length puc, .slice wra mE.wrs.length wrc, .string (bs mE.miss), .int .i64 mE.steps]) (by simp [results, Tryz.results8, go_sem, k0, k1, k2, k3, k4, k5, k6, k7] <;> rfl) rfl ⟨⟨R'.outv, R'.rv, R'.pv, R'.wv⟩, by rw [HTT.out]; unfold efV efM; simp only; rw [HQ1.out, HQ2.out, HQ3.out, HQ4.out], by rw [HTT.out]; exact ⟨own_valAt HO0.out, StrS.of_own HO1.out, StrS.of_own HO2.out, own_prAt HO3.out⟩, HBK.out⟩
end Go.Proofs.YtnglaegofhpleaaGreatDoor
namespace Go.Proofs.YtnglaegofhpleaaGreatDoor
open Go.RowKit

structure SzI (m : Mc) (N : Nat) : Prop where
  o : m.out.length ≤ N
  p : m.puts.length ≤ N
  w0 : m.done = false → m.wrs = []
  w : m.wrs.length ≤ N
theorem SzI.more {m : Mc} {N N' : Nat} (h : SzI m N) (hn : N ≤ N') : SzI m N' := ⟨Nat.le_trans h.o hn, Nat.le_trans h.p hn, h.w0, Nat.le_trans h.w hn⟩
theorem SzI.same {m m2 : Mc} {N : Nat} (h : SzI m N) (e1 : m2.out = m.out) (e2 : m2.puts = m.puts) (e3 : m2.wrs = m.wrs) (e4 : m2.done = m.done) : SzI m2 (N + 1) :=
  ⟨by rw [e1]; exact Nat.le_succ_of_le h.o, by rw [e2]; exact Nat.le_succ_of_le h.p, by rw [e3, e4]; exact h.w0, by rw [e3]; exact Nat.le_succ_of_le h.w⟩
theorem SzI.ends {m : Mc} {N : Nat} (h : SzI m N) (hd : m.done = false) (st c : Int) (k : List UInt8) : SzI (endM st c k m) N := by
  have hw := h.w0 hd
  refine ⟨?_, by rw [(endM_rp st c k m).2]; exact h.p, fun q => (by rw [endM_done] at q; cases q), ?_⟩
  · unfold endM; split
    · exact h.o
    · exact Nat.zero_le _
  · unfold endM; split
    · show (m.wrs ++ _).length ≤ N
      rw [hw, List.nil_append, List.length_map]; exact h.p
    · exact h.w
theorem SzI.endm {m m2 : Mc} {N : Nat} (h : SzI m N) (hd : m.done = false) (st c : Int) (k : List UInt8) (e1 : m2.out = m.out) (e2 : m2.puts = m.puts) (e3 : m2.wrs = m.wrs) (e4 : m2.done = m.done) : SzI (endM st c k m2) (N + 1) :=
  (h.same e1 e2 e3 e4).ends (e4.trans hd) st c k
theorem SzI.store {m m2 : Mc} {N : Nat} (h : SzI m N) (hd : m.done = false) (F : Ft) (k v : Vl) (e1 : m2.out = m.out) (e2 : m2.puts = m.puts) (e3 : m2.wrs = m.wrs) (e4 : m2.done = m.done) : SzI (storeM F k v m2) (N + 1) := by
  unfold storeM
  split
  · exact h.endm hd _ _ _ e1 e2 e3 e4
  split
  · exact h.endm hd _ _ _ e1 e2 e3 e4
  split
  · exact h.endm hd _ _ _ e1 e2 e3 e4
  · have hs := h.same e1 e2 e3 e4
    refine ⟨hs.o, ?_, hs.w0, hs.w⟩
    have := withK_len m2.puts k.s
    rw [e2] at this
    have := h.p
    show (withK m2.puts k.s).length ≤ _
    rw [e2]; omega
theorem SzI.step {M : List Pr} {F : Ft} {x : Ins} {m : Mc} {N : Nat} (h : SzI m N) (hd : m.done = false) : SzI (stepM M F x m) (N + 1) := by
  have key : ∀ m', stepM M F x m = m' → SzI m' (N + 1) := by
    intro m' e
    unfold stepM at e
    by_cases e1 : x.op = 1
    · rw [if_pos e1] at e; subst e
      exact h.same rfl rfl rfl rfl
    rw [if_neg e1] at e
    by_cases e2 : x.op = 2
    · rw [if_pos e2] at e; subst e
      exact h.same rfl rfl rfl rfl
    rw [if_neg e2] at e
    by_cases e3 : x.op = 3
    · rw [if_pos e3] at e; subst e
      exact h.same rfl rfl rfl rfl
    rw [if_neg e3] at e
    by_cases e4 : x.op = 4
    · rw [if_pos e4] at e; subst e
      exact h.same rfl rfl rfl rfl
    rw [if_neg e4] at e
    by_cases e5 : x.op = 5
    · rw [if_pos e5] at e; subst e
      unfold opM
      generalize (opEv M F (dropM m (arS x.a).toNat).own x.a (topV m (arS x.a).toNat)).1 = r
      have hs : ∀ m2 : Mc, m2.out = m.out → m2.puts = m.puts → m2.wrs = m.wrs → m2.done = m.done → SzI (resM r m2) (N + 1) := by
        intro m2 q1 q2 q3 q4
        cases r with
        | ok v => exact h.same q1 q2 q3 q4
        | ab c => exact h.endm hd _ _ _ q1 q2 q3 q4
        | re k => exact h.endm hd _ _ _ q1 q2 q3 q4
      by_cases hh : hidB (dropM m (arS x.a).toNat).own x.a ((topV m (arS x.a).toNat).headD v00) = true
      · rw [if_pos hh]; exact hs _ rfl rfl rfl rfl
      · rw [if_neg hh]; exact hs _ rfl rfl rfl rfl
    rw [if_neg e5] at e
    by_cases e6 : x.op = 6
    · rw [if_pos e6] at e; subst e
      exact h.same rfl rfl rfl rfl
    rw [if_neg e6] at e
    by_cases e7 : x.op = 7
    · rw [if_pos e7] at e; subst e
      unfold falM
      split
      · exact h.endm hd _ _ _ rfl rfl rfl rfl
      · exact h.same rfl rfl rfl rfl
    rw [if_neg e7] at e
    by_cases e8 : x.op = 8
    · rw [if_pos e8] at e; subst e
      unfold putM
      split
      · exact h.endm hd _ _ _ rfl rfl rfl rfl
      · exact h.store hd _ _ _ rfl rfl rfl rfl
    rw [if_neg e8] at e
    by_cases e9 : x.op = 9
    · rw [if_pos e9] at e; subst e
      exact h.store hd _ _ _ rfl rfl rfl rfl
    rw [if_neg e9] at e
    by_cases e10 : x.op = 10
    · rw [if_pos e10] at e; subst e
      unfold emitM
      split
      · exact h.endm hd _ _ _ rfl rfl rfl rfl
      split
      · exact h.endm hd _ _ _ rfl rfl rfl rfl
      · have hs := h.same (m2 := popM m) rfl rfl rfl rfl
        refine ⟨?_, hs.p, hs.w0, hs.w⟩
        show ((popM m).out ++ [popV m]).length ≤ _
        rw [List.length_append]
        have := h.o
        show m.out.length + 1 ≤ _
        omega
    rw [if_neg e10] at e
    by_cases e11 : x.op = 11
    · rw [if_pos e11] at e; subst e
      exact h.endm hd _ _ _ rfl rfl rfl rfl
    rw [if_neg e11] at e
    by_cases e12 : x.op = 12
    · rw [if_pos e12] at e; subst e
      unfold loopM
      split
      · exact h.endm hd _ _ _ rfl rfl rfl rfl
      split
      · exact h.endm hd _ _ _ rfl rfl rfl rfl
      · exact h.same rfl rfl rfl rfl
    rw [if_neg e12] at e
    by_cases e13 : x.op = 13
    · rw [if_pos e13] at e; subst e
      exact h.endm hd _ _ _ rfl rfl rfl rfl
    rw [if_neg e13] at e
    by_cases e14 : x.op = 14
    · rw [if_pos e14] at e; subst e
      unfold tickM
      split
      · exact h.endm hd _ _ _ rfl rfl rfl rfl
      · exact h.same rfl rfl rfl rfl
    rw [if_neg e14] at e
    subst e; exact h.same rfl rfl rfl rfl
  exact key _ rfl
theorem SzI.run {M : List Pr} {F : Ft} {l : List Ins} {stop : List Int → Bool} : ∀ (f : Nat) (m : Mc) (pc : Int) (n : Nat) (tr : List Int) (N : Nat), SzI m N → SzI (runM M F l stop f m pc n tr).1 (N + f)
  | 0, _, _, _, _, _, h => h
  | f + 1, m, pc, n, tr, N, h => by
    have hm : SzI m (N + (f + 1)) := h.more (by omega)
    unfold runM
    by_cases hd : m.done = true
    · rw [if_pos hd]; exact hm
    rw [if_neg hd]
    have hd2 : m.done = false := by simpa using hd
    by_cases hn : n = 1024
    · rw [if_pos hn]; exact hm.ends hd2 2 1008 []
    rw [if_neg hn]
    by_cases hs : stop tr = true
    · rw [if_pos hs]; exact hm
    rw [if_neg hs]
    have := SzI.run (M := M) (F := F) (l := l) (stop := stop) f (stepM M F (l.getD pc.toNat ins0) m) (nextI (l.getD pc.toNat ins0) pc m) (cntI (l.getD pc.toNat ins0) n) (tr ++ [pc]) (N + 1) (h.step hd2)
    rwa [show N + 1 + f = N + (f + 1) by omega] at this
theorem mu_start (A : List Vl) : muM (mc0 A) 0 + 1 ≤ 17000000 := by
  have : muM (mc0 A) 0 = 1 + ((16385 - 0) * 1026 + (1025 - 0)) := rfl
  rw [this]; omega
theorem runS_size (c : Cd) (A : List Vl) (M : List Pr) (F : Ft) : EfS (runS c A M F) := by
  unfold runS
  by_cases hs : staB c A M F = true
  · rw [if_pos hs]
    have h1 := SzI.run (M := M) (F := F) (l := c.l) (stop := fun _ => false) (muM (mc0 A) 0 + 1) (mc0 A) 0 0 [] 0 ⟨Nat.le_refl _, Nat.le_refl _, fun _ => rfl, Nat.le_refl _⟩
    have h2 := KpI.run (M := M) (F := F) (l := c.l) (stop := fun _ => false) (muM (mc0 A) 0 + 1) (mc0 A) 0 0 [] 0 ⟨List.Pairwise.nil, fun k hk => (by cases hk), fun k hk => (by cases hk), Nat.le_refl _⟩
    have h3 := mu_start A
    have a1 := h1.o; have a2 := h2.len; have a3 := h1.p; have a4 := h1.w
    refine ⟨?_, ?_, ?_, ?_⟩
    · show (runA c A M F fun _ => false).1.out.length ≤ _
      unfold runA; omega
    · show (runA c A M F fun _ => false).1.rds.length ≤ _
      unfold runA; omega
    · show (runA c A M F fun _ => false).1.puts.length ≤ _
      unfold runA; omega
    · show (runA c A M F fun _ => false).1.wrs.length ≤ _
      unfold runA; omega
  · rw [if_neg hs]; exact ⟨Nat.zero_le _, Nat.zero_le _, Nat.zero_le _, Nat.zero_le _⟩
theorem runS_kp (c : Cd) (A : List Vl) (M : List Pr) (F : Ft) : SortK (runS c A M F).rds ∧ (∀ k ∈ (runS c A M F).rds, keyB k = true ∧ (F.all = true ∨ F.rd.contains k = true)) ∧ (∀ k ∈ (runS c A M F).puts, F.all = true ∨ F.wr.contains k = true) ∧ (runS c A M F).rds.length ≤ 17000000 := by
  unfold runS
  by_cases hs : staB c A M F = true
  · rw [if_pos hs]
    have h2 := KpI.run (M := M) (F := F) (l := c.l) (stop := fun _ => false) (muM (mc0 A) 0 + 1) (mc0 A) 0 0 [] 0 ⟨List.Pairwise.nil, fun k hk => (by cases hk), fun k hk => (by cases hk), Nat.le_refl _⟩
    have h3 := mu_start A
    have a2 := h2.len
    exact ⟨h2.srt, h2.rd, h2.wr, by show (runA c A M F fun _ => false).1.rds.length ≤ _; unfold runA; omega⟩
  · rw [if_neg hs]; exact ⟨List.Pairwise.nil, fun k hk => (by cases hk), fun k hk => (by cases hk), Nat.zero_le _⟩
theorem runS_local {c : Cd} {A : List Vl} {M b : List Pr} {F : Ft} (hM : stB M = true) (hb : stB b = true) : runS c A (applyP b (sameP M (runS c A M F).rds)) F = runS c A M F := by
  obtain ⟨k1, k2, -, -⟩ := runS_kp c A M F
  obtain ⟨s1, s2, s3⟩ := same_srt hM k1 fun k hk => (k2 k hk).1
  have hg : ∀ k ∈ (runS c A M F).rds, getP M k = getP (applyP b (sameP M (runS c A M F).rds)) k := fun k hk => (same_get hM hb k1 hk).symm
  have hst := apply_st hb s1 s2
  generalize applyP b (sameP M (runS c A M F).rds) = M2 at hg hst ⊢
  have hsta : staB c A M2 F = staB c A M F := by unfold staB; rw [hst, hM]
  unfold runS at hg ⊢
  rw [hsta]
  by_cases hs : staB c A M F = true
  · rw [if_pos hs] at hg
    rw [if_pos hs, if_pos hs]
    unfold runA at hg ⊢
    rw [run_local (M1 := M) (M2 := M2) hM hst _ _ _ _ _ hg]
  · rw [if_neg hs, if_neg hs]
theorem runS_bad {c : Cd} {A : List Vl} {M : List Pr} {F : Ft} (h : valC c ≠ 0 ∨ stB M = false) : runS c A M F = abE := by
  unfold runS
  rw [if_neg]
  unfold staB
  rcases h with h | h
  · simp [h]
  · simp [h]
theorem vlim_apply {c : Cd} {A : List Vl} {M U : List Pr} {F : Ft} (h1 : VLim c A M F) (h2 : VLim c A U F) (hU : U.length ≤ 2932031007402) {ks : List (List UInt8)} (hk : ks.length ≤ 17000000) (hb : ∀ k ∈ ks, keyB k = true) : VLim c A (applyP U (sameP M ks)) F := by
  have hl := apply_len U (sameP M ks)
  have hs : (sameP M ks).length = ks.length := by unfold sameP; rw [List.length_map]
  have hkl : ∀ k ∈ ks, k.length ≤ 24 := fun k hk => by
    have := hb k hk
    unfold keyB at this
    simp only [Bool.and_eq_true, decide_eq_true_eq] at this
    exact this.2.1
  have hm : ∀ p ∈ applyP U (sameP M ks), (p.key.length ≤ 9223372036854775807 ∧ p.v.s.length ≤ 9223372036854775807) ∧ fits p.v.n = true := by
    intro p hp
    rcases apply_mem.1 hp with ⟨h, -⟩ | ⟨h, -⟩
    · exact ⟨h2.sM p h, h2.nM p h⟩
    · unfold sameP at h
      rw [List.mem_map] at h
      obtain ⟨k, hk, rfl⟩ := h
      have := hkl k hk
      refine ⟨⟨by show k.length ≤ _; omega, ?_⟩, ?_⟩
      · rcases getP_or M k with e | ⟨q, hq, -, e⟩
        · show (getP M k).s.length ≤ _; rw [e]; simp [v00]
        · show (getP M k).s.length ≤ _; rw [e]; exact (h1.sM q hq).2
      · rcases getP_or M k with e | ⟨q, hq, -, e⟩
        · show fits (getP M k).n = true; rw [e]; rfl
        · show fits (getP M k).n = true; rw [e]; exact h1.nM q hq
  have hlen := h1.len
  exact ⟨⟨hlen.1, hlen.2.1, by omega, hlen.2.2.2.1, hlen.2.2.2.2⟩, h1.sl, h1.sA, fun p hp => (hm p hp).1, h1.sR, h1.nc, h1.nA, fun p hp => (hm p hp).2⟩
end Go.Proofs.YtnglaegofhpleaaGreatDoor
namespace Go.Proofs.YtnglaegofhpleaaGreatDoor
open Go.RowKit

def sevL : List Ins := [⟨14, 0, 0, 0, []⟩, ⟨1, 0, 0, 7, []⟩, ⟨10, 0, 0, 0, []⟩, ⟨13, 0, 0, 0, []⟩]
def sevC : Cd := ⟨[], 0, sevL⟩
def sevF : Ft := ⟨false, [], []⟩
def sevE : Ef := ⟨1, 0, [⟨1, 7, []⟩], [], [], [], [], 1⟩
theorem cellsAt_box {W : World} {b n c : Nat} {xs : List Value} {T : TypeId} (h : Bx b xs.toArray T W) : CellsAt W (.slice (some ⟨b, 0, none⟩) n c) n xs := by
  refine ⟨_, _, rfl, fun _ => ⟨_, _, rfl, fun j y hj => ?_⟩⟩
  rw [Nat.zero_add, h.cell j, List.getElem?_toArray]; exact hj
theorem cellsAt_nil (W : World) (n c : Nat) : CellsAt W (.slice none n c) n [] := ⟨_, _, rfl, fun h => absurd rfl h⟩
theorem strS_nil (W : World) (c : Nat) : StrS W (.slice none 0 c) [] := ⟨none, c, rfl, Nat.zero_le _, fun h => absurd rfl h⟩
theorem seven_args {W : World} {ia : Option Addr} (h : CellsAt W (.slice ia 4 4) 4 (insLs sevL)) : VArgs W none ia none none none none 0 4 0 0 0 0 sevC [] [] sevF := ⟨cellsAt_nil _ _ _, h, cellsAt_nil _ _ _, cellsAt_nil _ _ _, strS_nil _ _, strS_nil _ _⟩
def sevV (b : Nat) : Ev := ⟨.slice (some ⟨b, 0, none⟩) 1 1, .slice none 0 0, .slice none 0 0, .slice none 0 0⟩
theorem sevE_in {W : World} {b : Nat} (h : Bx b #[.int .i64 1, .int .i64 7, .string ⟨#[]⟩] 52 W) : EfIn sevE (sevV b) W := ⟨cellsAt_box h, strS_nil _ _, strS_nil _ _, cellsAt_nil _ _ _⟩
theorem sevE_s : EfS sevE := ⟨by decide, by decide, by decide, by decide⟩
theorem seven_run : runS sevC [] [] sevF = sevE := by decide +kernel
theorem seven_trace : traceS sevC [] [] sevF 9 = [0, 1, 2, 3] := by decide +kernel
theorem seven_lim : VLim sevC [] [] sevF := ⟨by decide, by decide, by simp, by simp, by simp [sevF], by decide, by simp, by simp⟩

set_option maxRecDepth 100000 in
set_option maxHeartbeats 8000000 in
theorem seven_any (w : World) :
    Calls Tryz.prog 25 #[] w fun e w' => ∃ ia, e = .returned (.agg #[.slice none 0 0, .int .i64 0, .slice ia 4 4]) ∧ CellsAt w' (.slice ia 4 4) 4 (insLs sevL) ∧ Below w.heap.size w w' := by
  obtain ⟨v0, hW, hb, hx, hy⟩ := boxes2 w #[.slice none 0 0, .int .i64 0, .slice (some ⟨w.heap.size + 1, 0, none⟩) 4 4] 25 #[.int .i64 14, .int .i64 0, .int .i64 0, .int .i64 0, .string ⟨#[]⟩, .int .i64 1, .int .i64 0, .int .i64 0, .int .i64 7, .string ⟨#[]⟩, .int .i64 10, .int .i64 0, .int .i64 0, .int .i64 0, .string ⟨#[]⟩, .int .i64 13, .int .i64 0, .int .i64 0, .int .i64 0, .string ⟨#[]⟩] 45
  have HW := Lib.hid hW; have HB := Lib.hid hb; have HX := Lib.hid hx; have HY := Lib.hid (show Bx (w.heap.size + 1) (insLs sevL).toArray 45 v0 from hy); clear hW hb hx hy
  go_enter Tryz.func25, Tryz.ntmps25
  go_wp2
  rw [HW.out]
  obtain ⟨k0, k1, k2⟩ := HX.out.c3
  refine bodyPost_ret (v := .agg #[.slice none 0 0, .int .i64 0, .slice (some ⟨w.heap.size + 1, 0, none⟩) 4 4]) (by simp [results, Tryz.results25, go_sem, k0, k1, k2] <;> rfl) rfl ⟨_, rfl, cellsAt_box HY.out, HB.out⟩
set_option maxRecDepth 100000 in
set_option maxHeartbeats 16000000 in
theorem lives18 (w : World) (hLB : LaidB w) :
    Calls Tryz.prog 10 #[] w fun e w' => e = .returned (.bool true) ∧ Below w.heap.size w w' := by
  obtain ⟨v0, hW, hb, hx, hy⟩ := boxes2 w #[.int .i64 1, .int .i64 7, .string ⟨#[]⟩] 52 #[.int .i64 1, .int .i64 0, .slice (some ⟨w.heap.size, 0, none⟩) 1 1, .slice none 0 0, .slice none 0 0, .slice none 0 0, .string ⟨#[]⟩, .int .i64 1] 37
  have HW := Lib.hid hW; have HB := Lib.hid hb.drew; have HX := Lib.hid hx.drew; have HY := Lib.hid hy.drew; clear hW hb hx hy
  have HLB := Lib.hid (hLB.below HB.out); clear hLB
  go_enter Tryz.func10, Tryz.ntmps10
  go_upto_region 2 with (fail)
  rw [HW.out]
  clear HW
  skip
  refine wp_region_held_drew (S := (fun w' => Bx (w.heap.size + 1) #[.int .i64 1, .int .i64 0, .slice (some ⟨w.heap.size, 0, none⟩) 1 1, .slice none 0 0, .slice none 0 0, .slice none 0 0, .string ⟨#[]⟩, .int .i64 1] 37 w')) (by kernel_rfl) ?_ (fun hHeld => ?_)
  · exact HY.out
  refine tkX (i := 1) 7 ?_
  simp only [sA, sB, sC]
  refine tkY (i := 3) (v := ?vv2) 9 ?yy2 ?_
  case yy2 =>
    intro wq hSw
    obtain ⟨z0, z1, z2, z3, z4, z5, z6, z7⟩ := Bx.c8 hSw
    clear hSw
    go_simp
    (try with_reducible rfl)
  simp only [sA, sB, sC]
  refine wpAnyH_ready (rs := [0]) (by kernel_rfl) (by simp) ?_
  refine (AllReadyH.cons rfl (fun K hK => ?_) AllReadyH.nil)
  go_simp
  refine (seven_any v0.drew).mono ?_
  rintro er w1 ⟨ia, rfl, hi1, hb1⟩
  have HI := Lib.hid hi1
  skip
  have HB := Lib.hid (btrans HB.out HB.out.size hb1); have HX := Lib.hid (HX.out.call hb1); have HY := Lib.hid (HY.out.call hb1); have HLB := Lib.hid (HLB.out.below hb1)
  refine hK.out _ _ ?_ (fun hHeld => ?_)
  · exact HY.out
  clear hK K
  (try simp only [Act.put, sA, sB, sC])
  clear hi1 hb1
  refine wpAnyH_ready (rs := [2]) (by kernel_rfl) (by simp) ?_
  refine (AllReadyH.cons rfl (fun K hK => ?_) AllReadyH.nil)
  go_simp
  refine (Run_any none ia none none none none 0 4 0 0 0 0 sevC [] [] sevF w1 (seven_args HI.out) seven_lim HLB.out).mono ?_
  rw [seven_run]
  rintro er w2 ⟨v, rfl, hE, hb2⟩
  have HE := Lib.hid hE
  have HB := Lib.hid (btrans HB.out HB.out.size hb2); have HX := Lib.hid (HX.out.call hb2); have HY := Lib.hid (HY.out.call hb2); have HLB := Lib.hid (HLB.out.below hb2)
  refine hK.out _ _ ?_ (fun hHeld => ?_)
  · exact HY.out
  clear hK K
  (try simp only [Act.put, sA, sB, sC])
  clear hE hb2 HI
  refine wpAnyH_ready (rs := [4]) (by kernel_rfl) (by simp) ?_
  refine (AllReadyH.cons rfl (fun K hK => ?_) AllReadyH.nil)
  go_simp
  refine (RSame_any sevE sevE v (sevV w.heap.size) w2 HE.out (sevE_in HX.out) sevE_s sevE_s).mono ?_
  rw [decide_eq_true rfl]
  rintro er w3 ⟨rfl, hb3⟩
  have HB := Lib.hid (btrans HB.out HB.out.size hb3); have HX := Lib.hid (HX.out.call hb3); have HY := Lib.hid (HY.out.call hb3); have HLB := Lib.hid (HLB.out.below hb3)
  refine hK.out _ _ ?_ (fun hHeld => ?_)
  · exact HY.out
  clear hK K
  (try simp only [Act.put, sA, sB, sC])
  clear hb3 HE
  refine tkX (i := 5) 11 ?_
  simp only [sA, sB, sC]
  refine tkX (i := 7) 13 ?_
  simp only [sA, sB, sC]
  refine wpAnyH_ready (rs := [6, 9]) (by kernel_rfl) (by simp) ?_
  refine (AllReadyH.cons rfl (fun K hK => ?_) (AllReadyH.cons rfl (fun K hK => ?_) AllReadyH.nil))
  · skip
    go_simp
    refine (seven_any w3).mono ?_
    rintro er w4 ⟨ia, rfl, hi4, hb4⟩
    have HI := Lib.hid hi4
    skip
    have HB := Lib.hid (btrans HB.out HB.out.size hb4); have HX := Lib.hid (HX.out.call hb4); have HY := Lib.hid (HY.out.call hb4); have HLB := Lib.hid (HLB.out.below hb4)
    refine hK.out _ _ ?_ (fun hHeld => ?_)
    · exact HY.out
    clear hK K
    (try simp only [Act.put, sA, sB, sC])
    clear hi4 hb4
    refine wpAnyH_ready (rs := [8, 9]) (by kernel_rfl) (by simp) ?_
    refine (AllReadyH.cons rfl (fun K hK => ?_) (AllReadyH.cons rfl (fun K hK => ?_) AllReadyH.nil))
    · skip
      go_simp
      refine (Trace_any none ia none none none none 0 4 0 0 0 0 sevC [] [] sevF 9 w4 (seven_args HI.out) seven_lim HLB.out).mono ?_
      rw [seven_trace]
      rintro er w5 ⟨rv, rfl, ho5, hb5⟩
      have HT := Lib.hid (own_intAt ho5)
      have HB := Lib.hid (btrans HB.out HB.out.size hb5); have HX := Lib.hid (HX.out.call hb5); have HY := Lib.hid (HY.out.call hb5); have HLB := Lib.hid (HLB.out.below hb5)
      refine hK.out _ _ ?_ (fun hHeld => ?_)
      · exact HY.out
      clear hK K
      (try simp only [Act.put, sA, sB, sC])
      clear ho5 hb5
      refine wpAnyH_ready (rs := [9]) (by kernel_rfl) (by simp) ?_
      refine (AllReadyH.cons rfl (fun K hK => ?_) AllReadyH.nil)
      obtain ⟨w6, hu, hb6, hs6⟩ := boxes1 w5 #[.int .i64 0, .int .i64 1, .int .i64 2, .int .i64 3] 3
      have HU := Lib.hid hu; clear hu
      have HS := Lib.hid hs6; clear hs6
      have HB := Lib.hid (btrans HB.out HB.out.size hb6); have HX := Lib.hid (HX.out.call hb6); have HY := Lib.hid (HY.out.call hb6); have HLB := Lib.hid (HLB.out.below hb6)
      have HT := Lib.hid (HT.out.below hb6)
      clear hb6
      go_simp
      (try rw [HU.out])
      focus (try go_wp2_with fail)
      (try rw [HU.out])
      refine hK.out _ _ ?_ (fun hHeld => ?_)
      · exact HY.out
      clear hK K
      (try simp only [Act.put, sA, sB, sC])
      clear HU
      refine wpAnyH_ready (rs := [10]) (by kernel_rfl) (by simp) ?_
      refine (AllReadyH.cons rfl (fun K hK => ?_) AllReadyH.nil)
      go_simp
      refine (sameInts_any rv (.slice (some ⟨w5.heap.size, 0, none⟩) 4 4) [0, 1, 2, 3] [0, 1, 2, 3] w6 HT.out (cellsAt_box HS.out) (by decide)).mono ?_
      rw [decide_eq_true rfl]
      rintro er w7 ⟨rfl, hb7⟩
      have HB := Lib.hid (btrans HB.out HB.out.size hb7); have HX := Lib.hid (HX.out.call hb7); have HY := Lib.hid (HY.out.call hb7); have HLB := Lib.hid (HLB.out.below hb7)
      refine hK.out _ _ ?_ (fun hHeld => ?_)
      · exact HY.out
      clear hK K
      (try simp only [Act.put, sA, sB, sC])
      clear hb7
      refine tkX (i := 11) 17 ?_
      simp only [sA, sB, sC]
      refine tkX (i := 12) 0 ?_
      simp only [sA, sB]
      refine wpAnyH_done (by kernel_rfl) ?_ _
      go_wp2
      go_ret
      exact ⟨rfl, HB.out⟩
    · skip
      obtain ⟨w5, hu, hb5, hs5⟩ := boxes1 w4 #[.int .i64 0, .int .i64 1, .int .i64 2, .int .i64 3] 3
      have HU := Lib.hid hu; clear hu
      have HS := Lib.hid hs5; clear hs5
      have HB := Lib.hid (btrans HB.out HB.out.size hb5); have HX := Lib.hid (HX.out.call hb5); have HY := Lib.hid (HY.out.call hb5); have HLB := Lib.hid (HLB.out.below hb5)
      have HI := Lib.hid (HI.out.below hb5)
      clear hb5
      go_simp
      (try rw [HU.out])
      focus (try go_wp2_with fail)
      (try rw [HU.out])
      refine hK.out _ _ ?_ (fun hHeld => ?_)
      · exact HY.out
      clear hK K
      (try simp only [Act.put, sA, sB, sC])
      clear HU
      refine wpAnyH_ready (rs := [8]) (by kernel_rfl) (by simp) ?_
      refine (AllReadyH.cons rfl (fun K hK => ?_) AllReadyH.nil)
      go_simp
      refine (Trace_any none ia none none none none 0 4 0 0 0 0 sevC [] [] sevF 9 w5 (seven_args HI.out) seven_lim HLB.out).mono ?_
      rw [seven_trace]
      rintro er w6 ⟨rv, rfl, ho6, hb6⟩
      have HT := Lib.hid (own_intAt ho6)
      have HB := Lib.hid (btrans HB.out HB.out.size hb6); have HX := Lib.hid (HX.out.call hb6); have HY := Lib.hid (HY.out.call hb6); have HLB := Lib.hid (HLB.out.below hb6)
      have HS := Lib.hid (HS.out.call hb6)
      refine hK.out _ _ ?_ (fun hHeld => ?_)
      · exact HY.out
      clear hK K
      (try simp only [Act.put, sA, sB, sC])
      clear ho6 hb6
      refine wpAnyH_ready (rs := [10]) (by kernel_rfl) (by simp) ?_
      refine (AllReadyH.cons rfl (fun K hK => ?_) AllReadyH.nil)
      go_simp
      refine (sameInts_any rv (.slice (some ⟨w4.heap.size, 0, none⟩) 4 4) [0, 1, 2, 3] [0, 1, 2, 3] w6 HT.out (cellsAt_box HS.out) (by decide)).mono ?_
      rw [decide_eq_true rfl]
      rintro er w7 ⟨rfl, hb7⟩
      have HB := Lib.hid (btrans HB.out HB.out.size hb7); have HX := Lib.hid (HX.out.call hb7); have HY := Lib.hid (HY.out.call hb7); have HLB := Lib.hid (HLB.out.below hb7)
      refine hK.out _ _ ?_ (fun hHeld => ?_)
      · exact HY.out
      clear hK K
      (try simp only [Act.put, sA, sB, sC])
      clear hb7
      refine tkX (i := 11) 17 ?_
      simp only [sA, sB, sC]
      refine tkX (i := 12) 0 ?_
      simp only [sA, sB]
      refine wpAnyH_done (by kernel_rfl) ?_ _
      go_wp2
      go_ret
      exact ⟨rfl, HB.out⟩
  · skip
    obtain ⟨w4, hu, hb4, hs4⟩ := boxes1 w3 #[.int .i64 0, .int .i64 1, .int .i64 2, .int .i64 3] 3
    have HU := Lib.hid hu; clear hu
    have HS := Lib.hid hs4; clear hs4
    have HB := Lib.hid (btrans HB.out HB.out.size hb4); have HX := Lib.hid (HX.out.call hb4); have HY := Lib.hid (HY.out.call hb4); have HLB := Lib.hid (HLB.out.below hb4)
    clear hb4
    go_simp
    (try rw [HU.out])
    focus (try go_wp2_with fail)
    (try rw [HU.out])
    refine hK.out _ _ ?_ (fun hHeld => ?_)
    · exact HY.out
    clear hK K
    (try simp only [Act.put, sA, sB, sC])
    clear HU
    refine wpAnyH_ready (rs := [6]) (by kernel_rfl) (by simp) ?_
    refine (AllReadyH.cons rfl (fun K hK => ?_) AllReadyH.nil)
    go_simp
    refine (seven_any w4).mono ?_
    rintro er w5 ⟨ia, rfl, hi5, hb5⟩
    have HI := Lib.hid hi5
    have HS := Lib.hid (HS.out.call hb5)
    have HB := Lib.hid (btrans HB.out HB.out.size hb5); have HX := Lib.hid (HX.out.call hb5); have HY := Lib.hid (HY.out.call hb5); have HLB := Lib.hid (HLB.out.below hb5)
    refine hK.out _ _ ?_ (fun hHeld => ?_)
    · exact HY.out
    clear hK K
    (try simp only [Act.put, sA, sB, sC])
    clear hi5 hb5
    refine wpAnyH_ready (rs := [8]) (by kernel_rfl) (by simp) ?_
    refine (AllReadyH.cons rfl (fun K hK => ?_) AllReadyH.nil)
    go_simp
    refine (Trace_any none ia none none none none 0 4 0 0 0 0 sevC [] [] sevF 9 w5 (seven_args HI.out) seven_lim HLB.out).mono ?_
    rw [seven_trace]
    rintro er w6 ⟨rv, rfl, ho6, hb6⟩
    have HT := Lib.hid (own_intAt ho6)
    have HB := Lib.hid (btrans HB.out HB.out.size hb6); have HX := Lib.hid (HX.out.call hb6); have HY := Lib.hid (HY.out.call hb6); have HLB := Lib.hid (HLB.out.below hb6)
    have HS := Lib.hid (HS.out.call hb6)
    refine hK.out _ _ ?_ (fun hHeld => ?_)
    · exact HY.out
    clear hK K
    (try simp only [Act.put, sA, sB, sC])
    clear ho6 hb6
    refine wpAnyH_ready (rs := [10]) (by kernel_rfl) (by simp) ?_
    refine (AllReadyH.cons rfl (fun K hK => ?_) AllReadyH.nil)
    go_simp
    refine (sameInts_any rv (.slice (some ⟨w3.heap.size, 0, none⟩) 4 4) [0, 1, 2, 3] [0, 1, 2, 3] w6 HT.out (cellsAt_box HS.out) (by decide)).mono ?_
    rw [decide_eq_true rfl]
    rintro er w7 ⟨rfl, hb7⟩
    have HB := Lib.hid (btrans HB.out HB.out.size hb7); have HX := Lib.hid (HX.out.call hb7); have HY := Lib.hid (HY.out.call hb7); have HLB := Lib.hid (HLB.out.below hb7)
    refine hK.out _ _ ?_ (fun hHeld => ?_)
    · exact HY.out
    clear hK K
    (try simp only [Act.put, sA, sB, sC])
    clear hb7
    refine tkX (i := 11) 17 ?_
    simp only [sA, sB, sC]
    refine tkX (i := 12) 0 ?_
    simp only [sA, sB]
    refine wpAnyH_done (by kernel_rfl) ?_ _
    go_wp2
    go_ret
    exact ⟨rfl, HB.out⟩
end Go.Proofs.YtnglaegofhpleaaGreatDoor
