/- What the claim needs of: VmWr, VmWs, VmYp, VmWb, VmWd, VmYb, VmWc, VmWe, VmWf. No conditions. -/
import Derived.Test.YtnglaegofhpleaaGreatDoorZt5
import Derived.Test.YtnglaegofhpleaaGreatDoorRows
import Derived.WalkKit
import Derived.WalkSpells
import Derived.WalkLawsBesides
import Derived.Lib.SlBytesRow
import Derived.Lib.Hide
import Derived.Lib.ParseIntBTie
import Derived.Lib.ItoaLen
import Derived.Shelf.Small.Strs
import Derived.Shelf.Small.Wraps
import Derived.Shelf.Strconv.Itoa0
import Derived.Shelf.Strconv.Itoa1
import Derived.Shelf.LaysM
import Derived.Shelf.Strconv.Itoa2
import Derived.Shelf.Strconv.Itoa3
import Derived.Shelf.Strconv.Itoa4
import Derived.Shelf.Strings.Fields
import Derived.Shelf.Slices.Turned
import Derived.Lib.SmallJoins
import Derived.Lib.AppendIntMem
import Derived.Deep.RegionHeld3
import Derived.Outline
import Derived.Deep.Cut
import Derived.Deep.CutRange
import Derived.Deep.DeepCutAuto
import Derived.Deep.RegionLaw
import Derived.Lib.Builder
import Derived.Lib.AppendStr
import Derived.Lib.UnsafeStr
import Derived.Laws.Externs
import Derived.Laws.AppendOwnNone
import Derived.Deep.DeepAppendWide
import Derived.Laws.RangeAny
import Derived.Lib.IndexLaws
import Derived.Lib.LaidTab
import Derived.Shelf.Spec.SlicesInsert
import Derived.Shelf.Spec.SlicesInsertGrow
import Derived.Shelf.Spec.SearchS
import Derived.OrdersIn
import Derived.TacticsIn
import Derived.BigQuiet
import Derived.Tactics
import Derived.Tactics2
import Derived.Defers
import Derived.Recover
import Derived.Laws.Pointers
import Derived.Deep.AppendLies
import Derived.Laws.CopyOwn
import Derived.Stop.LaidErr
import Derived.LaidMore
import Derived.Deep.Slices
import Derived.OpenShut
import Derived.ProofKit
import Derived.SizedLaws
import Derived.SliceStrings
import Derived.HandedShaped
import Derived.Shelf.Vars
namespace Go.Proofs.YtnglaegofhpleaaGreatDoor
open Go.RowKit

/-- a value that the machine may hold -/
def GdV (v : Vl) : Prop := fits v.n = true ∧ (v = v00 ∨ varB v = true)
theorem gd_num {n : Int} (h : fits n = true) : GdV (numV n) := ⟨h, .inr rfl⟩
theorem gd_tru (b : Bool) : GdV (truV b) := by cases b <;> exact ⟨rfl, .inr rfl⟩
theorem gd_v00 : GdV v00 := ⟨rfl, .inl rfl⟩
theorem gd_str {s : List UInt8} (h : plB s = true) : GdV (strVl s) := ⟨rfl, .inr (by unfold varB strVl vaB; simpa using h)⟩
theorem gd_plain {v : Vl} (h : GdV v) (hk : v.k = 2) : plB v.s = true := by
  rcases h.2 with rfl | h
  · simp [v00] at hk
  · unfold varB vaB at h; simp [hk] at h; exact h.2
theorem gd_ok {v : Vl} (h : GdV v) : OkV v := by
  have hf := h.1
  unfold fits at hf
  simp only [Bool.and_eq_true, decide_eq_true_eq] at hf
  refine ⟨hf.1, hf.2, ?_⟩
  rcases h.2 with rfl | h2
  · simp [v00]
  · unfold varB vaB at h2
    by_cases h3 : v.k = 3
    · rw [if_pos h3] at h2; simp at h2; rw [h2.2]; simp
    rw [if_neg h3] at h2
    by_cases h0 : v.k = 0
    · simp [h0] at h2
    by_cases h1 : v.k = 1
    · simp [h1] at h2; rw [h2]; simp
    by_cases h2k : v.k = 2
    · have := gd_plain h h2k
      unfold plB at this
      simp only [Bool.and_eq_true, decide_eq_true_eq] at this
      omega
    · simp [h0, h1, h2k] at h2
theorem gd_key {v : Vl} (hf : fits v.n = true) (hv : vaB v = true) : GdV v := by
  refine ⟨hf, ?_⟩
  by_cases h0 : v.k = 0
  · left
    unfold vaB at hv
    rw [if_pos h0] at hv
    simp only [Bool.and_eq_true, decide_eq_true_eq, beq_iff_eq] at hv
    cases v
    simp only at h0 hv
    rw [h0, hv.1, hv.2]; rfl
  · right
    unfold varB
    by_cases h3 : v.k = 3
    · unfold vaB at hv
      simp [h3] at hv
    · rw [if_neg h3, hv]; simp [h0]
theorem ari_fits (op a b : Int) (_ha : fits a = true) (hb : fits b = true) : (ariS op a b).2 = 0 → fits (ariS op a b).1 = true := by
  have hmod : (modS a b).2 = 0 → fits (modS a b).1 = true := by
    unfold modS
    split
    · intro h; cases h
    · rename_i hb0
      intro _
      unfold fits at hb ⊢
      simp only [Bool.and_eq_true, decide_eq_true_eq] at hb ⊢
      rcases Int.lt_or_gt_of_ne hb0 with h | h
      · have e : a.fmod b = -((-a).fmod (-b)) := by rw [Int.neg_fmod_neg, Int.neg_neg]
        have h1 := Int.fmod_nonneg_of_pos (-a) (b := -b) (by omega)
        have h2 := Int.fmod_lt_of_pos (-a) (b := -b) (by omega)
        omega
      · have h1 := Int.fmod_nonneg_of_pos a h
        have h2 := Int.fmod_lt_of_pos a h
        omega
  unfold ariS
  split
  · unfold addS; split
    · intro _; assumption
    · intro h; cases h
  split
  · unfold subS; split
    · intro _; assumption
    · intro h; cases h
  split
  · unfold mulS; split
    · intro _; assumption
    · intro h; cases h
  split
  · unfold divS; split
    · intro h; cases h
    · split
      · intro _; assumption
      · intro h; cases h
  · exact hmod
theorem exS_good {x : Int × Int} (h : x.2 = 0 → fits x.1 = true) {v : Vl} (e : exS x = .ok v) : GdV v := by
  unfold exS at e
  split at e
  · rename_i h0; cases e; exact gd_num (h h0)
  · split at e <;> cases e
theorem txS_good {s : List UInt8} (h : s.length ≤ 64 → plB s = true) {v : Vl} (e : txS s = .ok v) : GdV v := by
  unfold txS at e
  split at e
  · cases e
  · cases e; exact gd_str (h (by omega))
theorem itoa_byte2 {n : Int} : ∀ c ∈ Lib.itoa n, isDig c = true ∨ c = 45 := by
  intro c hc
  unfold Lib.itoa at hc
  have hall := fun (m : Nat) (c : UInt8) (h : c ∈ Lib.decDigits m) => List.all_eq_true.1 (decDigits_all m) c h
  split at hc
  · rcases List.mem_cons.1 hc with h | h
    · exact .inr h
    · exact .inl (hall _ _ h)
  · exact .inl (hall _ _ hc)
theorem itoa_okc (n : Int) : (Lib.itoa n).all okc = true := by
  rw [List.all_eq_true]
  intro c hc
  rcases itoa_byte2 c hc with h | rfl
  · unfold isDig at h; unfold okc
    simp only [Bool.and_eq_true, decide_eq_true_eq] at h ⊢
    omega
  · rfl
theorem binS_good {op : Int} {a b v : Vl} (ha : GdV a) (hb : GdV b) (e : binS op a b = .ok v) : GdV v := by
  unfold binS at e
  split at e
  · split at e
    · exact exS_good (ari_fits op a.n b.n ha.1 hb.1) e
    · cases e
  split at e
  · split at e
    · cases e; exact gd_tru _
    · cases e
  split at e
  · split at e
    · cases e; exact gd_tru _
    · cases e
  split at e
  · split at e
    · rename_i hk
      refine txS_good (fun hl => ?_) e
      have h1 := gd_plain ha hk.1
      have h2 := gd_plain hb hk.2
      unfold plB at h1 h2 ⊢
      simp only [Bool.and_eq_true, decide_eq_true_eq] at h1 h2 ⊢
      exact ⟨by rw [List.all_append, h1.1, h2.1]; rfl, hl⟩
    · cases e
  · unfold cmpS at e
    split at e
    · cases e; exact gd_tru _
    · cases e
theorem negS_fits (a : Int) : (negS a).2 = 0 → fits (negS a).1 = true := by
  unfold negS subS; split
  · intro _; assumption
  · intro h; cases h
theorem unS_good {op : Int} {a v : Vl} (e : unS op a = .ok v) (ha : GdV a) : GdV v := by
  unfold unS at e
  split at e
  · split at e
    · exact exS_good (negS_fits a.n) e
    · cases e
  split at e
  · split at e
    · cases e; exact gd_tru _
    · cases e
  split at e
  · split at e
    · refine txS_good (fun hl => ?_) e
      unfold plB; rw [itoa_okc]; simpa using hl
    · cases e
  · split at e
    · cases e
      refine gd_num ?_
      have := (gd_ok ha).2.2
      unfold fits; simp; omega
    · cases e
theorem gotS_good {op : Int} {u v : Vl} (hu : GdV u) (e : gotS op u = .ok v) : GdV v := by
  unfold gotS at e
  split at e
  · cases e; exact gd_tru _
  split at e
  · cases e
    split
    · exact gd_num rfl
    · exact gd_str rfl
  by_cases h22 : u.k = (if op = 22 then 1 else 2)
  · rw [if_pos h22] at e; cases e; exact hu
  · rw [if_neg h22] at e; cases e
theorem getP_good {M : List Pr} (h : ∀ p ∈ M, GdV p.v) (k : List UInt8) : GdV (getP M k) := by
  induction M with
  | nil => exact gd_v00
  | cons p r ih =>
    rw [getP_cons]
    split
    · exact h p (List.mem_cons_self ..)
    · exact ih fun q hq => h q (List.mem_cons_of_mem _ hq)
theorem st_good {M : List Pr} (hM : ∀ p ∈ M, fits p.v.n = true) (hs : stB M = true) : ∀ p ∈ M, GdV p.v := by
  intro p hp
  obtain ⟨i, hi, rfl⟩ := List.mem_iff_getElem.1 hp
  unfold stB srtB at hs
  simp only [Bool.and_eq_true] at hs
  have h1 := List.all_eq_true.1 hs.1 i (List.mem_range.2 hi)
  unfold stpP at h1
  simp only [Bool.and_eq_true] at h1
  rw [getD_at hi] at h1
  exact gd_key (hM _ hp) h1.2.1
theorem evS_good {al : Bool} {rd : List (List UInt8)} {M : List Pr} {op : Int} {l : List Vl} {v : Vl} (hM : ∀ p ∈ M, GdV p.v) (hl : ∀ v ∈ l, GdV v) (e : (evS al rd M op l).1 = .ok v) : GdV v := by
  unfold evS at e
  split at e
  · rename_i a
    have ha := hl a (by simp)
    unfold uneS at e
    split at e
    · exact unS_good e ha
    split at e
    · simp only at e
      unfold fetS at e
      split at e
      · cases e
      split at e
      · cases e
      · exact gotS_good (getP_good hM _) e
    · cases e
  · rename_i a b
    exact binS_good (hl a (by simp)) (hl b (by simp)) e
  · cases e
theorem evE_good {al : Bool} {rd wri : List (List UInt8)} {M : List Pr} {op : Int} {l : List Vl} {v : Vl} (hM : ∀ p ∈ M, fits p.v.n = true) (hl : ∀ v ∈ l, GdV v) (e : (evE al rd wri M op l).1 = .ok v) : GdV v := by
  unfold evE at e
  split at e
  · rename_i h
    simp only [Bool.and_eq_true] at h
    exact evS_good (st_good hM h.1) hl e
  · cases e
theorem onePr_fits {L : List Pr} (hL : ∀ p ∈ L, fits p.v.n = true) (k : List UInt8) : ∀ p ∈ onePr L k, fits p.v.n = true := by
  have hg : fits (getP L k).n = true := by
    induction L with
    | nil => rfl
    | cons p r ih =>
      rw [getP_cons]
      split
      · exact hL p (List.mem_cons_self ..)
      · exact ih fun q hq => hL q (List.mem_cons_of_mem _ hq)
  intro p hp
  unfold onePr at hp
  split at hp
  · cases hp
  · simp at hp; rw [hp]; exact hg
theorem opEv_good {M : List Pr} {F : Ft} {own : List Pr} {op : Int} {l : List Vl} {v : Vl} (hM : ∀ p ∈ M, fits p.v.n = true) (ho : ∀ p ∈ own, fits p.v.n = true) (hl : ∀ v ∈ l, GdV v) (e : (opEv M F own op l).1 = .ok v) : GdV v := by
  unfold opEv at e
  split at e
  · split at e
    · exact evE_good (onePr_fits ho _) hl e
    · exact evE_good (onePr_fits hM _) hl e
  · exact evE_good (fun p hp => by cases hp) hl e
theorem evE_reads (al : Bool) (rd wri : List (List UInt8)) (M : List Pr) (op : Int) (l : List Vl) : (evE al rd wri M op l).2 = [] ∨ ∃ k, (evE al rd wri M op l).2 = [k] := by
  unfold evE
  split
  · unfold evS
    split
    · unfold uneS
      split
      · exact .inl rfl
      split
      · simp only
        unfold rdsR
        split
        · exact .inr ⟨_, rfl⟩
        · exact .inl rfl
      · exact .inl rfl
    · exact .inl rfl
    · exact .inl rfl
  · exact .inl rfl
theorem opEv_reads (M : List Pr) (F : Ft) (own : List Pr) (op : Int) (l : List Vl) : (opEv M F own op l).2 = [] ∨ ∃ k, (opEv M F own op l).2 = [k] := by
  unfold opEv
  split
  · split <;> exact evE_reads ..
  · exact evE_reads ..
theorem withK_len (L : List (List UInt8)) (k : List UInt8) : (withK L k).length ≤ L.length + 1 := by
  unfold withK
  split
  · omega
  · rw [putK_len _ _ _ (pos_le L k)]
    exact Nat.le_refl _
theorem sort_with {L : List (List UInt8)} (k : List UInt8) (hs : SortK L) : SortK (withK L k) := by
  unfold withK
  split
  · exact hs
  rename_i hf
  have hlo : ∀ a ∈ L.take (posK L k), Op.bytesLess a k = true := by
    intro a ha
    obtain ⟨i, hi, rfl⟩ := List.mem_iff_getElem.1 ha
    rw [List.length_take] at hi
    have := pos_lo (L := L) (k := k) (t := i) (by omega)
    rw [getD_at (by omega)] at this
    rw [List.getElem_take]; exact this
  have hhi : ∀ a ∈ L.drop (posK L k), Op.bytesLess k a = true := by
    intro a ha
    obtain ⟨i, hi, rfl⟩ := List.mem_iff_getElem.1 ha
    rw [List.length_drop] at hi
    have h1 := pos_hi (L := L) (k := k) hs (t := posK L k + i) (by omega)
    rw [getD_at (by omega)] at h1
    rw [List.getElem_drop]
    cases hb : Op.bytesLess k L[posK L k + i] with
    | true => rfl
    | false =>
      have he := bl_tri h1 hb
      exfalso
      cases i with
      | zero =>
        apply hf
        unfold fndK
        rw [decide_eq_true_eq]
        exact ⟨by omega, by rw [getD_at (by omega)]; exact he⟩
      | succ i =>
        have h2 := pos_hi (L := L) (k := k) hs (t := posK L k) (Nat.le_refl _)
        rw [getD_at (by omega)] at h2
        have h3 := (List.pairwise_iff_getElem.1 hs) (posK L k) (posK L k + (i + 1)) (by omega) (by omega) (by omega)
        rw [he, h2] at h3; cases h3
  unfold putK SortK
  rw [List.pairwise_append]
  refine ⟨List.Pairwise.sublist (List.take_sublist ..) hs, ?_, ?_⟩
  · rw [List.pairwise_cons]
    exact ⟨hhi, List.Pairwise.sublist (List.drop_sublist ..) hs⟩
  · intro a ha b hb
    rcases List.mem_cons.1 hb with rfl | hb
    · exact hlo a ha
    · exact bl_trans (hlo a ha) (hhi b hb)
end Go.Proofs.YtnglaegofhpleaaGreatDoor
namespace Go.Proofs.YtnglaegofhpleaaGreatDoor
open Go.RowKit

structure Gd (m : Mc) (N : Nat) : Prop where
  stk : ∀ i, i < m.dep → GdV (m.stk i)
  slo : ∀ i, GdV (m.slo i)
  own : ∀ p ∈ m.own, GdV p.v ∧ keyB p.key = true
  rds : SortK m.rds
  puts : SortK m.puts
  out : m.out.length ≤ 16
  wrs : m.wrs = []
  stp : 0 ≤ m.steps ∧ m.steps ≤ 16384
  nr : m.rds.length ≤ N
  np : m.puts.length ≤ N
  no : m.own.length ≤ N
theorem Gd.more {m : Mc} {N N' : Nat} (h : Gd m N) (hn : N ≤ N') : Gd m N' :=
  ⟨h.stk, h.slo, h.own, h.rds, h.puts, h.out, h.wrs, h.stp, Nat.le_trans h.nr hn, Nat.le_trans h.np hn, Nat.le_trans h.no hn⟩
theorem Gd.push {m : Mc} {N : Nat} (h : Gd m N) {v : Vl} (hv : GdV v) : Gd (pushM m v) N :=
  ⟨fun i hi => by
      show GdV (setV m.stk m.dep v i)
      unfold setV
      split
      · exact hv
      · rename_i hne
        have hi2 : i < m.dep + 1 := hi
        exact h.stk i (by omega), h.slo, h.own, h.rds, h.puts, h.out, h.wrs, h.stp, h.nr, h.np, h.no⟩
theorem Gd.drop {m : Mc} {N : Nat} (h : Gd m N) (n : Nat) : Gd (dropM m n) N :=
  ⟨fun i hi => h.stk i (by have hi2 : i < m.dep - n := hi; omega), h.slo, h.own, h.rds, h.puts, h.out, h.wrs, h.stp, h.nr, h.np, h.no⟩
theorem Gd.pop {m : Mc} {N : Nat} (h : Gd m N) : Gd (popM m) N := h.drop 1
theorem Gd.popd {m : Mc} {N : Nat} (h : Gd m N) (hd : 1 ≤ m.dep) : GdV (popV m) := h.stk _ (by omega)
theorem Gd.top {m : Mc} {N : Nat} (h : Gd m N) {n : Nat} (hd : n ≤ m.dep) : ∀ v ∈ topV m n, GdV v := by
  intro v hv
  unfold topV at hv
  rw [List.mem_map] at hv
  obtain ⟨i, hi, rfl⟩ := hv
  rw [List.mem_range] at hi
  exact h.stk _ (by omega)
theorem mem_setP {L : List Pr} {k : List UInt8} {v : Vl} {p : Pr} (h : p ∈ setP L k v) : p ∈ L ∨ p = ⟨k, v⟩ := by
  unfold setP at h
  split at h
  · exact List.mem_or_eq_of_mem_set h
  · rcases List.mem_append.1 h with h | h
    · exact .inl h
    · exact .inr (by simpa using h)
theorem setP_len (L : List Pr) (k : List UInt8) (v : Vl) : (setP L k v).length ≤ L.length + 1 := by
  unfold setP; split
  · rw [List.length_set]; omega
  · rw [List.length_append]; exact Nat.le_refl _
theorem end_not {st c : Int} {k : List UInt8} {m : Mc} {P : Prop} (h : (endM st c k m).done = false) : P := by rw [endM_done] at h; cases h
theorem Gd.store {m : Mc} {N : Nat} (h : Gd m N) {F : Ft} {k v : Vl} (hv : GdV v) (hd : (storeM F k v m).done = false) : Gd (storeM F k v m) (N + 1) ∧ (storeM F k v m).dep = m.dep := by
  unfold storeM at hd ⊢
  by_cases h1 : k.k ≠ 2
  · rw [if_pos h1] at hd; exact end_not hd
  rw [if_neg h1] at hd ⊢
  by_cases h2 : keyB k.s = false
  · rw [if_pos h2] at hd; exact end_not hd
  rw [if_neg h2] at hd ⊢
  by_cases h3 : F.all = false ∧ F.wr.contains k.s = false
  · rw [if_pos h3] at hd; exact end_not hd
  rw [if_neg h3]
  refine ⟨⟨h.stk, h.slo, fun p hp => ?_, h.rds, sort_with _ h.puts, h.out, h.wrs, h.stp, Nat.le_succ_of_le h.nr, Nat.le_trans (withK_len _ _) (Nat.succ_le_succ h.np), Nat.le_trans (setP_len _ _ _) (Nat.succ_le_succ h.no)⟩, rfl⟩
  rcases mem_setP hp with q | rfl
  · exact h.own p q
  · exact ⟨hv, by simpa using h2⟩
theorem Gd.emit {m : Mc} {N : Nat} (h : Gd m N) {v : Vl} (hd : (emitM v m).done = false) : Gd (emitM v m) N ∧ (emitM v m).dep = m.dep := by
  unfold emitM at hd ⊢
  split at hd
  · exact end_not hd
  rename_i h1
  rw [if_neg h1]
  split at hd
  · exact end_not hd
  rename_i h2
  rw [if_neg h2]
  have := h.out
  exact ⟨⟨h.stk, h.slo, h.own, h.rds, h.puts, by show (m.out ++ [v]).length ≤ 16; rw [List.length_append, List.length_singleton]; omega, h.wrs, h.stp, h.nr, h.np, h.no⟩, rfl⟩
theorem Gd.res {m : Mc} {N : Nat} (h : Gd m N) {R : Rs} (hR : ∀ v, R = .ok v → GdV v) (hd : (resM R m).done = false) : Gd (resM R m) N ∧ (resM R m).dep = m.dep + 1 := by
  cases R with
  | ok v => exact ⟨h.push (hR v rfl), rfl⟩
  | ab c => exact end_not hd
  | re k => exact end_not hd
theorem Gd.op {m : Mc} {N : Nat} (h : Gd m N) {M : List Pr} {F : Ft} (hM : ∀ p ∈ M, fits p.v.n = true) {op : Int} {l : List Vl} (hl : ∀ v ∈ l, GdV v) (hd : (opM M F op l m).done = false) : Gd (opM M F op l m) (N + 1) ∧ (opM M F op l m).dep = m.dep + 1 := by
  unfold opM at hd ⊢
  have hg := fun v e => opEv_good (F := F) (op := op) (v := v) hM (fun p hp => (h.own p hp).1.1) hl e
  have hr := opEv_reads M F m.own op l
  generalize opEv M F m.own op l = q at hd hg hr ⊢
  by_cases hh : hidB m.own op (l.headD v00) = true
  · rw [if_pos hh] at hd ⊢
    exact (h.more (Nat.le_succ N)).res hg hd
  · rw [if_neg hh] at hd ⊢
    have h2 : Gd { m with rds := q.2.foldl withK m.rds } (N + 1) := by
      refine ⟨h.stk, h.slo, h.own, ?_, h.puts, h.out, h.wrs, h.stp, ?_, Nat.le_succ_of_le h.np, Nat.le_succ_of_le h.no⟩
      · rcases hr with e | ⟨k, e⟩
        · show SortK (q.2.foldl withK m.rds); rw [e]; exact h.rds
        · show SortK (q.2.foldl withK m.rds); rw [e]; exact sort_with k h.rds
      · rcases hr with e | ⟨k, e⟩
        · show (q.2.foldl withK m.rds).length ≤ N + 1; rw [e]; exact Nat.le_succ_of_le h.nr
        · show (q.2.foldl withK m.rds).length ≤ N + 1; rw [e]; exact Nat.le_trans (withK_len _ _) (Nat.succ_le_succ h.nr)
    exact h2.res hg hd
theorem Gd.tick {m : Mc} {N : Nat} (h : Gd m N) (hd : (tickM m).done = false) : Gd (tickM m) N ∧ (tickM m).dep = m.dep := by
  unfold tickM at hd ⊢
  split at hd
  · exact end_not hd
  rename_i h1
  rw [if_neg h1]
  have := h.stp
  exact ⟨⟨h.stk, h.slo, h.own, h.rds, h.puts, h.out, h.wrs, (by show 0 ≤ m.steps + 1 ∧ m.steps + 1 ≤ 16384; omega), h.nr, h.np, h.no⟩, rfl⟩
theorem Gd.loop {m : Mc} {N : Nat} (_h : Gd m N) {x : Ins} (hd : (loopM x m).done = false) : loopM x m = m := by
  unfold loopM at hd ⊢
  split at hd
  · exact end_not hd
  rename_i h1
  rw [if_neg h1]
  split at hd
  · exact end_not hd
  rename_i h2
  rw [if_neg h2]
theorem put_step {F : Ft} {m : Mc} (hd : (putM F m).done = false) : putM F m = storeM F (popV (popM m)) (popV m) (popM (popM m)) := by
  unfold putM at hd ⊢
  split at hd
  · exact end_not hd
  rename_i h1
  rw [if_neg h1]
theorem fal_step {m : Mc} (hd : (falM m).done = false) : falM m = popM m ∧ (popV m).k = 3 := by
  unfold falM at hd ⊢
  by_cases h : (popV m).k ≠ 3
  · rw [if_pos h] at hd; exact end_not hd
  · rw [if_neg h]; exact ⟨rfl, by simpa using h⟩
/-- a step that does not end the run -/
theorem Gd.step {c : Cd} (hv : valC c = 0) (hcn : ∀ x ∈ c.l, fits x.n = true) {M : List Pr} {F : Ft} (hM : ∀ p ∈ M, fits p.v.n = true) {m : Mc} {N : Nat} (h : Gd m N) {k : Nat} (hk : k < c.l.length) (hdep : (m.dep : Int) = (depth0 c).getD k 0) (hd : (stepM M F (c.l.getD k ins0) m).done = false) :
    Gd (stepM M F (c.l.getD k ins0) m) (N + 1) ∧ ((stepM M F (c.l.getD k ins0) m).dep : Int) = behI ((depth0 c).getD k 0) (c.l.getD k ins0) := by
  obtain ⟨ht, h64, -, -, -⟩ := step_ok hv hk
  have hi := all_get (valC_parts hv).2.2.2.2.1 hk ins0
  have hn : fits (c.l.getD k ins0).n = true := by rw [getD_at hk]; exact hcn _ (List.getElem_mem hk)
  generalize c.l.getD k ins0 = x at hd ht h64 hi hn ⊢
  rw [← hdep] at ht h64 ⊢
  have hop : 1 ≤ x.op ∧ x.op ≤ 14 := by unfold insS at hi; simp only [Bool.and_eq_true, decide_eq_true_eq] at hi; exact hi.1
  have hM1 := h.more (Nat.le_succ N)
  unfold behI putI takeI
  unfold takeI at ht
  unfold stepM at hd ⊢
  by_cases e1 : x.op = 1
  · rw [if_pos e1]; exact ⟨hM1.push (gd_num hn), by show ((m.dep + 1 : Nat) : Int) = _; simp [e1]⟩
  rw [if_neg e1] at hd ⊢
  by_cases e2 : x.op = 2
  · rw [if_pos e2]
    refine ⟨hM1.push (gd_str ?_), by show ((m.dep + 1 : Nat) : Int) = _; simp [e2]⟩
    unfold insS at hi; simp only [Bool.and_eq_true, decide_eq_true_eq, if_pos e2] at hi
    exact hi.2.2
  rw [if_neg e2] at hd ⊢
  by_cases e3 : x.op = 3
  · rw [if_pos e3]; exact ⟨hM1.push (h.slo _), by show ((m.dep + 1 : Nat) : Int) = _; simp [e3]⟩
  rw [if_neg e3] at hd ⊢
  by_cases e4 : x.op = 4
  · rw [if_pos e4]
    have h1 : 1 ≤ m.dep := by simp [e4] at ht; omega
    have hp := hM1.pop
    refine ⟨⟨hp.stk, fun i => ?_, hp.own, hp.rds, hp.puts, hp.out, hp.wrs, hp.stp, hp.nr, hp.np, hp.no⟩, by show ((m.dep - 1 : Nat) : Int) = _; simp [e4]; omega⟩
    show GdV (setV m.slo x.a.toNat (popV m) i)
    unfold setV; split
    · exact h.popd h1
    · exact h.slo i
  rw [if_neg e4] at hd ⊢
  by_cases e5 : x.op = 5
  · rw [if_pos e5] at hd ⊢
    have hta : (arS x.a).toNat ≤ m.dep := by simp [e5] at ht; omega
    have har : 1 ≤ arS x.a := by unfold insS at hi; simp [e5] at hi; exact hi.2
    obtain ⟨g1, g2⟩ := (h.drop (arS x.a).toNat).op hM (h.top hta) hd
    refine ⟨g1, ?_⟩
    rw [g2]
    show ((m.dep - (arS x.a).toNat + 1 : Nat) : Int) = _
    simp [e5]; omega
  rw [if_neg e5] at hd ⊢
  by_cases e6 : x.op = 6
  · rw [if_pos e6]; exact ⟨hM1, by simp [e6]⟩
  rw [if_neg e6] at hd ⊢
  by_cases e7 : x.op = 7
  · rw [if_pos e7] at hd ⊢
    have h1 : 1 ≤ m.dep := by simp [e7] at ht; omega
    rw [(fal_step hd).1]
    exact ⟨hM1.pop, by show ((m.dep - 1 : Nat) : Int) = _; simp [e7]; omega⟩
  rw [if_neg e7] at hd ⊢
  by_cases e8 : x.op = 8
  · rw [if_pos e8] at hd ⊢
    have h1 : 2 ≤ m.dep := by simp [e8] at ht; omega
    have hq := put_step hd
    rw [hq] at hd ⊢
    obtain ⟨g1, g2⟩ := (h.pop.pop).store (h.popd (by omega)) hd
    exact ⟨g1, by rw [g2]; show ((m.dep - 1 - 1 : Nat) : Int) = _; simp [e8]; omega⟩
  rw [if_neg e8] at hd ⊢
  by_cases e9 : x.op = 9
  · rw [if_pos e9] at hd ⊢
    have h1 : 1 ≤ m.dep := by simp [e9] at ht; omega
    obtain ⟨g1, g2⟩ := (h.pop).store gd_v00 hd
    exact ⟨g1, by rw [g2]; show ((m.dep - 1 : Nat) : Int) = _; simp [e9]; omega⟩
  rw [if_neg e9] at hd ⊢
  by_cases e10 : x.op = 10
  · rw [if_pos e10] at hd ⊢
    have h1 : 1 ≤ m.dep := by simp [e10] at ht; omega
    obtain ⟨g1, g2⟩ := (hM1.pop).emit hd
    exact ⟨g1, by rw [g2]; show ((m.dep - 1 : Nat) : Int) = _; simp [e10]; omega⟩
  rw [if_neg e10] at hd ⊢
  by_cases e11 : x.op = 11
  · rw [if_pos e11] at hd; exact end_not hd
  rw [if_neg e11] at hd ⊢
  by_cases e12 : x.op = 12
  · rw [if_pos e12] at hd ⊢
    rw [h.loop hd]
    exact ⟨hM1, by simp [e12]⟩
  rw [if_neg e12] at hd ⊢
  by_cases e13 : x.op = 13
  · rw [if_pos e13] at hd; exact end_not hd
  rw [if_neg e13] at hd ⊢
  have e14 : x.op = 14 := by omega
  rw [if_pos e14] at hd ⊢
  obtain ⟨g1, g2⟩ := hM1.tick hd
  exact ⟨g1, by rw [g2]; simp [e14]⟩
/-- the depth at the next place -/
theorem next_dep {c : Cd} (hv : valC c = 0) {pc : Int} (h1 : 0 ≤ pc ∧ pc < (c.l.length : Int)) {M : List Pr} {F : Ft} {m : Mc} (hd : (stepM M F (c.l.getD pc.toNat ins0) m).done = false) :
    (depth0 c).getD (nextI (c.l.getD pc.toNat ins0) pc m).toNat 0 = behI ((depth0 c).getD pc.toNat 0) (c.l.getD pc.toNat ins0) := by
  obtain ⟨-, -, hz, hj, hl⟩ := step_ok hv (k := pc.toNat) (by omega)
  generalize c.l.getD pc.toNat ins0 = x at hd hz hj hl ⊢
  have h13 : x.op ≠ 13 := by
    intro e; unfold stepM at hd; rw [e] at hd; simp [endM_done] at hd
  have h11 : x.op ≠ 11 := by
    intro e; unfold stepM at hd; rw [e] at hd; simp [endM_done] at hd
  unfold nextI
  by_cases h6 : x.op = 6
  · rw [if_pos (Or.inl h6), (hj (by unfold jmpI; rw [h6]; rfl)).2.2, hz (.inl (by unfold leaI; rw [h6]; rfl))]
  · have hlf := hl (by unfold leaI; simp [h6, h11, h13])
    by_cases h7 : x.op = 7 ∧ (popV m).k = 3 ∧ (popV m).n = 0
    · rw [if_pos (Or.inr h7), (hj (by unfold jmpI; rw [h7.1]; rfl)).2.2, hz (.inr h7.1)]
    · rw [if_neg (by rintro (e | e); exact h6 e; exact h7 e), show (pc + 1).toNat = pc.toNat + 1 by omega]
      exact hlf.2
/-- what holds at every place of a run -/
structure InvM (c : Cd) (pc : Int) (m : Mc) (N : Nat) : Prop where
  pc0 : 0 ≤ pc ∧ pc < (c.l.length : Int)
  dep : (m.dep : Int) = (depth0 c).getD pc.toNat 0
  gd : Gd m N
theorem InvM.step {c : Cd} (hv : valC c = 0) (hcn : ∀ x ∈ c.l, fits x.n = true) {M : List Pr} {F : Ft} (hM : ∀ p ∈ M, fits p.v.n = true) {pc : Int} {m : Mc} {N : Nat} (h : InvM c pc m N) (hd : (stepM M F (c.l.getD pc.toNat ins0) m).done = false) :
    InvM c (nextI (c.l.getD pc.toNat ins0) pc m) (stepM M F (c.l.getD pc.toNat ins0) m) (N + 1) := by
  obtain ⟨g1, g2⟩ := h.gd.step hv hcn hM (k := pc.toNat) (by have := h.pc0; omega) h.dep hd
  exact ⟨(next_ok hv h.pc0 M F m hd).2, by rw [g2, next_dep hv h.pc0 hd], g1⟩
end Go.Proofs.YtnglaegofhpleaaGreatDoor
namespace Go.Proofs.YtnglaegofhpleaaGreatDoor
open Go.RowKit

theorem srt_lt {M : List Pr} (h : srtB M = true) : ∀ j i, i < j → j < M.length → Op.bytesLess (M.getD i p00).key (M.getD j p00).key = true
  | j + 1, i, hij, hj => by
    have hs := List.all_eq_true.1 h (j + 1) (List.mem_range.2 hj)
    unfold stpP at hs
    simp only [Bool.and_eq_true, Bool.or_eq_true, decide_eq_true_eq, Nat.add_sub_cancel] at hs
    have hs2 : Op.bytesLess (M.getD j p00).key (M.getD (j + 1) p00).key = true := by
      rcases hs.2.2 with q | q
      · exact absurd q (Nat.succ_ne_zero _)
      · exact q
    by_cases e : i = j
    · subst e; exact hs2
    · exact bl_trans (srt_lt h j i (by omega) (by omega)) hs2
theorem st_sort {M : List Pr} (h : stB M = true) : SortK (M.map Pr.key) := by
  unfold SortK
  rw [List.pairwise_map, List.pairwise_iff_getElem]
  intro i j hi hj hij
  have hs : srtB M = true := by unfold stB at h; simp only [Bool.and_eq_true] at h; exact h.1
  have := srt_lt hs j i hij hj
  rwa [getD_at hi, getD_at hj] at this
theorem st_each {M : List Pr} (h : stB M = true) : ∀ p ∈ M, keyB p.key = true ∧ vaB p.v = true ∧ p.v.k ≠ 0 := by
  intro p hp
  obtain ⟨i, hi, rfl⟩ := List.mem_iff_getElem.1 hp
  unfold stB srtB at h
  simp only [Bool.and_eq_true, Bool.not_eq_true'] at h
  have h1 := List.all_eq_true.1 h.1 i (List.mem_range.2 hi)
  unfold stpP at h1
  simp only [Bool.and_eq_true] at h1
  rw [getD_at hi] at h1
  refine ⟨h1.1, h1.2.1, fun e => ?_⟩
  have h2 := List.any_eq_false.1 h.2 _ (List.getElem_mem hi)
  unfold absB at h2
  exact h2 (decide_eq_true e)
theorem srt_make {M : List Pr} (h1 : ∀ p ∈ M, keyB p.key = true ∧ vaB p.v = true) (h2 : SortK (M.map Pr.key)) : srtB M = true := by
  unfold SortK at h2
  rw [List.pairwise_map, List.pairwise_iff_getElem] at h2
  unfold srtB
  rw [List.all_eq_true]
  intro i hi
  have hi := List.mem_range.1 hi
  unfold stpP
  have h3 := h1 _ (List.getElem_mem hi)
  rw [getD_at hi, h3.1, h3.2]
  by_cases h0 : i = 0
  · rw [decide_eq_true h0]; rfl
  · have hj : i - 1 < M.length := by omega
    rw [getD_at hj, h2 (i - 1) i hj hi (by omega)]; simp
theorem st_make {M : List Pr} (h1 : ∀ p ∈ M, keyB p.key = true ∧ vaB p.v = true ∧ p.v.k ≠ 0) (h2 : SortK (M.map Pr.key)) : stB M = true := by
  unfold stB
  rw [srt_make (fun p hp => ⟨(h1 p hp).1, (h1 p hp).2.1⟩) h2, Bool.true_and, Bool.not_eq_true', List.any_eq_false]
  intro p hp
  unfold absB
  simpa using (h1 p hp).2.2
theorem sort_nodup {L : List (List UInt8)} (h : SortK L) : L.Nodup := by
  unfold SortK at h
  exact h.imp fun {a b} hab e => by subst e; rw [bl_irrefl] at hab; cases hab
theorem getP_mem {M : List Pr} (hn : (M.map Pr.key).Nodup) {p : Pr} (hp : p ∈ M) : getP M p.key = p.v := by
  induction M with
  | nil => cases hp
  | cons q r ih =>
    rw [List.map_cons, List.nodup_cons] at hn
    rw [getP_cons]
    rcases List.mem_cons.1 hp with rfl | hp
    · exact if_pos rfl
    · rw [if_neg (show ¬ q.key = p.key from fun e => hn.1 (by rw [e]; exact List.mem_map.2 ⟨p, hp, rfl⟩)), ih hn.2 hp]
theorem getP_or (M : List Pr) (k : List UInt8) : getP M k = v00 ∨ ∃ p ∈ M, p.key = k ∧ getP M k = p.v := by
  induction M with
  | nil => exact .inl rfl
  | cons q r ih =>
    rw [getP_cons]
    by_cases e : q.key = k
    · exact .inr ⟨q, List.mem_cons_self .., e, if_pos e⟩
    · rw [if_neg e]
      rcases ih with h | ⟨p, hp, h⟩
      · exact .inl h
      · exact .inr ⟨p, List.mem_cons_of_mem _ hp, h⟩
theorem getP_val {M : List Pr} (h : stB M = true) (k : List UInt8) : vaB (getP M k) = true ∧ ((getP M k).k = 0 → getP M k = v00) ∧ ((getP M k).k ≠ 0 → keyB k = true) := by
  rcases getP_or M k with e | ⟨p, hp, hk, e⟩
  · rw [e]; exact ⟨rfl, fun _ => rfl, fun q => absurd rfl q⟩
  · have := st_each h p hp
    rw [e]; exact ⟨this.2.1, fun q => absurd q this.2.2, fun _ => hk ▸ this.1⟩

-- applying writes
def putP (L : List Pr) (p : Pr) : List Pr := L.take (L.findIdx fun q => !Op.bytesLess q.key p.key) ++ p :: L.drop (L.findIdx fun q => !Op.bytesLess q.key p.key)
def addP (L : List Pr) (p : Pr) : List Pr := if p.v.k = 0 then L else putP L p
def keepP (b ws : List Pr) : List Pr := b.filter fun q => !hasK ws q.key
def applyP (b ws : List Pr) : List Pr := ws.foldl addP (keepP b ws)
def sameP (M : List Pr) (ks : List (List UInt8)) : List Pr := ks.map fun k => ⟨k, getP M k⟩
theorem mem_putP {L : List Pr} {p q : Pr} : q ∈ putP L p ↔ q = p ∨ q ∈ L := by
  unfold putP
  generalize (L.findIdx fun q => !Op.bytesLess q.key p.key) = i
  conv => rhs; rw [← List.take_append_drop i L]
  simp only [List.mem_append, List.mem_cons]
  exact or_left_comm
theorem putP_len (L : List Pr) (p : Pr) : (putP L p).length = L.length + 1 := by
  unfold putP
  rw [List.length_append, List.length_cons, List.length_take, List.length_drop]
  have : (L.findIdx fun q => !Op.bytesLess q.key p.key) ≤ L.length := List.findIdx_le_length
  omega
theorem putP_keys (L : List Pr) (p : Pr) : (putP L p).map Pr.key = putK (L.map Pr.key) (posK (L.map Pr.key) p.key) p.key := by
  unfold putP putK posK
  rw [List.findIdx_map, List.map_append, List.map_cons, List.map_take, List.map_drop]
  rfl
theorem fnd_not {L : List (List UInt8)} {k : List UInt8} (h : k ∉ L) : fndK L k = false := by
  unfold fndK
  rw [decide_eq_false_iff_not]
  rintro ⟨h1, h2⟩
  rw [getD_at h1] at h2
  exact h (h2 ▸ List.getElem_mem h1)
theorem sort_putP {L : List Pr} {p : Pr} (hs : SortK (L.map Pr.key)) (hn : p.key ∉ L.map Pr.key) : SortK ((putP L p).map Pr.key) := by
  have h := sort_with p.key hs
  unfold withK at h
  rw [if_neg (by rw [fnd_not hn]; simp)] at h
  rw [putP_keys]; exact h
theorem mem_add {ws : List Pr} {q : Pr} : ∀ {L : List Pr}, q ∈ ws.foldl addP L ↔ q ∈ L ∨ (q ∈ ws ∧ q.v.k ≠ 0) := by
  induction ws with
  | nil => intro L; simp
  | cons w r ih =>
    intro L
    rw [List.foldl_cons, ih]
    unfold addP
    by_cases h0 : w.v.k = 0
    · rw [if_pos h0, List.mem_cons]
      constructor
      · rintro (h | ⟨h, h1⟩)
        · exact .inl h
        · exact .inr ⟨.inr h, h1⟩
      · rintro (h | ⟨h | h, h1⟩)
        · exact .inl h
        · subst h; exact absurd h0 h1
        · exact .inr ⟨h, h1⟩
    · rw [if_neg h0, mem_putP, List.mem_cons]
      constructor
      · rintro ((h | h) | ⟨h, h1⟩)
        · subst h; exact .inr ⟨.inl rfl, h0⟩
        · exact .inl h
        · exact .inr ⟨.inr h, h1⟩
      · rintro (h | ⟨h | h, h1⟩)
        · exact .inl (.inr h)
        · exact .inl (.inl h)
        · exact .inr ⟨h, h1⟩
theorem sort_add : ∀ {ws L : List Pr}, (ws.map Pr.key).Nodup → SortK (L.map Pr.key) → (∀ w ∈ ws, w.key ∉ L.map Pr.key) → SortK ((ws.foldl addP L).map Pr.key)
  | [], L, _, hs, _ => hs
  | w :: r, L, hn, hs, hd => by
    rw [List.map_cons, List.nodup_cons] at hn
    rw [List.foldl_cons]
    unfold addP
    by_cases h0 : w.v.k = 0
    · rw [if_pos h0]; exact sort_add hn.2 hs fun x hx => hd x (List.mem_cons_of_mem _ hx)
    · rw [if_neg h0]
      refine sort_add hn.2 (sort_putP hs (hd w (List.mem_cons_self ..))) fun x hx hm => ?_
      rw [List.mem_map] at hm
      obtain ⟨q, hq, he⟩ := hm
      rcases mem_putP.1 hq with rfl | hq
      · exact hn.1 (he ▸ List.mem_map.2 ⟨x, hx, rfl⟩)
      · exact hd x (List.mem_cons_of_mem _ hx) (he ▸ List.mem_map.2 ⟨q, hq, rfl⟩)
theorem add_len : ∀ (ws L : List Pr), (ws.foldl addP L).length ≤ L.length + ws.length
  | [], L => Nat.le_refl _
  | w :: r, L => by
    rw [List.foldl_cons]
    have h := add_len r (addP L w)
    have h2 : (addP L w).length ≤ L.length + 1 := by
      unfold addP; split
      · omega
      · rw [putP_len]; omega
    rw [List.length_cons]; omega
theorem apply_len (b ws : List Pr) : (applyP b ws).length ≤ b.length + ws.length := by
  have h := add_len ws (keepP b ws)
  have h2 : (keepP b ws).length ≤ b.length := List.length_filter_le ..
  unfold applyP; omega
theorem mem_keep {b ws : List Pr} {q : Pr} : q ∈ keepP b ws ↔ q ∈ b ∧ q.key ∉ ws.map Pr.key := by
  unfold keepP hasK
  rw [List.mem_filter, Bool.not_eq_true', Bool.eq_false_iff, Ne, List.contains_iff_mem]
theorem apply_sort {b ws : List Pr} (hb : SortK (b.map Pr.key)) (hw : SortK (ws.map Pr.key)) : SortK ((applyP b ws).map Pr.key) := by
  refine sort_add (sort_nodup hw) ?_ fun w hw hm => ?_
  · unfold SortK at hb ⊢
    rw [List.pairwise_map] at hb ⊢
    exact hb.filter _
  · rw [List.mem_map] at hm
    obtain ⟨q, hq, he⟩ := hm
    exact (mem_keep.1 hq).2 (he ▸ List.mem_map.2 ⟨w, hw, rfl⟩)
theorem apply_mem {b ws : List Pr} {q : Pr} : q ∈ applyP b ws ↔ (q ∈ b ∧ q.key ∉ ws.map Pr.key) ∨ (q ∈ ws ∧ q.v.k ≠ 0) := by
  unfold applyP; rw [mem_add, mem_keep]
theorem apply_st {b ws : List Pr} (hb : stB b = true) (hk : SortK (ws.map Pr.key)) (hv : ∀ p ∈ ws, keyB p.key = true ∧ vaB p.v = true) : stB (applyP b ws) = true := by
  refine st_make (fun p hp => ?_) (apply_sort (st_sort hb) hk)
  rcases apply_mem.1 hp with ⟨h, _⟩ | ⟨h, h0⟩
  · exact st_each hb p h
  · exact ⟨(hv p h).1, (hv p h).2, h0⟩
theorem apply_get {b ws : List Pr} (hb : stB b = true) (hk : SortK (ws.map Pr.key)) {w : Pr} (hw : w ∈ ws) (h0 : w.v.k = 0 → w.v = v00) : getP (applyP b ws) w.key = w.v := by
  by_cases hz : w.v.k = 0
  · rw [h0 hz]
    refine getP_none _ fun hm => ?_
    rw [List.mem_map] at hm
    obtain ⟨q, hq, he⟩ := hm
    rcases apply_mem.1 hq with ⟨_, h⟩ | ⟨h, hz2⟩
    · exact h (he ▸ List.mem_map.2 ⟨w, hw, rfl⟩)
    · have e1 := getP_mem (sort_nodup hk) h
      have e2 := getP_mem (sort_nodup hk) hw
      rw [he] at e1
      exact hz2 (by rw [← e1, e2]; exact hz)
  · exact getP_mem (sort_nodup (apply_sort (st_sort hb) hk)) (apply_mem.2 (.inr ⟨hw, hz⟩))
theorem same_keys (M : List Pr) (ks : List (List UInt8)) : (sameP M ks).map Pr.key = ks := by
  unfold sameP; rw [List.map_map]; exact (List.map_congr_left fun _ _ => rfl).trans (List.map_id ks)
theorem same_srt {M : List Pr} (hM : stB M = true) {ks : List (List UInt8)} (hs : SortK ks) (hk : ∀ k ∈ ks, keyB k = true) : SortK ((sameP M ks).map Pr.key) ∧ (∀ p ∈ sameP M ks, keyB p.key = true ∧ vaB p.v = true) ∧ srtB (sameP M ks) = true := by
  have h1 : ∀ p ∈ sameP M ks, keyB p.key = true ∧ vaB p.v = true := by
    intro p hp
    unfold sameP at hp
    rw [List.mem_map] at hp
    obtain ⟨k, hk2, rfl⟩ := hp
    exact ⟨hk k hk2, (getP_val hM k).1⟩
  have h2 : SortK ((sameP M ks).map Pr.key) := by rw [same_keys]; exact hs
  exact ⟨h2, h1, srt_make h1 h2⟩
theorem same_get {M b : List Pr} (hM : stB M = true) (hb : stB b = true) {ks : List (List UInt8)} (hs : SortK ks) {k : List UInt8} (hk : k ∈ ks) : getP (applyP b (sameP M ks)) k = getP M k :=
  apply_get (w := ⟨k, getP M k⟩) hb (by rw [same_keys]; exact hs) (List.mem_map.2 ⟨k, hk, rfl⟩) (getP_val hM k).2.1

-- locality
theorem onePr_st {M : List Pr} (h : stB M = true) (k : List UInt8) : stB (onePr M k) = true := by
  unfold onePr
  split
  · rfl
  · rename_i h0
    have hv := getP_val h k
    refine st_make (fun p hp => ?_) (by unfold SortK; exact List.pairwise_singleton ..)
    rw [List.mem_singleton] at hp
    subst hp
    exact ⟨hv.2.2 h0, hv.1, h0⟩
theorem evE_local {al : Bool} {rd wr : List (List UInt8)} {M1 M2 : List Pr} {op : Int} {l : List Vl} (h1 : stB M1 = true) (h2 : stB M2 = true) (hk : ∀ k ∈ (evE al rd wr (onePr M1 (l.headD v00).s) op l).2, getP M1 k = getP M2 k) : evE al rd wr (onePr M1 (l.headD v00).s) op l = evE al rd wr (onePr M2 (l.headD v00).s) op l := by
  by_cases e : getP M1 (l.headD v00).s = getP M2 (l.headD v00).s
  · have : onePr M1 (l.headD v00).s = onePr M2 (l.headD v00).s := by unfold onePr; rw [e]
    rw [this]
  · have hn : (l.headD v00).s ∉ (evE al rd wr (onePr M1 (l.headD v00).s) op l).2 := fun q => e (hk _ q)
    clear hk e
    unfold evE at hn ⊢
    rw [onePr_st h1, Bool.true_and] at hn
    rw [onePr_st h1, onePr_st h2, Bool.true_and]
    by_cases hc : (ftB ⟨al, rd, wr⟩ && l.all varB) = true
    · rw [if_pos hc] at hn
      rw [if_pos hc, if_pos hc]
      unfold evS at hn ⊢
      match l, hn with
      | [], _ => rfl
      | [_, _], _ => rfl
      | _ :: _ :: _ :: _, _ => rfl
      | [a], hn =>
        simp only [List.headD_cons] at hn ⊢
        unfold uneS at hn ⊢
        by_cases ho : op = 9 ∨ op = 18 ∨ op = 20 ∨ op = 21
        · rw [if_pos ho, if_pos ho]
        rw [if_neg ho] at hn
        rw [if_neg ho, if_neg ho]
        by_cases ha : a.k = 2
        · rw [if_pos ha] at hn
          rw [if_pos ha, if_pos ha]
          unfold fetS at hn ⊢
          by_cases hb : keyB a.s = false
          · rw [if_pos hb, if_pos hb]
          rw [if_neg hb] at hn
          rw [if_neg hb, if_neg hb]
          by_cases hr : al = false ∧ rd.contains a.s = false
          · rw [if_pos hr, if_pos hr]
          rw [if_neg hr] at hn
          exact absurd (List.mem_singleton.2 rfl) hn
        · rw [if_neg ha, if_neg ha]
    · rw [if_neg hc, if_neg hc]
theorem opEv_local {M1 M2 : List Pr} {F : Ft} {own : List Pr} {op : Int} {l : List Vl} (h1 : stB M1 = true) (h2 : stB M2 = true) (hk : hidB own op (l.headD v00) = false → ∀ k ∈ (opEv M1 F own op l).2, getP M1 k = getP M2 k) : opEv M1 F own op l = opEv M2 F own op l := by
  unfold opEv at hk ⊢
  by_cases hr : isRd op = true
  · rw [if_pos hr] at hk
    rw [if_pos hr, if_pos hr]
    by_cases hh : hidB own op (l.headD v00) = true
    · rw [if_pos hh, if_pos hh]
    · rw [if_neg hh] at hk
      rw [if_neg hh, if_neg hh]
      exact evE_local h1 h2 (hk (by simpa using hh))
  · rw [if_neg hr, if_neg hr]
theorem mem_withK {L : List (List UInt8)} {k q : List UInt8} : q ∈ withK L k ↔ q = k ∨ q ∈ L := by
  unfold withK
  by_cases h : fndK L k = true
  · rw [if_pos h]
    unfold fndK at h
    rw [decide_eq_true_eq] at h
    have hm : k ∈ L := by have := h.2; rw [getD_at h.1] at this; exact this ▸ List.getElem_mem h.1
    exact ⟨.inr, fun e => e.elim (fun e => e ▸ hm) id⟩
  · rw [if_neg h]
    unfold putK
    conv => rhs; rw [← List.take_append_drop (posK L k) L]
    simp only [List.mem_append, List.mem_cons]
    exact or_left_comm
theorem mem_withs {ks : List (List UInt8)} {q : List UInt8} : ∀ {L : List (List UInt8)}, q ∈ ks.foldl withK L ↔ q ∈ L ∨ q ∈ ks := by
  induction ks with
  | nil => intro L; simp
  | cons k r ih =>
    intro L
    rw [List.foldl_cons, ih, mem_withK, List.mem_cons]
    constructor
    · rintro ((h | h) | h)
      · exact .inr (.inl h)
      · exact .inl h
      · exact .inr (.inr h)
    · rintro (h | h | h)
      · exact .inl (.inr h)
      · exact .inl (.inl h)
      · exact .inr h
theorem sort_withs : ∀ {ks L : List (List UInt8)}, SortK L → SortK (ks.foldl withK L)
  | [], _, h => h
  | k :: r, _, h => sort_withs (ks := r) (sort_with k h)
theorem endM_rp (st c : Int) (k : List UInt8) (m : Mc) : (endM st c k m).rds = m.rds ∧ (endM st c k m).puts = m.puts := by
  unfold endM; split <;> exact ⟨rfl, rfl⟩
theorem resM_rp (R : Rs) (m : Mc) : (resM R m).rds = m.rds ∧ (resM R m).puts = m.puts := by
  cases R with
  | ok v => exact ⟨rfl, rfl⟩
  | ab c => exact endM_rp ..
  | re k => exact endM_rp ..
theorem storeM_rds (F : Ft) (k v : Vl) (m : Mc) : (storeM F k v m).rds = m.rds ∧ ((storeM F k v m).puts = m.puts ∨ ((storeM F k v m).puts = withK m.puts k.s ∧ (F.all = true ∨ F.wr.contains k.s = true))) := by
  unfold storeM
  split
  · exact ⟨(endM_rp ..).1, .inl (endM_rp ..).2⟩
  split
  · exact ⟨(endM_rp ..).1, .inl (endM_rp ..).2⟩
  split
  · exact ⟨(endM_rp ..).1, .inl (endM_rp ..).2⟩
  · rename_i h
    refine ⟨rfl, .inr ⟨rfl, ?_⟩⟩
    cases ha : F.all with
    | true => exact .inl rfl
    | false =>
      right
      cases hc : F.wr.contains k.s with
      | true => rfl
      | false => exact absurd ⟨ha, hc⟩ h
theorem opM_rp (M : List Pr) (F : Ft) (op : Int) (l : List Vl) (m : Mc) : (opM M F op l m).puts = m.puts ∧ (opM M F op l m).rds = if hidB m.own op (l.headD v00) = true then m.rds else (opEv M F m.own op l).2.foldl withK m.rds := by
  unfold opM
  rw [(resM_rp _ _).1, (resM_rp _ _).2]
  split <;> exact ⟨rfl, rfl⟩
theorem opM_local {M1 M2 : List Pr} {F : Ft} {op : Int} {l : List Vl} {m : Mc} (h1 : stB M1 = true) (h2 : stB M2 = true) (hk : ∀ k ∈ (opM M1 F op l m).rds, getP M1 k = getP M2 k) : opM M1 F op l m = opM M2 F op l m := by
  have h : opEv M1 F m.own op l = opEv M2 F m.own op l := by
    refine opEv_local h1 h2 fun hh k hm => hk k ?_
    rw [(opM_rp M1 F op l m).2, if_neg (by rw [hh]; simp)]
    exact mem_withs.2 (.inr hm)
  unfold opM
  rw [h]
/-- the two ways of an instruction -/
theorem step_op (M : List Pr) (F : Ft) (x : Ins) (m : Mc) (h : x.op = 5) : stepM M F x m = opM M F x.a (topV m (arS x.a).toNat) (dropM m (arS x.a).toNat) := by
  unfold stepM
  rw [if_neg (by rw [h]; decide), if_neg (by rw [h]; decide), if_neg (by rw [h]; decide), if_neg (by rw [h]; decide), if_pos h]
theorem step_no (M M2 : List Pr) (F : Ft) (x : Ins) (m : Mc) (h : x.op ≠ 5) : stepM M F x m = stepM M2 F x m := by
  unfold stepM; simp only [if_neg h]
theorem step_rp (M : List Pr) (F : Ft) (x : Ins) (m : Mc) (h : x.op ≠ 5) : (stepM M F x m).rds = m.rds ∧ ((stepM M F x m).puts = m.puts ∨ ∃ k, (stepM M F x m).puts = withK m.puts k ∧ (F.all = true ∨ F.wr.contains k = true)) := by
  have st : ∀ (k v : Vl) (m2 : Mc), m2.rds = m.rds → m2.puts = m.puts → (storeM F k v m2).rds = m.rds ∧ ((storeM F k v m2).puts = m.puts ∨ ∃ k2, (storeM F k v m2).puts = withK m.puts k2 ∧ (F.all = true ∨ F.wr.contains k2 = true)) := by
    intro k v m2 e1 e2
    obtain ⟨g1, g2⟩ := storeM_rds F k v m2
    rw [e1] at g1; rw [e2] at g2
    exact ⟨g1, g2.imp id fun q => ⟨_, q⟩⟩
  have en : ∀ (s c : Int) (k : List UInt8) (m2 : Mc), m2.rds = m.rds → m2.puts = m.puts → (endM s c k m2).rds = m.rds ∧ ((endM s c k m2).puts = m.puts ∨ ∃ k2, (endM s c k m2).puts = withK m.puts k2 ∧ (F.all = true ∨ F.wr.contains k2 = true)) := fun s c k m2 e1 e2 => ⟨(endM_rp ..).1.trans e1, .inl ((endM_rp ..).2.trans e2)⟩
  have key : ∀ m', stepM M F x m = m' → m'.rds = m.rds ∧ (m'.puts = m.puts ∨ ∃ k, m'.puts = withK m.puts k ∧ (F.all = true ∨ F.wr.contains k = true)) := by
    intro m' e
    unfold stepM at e
    by_cases e1 : x.op = 1
    · rw [if_pos e1] at e; subst e
      exact ⟨rfl, .inl rfl⟩
    rw [if_neg e1] at e
    by_cases e2 : x.op = 2
    · rw [if_pos e2] at e; subst e
      exact ⟨rfl, .inl rfl⟩
    rw [if_neg e2] at e
    by_cases e3 : x.op = 3
    · rw [if_pos e3] at e; subst e
      exact ⟨rfl, .inl rfl⟩
    rw [if_neg e3] at e
    by_cases e4 : x.op = 4
    · rw [if_pos e4] at e; subst e
      exact ⟨rfl, .inl rfl⟩
    rw [if_neg e4] at e
    rw [if_neg h] at e
    by_cases e6 : x.op = 6
    · rw [if_pos e6] at e; subst e
      exact ⟨rfl, .inl rfl⟩
    rw [if_neg e6] at e
    by_cases e7 : x.op = 7
    · rw [if_pos e7] at e; subst e
      unfold falM
      split
      · exact en _ _ _ _ rfl rfl
      · exact ⟨rfl, .inl rfl⟩
    rw [if_neg e7] at e
    by_cases e8 : x.op = 8
    · rw [if_pos e8] at e; subst e
      unfold putM
      split
      · exact en _ _ _ _ rfl rfl
      · exact st _ _ _ rfl rfl
    rw [if_neg e8] at e
    by_cases e9 : x.op = 9
    · rw [if_pos e9] at e; subst e
      exact st _ _ _ rfl rfl
    rw [if_neg e9] at e
    by_cases e10 : x.op = 10
    · rw [if_pos e10] at e; subst e
      unfold emitM
      split
      · exact en _ _ _ _ rfl rfl
      split
      · exact en _ _ _ _ rfl rfl
      · exact ⟨rfl, .inl rfl⟩
    rw [if_neg e10] at e
    by_cases e11 : x.op = 11
    · rw [if_pos e11] at e; subst e
      exact en _ _ _ _ rfl rfl
    rw [if_neg e11] at e
    by_cases e12 : x.op = 12
    · rw [if_pos e12] at e; subst e
      unfold loopM
      split
      · exact en _ _ _ _ rfl rfl
      split
      · exact en _ _ _ _ rfl rfl
      · exact ⟨rfl, .inl rfl⟩
    rw [if_neg e12] at e
    by_cases e13 : x.op = 13
    · rw [if_pos e13] at e; subst e
      exact en _ _ _ _ rfl rfl
    rw [if_neg e13] at e
    by_cases e14 : x.op = 14
    · rw [if_pos e14] at e; subst e
      unfold tickM
      split
      · exact en _ _ _ _ rfl rfl
      · exact ⟨rfl, .inl rfl⟩
    rw [if_neg e14] at e
    subst e; exact ⟨rfl, .inl rfl⟩
  exact key _ rfl
theorem step_local {M1 M2 : List Pr} {F : Ft} {x : Ins} {m : Mc} (h1 : stB M1 = true) (h2 : stB M2 = true) (hk : ∀ k ∈ (stepM M1 F x m).rds, getP M1 k = getP M2 k) : stepM M1 F x m = stepM M2 F x m := by
  by_cases h : x.op = 5
  · rw [step_op M1 F x m h] at hk ⊢
    rw [step_op M2 F x m h]
    exact opM_local h1 h2 hk
  · exact step_no M1 M2 F x m h
theorem step_mono {M : List Pr} {F : Ft} {x : Ins} {m : Mc} {k : List UInt8} (hk : k ∈ m.rds) : k ∈ (stepM M F x m).rds := by
  by_cases h : x.op = 5
  · rw [step_op M F x m h, (opM_rp ..).2]
    split
    · exact hk
    · exact mem_withs.2 (.inl hk)
  · rw [(step_rp M F x m h).1]; exact hk
theorem run_mono {M : List Pr} {F : Ft} {l : List Ins} {stop : List Int → Bool} {k : List UInt8} : ∀ (f : Nat) (m : Mc) (pc : Int) (n : Nat) (tr : List Int), k ∈ m.rds → k ∈ (runM M F l stop f m pc n tr).1.rds
  | 0, m, _, _, _, h => h
  | f + 1, m, pc, n, tr, h => by
    unfold runM
    split
    · exact h
    split
    · rw [(endM_rp ..).1]; exact h
    split
    · exact h
    · exact run_mono f _ _ _ _ (step_mono h)
theorem run_local {M1 M2 : List Pr} {F : Ft} {l : List Ins} {stop : List Int → Bool} (h1 : stB M1 = true) (h2 : stB M2 = true) : ∀ (f : Nat) (m : Mc) (pc : Int) (n : Nat) (tr : List Int), (∀ k ∈ (runM M1 F l stop f m pc n tr).1.rds, getP M1 k = getP M2 k) → runM M1 F l stop f m pc n tr = runM M2 F l stop f m pc n tr
  | 0, _, _, _, _, _ => rfl
  | f + 1, m, pc, n, tr, h => by
    unfold runM at h ⊢
    by_cases hd : m.done = true
    · rw [if_pos hd, if_pos hd]
    rw [if_neg hd] at h
    rw [if_neg hd, if_neg hd]
    by_cases hn : n = 1024
    · rw [if_pos hn, if_pos hn]
    rw [if_neg hn] at h
    rw [if_neg hn, if_neg hn]
    by_cases hs : stop tr = true
    · rw [if_pos hs, if_pos hs]
    rw [if_neg hs] at h
    rw [if_neg hs, if_neg hs]
    have e := step_local (F := F) (x := l.getD pc.toNat ins0) (m := m) h1 h2 fun k hk => h k (run_mono f _ _ _ _ hk)
    rw [← e]
    exact run_local h1 h2 f _ _ _ _ h
/-- what the footprint allows -/
structure KpI (F : Ft) (m : Mc) (N : Nat) : Prop where
  srt : SortK m.rds
  rd : ∀ k ∈ m.rds, keyB k = true ∧ (F.all = true ∨ F.rd.contains k = true)
  wr : ∀ k ∈ m.puts, F.all = true ∨ F.wr.contains k = true
  len : m.rds.length ≤ N
theorem evE_rd {al : Bool} {rd wr : List (List UInt8)} {M : List Pr} {op : Int} {l : List Vl} {k : List UInt8} (h : k ∈ (evE al rd wr M op l).2) : keyB k = true ∧ (al = true ∨ rd.contains k = true) := by
  unfold evE at h
  by_cases hc : (stB M && (ftB ⟨al, rd, wr⟩ && l.all varB)) = true
  · rw [if_pos hc] at h
    clear hc
    unfold evS at h
    match l, h with
    | [], h => exact absurd h (by simp)
    | [_, _], h => exact absurd h (by simp)
    | _ :: _ :: _ :: _, h => exact absurd h (by simp)
    | [a], h =>
      simp only at h
      unfold uneS at h
      by_cases ho : op = 9 ∨ op = 18 ∨ op = 20 ∨ op = 21
      · rw [if_pos ho] at h; exact absurd h (by simp)
      rw [if_neg ho] at h
      by_cases ha : a.k = 2
      · rw [if_pos ha] at h
        simp only at h
        unfold fetS at h
        by_cases hb : keyB a.s = false
        · rw [if_pos hb] at h; exact absurd h (by simp [rdsR])
        rw [if_neg hb] at h
        by_cases hr : al = false ∧ rd.contains a.s = false
        · rw [if_pos hr] at h; exact absurd h (by simp [rdsR])
        rw [if_neg hr] at h
        have e : k = a.s := List.mem_singleton.1 h
        subst e
        refine ⟨by simpa using hb, ?_⟩
        cases al with
        | true => exact .inl rfl
        | false =>
          right
          cases hq : rd.contains a.s with
          | true => rfl
          | false => exact absurd ⟨rfl, hq⟩ hr
      · rw [if_neg ha] at h; exact absurd h (by simp)
  · rw [if_neg hc] at h; exact absurd h (by simp)
theorem opEv_rd {M : List Pr} {F : Ft} {own : List Pr} {op : Int} {l : List Vl} {k : List UInt8} (hh : hidB own op (l.headD v00) = false) (h : k ∈ (opEv M F own op l).2) : keyB k = true ∧ (F.all = true ∨ F.rd.contains k = true) := by
  unfold opEv at h
  split at h
  · rw [if_neg (by rw [hh]; simp)] at h
    exact evE_rd h
  · exact evE_rd h
theorem KpI.step {M : List Pr} {F : Ft} {x : Ins} {m : Mc} {N : Nat} (h : KpI F m N) : KpI F (stepM M F x m) (N + 1) := by
  by_cases h5 : x.op = 5
  · rw [step_op M F x m h5]
    obtain ⟨e1, e2⟩ := opM_rp M F x.a (topV m (arS x.a).toNat) (dropM m (arS x.a).toNat)
    have er : (dropM m (arS x.a).toNat).rds = m.rds := rfl
    have ep : (dropM m (arS x.a).toNat).puts = m.puts := rfl
    have eo : (dropM m (arS x.a).toNat).own = m.own := rfl
    rw [er, eo] at e2; rw [ep] at e1
    by_cases hh : hidB m.own x.a ((topV m (arS x.a).toNat).headD v00) = true
    · rw [if_pos hh] at e2
      exact ⟨by rw [e2]; exact h.srt, by rw [e2]; exact h.rd, by rw [e1]; exact h.wr, by rw [e2]; exact Nat.le_succ_of_le h.len⟩
    · rw [if_neg hh] at e2
      refine ⟨by rw [e2]; exact sort_withs h.srt, ?_, by rw [e1]; exact h.wr, ?_⟩
      · rw [e2]
        intro k hk
        rcases mem_withs.1 hk with hk | hk
        · exact h.rd k hk
        · exact opEv_rd (by simpa using hh) hk
      · rw [e2]
        rcases opEv_reads M F m.own x.a (topV m (arS x.a).toNat) with e | ⟨k, e⟩
        · rw [e]; exact Nat.le_succ_of_le h.len
        · rw [e]
          have := withK_len m.rds k
          have := h.len
          show (withK m.rds k).length ≤ _
          omega
  · obtain ⟨e1, e2⟩ := step_rp M F x m h5
    refine ⟨by rw [e1]; exact h.srt, by rw [e1]; exact h.rd, ?_, by rw [e1]; exact Nat.le_succ_of_le h.len⟩
    rcases e2 with e2 | ⟨k, e2, hk⟩
    · rw [e2]; exact h.wr
    · rw [e2]
      intro q hq
      rcases mem_withK.1 hq with rfl | hq
      · exact hk
      · exact h.wr q hq
theorem KpI.run {M : List Pr} {F : Ft} {l : List Ins} {stop : List Int → Bool} : ∀ (f : Nat) (m : Mc) (pc : Int) (n : Nat) (tr : List Int) (N : Nat), KpI F m N → KpI F (runM M F l stop f m pc n tr).1 (N + f)
  | 0, _, _, _, _, _, h => h
  | f + 1, m, pc, n, tr, N, h => by
    have hm : KpI F m (N + (f + 1)) := ⟨h.srt, h.rd, h.wr, Nat.le_trans h.len (by omega)⟩
    unfold runM
    split
    · exact hm
    split
    · obtain ⟨e1, e2⟩ := endM_rp 2 1008 [] m
      exact ⟨by rw [e1]; exact hm.srt, by rw [e1]; exact hm.rd, by rw [e2]; exact hm.wr, by rw [e1]; exact hm.len⟩
    split
    · exact hm
    · have := KpI.run (M := M) (l := l) (stop := stop) f (stepM M F (l.getD pc.toNat ins0) m) (nextI (l.getD pc.toNat ins0) pc m) (cntI (l.getD pc.toNat ins0) n) (tr ++ [pc]) (N + 1) h.step
      rwa [show N + 1 + f = N + (f + 1) by omega] at this
end Go.Proofs.YtnglaegofhpleaaGreatDoor
namespace Go.Proofs.YtnglaegofhpleaaGreatDoor
open Go.RowKit

theorem own_one {W : World} {B : Nat} (p : Pr) (hB : B ≤ W.heap.size) : (W.alloc (.cells (prV p) 55)).ownsRow B 55 4 (.slice (some ⟨W.heap.size, 0, none⟩) 1 1) 1 (prL p) :=
  ⟨rfl, .inr ⟨W.heap.size, 1, prV p, rfl, hB, heap_alloc_new W _, Nat.le_refl _, by unfold maxLen; decide, rfl, rfl⟩⟩
theorem onePr_some {L : List Pr} {k : List UInt8} (h : (getP L k).k ≠ 0) : onePr L k = [⟨k, getP L k⟩] := if_neg h
theorem onePr_none {L : List Pr} {k : List UInt8} (h : (getP L k).k = 0) : onePr L k = [] := if_pos h

set_option maxRecDepth 100000 in
set_option maxHeartbeats 4000000 in
theorem stored_any (v : Vl) (w : World) :
    Calls Tryz.prog 95 #[.agg (vV v)] w fun e w' => e = .returned (.bool (storedB v)) ∧ Below w.heap.size w w' := by
  simp only [vV]
  obtain ⟨v0, hW0, hb0, hx0⟩ := boxes1 w #[.int .i64 v.k, .int .i64 v.n, .string (bs v.s)] 52
  have HW := Lib.hid hW0; have HB := Lib.hid hb0; have HC := Lib.hid hx0; clear hW0 hb0 hx0
  go_enter Tryz.func95, Tryz.ntmps95
  go_upto_region 1 with (fail)
  rw [HW.out]
  clear HW
  obtain ⟨c0, c1, c2⟩ := HC.out.c3
  by_cases h1 : v.k = 1
  · have t1 : (v.k == 1) = true := by rw [h1]; rfl
    have HF := Lib.hid (show storedB v = true by unfold storedB; rw [h1]; rfl)
    clear h1
    go_wp2
    go_ret
    exact ⟨by rw [HF.out] <;> rfl, HB.out⟩
  have t1 : (v.k == 1) = false := by rw [beq_eq_false_iff_ne]; exact h1
  by_cases h2 : v.k = 2
  · have t2 : (v.k == 2) = true := by rw [h2]; rfl
    have HF := Lib.hid (show storedB v = true by unfold storedB; rw [h2]; rfl)
    clear h1 h2
    go_wp2
    go_ret
    exact ⟨by rw [HF.out] <;> rfl, HB.out⟩
  have t2 : (v.k == 2) = false := by rw [beq_eq_false_iff_ne]; exact h2
  have HF := Lib.hid (show storedB v = false by unfold storedB; simp [h1, h2])
  clear h1 h2
  go_wp2
  go_ret
  exact ⟨by rw [HF.out] <;> rfl, HB.out⟩
set_option maxRecDepth 100000 in
set_option maxHeartbeats 8000000 in
theorem one_any (a : Option Addr) (cap : Nat) (M : List Pr) (x : List UInt8) (w : World) (hl : M.length ≤ 9000000000000) (hM : CellsAt w (.slice a M.length cap) M.length (prLs M)) :
    Calls Tryz.prog 92 #[.slice a M.length cap, .string (bs x)] w fun e w' => ∃ rv, e = .returned rv ∧ w'.ownsRow w.heap.size 55 4 rv (onePr M x).length (prLs (onePr M x)) ∧ Below w.heap.size w w' := by
  obtain ⟨v, hv⟩ : ∃ v, getP M x = v := ⟨_, rfl⟩
  have HV := Lib.hid hv; clear hv
  go_enter Tryz.func92, Tryz.ntmps92
  go_wp2_with fail
  refine (SGet_any a cap M x _ hl hM).mono ?_
  rw [HV.out]
  simp only [vV]
  rintro er w1 ⟨rfl, hb1⟩
  have hsz := hb1.size
  go_upto_region 2 with (fail)
  have HX := Lib.hid (Bx.new w1 #[.int .i64 v.k, .int .i64 v.n, .string (bs v.s)] 52)
  have HB := Lib.hid (hb1.alloc (by omega) (.cells #[.int .i64 v.k, .int .i64 v.n, .string (bs v.s)] 52))
  clear hb1
  generalize hW : w1.alloc (.cells #[.int .i64 v.k, .int .i64 v.n, .string (bs v.s)] 52) = v2 at HX HB ⊢
  clear hW
  obtain ⟨c0, c1, c2⟩ := HX.out.c3
  by_cases hk : v.k = 0
  · have t0 : (v.k != 0) = false := by rw [hk]; rfl
    have HF := Lib.hid (show onePr M x = [] from onePr_none (by rw [HV.out]; exact hk))
    clear hk
    go_wp2
    refine bodyPost_ret (v := .slice none 0 0) (by simp [results, Tryz.results92, go_sem] <;> rfl) rfl ⟨.slice none 0 0, rfl, by rw [HF.out]; exact own_nil _ _ _ _, HB.out⟩
  have t0 : (v.k != 0) = true := by rw [bne_iff_ne]; exact hk
  have HF := Lib.hid (show onePr M x = [⟨x, v⟩] from by rw [onePr_some (by rw [HV.out]; exact hk), HV.out])
  clear hk
  have HO := Lib.hid (own_one (W := v2) (B := w.heap.size) ⟨x, v⟩ HB.out.size)
  have HB2 := Lib.hid (HB.out.alloc HB.out.size (.cells (prV ⟨x, v⟩) 55))
  simp only [prV, prL] at HO HB2
  go_wp2
  refine bodyPost_ret (v := .slice (some ⟨v2.heap.size, 0, none⟩) 1 1) (by simp [results, Tryz.results92, go_sem] <;> rfl) rfl ⟨_, rfl, by rw [HF.out]; exact HO.out, HB2.out⟩
set_option maxRecDepth 100000 in
set_option maxHeartbeats 8000000 in
theorem emit_any (B mb : Nat) (S : Nat → Prop) (H : Nat → Value) (m : Mc) (R : Rw) (v : Vl) (w : World) (h : VMB B mb S H m R w) (hl : m.out.length ≤ 16) :
    Calls Tryz.prog 66 #[.pointer (some ⟨mb, 0, none⟩), .agg (vV v)] w (VPost B mb S H (emitM v m) (.tuple #[]) w) := by
  simp only [vV]
  obtain ⟨v0, hW0, hb0, hx0⟩ := boxes1 w #[.int .i64 v.k, .int .i64 v.n, .string (bs v.s)] 52
  have HM := Lib.hid (h.call hb0); have HF := Lib.hid (FrS.of_below (S := S) hb0); have HN := Lib.hid h.not
  have hne : mb ≠ w.heap.size := fun e => HN.out (e ▸ h.mS)
  have HW := Lib.hid hW0; have HB := Lib.hid hb0; have HC := Lib.hid hx0; clear hW0 hb0 hx0 h
  go_enter Tryz.func66, Tryz.ntmps66
  go_upto_region 2 with (fail)
  rw [HW.out]
  clear HW
  obtain ⟨c0, c1, c2⟩ := HC.out.c3
  obtain ⟨sb, hsb⟩ : ∃ b, storedB v = b := ⟨_, rfl⟩
  have HSB := Lib.hid hsb; clear hsb
  go_wp2_with fail
  have hst := stored_any v v0
  simp only [vV] at hst
  refine hst.mono ?_
  clear hst
  rw [HSB.out]
  rintro er w1 ⟨rfl, hb1⟩
  have HM := Lib.hid (HM.out.call hb1); have HC := Lib.hid (HC.out.call hb1); have HF := Lib.hid (HF.out.then (FrS.of_below hb1)); have HB := Lib.hid (btrans HB.out HB.out.size hb1); clear hb1 c0 c1 c2
  cases sb with
  | false =>
    go_wp2_with fail
    refine (vabort_any B mb S H m R 1009 _ HM.out).mono ?_
    rintro e w2 ⟨rfl, S', R', h1, h2⟩
    have H1 := Lib.hid h1; have H2 := Lib.hid h2; clear h1 h2
    go_wp2
    exact ⟨(by first | exact True.intro | rfl), .tuple #[], results_none rfl _ _ _, rfl, S', R', by unfold emitM; rw [HSB.out, if_pos rfl]; exact H1.out, HF.out.then H2.out⟩
  | true =>
    obtain ⟨oa, oc, hov⟩ := own_sl HM.out.out.1
    have c3 : w1.cell? ⟨mb, 395, none⟩ = some (.slice oa m.out.length oc) := by rw [← show R.outv = .slice oa m.out.length oc from hov]; exact HM.out.tl 3 (by decide)
    have HOV := Lib.hid hov; clear hov
    by_cases h16 : m.out.length = 16
    · have t16 : ((m.out.length : Int) == 16) = true := by rw [h16]; rfl
      have H16 := Lib.hid h16; clear h16
      go_wp2_with fail
      refine (vabort_any B mb S H m R 1007 _ HM.out).mono ?_
      rintro e w2 ⟨rfl, S', R', h1, h2⟩
      have H1 := Lib.hid h1; have H2 := Lib.hid h2; clear h1 h2
      go_wp2
      exact ⟨(by first | exact True.intro | rfl), .tuple #[], results_none rfl _ _ _, rfl, S', R', by unfold emitM; rw [HSB.out, if_neg (by simp), if_pos H16.out]; exact H1.out, HF.out.then H2.out⟩
    have t16 : ((m.out.length : Int) == 16) = false := by rw [beq_eq_false_iff_ne]; omega
    have H16 := Lib.hid h16; clear h16
    obtain ⟨i0, hi, hz0, hz1, hz2⟩ := info_parts infoVl
    go_upto_region 1 with (fail)
    have HS0 := Lib.hid (show ((fun w' => Bx w.heap.size #[.int .i64 v.k, .int .i64 v.n, .string (bs v.s)] 52 w')) w1.drew from HC.out)
    have HC3 := Lib.hid c3; clear c3 t16
    refine wp_region_held_drew (S := (fun w' => Bx w.heap.size #[.int .i64 v.k, .int .i64 v.n, .string (bs v.s)] 52 w')) (by kernel_rfl) ?_ (fun hHeld => ?_)
    · exact HS0.out
    refine tkX (i := 0) 4 ?_
    simp only [sA, sB, sC]
    refine tkX (i := 1) 5 ?_
    simp only [sA, sB, sC]
    refine tkX (i := 2) 6 ?_
    simp only [sA, sB, sC]
    refine tkX (i := 3) 7 ?_
    simp only [sA, sB, sC]
    refine tkX (i := 4) 8 ?_
    simp only [sA, sB, sC]
    refine tkX (i := 5) 9 ?_
    simp only [sA, sB, sC]
    refine tkY (i := 7) (v := ?vv7) 11 ?yy7 ?_
    case yy7 =>
      intro wq hSw
      obtain ⟨d0, d1, d2⟩ := hSw.c3
      clear hSw
      go_simp
      (try with_reducible rfl)
    simp only [sA, sB, sC]
    have hmc := HM.out.bf.lt; have hcl := HC.out.lt
    refine wpAnyH_ready (rs := [6, 8]) (by kernel_rfl) (by simp) ?_
    refine (AllReadyH.cons rfl (fun K hK => ?_) (AllReadyH.cons rfl (fun K hK => ?_) AllReadyH.nil))
    have d0 : w1.cell? ⟨mb, 395, none⟩ = some (.slice oa m.out.length oc) := HC3.out
    go_simp
    skip
    refine hK.out _ _ ?_ (fun hHeld => ?_)
    · exact hHeld
    clear hK K
    (try simp only [Act.put, sA, sB, sC])
    refine wpAnyH_ready (rs := [8]) (by kernel_rfl) (by simp) ?_
    refine (AllReadyH.cons rfl (fun K hK => ?_) AllReadyH.nil)
    go_simp
    skip
    focus (try go_wp2_with fail)
    refine hK.out _ _ ?_ (fun hHeld => ?_)
    · exact hHeld.alloc _
    clear hK K
    (try simp only [Act.put, sA, sB, sC])
    rotate_left
    go_simp
    skip
    focus (try go_wp2_with fail)
    refine hK.out _ _ ?_ (fun hHeld => ?_)
    · exact hHeld.alloc _
    clear hK K
    (try simp only [Act.put, sA, sB, sC])
    refine wpAnyH_ready (rs := [6]) (by kernel_rfl) (by simp) ?_
    refine (AllReadyH.cons rfl (fun K hK => ?_) AllReadyH.nil)
    have d1 : (w1.alloc (.cells #[.int .i64 v.k, .int .i64 v.n, .string (bs v.s)] 52)).cell? ⟨mb, 395, none⟩ = some (.slice oa m.out.length oc) := cell1_below HC3.out ((Below.refl w1.heap.size w1).alloc (Nat.le_refl _) (.cells #[.int .i64 v.k, .int .i64 v.n, .string (bs v.s)] 52))
    go_simp
    skip
    refine hK.out _ _ ?_ (fun hHeld => ?_)
    · exact hHeld
    clear hK K
    (try simp only [Act.put, sA, sB, sC])
    all_goals
      have HMA := Lib.hid (VMB.drew (HM.out.call ((Below.refl w1.heap.size w1).alloc (Nat.le_refl _) (.cells #[.int .i64 v.k, .int .i64 v.n, .string (bs v.s)] 52))))
      have HFA := Lib.hid (FrS.drew (HF.out.then (FrS.of_below (S := S) ((Below.refl w1.heap.size w1).alloc (Nat.le_refl _) (.cells #[.int .i64 v.k, .int .i64 v.n, .string (bs v.s)] 52)))))
      have HCA := Lib.hid (HC.out.alloc (.cells #[.int .i64 v.k, .int .i64 v.n, .string (bs v.s)] 52)).drew
      have HNW := Lib.hid (Bx.new w1 #[.int .i64 v.k, .int .i64 v.n, .string (bs v.s)] 52).drew
      clear hHeld
      generalize hW : (w1.alloc (.cells #[.int .i64 v.k, .int .i64 v.n, .string (bs v.s)] 52)).drew = u1 at HMA HFA HCA HNW ⊢
      clear hW
      obtain ⟨nb, hnb⟩ : ∃ n, w1.heap.size = n := ⟨_, rfl⟩
      rw [hnb] at HNW
      (try rw [hnb])
      have hone : ∀ u ∈ vlL v, u.oneCell' = true := by intro u hu; simp only [vlL, List.mem_cons, List.not_mem_nil, or_false] at hu; rcases hu with rfl | rfl | rfl <;> rfl
      have hoA := HMA.out.out.1
      rw [HOV.out] at hoA
      have hBu : B ≤ u1.heap.size := by have := HMA.out.rng mb HMA.out.mS; omega
      refine wpAnyH_ready (rs := [9]) (by kernel_rfl) (by simp) ?_
      refine AllReadyH.cons rfl (fun K hK => ?_) AllReadyH.nil
      refine step_append_lies u1 (by rfl) _ _ 26 (by rfl) B 52 i0 (.agg #[.int .i64 0, .int .i64 0, .string ⟨#[]⟩]) 3 32 Tryz.underlying26 hi hz0 hz1 hz2 rfl (by decide) (.slice oa m.out.length oc) m.out.length (vlLs m.out) (by rfl) hoA ⟨nb, 0, none⟩ 1 1 (vlL v) (by rfl) rfl (World.news_of_block HNW.out) hone (by decide) (by unfold maxLen; omega) (by omega) hBu _ rfl ?_
      intro g5 cap5 w5 hown5 hgrow hat hlt5
      have hrow := HMA.out.rowOut (W' := w5) (.slice (some ⟨g5, 0, none⟩) (m.out ++ [v]).length cap5) (m.out ++ [v]) (by rw [HOV.out]; exact hgrow) (by rw [vlLs_snoc, List.length_append]; exact hown5) (by rw [HOV.out]; rcases hat with q | q; exact .inl q.symm; exact .inr ⟨g5, rfl, by omega⟩)
      have hl5 : (m.out ++ [v]).length = m.out.length + 1 := by simp
      rw [hl5] at hrow
      have HROW := Lib.hid hrow; clear hrow
      have hx5 := HCA.out.kept hgrow (by intro e; exact HN.out (HM.out.out.2 w.heap.size (by rw [HOV.out]; exact e)))
      have c5 : w5.cell? ⟨mb, 395, none⟩ = some (.slice oa m.out.length oc) := by have := HROW.out.1.cell 395 (by decide); rw [this, ← HOV.out]; rfl
      have f5 := HROW.out.1.free 395
      refine hK.out _ _ ?_ (fun hHeld => ?_)
      · exact hx5
      clear hK K hHeld
      simp only [Act.put, List.setIfInBounds_toArray]
      refine tkX (i := 10) 14 ?_
      simp only [sA, sB, sC]
      refine tkX (i := 11) 15 ?_
      simp only [sA, sB, sC]
      refine tkX (i := 12) 16 ?_
      simp only [sA, sB, sC]
      refine tkX (i := 13) 17 ?_
      simp only [sA, sB, sC]
      refine wpAnyH_ready (rs := [14]) (by kernel_rfl) (by simp) ?_
      refine (AllReadyH.cons rfl (fun K hK => ?_) AllReadyH.nil)
      go_simp
      have hx6 := hx5.other (c := mb) (i := 395) (Ne.symm hne) (.slice (some ⟨g5, 0, none⟩) (m.out.length + 1) cap5)
      refine hK.out _ _ ?_ (fun hHeld => ?_)
      · exact hx6
      clear hK K hHeld
      (try simp only [Act.put, sA, sB, sC])
      refine wpAnyH_done (by kernel_rfl) ?_ _
      have HE := Lib.hid (show emitM v m = { m with out := m.out ++ [v] } from by unfold emitM; rw [HSB.out, if_neg (by simp), if_neg H16.out])
      have HV := Lib.hid (HROW.out.2); clear HROW hx6
      generalize hW : w5.setCell ⟨mb, 395, none⟩ (.slice (some ⟨g5, 0, none⟩) (m.out.length + 1) cap5) = v6 at HV ⊢
      clear hW
      go_wp2
      exact ⟨(by first | exact True.intro | rfl), .tuple #[], results_none rfl _ _ _, rfl, _, _, by rw [HE.out]; exact HV.out.1, HFA.out.then HV.out.2⟩
end Go.Proofs.YtnglaegofhpleaaGreatDoor
namespace Go.Proofs.YtnglaegofhpleaaGreatDoor
open Go.RowKit

theorem own_prAt {W : World} {B : Nat} {v : Value} {L : List Pr} (h : W.ownsRow B 55 4 v L.length (prLs L)) : CellsAt W v L.length (prLs L) := by
  rcases own_form h with ⟨rfl, h0⟩ | ⟨g, cap, rfl, hc, _⟩
  · have : L = [] := List.eq_nil_of_length_eq_zero h0
    subst this
    exact ⟨none, 0, rfl, fun hne => absurd rfl hne⟩
  · refine ⟨_, cap, rfl, fun _ => ⟨g, 0, rfl, fun j u hj => ?_⟩⟩
    have h1 := h.cells (g := g) rfl j u hj
    have e : (⟨g, 0, none⟩ : Addr).add j = ⟨g, 0 + j, none⟩ := by unfold Addr.add; split <;> simp_all
    rw [e] at h1; exact h1
set_option maxRecDepth 100000 in
set_option maxHeartbeats 16000000 in
theorem endC_any (B mb : Nat) (S : Nat → Prop) (H : Nat → Value) (m : Mc) (R : Rw) (c : Int) (k : List UInt8) (w : World) (h : VMB B mb S H m R w) (hl : m.puts.length ≤ 100000000 ∧ m.own.length ≤ 100000000 ∧ m.wrs.length ≤ 100000000) :
    Calls Tryz.prog 59 #[.pointer (some ⟨mb, 0, none⟩), .int .i64 1, .int .i64 c, .string (bs k)] w (VPost B mb S H (endM 1 c k m) (.tuple #[]) w) := by
  have HM := Lib.hid h; clear h
  have c9 : w.cell? ⟨mb, 401, none⟩ = some (.bool m.done) := HM.out.tl 9 (by decide)
  have f9 := HM.out.bf.free 401
  have HM1 := Lib.hid (HM.out.done true)
  go_enter Tryz.func59, Tryz.ntmps59
  go_upto_region 1 with (fail)
  clear c9 f9
  have HF1 := Lib.hid ((FrS.refl S w).set mb 401 (.bool true) (.inl HM.out.mS))
  generalize hW : w.setCell ⟨mb, 401, none⟩ (.bool true) = v1 at HM1 HF1 ⊢
  clear hW
  have c1 : v1.cell? ⟨mb, 393, none⟩ = some (.int .i64 m.st) := HM1.out.tl 1 (by decide)
  have c2 : v1.cell? ⟨mb, 394, none⟩ = some (.int .i64 m.code) := HM1.out.tl 2 (by decide)
  have c7 : v1.cell? ⟨mb, 399, none⟩ = some (.string (bs m.miss)) := HM1.out.tl 7 (by decide)
  have f1 := HM1.out.bf.free 393
  have f2 := HM1.out.bf.free 394
  have f7 := HM1.out.bf.free 399
  have HM2 := Lib.hid (((HM1.out.status 1).coded c).missed k)
  have HF2 := Lib.hid (((HF1.out.set mb 393 (.int .i64 1) (.inl HM.out.mS)).set mb 394 (.int .i64 c) (.inl HM.out.mS)).set mb 399 (.string (bs k)) (.inl HM.out.mS))
  have g2 : (v1.setCell ⟨mb, 393, none⟩ (.int .i64 1)).cell? ⟨mb, 394, none⟩ = some (.int .i64 m.code) := (HM1.out.status 1).tl 2 (by decide)
  have h2 := (HM1.out.status 1).bf.free 394
  have g7 : ((v1.setCell ⟨mb, 393, none⟩ (.int .i64 1)).setCell ⟨mb, 394, none⟩ (.int .i64 c)).cell? ⟨mb, 399, none⟩ = some (.string (bs m.miss)) := ((HM1.out.status 1).coded c).tl 7 (by decide)
  have h7 := ((HM1.out.status 1).coded c).bf.free 399
  go_upto_region 2 with (fail)
  clear c1 c2 c7 f1 f2 f7 g2 h2 g7 h7 HM1 HF1
  generalize hW : ((v1.setCell ⟨mb, 393, none⟩ (.int .i64 1)).setCell ⟨mb, 394, none⟩ (.int .i64 c)).setCell ⟨mb, 399, none⟩ (.string (bs k)) = v2 at HM2 HF2 ⊢
  clear hW
  obtain ⟨m2, hm2⟩ : ∃ x, x = { m with done := true, st := 1, code := c, miss := k } := ⟨_, rfl⟩
  have HM := Lib.hid (show VMB B mb S H m2 R v2 by rw [hm2]; exact HM2.out)
  have HE := Lib.hid (show endM 1 c k m = { m2 with wrs := m2.wrs ++ m2.puts.map fun x => ⟨x, getP m2.own x⟩ } by rw [hm2]; exact if_pos rfl)
  have hl2 : m2.puts.length ≤ 100000000 ∧ m2.own.length ≤ 100000000 ∧ m2.wrs.length ≤ 100000000 := by rw [hm2]; exact hl
  have HMS := Lib.hid (show S mb from HM.out.mS)
  clear hm2 HM2 hl
  obtain ⟨P, hP⟩ : ∃ P, m2.puts = P := ⟨_, rfl⟩
  obtain ⟨O, hO⟩ : ∃ O, m2.own = O := ⟨_, rfl⟩
  obtain ⟨pa, pc, hpv⟩ := own_sl HM.out.puts.1
  rw [hP] at hpv
  have HPV := Lib.hid hpv; have HP := Lib.hid hP; have HO := Lib.hid hO
  have HE := Lib.hid (show endM 1 c k m = { m2 with wrs := m2.wrs ++ P.map fun x => ⟨x, getP O x⟩ } from by rw [HE.out, ← hP, ← hO])
  rw [hP, hO] at hl2
  clear hP hO hpv
  have c4 : v2.cell? ⟨mb, 397, none⟩ = some (.slice pa P.length pc) := by rw [← HPV.out]; exact HM.out.tl 5 (by decide)
  go_wp2
  clear c4
  go_loopw [43] (fun i wr => ∃ (k : Nat) (S' : Nat → Prop) (wv : Value), k ≤ P.length ∧ i = .int .i64 k ∧ Hid (VMB B mb S' H { m2 with wrs := m2.wrs ++ (P.take k).map fun x => ⟨x, getP O x⟩ } { R with wv := wv } wr) ∧ Hid (FrS S S' w wr)) (fun i _ => P.length - (intOf i).toNat)
  case atStart => exact ⟨0, S, R.wv, Nat.zero_le _, by first | exact True.intro | rfl, Lib.hid (by simpa using HM.out), HF2⟩
  case round =>
    obtain ⟨k, S', wv, hk, rfl, HMk, HFk⟩ := hrel
    by_cases hlt : k < P.length
    · have hlt' : (k : Int) < (P.length : Int) := by omega
      have hkb : (0 : Int) ≤ (k : Int) ∧ (k : Int) < (P.length : Int) := ⟨by omega, by omega⟩
      have hw1 : IntKind.i64.wrap ((k : Int) + 1) = (k : Int) + 1 := by rw [IntKind.wrap_i64]; omega
      obtain ⟨g, hpa, hgc⟩ : ∃ g, pa = some ⟨g, 0, none⟩ ∧ wr.cell? ⟨g, k, none⟩ = some (.string (bs P[k])) := by
        have ho : wr.ownsRow B 9 1 R.pv m2.puts.length (m2.puts.map strV) := HMk.out.puts.1
        rw [HP.out] at ho
        rcases own_strs ho with ⟨_, h0⟩ | ⟨g, cap, hv, _, hc⟩
        · rw [h0] at hlt; simp at hlt
        · have hv2 := HPV.out.symm.trans hv
          cases hv2
          exact ⟨g, rfl, hc k hlt⟩
      subst hpa
      obtain ⟨x, hx⟩ : ∃ x, P[k] = x := ⟨_, rfl⟩
      rw [hx] at hgc
      have HX := Lib.hid hx; clear hx
      obtain ⟨wa, wc, hwv⟩ := own_sl HMk.out.wrs.1
      obtain ⟨oa, oc, hov⟩ := own_sl HMk.out.own.1
      obtain ⟨n, hn⟩ : ∃ n, (m2.wrs ++ (P.take k).map fun x => (⟨x, getP O x⟩ : Pr)).length = n := ⟨_, rfl⟩
      have hnl : n ≤ 200000000 := by rw [← hn, List.length_append, List.length_map, List.length_take]; omega
      have HN := Lib.hid hn
      simp only [hn] at hwv
      simp only [HO.out] at hov
      have HWV := Lib.hid hwv; have HOV := Lib.hid hov; clear hn hwv hov
      have c6 : wr.cell? ⟨mb, 398, none⟩ = some (.slice wa n wc) := by rw [← HWV.out]; exact HMk.out.tl 6 (by decide)
      have c0 : wr.cell? ⟨mb, 392, none⟩ = some (.slice oa O.length oc) := by rw [← HOV.out]; exact HMk.out.tl 0 (by decide)
      have HS0 := Lib.hid (show ((fun w' => w'.cell? ⟨mb, 392, none⟩ = some (.slice oa O.length oc))) wr.drew from c0)
      have HC6 := Lib.hid c6
      clear c6 c0
      obtain ⟨i0, hi, hz0, hz1, hz2⟩ := info_parts infoPr
      go_wp2_with fail
      refine wp_region_held_drew (S := (fun w' => w'.cell? ⟨mb, 392, none⟩ = some (.slice oa O.length oc))) (by kernel_rfl) ?_ (fun hHeld => ?_)
      · exact HS0.out
      refine tkX (i := 0) 47 ?_
      simp only [sA, sB, sC]
      refine tkX (i := 1) 48 ?_
      simp only [sA, sB, sC]
      refine tkX (i := 2) 49 ?_
      simp only [sA, sB, sC]
      refine tkX (i := 3) 50 ?_
      simp only [sA, sB, sC]
      refine tkX (i := 4) 51 ?_
      simp only [sA, sB, sC]
      refine tkX (i := 6) 53 ?_
      simp only [sA, sB, sC]
      refine tkX (i := 7) 54 ?_
      simp only [sA, sB, sC]
      refine tkX (i := 8) 55 ?_
      simp only [sA, sB, sC]
      refine tkX (i := 9) 56 ?_
      simp only [sA, sB, sC]
      refine tkY (i := 10) (v := ?vv10) 57 ?yy10 ?_
      case yy10 =>
        intro wq hSw
        have d0 := hSw
        clear hSw
        go_simp
        (try with_reducible rfl)
      simp only [sA, sB, sC]
      refine tkX (i := 11) 58 ?_
      simp only [sA, sB, sC]
      have hOC : CellsAt wr.drew (.slice oa O.length oc) O.length (prLs O) := by
        have ho : wr.ownsRow B 55 4 R.ov m2.own.length (prLs m2.own) := HMk.out.own.1
        rw [HOV.out, HO.out] at ho
        exact own_prAt ho
      have HOC := Lib.hid hOC; clear hOC
      obtain ⟨u, hu⟩ : ∃ u, getP O x = u := ⟨_, rfl⟩
      have HU := Lib.hid hu; clear hu
      refine wpAnyH_ready (rs := [5, 12]) (by kernel_rfl) (by simp) ?_
      refine (AllReadyH.cons rfl (fun K hK => ?_) (AllReadyH.cons rfl (fun K hK => ?_) AllReadyH.nil))
      have d0 : wr.cell? ⟨mb, 398, none⟩ = some (.slice wa n wc) := HC6.out
      go_simp
      skip
      refine hK.out _ _ ?_ (fun hHeld => ?_)
      · exact hHeld
      clear hK K
      (try simp only [Act.put, sA, sB, sC])
      refine wpAnyH_ready (rs := [12]) (by kernel_rfl) (by simp) ?_
      refine (AllReadyH.cons rfl (fun K hK => ?_) AllReadyH.nil)
      go_simp
      refine (SGet_any oa oc O x wr.drew (by omega) HOC.out).mono ?_
      rw [HU.out]
      simp only [vV]
      rintro er w1 ⟨rfl, hb1⟩
      have HB1 := Lib.hid hb1; clear hb1
      refine hK.out _ _ ?_ (fun hHeld => ?_)
      · exact cell1_below hHeld HB1.out
      clear hK K
      (try simp only [Act.put, sA, sB, sC])
      refine tkX (i := 13) 60 ?_
      simp only [sA, sB, sC]
      refine wpAnyH_ready (rs := [14]) (by kernel_rfl) (by simp) ?_
      refine (AllReadyH.cons rfl (fun K hK => ?_) AllReadyH.nil)
      go_simp
      skip
      focus (try go_wp2_with fail)
      refine hK.out _ _ ?_ (fun hHeld => ?_)
      · exact cell1_below hHeld ((Below.refl w1.heap.size w1).alloc (Nat.le_refl _) (.cells #[.string (bs x), .int .i64 u.k, .int .i64 u.n, .string (bs u.s)] 55))
      clear hK K
      (try simp only [Act.put, sA, sB, sC])
      rotate_left
      go_simp
      refine (SGet_any oa oc O x wr.drew (by omega) HOC.out).mono ?_
      rw [HU.out]
      simp only [vV]
      rintro er w1 ⟨rfl, hb1⟩
      have HB1 := Lib.hid hb1; clear hb1
      refine hK.out _ _ ?_ (fun hHeld => ?_)
      · exact cell1_below hHeld HB1.out
      clear hK K
      (try simp only [Act.put, sA, sB, sC])
      refine tkX (i := 13) 60 ?_
      simp only [sA, sB, sC]
      refine wpAnyH_ready (rs := [5, 14]) (by kernel_rfl) (by simp) ?_
      refine (AllReadyH.cons rfl (fun K hK => ?_) (AllReadyH.cons rfl (fun K hK => ?_) AllReadyH.nil))
      have d0 : w1.cell? ⟨mb, 398, none⟩ = some (.slice wa n wc) := cell1_below (W := wr.drew) HC6.out HB1.out
      go_simp
      skip
      refine hK.out _ _ ?_ (fun hHeld => ?_)
      · exact hHeld
      clear hK K
      (try simp only [Act.put, sA, sB, sC])
      refine wpAnyH_ready (rs := [14]) (by kernel_rfl) (by simp) ?_
      refine (AllReadyH.cons rfl (fun K hK => ?_) AllReadyH.nil)
      go_simp
      skip
      focus (try go_wp2_with fail)
      refine hK.out _ _ ?_ (fun hHeld => ?_)
      · exact cell1_below hHeld ((Below.refl w1.heap.size w1).alloc (Nat.le_refl _) (.cells #[.string (bs x), .int .i64 u.k, .int .i64 u.n, .string (bs u.s)] 55))
      clear hK K
      (try simp only [Act.put, sA, sB, sC])
      rotate_left
      go_simp
      skip
      focus (try go_wp2_with fail)
      refine hK.out _ _ ?_ (fun hHeld => ?_)
      · exact cell1_below hHeld ((Below.refl w1.heap.size w1).alloc (Nat.le_refl _) (.cells #[.string (bs x), .int .i64 u.k, .int .i64 u.n, .string (bs u.s)] 55))
      clear hK K
      (try simp only [Act.put, sA, sB, sC])
      refine wpAnyH_ready (rs := [5]) (by kernel_rfl) (by simp) ?_
      refine (AllReadyH.cons rfl (fun K hK => ?_) AllReadyH.nil)
      have d0 : (w1.alloc (.cells #[.string (bs x), .int .i64 u.k, .int .i64 u.n, .string (bs u.s)] 55)).cell? ⟨mb, 398, none⟩ = some (.slice wa n wc) := cell1_below (cell1_below (W := wr.drew) HC6.out HB1.out) ((Below.refl w1.heap.size w1).alloc (Nat.le_refl _) (.cells #[.string (bs x), .int .i64 u.k, .int .i64 u.n, .string (bs u.s)] 55))
      go_simp
      skip
      refine hK.out _ _ ?_ (fun hHeld => ?_)
      · exact hHeld
      clear hK K
      (try simp only [Act.put, sA, sB, sC])
      all_goals
        have HMA := Lib.hid ((HMk.out.drew.call HB1.out).call ((Below.refl w1.heap.size w1).alloc (Nat.le_refl _) (.cells #[.string (bs x), .int .i64 u.k, .int .i64 u.n, .string (bs u.s)] 55)))
        have HFA := Lib.hid (HFk.out.drew.then ((FrS.of_below (S := S') HB1.out).then (FrS.of_below (S := S') ((Below.refl w1.heap.size w1).alloc (Nat.le_refl _) (.cells #[.string (bs x), .int .i64 u.k, .int .i64 u.n, .string (bs u.s)] 55)))))
        have HNW := Lib.hid (Bx.new w1 #[.string (bs x), .int .i64 u.k, .int .i64 u.n, .string (bs u.s)] 55)
        clear hHeld
        generalize hW : w1.alloc (.cells #[.string (bs x), .int .i64 u.k, .int .i64 u.n, .string (bs u.s)] 55) = u1 at HMA HFA HNW ⊢
        clear hW
        obtain ⟨nb, hnb⟩ : ∃ n, w1.heap.size = n := ⟨_, rfl⟩
        rw [hnb] at HNW
        (try rw [hnb])
        have hone : ∀ y ∈ prL ⟨x, u⟩, y.oneCell' = true := by intro y hy; simp only [prL, List.mem_cons, List.not_mem_nil, or_false] at hy; rcases hy with rfl | rfl | rfl | rfl <;> rfl
        have hoA := HMA.out.wrs.1
        simp only [HN.out, HWV.out] at hoA
        have hBu : B ≤ u1.heap.size := by have := HMA.out.rng mb HMA.out.mS; omega
        refine wpAnyH_ready (rs := [15]) (by kernel_rfl) (by simp) ?_
        refine AllReadyH.cons rfl (fun K hK => ?_) AllReadyH.nil
        refine step_append_lies u1 (by rfl) _ _ 32 (by rfl) B 55 i0 (.agg #[.string ⟨#[]⟩, .int .i64 0, .int .i64 0, .string ⟨#[]⟩]) 4 48 Tryz.underlying32 hi hz0 hz1 hz2 rfl (by decide) (.slice wa n wc) n (prLs (m2.wrs ++ (P.take k).map fun x => (⟨x, getP O x⟩ : Pr))) (by rfl) hoA ⟨nb, 0, none⟩ 1 1 (prL ⟨x, u⟩) (by rfl) rfl (World.news_of_block HNW.out) hone (by decide) (by unfold maxLen; omega) (by omega) hBu _ rfl ?_
        intro g5 cap5 w5 hown5 hgrow hat hlt5
        have hnx : (m2.wrs ++ (P.take (k + 1)).map fun x => (⟨x, getP O x⟩ : Pr)) = (m2.wrs ++ (P.take k).map fun x => (⟨x, getP O x⟩ : Pr)) ++ [⟨x, u⟩] := by rw [List.take_succ_eq_append_getElem hlt, HX.out, List.map_append, List.append_assoc]; simp [HU.out]
        have hnl2 : (m2.wrs ++ (P.take (k + 1)).map fun x => (⟨x, getP O x⟩ : Pr)).length = n + 1 := by rw [hnx, List.length_append, HN.out]; rfl
        have hrow := HMA.out.rowWrs (W' := w5) (.slice (some ⟨g5, 0, none⟩) (n + 1) cap5) (m2.wrs ++ (P.take (k + 1)).map fun x => (⟨x, getP O x⟩ : Pr)) (by show u1.grownBy w5 wv.ownBlock; simp only [HWV.out]; exact hgrow) (by rw [hnl2, hnx, prLs_snoc]; exact hown5) (by show _ = wv.ownBlock ∨ _; simp only [HWV.out]; rcases hat with q | q; exact .inl q.symm; exact .inr ⟨g5, rfl, by omega⟩)
        have HROW := Lib.hid hrow; clear hrow
        have hw0 : w5.cell? ⟨mb, 392, none⟩ = some (.slice oa O.length oc) := by have := HROW.out.1.cell 392 (by decide); rw [this, ← HOV.out]; rfl
        have hw5 : w5.cell? ⟨mb, 398, none⟩ = some (.slice wa n wc) := by have := HROW.out.1.cell 398 (by decide); rw [this, ← HWV.out]; rfl
        have f5 := HROW.out.1.free 398
        clear hnx hnl2
        refine hK.out _ _ ?_ (fun hHeld => ?_)
        · exact hw0
        clear hK K hHeld
        simp only [Act.put, List.setIfInBounds_toArray]
        refine tkX (i := 16) 63 ?_
        simp only [sA, sB, sC]
        refine tkX (i := 17) 64 ?_
        simp only [sA, sB, sC]
        refine tkX (i := 18) 65 ?_
        simp only [sA, sB, sC]
        refine wpAnyH_ready (rs := [19]) (by kernel_rfl) (by simp) ?_
        refine (AllReadyH.cons rfl (fun K hK => ?_) AllReadyH.nil)
        go_simp
        have hx6 : (w5.setCell ⟨mb, 398, none⟩ (.slice (some ⟨g5, 0, none⟩) (n + 1) cap5)).cell? ⟨mb, 392, none⟩ = some (.slice oa O.length oc) := cellN_set _ (by decide) hw0
        refine hK.out _ _ ?_ (fun hHeld => ?_)
        · exact hx6
        clear hK K hHeld
        (try simp only [Act.put, sA, sB, sC])
        refine wpAnyH_done (by kernel_rfl) ?_ _
        have HM5 := Lib.hid HROW.out.2.1; have HF5 := Lib.hid (HFA.out.then HROW.out.2.2); clear HROW hx6 hw5 hw0 f5 HFA HMA
        generalize hW : w5.setCell ⟨mb, 398, none⟩ (.slice (some ⟨g5, 0, none⟩) (n + 1) cap5) = v6 at HM5 HF5 ⊢
        clear hW
        go_wp2
        go_roundw
        case rel => exact ⟨k + 1, _, _, by omega, by go_num, HM5, HF5⟩
        case measure => simp [intOf]; omega
    · have hlt' : ¬ (k : Int) < (P.length : Int) := by omega
      have hkk : k = P.length := by omega
      subst hkk
      go_wp2
      exact ⟨(by first | exact True.intro | rfl), .tuple #[], results_none rfl _ _ _, rfl, S', _, by rw [HE.out]; have h := HMk.out; rw [List.take_length] at h; exact h, HFk.out⟩
end Go.Proofs.YtnglaegofhpleaaGreatDoor
namespace Go.Proofs.YtnglaegofhpleaaGreatDoor
open Go.RowKit

theorem Bx.app {b B k n : Nat} {cs : Array Value} {T e : TypeId} {W W' : World} {v : Value} {xs : List Value} (h : Bx b cs T W) (hg : W.grownBy W' v.ownBlock) (ho : W.ownsRow B e k v n xs) (hb : b < B) : Bx b cs T W' := by
  refine (hg.block b h.lt (fun q => ?_)).trans h
  have := (ho.lt b q.symm).1
  omega

theorem run_slHi {P : Program} {T e : TypeId} (hu : P.underlying T = some (.slice e)) {i : TypeInfo} (hi : P.info? e = some i) (a : Option Addr) (n cap k : Nat) (hk : k ≤ cap) (w : World) :
    (Instr.sliceAt T (.slice a n cap) none (some (.int .i64 (k : Int))) none).run P w = .ok (.slice a k cap) w := by
  by_cases h0 : cap = 0
  · subst h0
    have : k = 0 := by omega
    subst this
    simp [Instr.sliceAt, Instr.slice, run_underlying hu, sizeOf, typeInfo, hi, Instr.sliceBounds, Instr.sliceBound, asIntOf]
  · simp [Instr.sliceAt, Instr.slice, run_underlying hu, sizeOf, typeInfo, hi, Instr.sliceBounds, Instr.sliceBound, asIntOf, hk, h0]
    cases a with
    | none => rfl
    | some a => simp [Addr.add]; try (cases a; split <;> simp_all)
theorem run_slLo {P : Program} {T e : TypeId} (hu : P.underlying T = some (.slice e)) {i : TypeInfo} (hi : P.info? e = some i) (a : Option Addr) (n cap k : Nat) (hk : k ≤ n) (w : World) :
    (Instr.sliceAt T (.slice a n cap) (some (.int .i64 (k : Int))) none none).run P w = .ok (.slice (if cap = k then a else a.map (·.add (k * i.size))) (n - k) (cap - k)) w := by
  simp [Instr.sliceAt, Instr.slice, run_underlying hu, sizeOf, typeInfo, hi, Instr.sliceBounds, Instr.sliceBound, asIntOf, hk]

theorem slHi_pr {a : Option Addr} {n cap k : Nat} (hk : k ≤ cap) : ∀ w, (Instr.sliceAt 32 (.slice a n cap) none (some (.int .i64 (k : Int))) none).run Tryz.prog w = .ok (.slice a k cap) w := by
  obtain ⟨i0, hi, -⟩ := info_parts infoPr
  exact fun w => run_slHi Tryz.underlying32 hi a n cap k hk w
theorem cells_take_pr {W : World} {a : Option Addr} {n c : Nat} {L : List Pr} {k : Nat} (hk : k ≤ L.length) (h : CellsAt W (.slice a n c) n (prLs L)) : CellsAt W (.slice a k c) (L.take k).length (prLs (L.take k)) := by
  rw [List.length_take, Nat.min_eq_left hk]
  obtain ⟨a2, c2, he, hc⟩ := h
  cases he
  refine ⟨_, _, rfl, fun hne => ?_⟩
  have e : prLs L = prLs (L.take k) ++ prLs (L.drop k) := by unfold prLs; rw [← List.flatMap_append, List.take_append_drop]
  obtain ⟨b, off, hb, hcell⟩ := hc (fun q => hne (List.append_eq_nil_iff.1 (e ▸ q)).1)
  refine ⟨b, off, hb, fun j y hj => hcell j y ?_⟩
  rw [e, List.getElem?_append_left (List.getElem?_eq_some_iff.1 hj).1]; exact hj
theorem slLo_pr {a : Option Addr} {cap k : Nat} {L : List Pr} (hk : k ≤ L.length) : ∃ ad, (∀ w, (Instr.sliceAt 32 (.slice a L.length cap) (some (.int .i64 (k : Int))) none none).run Tryz.prog w = .ok (.slice ad (L.length - k) (cap - k)) w) ∧ ∀ W, CellsAt W (.slice a L.length cap) L.length (prLs L) → L.length ≤ cap → CellsAt W (.slice ad (L.length - k) (cap - k)) (L.drop k).length (prLs (L.drop k)) := by
  obtain ⟨i0, hi, -, hz1, -⟩ := info_parts infoPr
  refine ⟨_, fun w => run_slLo Tryz.underlying32 hi a L.length cap k hk w, fun W h hc => ?_⟩
  rw [hz1, List.length_drop]
  obtain ⟨a2, c2, he, hx⟩ := h
  cases he
  refine ⟨_, _, rfl, fun hne => ?_⟩
  have e : prLs L = prLs (L.take k) ++ prLs (L.drop k) := by unfold prLs; rw [← List.flatMap_append, List.take_append_drop]
  obtain ⟨b, off, rfl, hcell⟩ := hx (fun q => hne (List.append_eq_nil_iff.1 (e ▸ q)).2)
  have hkl : cap ≠ k := by
    intro q
    exact hne (by rw [List.drop_of_length_le (by omega)]; rfl)
  rw [if_neg hkl]
  refine ⟨b, off + k * 4, by simp [Addr.add], fun j y hj => ?_⟩
  have hl : (prLs (L.take k)).length = k * 4 := by rw [prLs_length, List.length_take, Nat.min_eq_left hk]
  rw [Nat.add_assoc]
  refine hcell _ y ?_
  rw [e, List.getElem?_append_right (by omega), hl, Nat.add_sub_cancel_left]; exact hj

def PrP (B : Nat) (L : List Pr) (w : World) (e : Ending) (w' : World) : Prop := ∃ v, e = .returned v ∧ w'.ownsRow B 55 4 v L.length (prLs L) ∧ Below w.heap.size w w'
def posP (L : List Pr) (p : Pr) : Nat := L.findIdx fun q => !Op.bytesLess q.key p.key
theorem posP_le (L : List Pr) (p : Pr) : posP L p ≤ L.length := List.findIdx_le_length
theorem posP_lt {L : List Pr} {p : Pr} {k : Nat} (h : k < posP L p) : ∃ hk : k < L.length, Op.bytesLess L[k].key p.key = true := by
  have hk : k < L.length := Nat.lt_of_lt_of_le h (posP_le L p)
  refine ⟨hk, ?_⟩
  have := List.not_of_lt_findIdx h
  simpa using this
theorem posP_at {L : List Pr} {p : Pr} (h : posP L p < L.length) : Op.bytesLess L[posP L p].key p.key = false := by
  unfold posP at h ⊢
  have := List.findIdx_getElem (w := h)
  simpa using this
theorem putP_pos (L : List Pr) (p : Pr) : putP L p = L.take (posP L p) ++ p :: L.drop (posP L p) := rfl
theorem prLs_app (A B : List Pr) : prLs (A ++ B) = prLs A ++ prLs B := by unfold prLs; rw [List.flatMap_append]
theorem prLs_cell (L : List Pr) : ∀ u ∈ prLs L, u.oneCell' = true := by
  intro u hu
  unfold prLs at hu
  obtain ⟨p, -, hp⟩ := List.mem_flatMap.1 hu
  unfold prL at hp
  simp only [List.mem_cons, List.not_mem_nil, or_false] at hp
  rcases hp with rfl | rfl | rfl | rfl <;> rfl

theorem cellsAt_ppr (w : World) (x : Pr) : CellsAt (w.alloc (.cells (prV x) 55)) (.slice (some ⟨w.heap.size, 0, none⟩) 1 1) 1 (prL x) := by
  refine ⟨_, _, rfl, fun _ => ⟨_, _, rfl, fun j y hj => ?_⟩⟩
  rw [Nat.zero_add]
  have h := (Bx.new w (prV x) 55).cell j
  rw [h]
  rcases j with _ | _ | _ | _ | j
  · exact hj
  · exact hj
  · exact hj
  · exact hj
  · simp [prL] at hj
/-- 'v = append(v, y)', v a slice of tokens of the call's own -/
theorem appPr1_any {w1 : World} {ops : Array Oper} {rest : List Oper} {o : Oper} {a : Act} {Q : Exit → Act → World → Prop} (hgd : o.guard = none) (s x : Operand)
    (ho : o.op = .call { callee := .builtin .append, args := #[s, x], argTypes := #[32, 32] }) (B : Nat) (v : Value) (L : List Pr) (y : Pr) (hown : w1.ownsRow B 55 4 v L.length (prLs L))
    (hs : a.eval s = v) (hx : a.eval x = .slice (some ⟨w1.heap.size, 0, none⟩) 1 1) (hlen : L.length ≤ 4000000000000) (W0 : World) (B0 : Nat) (hbel : Below B0 W0 w1) (hB : B ≤ w1.heap.size) (hB0 : B0 ≤ B)
    (h : ∀ v' w', w'.ownsRow B 55 4 v' (L ++ [y]).length (prLs (L ++ [y])) → Below B0 W0 w' → w1.grownBy w' v.ownBlock → wpList Tryz.prog ops Q rest (a.put o.dst v') w') :
    wpList Tryz.prog ops Q (o :: rest) a (w1.alloc (.cells (prV y) 55)) := by
  obtain ⟨i0, hi, hz0, hz1, hz2⟩ := info_parts infoPr
  refine wpList_append_any hgd s x 32 ho B 55 i0 (.agg #[.string ⟨#[]⟩, .int .i64 0, .int .i64 0, .string ⟨#[]⟩]) 4 48 Tryz.underlying32 hi hz0 hz1 hz2 rfl (by decide) v _ L.length 1 (prLs L) (prL y) hs (hown.alloc _) hx (cellsAt_ppr w1 y) rfl
    (by intro u hu; simp only [prL, List.mem_cons, List.not_mem_nil, or_false] at hu; rcases hu with rfl | rfl | rfl | rfl <;> rfl) (by unfold maxLen; omega) (by omega) W0 B0 (hbel.alloc (Nat.le_trans hB0 hB) _) (by simp; omega) hB0 ?_
  intro v2 w2 hown2 hb2 hgrow
  refine h v2 w2 (by rw [prLs_snoc, List.length_append]; exact hown2) hb2 ?_
  exact ⟨hgrow.os, hgrow.tape, hgrow.output, Nat.le_trans (by simp) hgrow.size, fun k hk hne => (hgrow.block k (by simp; omega) hne).trans ((World.grownBy_alloc w1 (.cells (prV y) 55) none).block k hk (by simp))⟩

theorem appPr_any {w1 : World} {ops : Array Oper} {rest : List Oper} {o : Oper} {a : Act} {Q : Exit → Act → World → Prop} (hgd : o.guard = none) (s x : Operand)
    (ho : o.op = .call { callee := .builtin .append, args := #[s, x], argTypes := #[32, 32] }) (B : Nat) (v : Value) (L M : List Pr) (u : Value) (hown : w1.ownsRow B 55 4 v L.length (prLs L))
    (hs : a.eval s = v) (hx : a.eval x = u) (hU : CellsAt w1 u M.length (prLs M)) (hlen : L.length + M.length ≤ 4100000000000) (W0 : World) (B0 : Nat) (hbel : Below B0 W0 w1) (hB : B ≤ w1.heap.size) (hB0 : B0 ≤ B)
    (h : ∀ v' w', w'.ownsRow B 55 4 v' (L ++ M).length (prLs (L ++ M)) → Below B0 W0 w' → w1.grownBy w' v.ownBlock → wpList Tryz.prog ops Q rest (a.put o.dst v') w') :
    wpList Tryz.prog ops Q (o :: rest) a w1 := by
  obtain ⟨i0, hi, hz0, hz1, hz2⟩ := info_parts infoPr
  refine wpList_append_any hgd s x 32 ho B 55 i0 (.agg #[.string ⟨#[]⟩, .int .i64 0, .int .i64 0, .string ⟨#[]⟩]) 4 48 Tryz.underlying32 hi hz0 hz1 hz2 rfl (by decide) v u L.length M.length (prLs L) (prLs M) hs hown hx hU (prLs_length M) (prLs_cell M) (by unfold maxLen; omega) (by omega) W0 B0 hbel hB hB0 ?_
  intro v2 w2 ho2 hb2 hg2
  exact h v2 w2 (by rw [prLs_app, List.length_append]; exact ho2) hb2 hg2

set_option maxRecDepth 100000 in
set_option maxHeartbeats 16000000 in
theorem Rput06_any (a : Option Addr) (cap : Nat) (L : List Pr) (p : Pr) (w : World) (hL : CellsAt w (.slice a L.length cap) L.length (prLs L)) (hl : L.length ≤ 4000000000000) (hcap : L.length ≤ cap) :
    Calls Tryz.prog 33 #[.slice a L.length cap, .agg (prV p)] w (PrP w.heap.size (putP L p) w) := by
  rw [putP_pos]
  obtain ⟨n, hn⟩ : ∃ n, posP L p = n := ⟨_, rfl⟩
  have hnl : n ≤ L.length := hn ▸ posP_le L p
  have hlo : ∀ k, k < n → ∃ hk : k < L.length, Op.bytesLess L[k].key p.key = true := fun k h => posP_lt (hn ▸ h)
  have hat : ∀ h : n < L.length, Op.bytesLess L[n].key p.key = false := fun h => by subst hn; exact posP_at h
  rw [hn]
  obtain ⟨da, hsd, hdc⟩ := slLo_pr (a := a) (cap := cap) hnl
  have hst := slHi_pr (a := a) (n := L.length) (k := n) (Nat.le_trans hnl hcap)
  have HDC := Lib.hid hdc; have HCAP := Lib.hid hcap; clear hdc hcap
  have HLO := Lib.hid hlo; have HAT := Lib.hid hat; have HL := Lib.hid hL; clear hlo hat hL hn
  simp only [prV]
  obtain ⟨i0, hi, hz0, hz1, hz2⟩ := info_parts infoPr
  obtain ⟨v0, hW0, hb0, hx0⟩ := boxes1 w #[.string (bs p.key), .int .i64 p.v.k, .int .i64 p.v.n, .string (bs p.v.s)] 55
  have HW := Lib.hid hW0; have HB := Lib.hid hb0; have HX := Lib.hid hx0; clear hW0 hb0 hx0
  go_enter Tryz.func33, Tryz.ntmps33
  go_upto_region 1 with (fail)
  rw [HW.out]
  clear HW
  go_wp2
  go_loopw [5] (fun i wr => ∃ k : Nat, k ≤ n ∧ i = .int .i64 k ∧ Hid (Bx w.heap.size #[.string (bs p.key), .int .i64 p.v.k, .int .i64 p.v.n, .string (bs p.v.s)] 55 wr) ∧ Below w.heap.size w wr) (fun i _ => n - (intOf i).toNat)
  case atStart => exact ⟨0, Nat.zero_le _, by first | exact True.intro | rfl, HX, HB.out⟩
  case round =>
    clear HX HB
    obtain ⟨k, hk, rfl, HX, hB⟩ := hrel
    have HB := Lib.hid hB; clear hB
    obtain ⟨x0, x1, x2, x3⟩ := HX.out.c4
    have hw1 : IntKind.i64.wrap ((k : Int) + 1) = (k : Int) + 1 := by rw [IntKind.wrap_i64]; omega
    by_cases hkn : k < n
    · obtain ⟨hkl, hlt⟩ := HLO.out k hkn
      have hlt' : (k : Int) < (L.length : Int) := by omega
      have hkb : (0 : Int) ≤ (k : Int) ∧ (k : Int) < (L.length : Int) := ⟨by omega, by omega⟩
      obtain ⟨b, off, rfl, p0, -⟩ := pr_cells (HL.out.below HB.out) hkl
      go_wp2
      go_quiet (fail)
      go_wp2
      go_roundw
      case rel => exact ⟨k + 1, by omega, by go_num, Lib.hid (HX.out.drewN _), bdrewN HB.out _⟩
      case measure => simp [intOf]; omega
    have hke : k = n := by omega
    subst hke
    clear hkn hk
    by_cases hlt : k < L.length
    · have hlt' : (k : Int) < (L.length : Int) := by omega
      have hkb : (0 : Int) ≤ (k : Int) ∧ (k : Int) < (L.length : Int) := ⟨by omega, by omega⟩
      obtain ⟨b, off, rfl, p0, -⟩ := pr_cells (HL.out.below HB.out) hlt
      have hat := HAT.out hlt
      go_wp2
      go_quiet (fail)
      clear p0 hat x0 x1 x2 x3
      have HB := Lib.hid (bdrewN HB.out nq); have HX := Lib.hid (HX.out.drewN nq)
      generalize hWd : wr.drewN nq = v1 at HB HX ⊢
      clear hWd
      go_wp2_with (at_builtin; refine appPr_any rfl _ _ rfl (w.heap.size + 1) (.slice none 0 0) [] (L.take k) _ (World.ownsRow_nil _ _ _ _) rfl rfl (cells_take_pr hnl (HL.out.below HB.out)) (by simp; omega) w w.heap.size HB.out HX.out.lt (Nat.le_succ _) ?_)
      intro v2 w2 ho2 hb2 hg2
      have HX := Lib.hid (HX.out.app hg2 (World.ownsRow_nil _ _ 55 4) (Nat.lt_succ_self w.heap.size)); have HB := Lib.hid hb2
      have HO := Lib.hid (show w2.ownsRow (w.heap.size + 1) 55 4 v2 (L.take k).length (prLs (L.take k)) from by rw [List.length_take, Nat.min_eq_left hnl]; exact ho2); clear ho2 hb2 hg2
      obtain ⟨x0, x1, x2, x3⟩ := HX.out.c4
      go_wp2_with (at_builtin; refine appPr1_any rfl _ _ rfl (w.heap.size + 1) v2 _ p HO.out rfl rfl (by rw [List.length_take]; omega) w w.heap.size HB.out HX.out.lt (Nat.le_succ _) ?_)
      intro v3 w3 ho3 hb3 hg3
      have HX := Lib.hid (HX.out.app hg3 HO.out (Nat.lt_succ_self w.heap.size)); have HB := Lib.hid hb3
      have HO := Lib.hid (show w3.ownsRow (w.heap.size + 1) 55 4 v3 (L.take k ++ [p]).length (prLs (L.take k ++ [p])) from by rw [List.length_append, List.length_take, Nat.min_eq_left hnl]; exact ho3); clear ho3 hb3 hg3 x0 x1 x2 x3
      go_wp2_with (at_builtin; refine appPr_any rfl _ _ rfl (w.heap.size + 1) v3 _ (L.drop k) _ HO.out rfl rfl (HDC.out _ (HL.out.below HB.out) HCAP.out) (by rw [List.length_append, List.length_take, List.length_drop]; simp; omega) w w.heap.size HB.out HX.out.lt (Nat.le_succ _) ?_)
      intro v4 w4 ho4 hb4 hg4
      have HO := Lib.hid (own_mono ho4 (Nat.le_succ _)); have HB := Lib.hid hb4; clear ho4 hb4 hg4
      go_wp2
      go_ret
      exact ⟨v4, rfl, by rw [show (L.take k ++ p :: L.drop k).length = k + (L.length - k + 1) from by rw [List.length_append, List.length_cons, List.length_take, List.length_drop, Nat.min_eq_left hnl]]; exact HO.out, HB.out⟩
    have hlt' : ¬ (k : Int) < (L.length : Int) := by omega
    go_wp2
    go_quiet (fail)
    clear x0 x1 x2 x3
    have HB := Lib.hid (bdrewN HB.out nq); have HX := Lib.hid (HX.out.drewN nq)
    generalize hWd : wr.drewN nq = v1 at HB HX ⊢
    clear hWd
    go_wp2_with (at_builtin; refine appPr_any rfl _ _ rfl (w.heap.size + 1) (.slice none 0 0) [] (L.take k) _ (World.ownsRow_nil _ _ _ _) rfl rfl (cells_take_pr hnl (HL.out.below HB.out)) (by simp; omega) w w.heap.size HB.out HX.out.lt (Nat.le_succ _) ?_)
    intro v2 w2 ho2 hb2 hg2
    have HX := Lib.hid (HX.out.app hg2 (World.ownsRow_nil _ _ 55 4) (Nat.lt_succ_self w.heap.size)); have HB := Lib.hid hb2
    have HO := Lib.hid (show w2.ownsRow (w.heap.size + 1) 55 4 v2 (L.take k).length (prLs (L.take k)) from by rw [List.length_take, Nat.min_eq_left hnl]; exact ho2); clear ho2 hb2 hg2
    obtain ⟨x0, x1, x2, x3⟩ := HX.out.c4
    go_wp2_with (at_builtin; refine appPr1_any rfl _ _ rfl (w.heap.size + 1) v2 _ p HO.out rfl rfl (by rw [List.length_take]; omega) w w.heap.size HB.out HX.out.lt (Nat.le_succ _) ?_)
    intro v3 w3 ho3 hb3 hg3
    have HX := Lib.hid (HX.out.app hg3 HO.out (Nat.lt_succ_self w.heap.size)); have HB := Lib.hid hb3
    have HO := Lib.hid (show w3.ownsRow (w.heap.size + 1) 55 4 v3 (L.take k ++ [p]).length (prLs (L.take k ++ [p])) from by rw [List.length_append, List.length_take, Nat.min_eq_left hnl]; exact ho3); clear ho3 hb3 hg3 x0 x1 x2 x3
    go_wp2_with (at_builtin; refine appPr_any rfl _ _ rfl (w.heap.size + 1) v3 _ (L.drop k) _ HO.out rfl rfl (HDC.out _ (HL.out.below HB.out) HCAP.out) (by rw [List.length_append, List.length_take, List.length_drop]; simp; omega) w w.heap.size HB.out HX.out.lt (Nat.le_succ _) ?_)
    intro v4 w4 ho4 hb4 hg4
    have HO := Lib.hid (own_mono ho4 (Nat.le_succ _)); have HB := Lib.hid hb4; clear ho4 hb4 hg4
    go_wp2
    go_ret
    exact ⟨v4, rfl, by rw [show (L.take k ++ p :: L.drop k).length = k + (L.length - k + 1) from by rw [List.length_append, List.length_cons, List.length_take, List.length_drop, Nat.min_eq_left hnl]]; exact HO.out, HB.out⟩
theorem own_cap6 {w : World} {base size n cap : Nat} {e : TypeId} {a : Option Addr} {xs : List Value} (h : w.ownsRow base e size (.slice a n cap) n xs) : n ≤ cap := by
  rcases h.2 with ⟨h1, h2⟩ | ⟨g, c, cur, h1, _, _, h2, _⟩
  · omega
  · cases h1; exact h2
theorem keep_snoc (L U : List Pr) (k : Nat) (h : k < L.length) : keepP (L.take (k + 1)) U = keepP (L.take k) U ++ if hasK U L[k].key = true then [] else [L[k]] := by
  unfold keepP
  rw [List.take_succ_eq_append_getElem h, List.filter_append, List.filter_cons, List.filter_nil]
  cases hasK U L[k].key <;> rfl
theorem keep_len (L U : List Pr) : (keepP L U).length ≤ L.length := List.length_filter_le ..
theorem add_snoc (K U : List Pr) (k : Nat) (h : k < U.length) : (U.take (k + 1)).foldl addP K = addP ((U.take k).foldl addP K) U[k] := by
  rw [List.take_succ_eq_append_getElem h, List.foldl_append]; rfl
def ApP (B : Nat) (L : List Pr) (w : World) (e : Ending) (w' : World) : Prop := ∃ v, e = .returned (.tuple #[v, .int .i64 0]) ∧ w'.ownsRow B 55 4 v L.length (prLs L) ∧ Below w.heap.size w w'

set_option maxRecDepth 100000 in
set_option maxHeartbeats 16000000 in
theorem RApply06_any (a b : Option Addr) (ca cb : Nat) (L U : List Pr) (w : World) (hL : CellsAt w (.slice a L.length ca) L.length (prLs L)) (hU : CellsAt w (.slice b U.length cb) U.length (prLs U)) (hl : L.length + U.length ≤ 4000000000000) (hxL : ∀ p ∈ L, p.key.length ≤ 9223372036854775807 ∧ p.v.s.length ≤ 9223372036854775807) (hxU : ∀ p ∈ U, p.key.length ≤ 9223372036854775807 ∧ p.v.s.length ≤ 9223372036854775807) (hs : stB L = true) (hv : srtB U = true) :
    Calls Tryz.prog 18 #[.slice a L.length ca, .slice b U.length cb] w (ApP w.heap.size (applyP L U) w) := by
  have HS := Lib.hid hs; have HV := Lib.hid hv; have HL := Lib.hid hL; have HU := Lib.hid hU; have HXL := Lib.hid hxL; have HXU := Lib.hid hxU; clear hs hv hL hU hxL hxU
  go_enter Tryz.func18, Tryz.ntmps18
  go_wp2_with fail
  refine (RSV06_any a ca L _ (by omega) HXL.out HL.out).mono ?_
  rw [HS.out]
  rintro er w1 ⟨rfl, hb1⟩
  have HB := Lib.hid hb1; clear hb1
  go_wp2_with fail
  refine (RVW06_any b cb U _ (by omega) HXU.out (HU.out.below HB.out)).mono ?_
  rw [HV.out]
  rintro er w2 ⟨rfl, hb2⟩
  have HB := Lib.hid (btrans HB.out HB.out.size hb2); clear hb2
  go_wp2
  go_loopw [6, 7] (fun v i wr => ∃ k : Nat, k ≤ L.length ∧ i = .int .i64 k ∧ Hid (wr.ownsRow w.heap.size 55 4 v (keepP (L.take k) U).length (prLs (keepP (L.take k) U))) ∧ Below w.heap.size w wr) (fun _ i _ => L.length - (intOf i).toNat)
  case atStart => exact ⟨0, Nat.zero_le _, by first | exact True.intro | rfl, Lib.hid (own_nil _ _ _ _), HB.out⟩
  case round =>
    clear HB
    skip
    obtain ⟨k, hk, rfl, HO, hB⟩ := hrel
    have HB := Lib.hid hB; clear hB
    by_cases hlt : k < L.length
    · skip
      have hlt' : (k : Int) < (L.length : Int) := by omega
      have hkb : (0 : Int) ≤ (k : Int) ∧ (k : Int) < (L.length : Int) := ⟨by omega, by omega⟩
      have hw1 : IntKind.i64.wrap ((k : Int) + 1) = (k : Int) + 1 := by rw [IntKind.wrap_i64]; omega
      obtain ⟨bb, off, hbe, p0, p1, p2, p3⟩ := pr_cells (HL.out.below HB.out) hlt
      have HBE := Lib.hid hbe
      subst hbe
      obtain ⟨m, hm⟩ : ∃ m, L[k] = m := ⟨_, rfl⟩
      rw [hm] at p0 p1 p2 p3
      have HM := Lib.hid hm; clear hm HBE
      obtain ⟨h, hh⟩ : ∃ x, hasK U m.key = x := ⟨_, rfl⟩
      have HH := Lib.hid hh; clear hh
      have hks := keep_snoc L U k hlt
      rw [HM.out, HH.out] at hks
      have HKS := Lib.hid hks; clear hks
      have hkl := keep_len (L.take k) U
      rw [List.length_take, Nat.min_eq_left hk] at hkl
      go_wp2_with fail
      refine (RSHas_any b cb U m.key _ (by omega) (HU.out.below HB.out)).mono ?_
      rw [HH.out]
      rintro er w3 ⟨rfl, rfl⟩
      cases h with
      | true =>
        rw [if_pos rfl, List.append_nil] at HKS
        go_wp2
        go_roundw
        case rel => exact ⟨k + 1, by omega, by go_num, Lib.hid (by rw [HKS.out]; exact HO.out), HB.out⟩
        case measure => simp [intOf]; omega
      | false =>
        rw [if_neg (by simp)] at HKS
        go_wp2_with (at_builtin; refine appPr1_any rfl _ _ rfl w.heap.size _ _ m HO.out rfl rfl (by omega) w w.heap.size HB.out HB.out.size (Nat.le_refl _) ?_)
        intro v3 w3 ho3 hb3 hg3
        have HB := Lib.hid hb3; clear hg3 hb3
        have HO3 := Lib.hid (show w3.ownsRow w.heap.size 55 4 v3 (keepP (L.take (k + 1)) U).length (prLs (keepP (L.take (k + 1)) U)) from by rw [HKS.out, List.length_append]; exact ho3); clear ho3
        go_wp2
        go_roundw
        case rel => exact ⟨k + 1, by omega, by go_num, HO3, HB.out⟩
        case measure => simp [intOf]; omega
    have hlt' : ¬ (k : Int) < (L.length : Int) := by omega
    rw [List.take_of_length_le (by omega)] at HO
    have hkl := keep_len L U
    clear hlt hk
    go_wp2
    go_loopw [6, 8] (fun v i wr => ∃ k : Nat, k ≤ U.length ∧ i = .int .i64 k ∧ Hid (wr.ownsRow w.heap.size 55 4 v ((U.take k).foldl addP (keepP L U)).length (prLs ((U.take k).foldl addP (keepP L U)))) ∧ Below w.heap.size w wr) (fun _ i _ => U.length - (intOf i).toNat)
    case atStart => exact ⟨0, Nat.zero_le _, by first | exact True.intro | rfl, HO, HB.out⟩
    case round =>
      clear HB HO
      obtain ⟨k, hk, rfl, HO, hB⟩ := hrel
      have HB := Lib.hid hB; clear hB
      have hal := add_len (U.take k) (keepP L U)
      rw [List.length_take, Nat.min_eq_left hk] at hal
      obtain ⟨K, hK⟩ : ∃ K, ((U.take k).foldl addP (keepP L U)) = K := ⟨_, rfl⟩
      have HK := Lib.hid hK
      rw [hK] at HO hal
      clear hK
      by_cases hlt : k < U.length
      · skip
        have hlt' : (k : Int) < (U.length : Int) := by omega
        have hkb : (0 : Int) ≤ (k : Int) ∧ (k : Int) < (U.length : Int) := ⟨by omega, by omega⟩
        have hw1 : IntKind.i64.wrap ((k : Int) + 1) = (k : Int) + 1 := by rw [IntKind.wrap_i64]; omega
        obtain ⟨bb, off, hbe, p0, p1, p2, p3⟩ := pr_cells (HU.out.below HB.out) hlt
        have HBE := Lib.hid hbe
        subst hbe
        obtain ⟨m, hm⟩ : ∃ m, U[k] = m := ⟨_, rfl⟩
        rw [hm] at p0 p1 p2 p3
        have HM := Lib.hid hm; clear hm HBE
        have has := add_snoc (keepP L U) U k hlt
        rw [HM.out, HK.out] at has
        have HAS := Lib.hid has; clear has
        by_cases h0 : m.v.k = 0
        · have t0 : (m.v.k != 0) = false := by rw [h0]; rfl
          have HN := Lib.hid (show (U.take (k + 1)).foldl addP (keepP L U) = K from HAS.out.trans (if_pos h0))
          clear h0
          go_wp2
          go_roundw
          case rel => exact ⟨k + 1, by omega, by go_num, Lib.hid (by rw [HN.out]; exact HO.out), HB.out⟩
          case measure => simp [intOf]; omega
        have t0 : (m.v.k != 0) = true := by rw [bne_iff_ne]; exact h0
        have HN := Lib.hid (show (U.take (k + 1)).foldl addP (keepP L U) = putP K m from HAS.out.trans (if_neg h0))
        clear h0
        obtain ⟨va, vc, hvv⟩ := own_sl HO.out
        subst hvv
        go_wp2_with fail
        refine (Rput06_any va vc K m _ (own_prAt HO.out) (by omega) (own_cap6 HO.out)).mono ?_
        rintro er w3 ⟨v3, rfl, ho3, hb3⟩
        have HO3 := Lib.hid (own_mono ho3 HB.out.size)
        have HB := Lib.hid (btrans HB.out HB.out.size hb3); clear ho3 hb3
        go_wp2
        go_roundw
        case rel => exact ⟨k + 1, by omega, by go_num, Lib.hid (by rw [HN.out]; exact HO3.out), HB.out⟩
        case measure => simp [intOf]; omega
      have hlt' : ¬ (k : Int) < (U.length : Int) := by omega
      have HE := Lib.hid (show applyP L U = K from by rw [← HK.out, List.take_of_length_le (by omega)]; rfl)
      clear hlt hk
      go_wp2
      go_ret2
      exact ⟨_, rfl, by rw [HE.out]; exact HO.out, HB.out⟩
end Go.Proofs.YtnglaegofhpleaaGreatDoor
namespace Go.Proofs.YtnglaegofhpleaaGreatDoor
open Go.RowKit

set_option maxRecDepth 100000 in
set_option maxHeartbeats 4000000 in
theorem keyCl_any (p : Pr) (kb : Nat) (k : Vl) (w : World) (hK : Bx kb #[.int .i64 k.k, .int .i64 k.n, .string (bs k.s)] 52 w) :
    Calls Tryz.prog 97 #[.agg (prV p), .pointer (some ⟨kb, 0, none⟩)] w fun e w' => e = .returned (.bool (keyP k.s p)) ∧ Below w.heap.size w w' := by
  simp only [prV]
  obtain ⟨v0, hW0, hb0, hx0⟩ := boxes1 w #[.string (bs p.key), .int .i64 p.v.k, .int .i64 p.v.n, .string (bs p.v.s)] 55
  have HW := Lib.hid hW0; have HB := Lib.hid hb0; have HC := Lib.hid hx0; have HK := Lib.hid (hK.call hb0); clear hW0 hb0 hx0 hK
  go_enter Tryz.func97, Tryz.ntmps97
  go_upto_region 1 with (fail)
  rw [HW.out]
  clear HW
  obtain ⟨c0, c1, c2, c3⟩ := HC.out.c4
  obtain ⟨k0, k1, k2⟩ := HK.out.c3
  obtain ⟨tb, t0⟩ : ∃ b, (p.key == k.s) = b := ⟨_, rfl⟩
  have HF := Lib.hid (show keyP k.s p = tb from t0)
  go_wp2
  go_ret
  exact ⟨by rw [HF.out] <;> rfl, HB.out⟩
set_option maxRecDepth 100000 in
set_option maxHeartbeats 8000000 in
theorem idxKey_any (a : Option Addr) (cap : Nat) (M : List Pr) (kb : Nat) (qv : Vl) (w : World) (hl : M.length ≤ 9000000000000) (hK : Bx kb #[.int .i64 qv.k, .int .i64 qv.n, .string (bs qv.s)] 52 w) (hM : CellsAt w (.slice a M.length cap) M.length (prLs M)) :
    Calls Tryz.prog 89 #[.slice a M.length cap, .func (.func 97) #[] #[.pointer (some ⟨kb, 0, none⟩)]] w fun e w' => e = .returned (.int .i64 (idxP (keyP qv.s) M)) ∧ Below w.heap.size w w' := by
  obtain ⟨p, hp⟩ : ∃ p, p = (keyP qv.s) := ⟨_, rfl⟩
  rw [← hp]
  have HPP := Lib.hid hp; clear hp
  obtain ⟨R, hR⟩ : ∃ R, idxP p M = R := ⟨_, rfl⟩
  rw [hR]
  have HR := Lib.hid hR; have HM := Lib.hid hM; clear hR hM
  have HK := Lib.hid hK; clear hK
  go_enter Tryz.func89, Tryz.ntmps89
  go_wp2
  go_loopw [8] (fun i wr => ∃ k : Nat, k ≤ M.length ∧ i = .int .i64 k ∧ Hid ((M.take k).any p = false) ∧ Below w.heap.size w wr) (fun i _ => M.length - (intOf i).toNat)
  case atStart => exact ⟨0, Nat.zero_le _, by first | exact True.intro | rfl, Lib.hid rfl, Below.refl _ _⟩
  case round =>
    obtain ⟨k, hk, rfl, HQ, hB⟩ := hrel
    have HB := Lib.hid hB; clear hB
    by_cases hlt : k < M.length
    · have hlt' : (k : Int) < (M.length : Int) := by omega
      have hkb : (0 : Int) ≤ (k : Int) ∧ (k : Int) < (M.length : Int) := ⟨by omega, by omega⟩
      have hw1 : IntKind.i64.wrap ((k : Int) + 1) = (k : Int) + 1 := by rw [IntKind.wrap_i64]; omega
      obtain ⟨b, off, rfl, p0, p1, p2, p3⟩ := pr_cells (HM.out.below HB.out) hlt
      obtain ⟨m, hm⟩ : ∃ m, M[k] = m := ⟨_, rfl⟩
      rw [hm] at p0 p1 p2 p3
      have HMK := Lib.hid hm; clear hm
      obtain ⟨pb, hpb⟩ : ∃ b, p m = b := ⟨_, rfl⟩
      have HPB := Lib.hid hpb; have HPB2 := Lib.hid (show (keyP qv.s) m = pb by rw [← HPP.out]; exact hpb); clear hpb
      go_wp2_with fail
      refine (keyCl_any m kb qv _ (HK.out.call HB.out)).mono ?_
      have hpe := HPB2.out
      (try simp only at hpe)
      rw [hpe]
      clear hpe
      rintro er w1 ⟨rfl, hb1⟩
      have HB := Lib.hid (btrans HB.out HB.out.size hb1); clear hb1 p0 p1 p2 p3
      cases pb with
      | true =>
        have HF := Lib.hid (show R = (k : Int) from HR.out.symm.trans (idxP_at hlt HQ.out (by rw [HMK.out]; exact HPB.out)))
        go_wp2
        go_ret
        exact ⟨by rw [HF.out] <;> rfl, HB.out⟩
      | false =>
        have HN := Lib.hid (any_step hlt HQ.out (by rw [HMK.out]; exact HPB.out))
        go_wp2
        go_roundw
        case rel => exact ⟨k + 1, by omega, by go_num, HN, HB.out⟩
        case measure => simp [intOf]; omega
    · have hlt' : ¬ (k : Int) < (M.length : Int) := by omega
      have HF := Lib.hid (show R = -1 from HR.out.symm.trans (idxP_none (by have h := HQ.out; rw [List.take_of_length_le (by omega)] at h; exact h)))
      go_wp2
      go_ret
      exact ⟨by rw [HF.out] <;> rfl, HB.out⟩
set_option maxRecDepth 100000 in
set_option maxHeartbeats 8000000 in
theorem opCl_any (p : Pr) (lb : Nat) (la : Option Addr) (lc : Nat) (L : List Vl) (hL : 0 < L.length) (w : World) (hK : Bx lb #[.slice la L.length lc] 26 w) (hV : CellsAt w (.slice la L.length lc) L.length (vlLs L)) :
    Calls Tryz.prog 91 #[.agg (prV p), .pointer (some ⟨lb, 0, none⟩)] w fun e w' => e = .returned (.bool (keyP (L.headD v00).s p)) ∧ Below w.heap.size w w' := by
  simp only [prV]
  obtain ⟨v0, hW0, hb0, hx0⟩ := boxes1 w #[.string (bs p.key), .int .i64 p.v.k, .int .i64 p.v.n, .string (bs p.v.s)] 55
  have hll := hL
  obtain ⟨b, off, rfl, p0, p1, p2⟩ := vl_cells (hV.below hb0) hL
  obtain ⟨k, hk⟩ : ∃ k, L[0] = k := ⟨_, rfl⟩
  have hh : L.headD v00 = k := by cases L with | nil => simp at hL | cons x r => exact hk
  rw [hk] at p0 p1 p2
  rw [hh]
  clear hh hk
  rw [Nat.zero_mul, Nat.add_zero] at p0 p1 p2
  have HW := Lib.hid hW0; have HB := Lib.hid hb0; have HC := Lib.hid hx0; have HK := Lib.hid (hK.call hb0); clear hW0 hb0 hx0 hK hV
  go_enter Tryz.func91, Tryz.ntmps91
  go_upto_region 1 with (fail)
  rw [HW.out]
  clear HW
  obtain ⟨tb, t0⟩ : ∃ b, (p.key == k.s) = b := ⟨_, rfl⟩
  have HF := Lib.hid (show keyP k.s p = tb from t0)
  have HS0 := Lib.hid (show ((fun w' => Bx w.heap.size #[.string (bs p.key), .int .i64 p.v.k, .int .i64 p.v.n, .string (bs p.v.s)] 55 w' ∧ Bx lb #[.slice (some ⟨b, off, none⟩) L.length lc] 26 w' ∧ w'.cell? ⟨b, off + 2, none⟩ = some (.string (bs k.s)))) v0.drew from ⟨HC.out, HK.out, p2⟩)
  clear p0 p1 p2
  have hli : (0 : Int) < (L.length : Int) := by omega
  refine wp_region_held_drew (S := (fun w' => Bx w.heap.size #[.string (bs p.key), .int .i64 p.v.k, .int .i64 p.v.n, .string (bs p.v.s)] 55 w' ∧ Bx lb #[.slice (some ⟨b, off, none⟩) L.length lc] 26 w' ∧ w'.cell? ⟨b, off + 2, none⟩ = some (.string (bs k.s)))) (by kernel_rfl) ?_ (fun hHeld => ?_)
  · exact HS0.out
  refine tkX (i := 0) 4 ?_
  simp only [sA, sB, sC]
  refine tkY (i := 1) (v := ?vv2) 5 ?yy2 ?_
  case yy2 =>
    intro wq hSw
    obtain ⟨d0, d1, d2, d3⟩ := hSw.1.c4
    clear hSw
    go_simp
    (try with_reducible rfl)
  simp only [sA, sB, sC]
  refine tkY (i := 2) (v := ?vv3) 6 ?yy3 ?_
  case yy3 =>
    intro wq hSw
    have d0 := hSw.2.1.cell 0
    simp only [List.getElem?_toArray, List.getElem?_cons_zero] at d0
    clear hSw
    go_simp
    (try with_reducible rfl)
  simp only [sA, sB, sC]
  refine tkX (i := 3) 7 ?_
  simp only [sA, sB, sC]
  refine tkX (i := 4) 8 ?_
  simp only [sA, sB, sC]
  refine tkY (i := 5) (v := ?vv6) 9 ?yy6 ?_
  case yy6 =>
    intro wq hSw
    have d0 := hSw.2.2
    clear hSw
    go_simp
    (try with_reducible rfl)
  simp only [sA, sB, sC]
  refine tkX (i := 6) 10 ?_
  simp only [sA, sB, sC]
  refine tkX (i := 7) 3 ?_
  simp only [sA, sB, sC]
  refine wpAnyH_done (by kernel_rfl) ?_ _
  clear hHeld HS0
  go_wp2
  go_ret
  exact ⟨by rw [HF.out] <;> rfl, HB.out.drew⟩
set_option maxRecDepth 100000 in
set_option maxHeartbeats 8000000 in
theorem idxOp_any (a : Option Addr) (cap : Nat) (M : List Pr) (lb : Nat) (la : Option Addr) (lc : Nat) (L : List Vl) (hL : 0 < L.length) (w : World) (hl : M.length ≤ 9000000000000) (hK : Bx lb #[.slice la L.length lc] 26 w) (hV : CellsAt w (.slice la L.length lc) L.length (vlLs L)) (hM : CellsAt w (.slice a M.length cap) M.length (prLs M)) :
    Calls Tryz.prog 89 #[.slice a M.length cap, .func (.func 91) #[] #[.pointer (some ⟨lb, 0, none⟩)]] w fun e w' => e = .returned (.int .i64 (idxP (keyP (L.headD v00).s) M)) ∧ Below w.heap.size w w' := by
  obtain ⟨p, hp⟩ : ∃ p, p = (keyP (L.headD v00).s) := ⟨_, rfl⟩
  rw [← hp]
  have HPP := Lib.hid hp; clear hp
  obtain ⟨R, hR⟩ : ∃ R, idxP p M = R := ⟨_, rfl⟩
  rw [hR]
  have HR := Lib.hid hR; have HM := Lib.hid hM; clear hR hM
  have HK := Lib.hid hK; have HV := Lib.hid hV; clear hK hV
  go_enter Tryz.func89, Tryz.ntmps89
  go_wp2
  go_loopw [8] (fun i wr => ∃ k : Nat, k ≤ M.length ∧ i = .int .i64 k ∧ Hid ((M.take k).any p = false) ∧ Below w.heap.size w wr) (fun i _ => M.length - (intOf i).toNat)
  case atStart => exact ⟨0, Nat.zero_le _, by first | exact True.intro | rfl, Lib.hid rfl, Below.refl _ _⟩
  case round =>
    obtain ⟨k, hk, rfl, HQ, hB⟩ := hrel
    have HB := Lib.hid hB; clear hB
    by_cases hlt : k < M.length
    · have hlt' : (k : Int) < (M.length : Int) := by omega
      have hkb : (0 : Int) ≤ (k : Int) ∧ (k : Int) < (M.length : Int) := ⟨by omega, by omega⟩
      have hw1 : IntKind.i64.wrap ((k : Int) + 1) = (k : Int) + 1 := by rw [IntKind.wrap_i64]; omega
      obtain ⟨b, off, rfl, p0, p1, p2, p3⟩ := pr_cells (HM.out.below HB.out) hlt
      obtain ⟨m, hm⟩ : ∃ m, M[k] = m := ⟨_, rfl⟩
      rw [hm] at p0 p1 p2 p3
      have HMK := Lib.hid hm; clear hm
      obtain ⟨pb, hpb⟩ : ∃ b, p m = b := ⟨_, rfl⟩
      have HPB := Lib.hid hpb; have HPB2 := Lib.hid (show (keyP (L.headD v00).s) m = pb by rw [← HPP.out]; exact hpb); clear hpb
      go_wp2_with fail
      refine (opCl_any m lb la lc L hL _ (HK.out.call HB.out) (HV.out.below HB.out)).mono ?_
      have hpe := HPB2.out
      (try simp only at hpe)
      rw [hpe]
      clear hpe
      rintro er w1 ⟨rfl, hb1⟩
      have HB := Lib.hid (btrans HB.out HB.out.size hb1); clear hb1 p0 p1 p2 p3
      cases pb with
      | true =>
        have HF := Lib.hid (show R = (k : Int) from HR.out.symm.trans (idxP_at hlt HQ.out (by rw [HMK.out]; exact HPB.out)))
        go_wp2
        go_ret
        exact ⟨by rw [HF.out] <;> rfl, HB.out⟩
      | false =>
        have HN := Lib.hid (any_step hlt HQ.out (by rw [HMK.out]; exact HPB.out))
        go_wp2
        go_roundw
        case rel => exact ⟨k + 1, by omega, by go_num, HN, HB.out⟩
        case measure => simp [intOf]; omega
    · have hlt' : ¬ (k : Int) < (M.length : Int) := by omega
      have HF := Lib.hid (show R = -1 from HR.out.symm.trans (idxP_none (by have h := HQ.out; rw [List.take_of_length_le (by omega)] at h; exact h)))
      go_wp2
      go_ret
      exact ⟨by rw [HF.out] <;> rfl, HB.out⟩
end Go.Proofs.YtnglaegofhpleaaGreatDoor
namespace Go.Proofs.YtnglaegofhpleaaGreatDoor
open Go.RowKit

/-- what a run is given: the state and the footprint, among the machine's first cells -/
structure GivH (H : Nat → Value) (W0 : World) (M : List Pr) (F : Ft) : Prop where
  st : ∃ a c, H 3 = .slice a M.length c ∧ CellsAt W0 (.slice a M.length c) M.length (prLs M)
  al : H 4 = .bool F.all
  rd : ∃ a c, H 5 = .slice a F.rd.length c ∧ StrS W0 (.slice a F.rd.length c) F.rd
  wr : ∃ a c, H 6 = .slice a F.wr.length c ∧ StrS W0 (.slice a F.wr.length c) F.wr
  len : M.length ≤ 9000000000000 ∧ F.rd.length ≤ 9000000000000 ∧ F.wr.length ≤ 9000000000000
  str : (∀ p ∈ M, p.key.length ≤ 9223372036854775807 ∧ p.v.s.length ≤ 9223372036854775807) ∧ ∀ q ∈ F.rd ++ F.wr, q.length ≤ 9223372036854775807
theorem idx_found {p : Pr → Bool} {M : List Pr} (h : M.findIdx p < M.length) : idxP p M = (M.findIdx p : Int) := if_pos h
theorem idx_lost {p : Pr → Bool} {M : List Pr} (h : ¬ M.findIdx p < M.length) : idxP p M = -1 := if_neg h
theorem setP_found {L : List Pr} {k : List UInt8} {v : Vl} (h : L.findIdx (keyP k) < L.length) : setP L k v = L.set (L.findIdx (keyP k)) ⟨k, v⟩ := if_pos h
theorem setP_lost {L : List Pr} {k : List UInt8} {v : Vl} (h : ¬ L.findIdx (keyP k) < L.length) : setP L k v = L ++ [⟨k, v⟩] := if_neg h
theorem VMB.below {B mb : Nat} {S : Nat → Prop} {H : Nat → Value} {m : Mc} {R : Rw} {w w' W0 : World} {S' : Nat → Prop} (h : VMB B mb S H m R w) (hb : Below B W0 w) (k : FrS S S' w w') : Below B W0 w' :=
  FrS.below hb k (by have h1 := h.rng mb h.mS; omega) (fun j hj => (h.rng j hj).1)

theorem prLs_set (v : Vl) : ∀ (L : List Pr) (x : Nat) (h : x < L.length), (((prLs L).set (x * 4 + 1) (.int .i64 v.k)).set (x * 4 + 1 + 1) (.int .i64 v.n)).set (x * 4 + 1 + 2) (.string (bs v.s)) = prLs (L.set x ⟨L[x].key, v⟩)
  | p :: r, 0, _ => rfl
  | p :: r, x + 1, h => by
    have hr : x < r.length := by simpa using h
    have ih := prLs_set v r x hr
    rw [show (x + 1) * 4 + 1 = x * 4 + 1 + 4 by omega, show x * 4 + 1 + 4 + 1 = x * 4 + 1 + 1 + 4 by omega, show x * 4 + 1 + 4 + 2 = x * 4 + 1 + 2 + 4 by omega]
    show (prL p ++ (((prLs r).set (x * 4 + 1) (.int .i64 v.k)).set (x * 4 + 1 + 1) (.int .i64 v.n)).set (x * 4 + 1 + 2) (.string (bs v.s))) = prL p ++ prLs (r.set x ⟨r[x].key, v⟩)
    rw [ih]
theorem VMB.inOwn {B mb : Nat} {S : Nat → Prop} {H : Nat → Value} {m : Mc} {R : Rw} {W W' : World} (h : VMB B mb S H m R W) (L : List Pr) (hg : W.grownBy W' R.ov.ownBlock) (ho : W'.ownsRow B 55 4 R.ov L.length (prLs L)) : VMB B mb S H { m with own := L } R W' ∧ FrS S S W W' := by
  have hm := h.bf.grow hg (h.bf.row_ne h.own.1 (by decide))
  have ht : tailM { m with own := L } R = tailM m R := by funext k; unfold tailM; rfl
  refine ⟨⟨h.mS, fun j hj => ⟨(h.rng j hj).1, Nat.lt_of_lt_of_le (h.rng j hj).2 hg.size⟩, hm.congr (fun j _ => by unfold mcf; rw [ht]), ⟨ho, h.own.2⟩, h.out.grow hg (own_apart h.out.1 h.own.1 (by decide)) (fun _ q => q), h.rds.grow hg (own_apart h.rds.1 h.own.1 (by decide)) (fun _ q => q), h.puts.grow hg (own_apart h.puts.1 h.own.1 (by decide)) (fun _ q => q), h.wrs.grow hg h.apart2 (fun _ q => q), h.apart, h.apart2⟩,
    ⟨hg.os, hg.tape, hg.output, hg.size, fun k hk hn => hg.block k hk (fun e => hn (h.own.2 k e.symm)), fun k hk => .inl hk⟩⟩
theorem VMB.ownSet {B mb : Nat} {S : Nat → Prop} {H : Nat → Value} {m : Mc} {R : Rw} {W : World} (h : VMB B mb S H m R W) {g oc x : Nat} (hov : R.ov = .slice (some ⟨g, 0, none⟩) m.own.length oc) (hx : x < m.own.length) (v : Vl) :
    VMB B mb S H { m with own := m.own.set x ⟨m.own[x].key, v⟩ } R (((W.setCell ⟨g, x * 4 + 1, none⟩ (.int .i64 v.k)).setCell ⟨g, x * 4 + 1 + 1, none⟩ (.int .i64 v.n)).setCell ⟨g, x * 4 + 1 + 2, none⟩ (.string (bs v.s))) ∧
    FrS S S W (((W.setCell ⟨g, x * 4 + 1, none⟩ (.int .i64 v.k)).setCell ⟨g, x * 4 + 1 + 1, none⟩ (.int .i64 v.n)).setCell ⟨g, x * 4 + 1 + 2, none⟩ (.string (bs v.s))) := by
  have ho := h.own.1
  rw [hov] at ho
  refine h.inOwn _ ?_ ?_
  · rw [hov]
    exact ((grown_set W ⟨g, x * 4 + 1, none⟩ (.int .i64 v.k)).trans (grown_set _ ⟨g, x * 4 + 1 + 1, none⟩ (.int .i64 v.n))).trans (grown_set _ ⟨g, x * 4 + 1 + 2, none⟩ (.string (bs v.s)))
  · rw [hov, List.length_set, ← prLs_set v m.own x hx]
    exact own_put (own_put (own_put ho _ _) _ _) _ _
set_option maxRecDepth 100000 in
set_option maxHeartbeats 16000000 in
theorem store_any (W0 : World) (mb : Nat) (S : Nat → Prop) (H : Nat → Value) (m : Mc) (R : Rw) (M : List Pr) (F : Ft) (k v : Vl) (hG : GivH H W0 M F) (hk : k.s.length ≤ 1000000) (hs : SortK m.puts) (hl : m.puts.length ≤ 100000000 ∧ m.own.length ≤ 100000000) (w : World) (h : VMB W0.heap.size mb S H m R w) (hb0 : Below W0.heap.size W0 w) :
    Calls Tryz.prog 65 #[.pointer (some ⟨mb, 0, none⟩), .agg (vV k), .agg (vV v)] w (VPost W0.heap.size mb S H (storeM F k v m) (.tuple #[]) w) := by
  simp only [vV]
  have HG := Lib.hid hG; clear hG
  obtain ⟨v0, hW0, hbe, hx0, hy0⟩ := boxes2 w #[.int .i64 k.k, .int .i64 k.n, .string (bs k.s)] 52 #[.int .i64 v.k, .int .i64 v.n, .string (bs v.s)] 52
  have HM := Lib.hid (h.call hbe); have HF := Lib.hid (FrS.of_below (S := S) hbe); have HN := Lib.hid h.not; have HL := Lib.hid (fun j hj => (h.rng j hj).2)
  have HBW := Lib.hid (btrans hb0 hb0.size hbe)
  have hmw := h.bf.lt
  have HMS := Lib.hid h.mS
  have HW := Lib.hid hW0; have HK := Lib.hid hx0; have HV := Lib.hid hy0; have HSO := Lib.hid hs; clear hW0 hbe hx0 hy0 h hb0 hs
  go_enter Tryz.func65, Tryz.ntmps65
  go_upto_region 6 with (fail)
  rw [HW.out]
  clear HW
  obtain ⟨c0, c1, c2⟩ := HK.out.c3
  by_cases h1 : k.k = 2
  rotate_left
  · have t1 : (k.k != 2) = true := by rw [bne_iff_ne]; exact h1
    have E1 := Lib.hid h1; clear h1
    go_wp2_with fail
    refine (vabort_any _ mb S H m R 1009 _ HM.out).mono ?_
    rintro e w2 ⟨rfl, S', R', h1, h2⟩
    have H1 := Lib.hid h1; have H2 := Lib.hid h2; clear h1 h2
    go_wp2
    exact ⟨(by first | exact True.intro | rfl), .tuple #[], results_none rfl _ _ _, rfl, S', R', by unfold storeM; rw [if_pos E1.out]; exact H1.out, HF.out.then H2.out⟩
  have t1 : (k.k != 2) = false := by rw [h1]; rfl
  have E1 := Lib.hid h1; clear h1
  obtain ⟨kb, hkb⟩ : ∃ b, keyB k.s = b := ⟨_, rfl⟩
  have HKB := Lib.hid hkb; clear hkb
  go_wp2_with fail
  refine (KValid_any k.s (by omega) _).mono ?_
  rw [HKB.out]
  rintro er w1 ⟨rfl, hb1⟩
  have HM := Lib.hid (HM.out.call hb1); have HK := Lib.hid (HK.out.call hb1); have HV := Lib.hid (HV.out.call hb1); have HF := Lib.hid (HF.out.then (FrS.of_below hb1)); have HBW := Lib.hid (btrans HBW.out HBW.out.size hb1)
  clear hb1 c0 c1 c2
  cases kb with
  | false =>
    go_wp2_with fail
    refine (vabort_any _ mb S H m R 1004 _ HM.out).mono ?_
    rintro e w2 ⟨rfl, S', R', h1, h2⟩
    have H1 := Lib.hid h1; have H2 := Lib.hid h2; clear h1 h2
    go_wp2
    exact ⟨(by first | exact True.intro | rfl), .tuple #[], results_none rfl _ _ _, rfl, S', R', by unfold storeM; rw [if_neg (by simp [E1.out]), if_pos HKB.out]; exact H1.out, HF.out.then H2.out⟩
  | true =>
    obtain ⟨wa, wq, hw6, hws⟩ := HG.out.wr
    have HWS := Lib.hid hws; have c6 : w1.cell? ⟨mb, 6, none⟩ = some (.slice wa F.wr.length wq) := by rw [← hw6]; exact HM.out.hd 6 (by decide)
    have c4 : w1.cell? ⟨mb, 4, none⟩ = some (.bool F.all) := by rw [← HG.out.al]; exact HM.out.hd 4 (by decide)
    clear hw6 hws
    obtain ⟨al, hal⟩ : ∃ b, F.all = b := ⟨_, rfl⟩
    have HAL := Lib.hid hal
    rw [hal] at c4
    clear hal
    have HS0 := Lib.hid (show ((fun w' => w'.cell? ⟨mb, 4, none⟩ = some (.bool al) ∧ w'.cell? ⟨mb, 6, none⟩ = some (.slice wa F.wr.length wq) ∧ Bx w.heap.size #[.int .i64 k.k, .int .i64 k.n, .string (bs k.s)] 52 w')) w1.drew from ⟨c4, c6, HK.out⟩)
    clear c4 c6
    go_wp2_with fail
    go_cut [61] from 62 to 82 (fun s61 W => s61 = .bool (!al && !(F.wr.contains k.s)) ∧ W = w1.drew)
    case first =>
      cases al with
      | true =>
        refine wp_region_held_drew (S := (fun w' => w'.cell? ⟨mb, 4, none⟩ = some (.bool true) ∧ w'.cell? ⟨mb, 6, none⟩ = some (.slice wa F.wr.length wq) ∧ Bx w.heap.size #[.int .i64 k.k, .int .i64 k.n, .string (bs k.s)] 52 w')) (by kernel_rfl) ?_ (fun hHeld => ?_)
        · exact HS0.out
        refine tkX (i := 0) 62 ?_
        simp only [sA, sB, sC]
        refine tkX (i := 1) 63 ?_
        simp only [sA, sB, sC]
        refine tkX (i := 2) 64 ?_
        simp only [sA, sB, sC]
        refine tkX (i := 3) 65 ?_
        simp only [sA, sB, sC]
        refine tkY (i := 4) (v := ?vv5) 66 ?yy5 ?_
        case yy5 =>
          intro wq hSw
          have d0 := hSw.1
          clear hSw
          go_simp
          (try with_reducible rfl)
        simp only [sA, sB, sC]
        refine tkX (i := 5) 67 ?_
        simp only [sA, sB, sC]
        refine tkX (i := 6) 68 ?_
        simp only [sA, sB, sC]
        refine tkZ (i := 7) 69 ?_
        simp only [sA, sB, sC]
        refine tkZ (i := 8) 70 ?_
        simp only [sA, sB, sC]
        refine tkZ (i := 9) 71 ?_
        simp only [sA, sB, sC]
        refine tkZ (i := 10) 72 ?_
        simp only [sA, sB, sC]
        refine tkZ (i := 11) 73 ?_
        simp only [sA, sB, sC]
        refine tkZ (i := 12) 74 ?_
        simp only [sA, sB, sC]
        refine tkZ (i := 13) 75 ?_
        simp only [sA, sB, sC]
        refine tkZ (i := 14) 76 ?_
        simp only [sA, sB, sC]
        refine tkZ (i := 15) 77 ?_
        simp only [sA, sB, sC]
        refine tkX (i := 16) 78 ?_
        simp only [sA, sB, sC]
        refine tkX (i := 17) 61 ?_
        simp only [sA, sB, sC]
        refine wpAnyH_done (by kernel_rfl) ?_ _
        go_wp2_with fail
        go_meet
        exact ⟨by simp, by first | exact True.intro | rfl⟩
      | false =>
        refine wp_region_held_drew (S := (fun w' => w'.cell? ⟨mb, 4, none⟩ = some (.bool false) ∧ w'.cell? ⟨mb, 6, none⟩ = some (.slice wa F.wr.length wq) ∧ Bx w.heap.size #[.int .i64 k.k, .int .i64 k.n, .string (bs k.s)] 52 w')) (by kernel_rfl) ?_ (fun hHeld => ?_)
        · exact HS0.out
        refine tkX (i := 0) 62 ?_
        simp only [sA, sB, sC]
        refine tkX (i := 1) 63 ?_
        simp only [sA, sB, sC]
        refine tkX (i := 2) 64 ?_
        simp only [sA, sB, sC]
        refine tkX (i := 3) 65 ?_
        simp only [sA, sB, sC]
        refine tkY (i := 4) (v := ?vv14) 66 ?yy14 ?_
        case yy14 =>
          intro wq hSw
          have d0 := hSw.1
          clear hSw
          go_simp
          (try with_reducible rfl)
        simp only [sA, sB, sC]
        refine tkX (i := 5) 67 ?_
        simp only [sA, sB, sC]
        refine tkX (i := 6) 68 ?_
        simp only [sA, sB, sC]
        refine tkX (i := 7) 69 ?_
        simp only [sA, sB, sC]
        refine tkX (i := 8) 70 ?_
        simp only [sA, sB, sC]
        refine tkX (i := 9) 71 ?_
        simp only [sA, sB, sC]
        refine tkX (i := 10) 72 ?_
        simp only [sA, sB, sC]
        refine tkY (i := 11) (v := ?vv21) 73 ?yy21 ?_
        case yy21 =>
          intro wq hSw
          have d0 := hSw.2.1
          clear hSw
          go_simp
          (try with_reducible rfl)
        simp only [sA, sB, sC]
        refine tkX (i := 12) 74 ?_
        simp only [sA, sB, sC]
        refine tkY (i := 13) (v := ?vv23) 75 ?yy23 ?_
        case yy23 =>
          intro wq hSw
          obtain ⟨d0, d1, d2⟩ := hSw.2.2.c3
          clear hSw
          go_simp
          (try with_reducible rfl)
        simp only [sA, sB, sC]
        obtain ⟨cb, hcb⟩ : ∃ b, F.wr.contains k.s = b := ⟨_, rfl⟩
        have HCB := Lib.hid hcb; clear hcb
        refine wpAnyH_ready (rs := [14]) (by kernel_rfl) (by simp) ?_
        refine (AllReadyH.cons rfl (fun K hK => ?_) AllReadyH.nil)
        go_simp
        refine (Cont_any wa wq F.wr k.s w1.drew HG.out.len.2.2 (HWS.out.below HBW.out.drew)).mono ?_
        rw [HCB.out]
        rintro er w2 ⟨rfl, rfl⟩
        refine hK.out _ _ ?_ (fun hHeld => ?_)
        · exact HS0.out
        clear hK K
        (try simp only [Act.put, sA, sB, sC])
        refine tkX (i := 15) 77 ?_
        simp only [sA, sB, sC]
        refine tkX (i := 16) 78 ?_
        simp only [sA, sB, sC]
        refine tkX (i := 17) 61 ?_
        simp only [sA, sB, sC]
        refine wpAnyH_done (by kernel_rfl) ?_ _
        go_wp2_with fail
        go_meet
        exact ⟨by rw [HCB.out] <;> simp, by first | exact True.intro | rfl⟩
    case rest =>
      obtain ⟨rfl, hwc⟩ := hcut
      subst hwc
      have HM := Lib.hid HM.out.drew; have HK := Lib.hid HK.out.drew; have HV := Lib.hid HV.out.drew; have HF := Lib.hid HF.out.drew; have HBW := Lib.hid HBW.out.drew
      generalize hW : w1.drew = w3 at HM HK HV HF HBW ⊢
      clear hW HS0
      obtain ⟨rb, hrb⟩ : ∃ b, (!al && !(F.wr.contains k.s)) = b := ⟨_, rfl⟩
      rw [hrb]
      have HRB := Lib.hid hrb; clear hrb
      cases rb with
      | true =>
        have hre : F.all = false ∧ F.wr.contains k.s = false := by have := HRB.out; rw [HAL.out]; simpa using this
        have HRE := Lib.hid hre; clear hre
        obtain ⟨c0, c1, c2⟩ := HK.out.c3
        go_wp2_with fail
        refine (endN_any _ mb S H m R 3 0 k.s (by decide) _ HM.out).mono ?_
        rintro e w2 ⟨rfl, S', R', h1, h2⟩
        have H1 := Lib.hid h1; have H2 := Lib.hid h2; clear h1 h2 c0 c1 c2
        go_wp2
        exact ⟨(by first | exact True.intro | rfl), .tuple #[], results_none rfl _ _ _, rfl, S', R', by unfold storeM; rw [if_neg (by simp [E1.out]), if_neg (by rw [HKB.out]; simp), if_pos HRE.out]; exact H1.out, HF.out.then H2.out⟩
      | false =>
        have hre : ¬ (F.all = false ∧ F.wr.contains k.s = false) := by have := HRB.out; rw [HAL.out]; intro q; rw [q.1, q.2] at this; cases this
        have HRE := Lib.hid (show storeM F k v m = { m with puts := withK m.puts k.s, own := setP m.own k.s v } by unfold storeM; rw [if_neg (by simp [E1.out]), if_neg (by rw [HKB.out]; simp), if_neg hre])
        clear hre HRB
        obtain ⟨pa, pq, hpv⟩ := own_sl HM.out.puts.1
        have HPV := Lib.hid hpv
        have c5 : w3.cell? ⟨mb, 397, none⟩ = some (.slice pa m.puts.length pq) := by rw [← hpv]; exact HM.out.tl 5 (by decide)
        have HC5 := Lib.hid c5; clear c5 hpv
        go_upto_region 1 with (fail)
        have HS0 := Lib.hid (show ((fun w' => Bx w.heap.size #[.int .i64 k.k, .int .i64 k.n, .string (bs k.s)] 52 w')) w3.drew from HK.out)
        refine wp_region_held_drew (S := (fun w' => Bx w.heap.size #[.int .i64 k.k, .int .i64 k.n, .string (bs k.s)] 52 w')) (by kernel_rfl) ?_ (fun hHeld => ?_)
        · exact HS0.out
        refine tkX (i := 0) 7 ?_
        simp only [sA, sB, sC]
        refine tkX (i := 1) 8 ?_
        simp only [sA, sB, sC]
        refine tkX (i := 2) 9 ?_
        simp only [sA, sB, sC]
        refine tkX (i := 3) 10 ?_
        simp only [sA, sB, sC]
        refine tkX (i := 4) 11 ?_
        simp only [sA, sB, sC]
        refine tkX (i := 6) 13 ?_
        simp only [sA, sB, sC]
        refine tkY (i := 7) (v := ?vv33) 14 ?yy33 ?_
        case yy33 =>
          intro wq hSw
          obtain ⟨d0, d1, d2⟩ := hSw.c3
          clear hSw
          go_simp
          (try with_reducible rfl)
        simp only [sA, sB, sC]
        refine wpAnyH_ready (rs := [5]) (by kernel_rfl) (by simp) ?_
        refine (AllReadyH.cons rfl (fun K hK => ?_) AllReadyH.nil)
        have d0 : w3.cell? ⟨mb, 397, none⟩ = some (.slice pa m.puts.length pq) := HC5.out
        go_simp
        skip
        refine hK.out _ _ ?_ (fun hHeld => ?_)
        · exact HS0.out
        clear hK K
        (try simp only [Act.put, sA, sB, sC])
        clear d0
        refine wpAnyH_ready (rs := [8]) (by kernel_rfl) (by simp) ?_
        refine (AllReadyH.cons rfl (fun K hK => ?_) AllReadyH.nil)
        go_simp
        have HOP := Lib.hid HM.out.puts.1; rw [HPV.out] at HOP
        refine (vwith_any W0.heap.size (.slice pa m.puts.length pq) m.puts k.s w3.drew HSO.out HOP.out HBW.out.size (by omega)).mono ?_
        rintro er w4 ⟨rv0, rfl, ho4, hg4, hv4⟩
        obtain ⟨ra4, rq4, hrv4⟩ := own_sl ho4
        subst hrv4
        have hrow := HM.out.drew.rowPuts (W' := w4) (.slice ra4 (withK m.puts k.s).length rq4) (withK m.puts k.s) (by rw [HPV.out]; exact hg4) ho4 (by rw [HPV.out]; exact hv4)
        have HROW := Lib.hid hrow; clear hrow
        have hne4 : ∀ b, b = w.heap.size ∨ b = w.heap.size + 1 → ¬ S b := by rintro b (rfl | rfl) q <;> have := HL.out _ q <;> omega
        have HNE4 := Lib.hid hne4; clear hne4
        have hvl3 := HV.out.lt
        have hsn : ∀ b, b = w.heap.size ∨ b = w.heap.size + 1 → ¬ addB S (.slice ra4 (withK m.puts k.s).length rq4) b := by
          rintro b hb (q | q)
          · exact HNE4.out b hb q
          · rcases hv4 with e | ⟨c, e, hc⟩
            · exact HNE4.out b hb (HM.out.puts.2 b (by rw [HPV.out]; exact e.symm.trans q))
            · have hcb : c = b := by rw [e] at q; exact Option.some.inj q
              subst hcb
              have hc2 : w3.heap.size ≤ c := hc
              rcases hb with rfl | rfl <;> omega
        have HSN := Lib.hid hsn; clear hsn
        have hk4 := HK.out.drew.kept (row := (Value.slice pa m.puts.length pq).ownBlock) hg4 (by intro e; exact HNE4.out _ (.inl rfl) (HM.out.puts.2 _ (by rw [HPV.out]; exact e)))
        have hv4b := HV.out.drew.kept (row := (Value.slice pa m.puts.length pq).ownBlock) hg4 (by intro e; exact HNE4.out _ (.inr rfl) (HM.out.puts.2 _ (by rw [HPV.out]; exact e)))
        have HK4 := Lib.hid hk4; have HV4 := Lib.hid hv4b; clear hk4 hv4b ho4 hg4 hv4
        refine hK.out _ _ ?_ (fun hHeld => ?_)
        · exact HK4.out
        clear hK K hHeld
        (try simp only [Act.put, sA, sB, sC])
        refine tkX (i := 9) 16 ?_
        simp only [sA, sB, sC]
        refine tkX (i := 10) 17 ?_
        simp only [sA, sB, sC]
        refine tkX (i := 11) 18 ?_
        simp only [sA, sB, sC]
        have c5 : w4.cell? ⟨mb, 397, none⟩ = some (.slice pa m.puts.length pq) := by rw [HROW.out.1.cell 397 (by decide), ← HPV.out]; rfl
        have f5 := HROW.out.1.free 397
        have hnm : mb ≠ w.heap.size ∧ mb ≠ w.heap.size + 1 := ⟨by omega, by omega⟩
        refine wpAnyH_ready (rs := [12]) (by kernel_rfl) (by simp) ?_
        refine (AllReadyH.cons rfl (fun K hK => ?_) AllReadyH.nil)
        go_simp
        refine hK.out _ _ ?_ (fun hHeld => ?_)
        · exact HK4.out.other (c := mb) (i := 397) (Ne.symm hnm.1) (.slice ra4 (withK m.puts k.s).length rq4)
        clear hK K hHeld c5 f5
        (try simp only [Act.put, sA, sB, sC])
        refine wpAnyH_done (by kernel_rfl) ?_ _
        have HM6 := Lib.hid HROW.out.2.1; have HF6 := Lib.hid (HF.out.drew.then HROW.out.2.2); have HK6 := Lib.hid (HK4.out.other (c := mb) (i := 397) (Ne.symm hnm.1) (.slice ra4 (withK m.puts k.s).length rq4)); have HV6 := Lib.hid (HV4.out.other (c := mb) (i := 397) (Ne.symm hnm.2) (.slice ra4 (withK m.puts k.s).length rq4))
        have HB6 := Lib.hid (HM.out.drew.below HBW.out.drew HROW.out.2.2)
        clear HROW HK4 HV4 HM HF HK HV HBW HS0
        generalize hW : w4.setCell ⟨mb, 397, none⟩ (.slice ra4 (withK m.puts k.s).length rq4) = w6 at HM6 HF6 HK6 HV6 HB6 ⊢
        clear hW
        generalize hS1 : addB S (.slice ra4 (withK m.puts k.s).length rq4) = S1 at HM6 HF6 HSN
        clear hS1
        obtain ⟨oa, oc, hov⟩ := own_sl HM6.out.own.1
        have HOV := Lib.hid (show R.ov = .slice oa m.own.length oc from hov)
        have c0 : w6.cell? ⟨mb, 392, none⟩ = some (.slice oa m.own.length oc) := by rw [← HOV.out]; exact HM6.out.tl 0 (by decide)
        clear hov
        have hOC : CellsAt w6 (.slice oa m.own.length oc) m.own.length (prLs m.own) := by
          have ho : w6.ownsRow W0.heap.size 55 4 R.ov m.own.length (prLs m.own) := HM6.out.own.1
          rw [HOV.out] at ho
          exact own_prAt ho
        have HOC := Lib.hid hOC; clear hOC
        obtain ⟨ix, hix⟩ : ∃ x, idxP (keyP k.s) m.own = x := ⟨_, rfl⟩
        have HIX := Lib.hid hix; clear hix
        have hmf : ∀ (fn : Fn) (first cap : Array Value) (w : World), (Instr.makeFunc fn first cap).run Tryz.prog w = .ok (.func fn first cap) w := fun _ _ _ _ => rfl
        go_wp2_with fail
        refine (idxKey_any oa oc m.own w.heap.size k _ (by omega) HK6.out HOC.out).mono ?_
        rw [HIX.out]
        rintro er w7 ⟨rfl, hb7⟩
        have HM6 := Lib.hid (HM6.out.call hb7); have HK6 := Lib.hid (HK6.out.call hb7); have HV6 := Lib.hid (HV6.out.call hb7); have HF6 := Lib.hid (HF6.out.then (FrS.of_below hb7)); have HB6 := Lib.hid (btrans HB6.out HB6.out.size hb7); clear hb7 c0 HOC hmf
        by_cases hfx : m.own.findIdx (keyP k.s) < m.own.length
        rotate_left
        · have hi1 : ix = -1 := HIX.out.symm.trans (idx_lost hfx)
          subst hi1
          have HST := Lib.hid (show storeM F k v m = { m with puts := withK m.puts k.s, own := m.own ++ [⟨k.s, v⟩] } from by rw [HRE.out, setP_lost hfx])
          clear hfx HIX HRE
          obtain ⟨i0, hi, hz0, hz1, hz2⟩ := info_parts infoPr
          have c0 : w7.cell? ⟨mb, 392, none⟩ = some (.slice oa m.own.length oc) := by rw [← HOV.out]; exact HM6.out.tl 0 (by decide)
          have HC0 := Lib.hid c0; clear c0
          go_upto_region 4 with (fail)
          have HS0 := Lib.hid (show ((fun w' => Bx w.heap.size #[.int .i64 k.k, .int .i64 k.n, .string (bs k.s)] 52 w' ∧ Bx (w.heap.size + 1) #[.int .i64 v.k, .int .i64 v.n, .string (bs v.s)] 52 w')) w7.drew from ⟨HK6.out, HV6.out⟩)
          refine wp_region_held_drew (S := (fun w' => Bx w.heap.size #[.int .i64 k.k, .int .i64 k.n, .string (bs k.s)] 52 w' ∧ Bx (w.heap.size + 1) #[.int .i64 v.k, .int .i64 v.n, .string (bs v.s)] 52 w')) (by kernel_rfl) ?_ (fun hHeld => ?_)
          · exact HS0.out
          refine tkX (i := 0) 27 ?_
          simp only [sA, sB, sC]
          refine tkX (i := 1) 28 ?_
          simp only [sA, sB, sC]
          refine tkX (i := 2) 29 ?_
          simp only [sA, sB, sC]
          refine tkX (i := 3) 30 ?_
          simp only [sA, sB, sC]
          refine tkX (i := 5) 32 ?_
          simp only [sA, sB, sC]
          refine tkY (i := 6) (v := ?vv42) 33 ?yy42 ?_
          case yy42 =>
            intro wq hSw
            obtain ⟨d0, d1, d2⟩ := hSw.1.c3
            clear hSw
            go_simp
            (try with_reducible rfl)
          simp only [sA, sB, sC]
          refine tkY (i := 7) (v := ?vv43) 34 ?yy43 ?_
          case yy43 =>
            intro wq hSw
            obtain ⟨d0, d1, d2⟩ := hSw.2.c3
            clear hSw
            go_simp
            (try with_reducible rfl)
          simp only [sA, sB, sC]
          refine tkX (i := 8) 35 ?_
          simp only [sA, sB, sC]
          refine wpAnyH_ready (rs := [4, 9]) (by kernel_rfl) (by simp) ?_
          refine (AllReadyH.cons rfl (fun K hK => ?_) (AllReadyH.cons rfl (fun K hK => ?_) AllReadyH.nil))
          have d0 : w7.cell? ⟨mb, 392, none⟩ = some (.slice oa m.own.length oc) := HC0.out
          go_simp
          skip
          refine hK.out _ _ ?_ (fun hHeld => ?_)
          · exact hHeld
          clear hK K
          (try simp only [Act.put, sA, sB, sC])
          refine wpAnyH_ready (rs := [9]) (by kernel_rfl) (by simp) ?_
          refine (AllReadyH.cons rfl (fun K hK => ?_) AllReadyH.nil)
          go_simp
          skip
          focus (try go_wp2_with fail)
          refine hK.out _ _ ?_ (fun hHeld => ?_)
          · exact ⟨hHeld.1.alloc _, hHeld.2.alloc _⟩
          clear hK K
          (try simp only [Act.put, sA, sB, sC])
          rotate_left
          go_simp
          skip
          focus (try go_wp2_with fail)
          refine hK.out _ _ ?_ (fun hHeld => ?_)
          · exact ⟨hHeld.1.alloc _, hHeld.2.alloc _⟩
          clear hK K
          (try simp only [Act.put, sA, sB, sC])
          refine wpAnyH_ready (rs := [4]) (by kernel_rfl) (by simp) ?_
          refine (AllReadyH.cons rfl (fun K hK => ?_) AllReadyH.nil)
          have d0 : (w7.alloc (.cells #[.string (bs k.s), .int .i64 v.k, .int .i64 v.n, .string (bs v.s)] 55)).cell? ⟨mb, 392, none⟩ = some (.slice oa m.own.length oc) := cell1_below HC0.out ((Below.refl w7.heap.size w7).alloc (Nat.le_refl _) (.cells #[.string (bs k.s), .int .i64 v.k, .int .i64 v.n, .string (bs v.s)] 55))
          go_simp
          skip
          refine hK.out _ _ ?_ (fun hHeld => ?_)
          · exact hHeld
          clear hK K
          (try simp only [Act.put, sA, sB, sC])
          all_goals
            have HMA := Lib.hid (VMB.drew (HM6.out.call ((Below.refl w7.heap.size w7).alloc (Nat.le_refl _) (.cells #[.string (bs k.s), .int .i64 v.k, .int .i64 v.n, .string (bs v.s)] 55))))
            have HFA := Lib.hid (FrS.drew (HF6.out.then (FrS.of_below (S := S1) ((Below.refl w7.heap.size w7).alloc (Nat.le_refl _) (.cells #[.string (bs k.s), .int .i64 v.k, .int .i64 v.n, .string (bs v.s)] 55)))))
            have HKA := Lib.hid (HK6.out.alloc (.cells #[.string (bs k.s), .int .i64 v.k, .int .i64 v.n, .string (bs v.s)] 55)).drew; have HVA := Lib.hid (HV6.out.alloc (.cells #[.string (bs k.s), .int .i64 v.k, .int .i64 v.n, .string (bs v.s)] 55)).drew
            have HNW := Lib.hid (Bx.new w7 #[.string (bs k.s), .int .i64 v.k, .int .i64 v.n, .string (bs v.s)] 55).drew
            clear hHeld
            generalize hW : (w7.alloc (.cells #[.string (bs k.s), .int .i64 v.k, .int .i64 v.n, .string (bs v.s)] 55)).drew = u1 at HMA HFA HKA HVA HNW ⊢
            clear hW
            obtain ⟨nb, hnb⟩ : ∃ n, w7.heap.size = n := ⟨_, rfl⟩
            rw [hnb] at HNW
            (try rw [hnb])
            have hone : ∀ y ∈ prL ⟨k.s, v⟩, y.oneCell' = true := by intro y hy; simp only [prL, List.mem_cons, List.not_mem_nil, or_false] at hy; rcases hy with rfl | rfl | rfl | rfl <;> rfl
            have hoA := HMA.out.own.1
            simp only [HOV.out] at hoA
            have hBu : W0.heap.size ≤ u1.heap.size := by have := HMA.out.rng mb HMA.out.mS; omega
            refine wpAnyH_ready (rs := [10]) (by kernel_rfl) (by simp) ?_
            refine AllReadyH.cons rfl (fun K hK => ?_) AllReadyH.nil
            refine step_append_lies u1 (by rfl) _ _ 32 (by rfl) W0.heap.size 55 i0 (.agg #[.string ⟨#[]⟩, .int .i64 0, .int .i64 0, .string ⟨#[]⟩]) 4 48 Tryz.underlying32 hi hz0 hz1 hz2 rfl (by decide) (.slice oa m.own.length oc) m.own.length (prLs m.own) (by rfl) hoA ⟨nb, 0, none⟩ 1 1 (prL ⟨k.s, v⟩) (by rfl) rfl (World.news_of_block HNW.out) hone (by decide) (by unfold maxLen; omega) (by omega) hBu _ rfl ?_
            intro g5 cap5 w8 hown5 hgrow hat hlt5
            have hrow := HMA.out.rowOwn (W' := w8) (.slice (some ⟨g5, 0, none⟩) (m.own.length + 1) cap5) (m.own ++ [⟨k.s, v⟩]) (by show u1.grownBy w8 R.ov.ownBlock; rw [HOV.out]; exact hgrow) (by rw [prLs_snoc, List.length_append]; exact hown5) (by show _ = R.ov.ownBlock ∨ _; rw [HOV.out]; rcases hat with q | q; exact .inl q.symm; exact .inr ⟨g5, rfl, by omega⟩)
            have HROW := Lib.hid hrow; clear hrow
            skip
            have hk8 := HKA.out.kept (row := (Value.slice oa m.own.length oc).ownBlock) hgrow (fun e => absurd (HMA.out.own.2 _ (show R.ov.ownBlock = _ by rw [HOV.out]; exact e)) (HSN.out _ (.inl rfl)))
            have hv8 := HVA.out.kept (row := (Value.slice oa m.own.length oc).ownBlock) hgrow (fun e => absurd (HMA.out.own.2 _ (show R.ov.ownBlock = _ by rw [HOV.out]; exact e)) (HSN.out _ (.inr rfl)))
            have c0 : w8.cell? ⟨mb, 392, none⟩ = some (.slice oa m.own.length oc) := by rw [HROW.out.1.cell 392 (by decide), ← HOV.out]; rfl
            have f0 := HROW.out.1.free 392
            refine hK.out _ _ ?_ (fun hHeld => ?_)
            · exact ⟨hk8, hv8⟩
            clear hK K
            simp only [Act.put, List.setIfInBounds_toArray]
            refine tkX (i := 11) 38 ?_
            simp only [sA, sB, sC]
            refine tkX (i := 12) 39 ?_
            simp only [sA, sB, sC]
            refine wpAnyH_ready (rs := [13]) (by kernel_rfl) (by simp) ?_
            refine (AllReadyH.cons rfl (fun K hK => ?_) AllReadyH.nil)
            go_simp
            refine hK.out _ _ ?_ (fun hHeld => ?_)
            · exact ⟨hk8.other (c := mb) (i := 392) (Ne.symm hnm.1) _, hv8.other (c := mb) (i := 392) (Ne.symm hnm.2) _⟩
            clear hK K hHeld c0 f0
            (try simp only [Act.put, sA, sB, sC])
            refine wpAnyH_done (by kernel_rfl) ?_ _
            have HM9 := Lib.hid HROW.out.2.1; have HF9 := Lib.hid (HFA.out.then HROW.out.2.2); clear HROW hk8 hv8
            generalize hW : w8.setCell ⟨mb, 392, none⟩ (.slice (some ⟨g5, 0, none⟩) (m.own.length + 1) cap5) = w9 at HM9 HF9 ⊢
            clear hW
            go_wp2
            exact ⟨(by first | exact True.intro | rfl), .tuple #[], results_none rfl _ _ _, rfl, _, _, by rw [HST.out]; exact HM9.out, HF9.out⟩
        have hi1 : ix = (m.own.findIdx (keyP k.s) : Int) := HIX.out.symm.trans (idx_found hfx)
        have HST := Lib.hid (show storeM F k v m = { m with puts := withK m.puts k.s, own := m.own.set (m.own.findIdx (keyP k.s)) ⟨k.s, v⟩ } from by rw [HRE.out, setP_found hfx])
        have hkx : keyP k.s m.own[m.own.findIdx (keyP k.s)] = true := List.findIdx_getElem (w := hfx)
        obtain ⟨x, hx⟩ : ∃ x, m.own.findIdx (keyP k.s) = x := ⟨_, rfl⟩
        simp only [hx] at hi1 hkx
        have hxl : x < m.own.length := by rw [← hx]; exact hfx
        rw [hx] at HST
        subst hi1
        have HKX := Lib.hid (show m.own[x].key = k.s from by have := hkx; unfold keyP at this; simpa using this)
        clear hfx HIX HRE hkx hx
        have hxi : (0 : Int) ≤ (x : Int) ∧ (x : Int) < (m.own.length : Int) := ⟨by omega, by omega⟩
        have hx0 : ¬ (x : Int) < 0 := by omega
        obtain ⟨g, hoa⟩ : ∃ g, oa = some ⟨g, 0, none⟩ := by
          have ho : w7.ownsRow W0.heap.size 55 4 R.ov m.own.length (prLs m.own) := HM6.out.own.1
          rw [HOV.out] at ho
          rcases ho.2 with ⟨h1, h2⟩ | ⟨g, cap, cur, h1, _⟩
          · omega
          · exact ⟨g, by injection h1⟩
        subst hoa
        obtain ⟨cur, hgb⟩ : ∃ cur, Bx g cur 55 w7 := by
          have ho : w7.ownsRow W0.heap.size 55 4 R.ov m.own.length (prLs m.own) := HM6.out.own.1
          rw [HOV.out] at ho
          rcases ho.2 with ⟨h1, h2⟩ | ⟨g, cap, cur, h1, _, h3, _⟩
          · omega
          · cases h1; exact ⟨cur, h3⟩
        have HGB := Lib.hid hgb; clear hgb
        have hOC : CellsAt w7 (.slice (some ⟨g, 0, none⟩) m.own.length oc) m.own.length (prLs m.own) := by
          have ho : w7.ownsRow W0.heap.size 55 4 R.ov m.own.length (prLs m.own) := HM6.out.own.1
          rw [HOV.out] at ho
          exact own_prAt ho
        obtain ⟨gg, off, hgg, -, p1, p2, p3⟩ := pr_cells hOC hxl
        cases hgg
        rw [Nat.zero_add] at p1 p2 p3
        have HP3 := Lib.hid (And.intro p1 (And.intro p2 p3)); clear p1 p2 p3 hOC
        have c0 : w7.cell? ⟨mb, 392, none⟩ = some (.slice (some ⟨g, 0, none⟩) m.own.length oc) := by rw [← HOV.out]; exact HM6.out.tl 0 (by decide)
        have HS0 := Lib.hid (show ((fun w' => w'.cell? ⟨mb, 392, none⟩ = some (.slice (some ⟨g, 0, none⟩) m.own.length oc) ∧ Bx (w.heap.size + 1) #[.int .i64 v.k, .int .i64 v.n, .string (bs v.s)] 52 w')) w7.drew from ⟨c0, HV6.out⟩)
        clear c0
        go_upto_region 5 with (fail)
        refine wp_region_held_drew (S := (fun w' => w'.cell? ⟨mb, 392, none⟩ = some (.slice (some ⟨g, 0, none⟩) m.own.length oc) ∧ Bx (w.heap.size + 1) #[.int .i64 v.k, .int .i64 v.n, .string (bs v.s)] 52 w')) (by kernel_rfl) ?_ (fun hHeld => ?_)
        · exact HS0.out
        refine tkX (i := 0) 40 ?_
        simp only [sA, sB, sC]
        refine tkX (i := 1) 41 ?_
        simp only [sA, sB, sC]
        refine tkX (i := 2) 42 ?_
        simp only [sA, sB, sC]
        refine tkY (i := 3) (v := ?vv50) 43 ?yy50 ?_
        case yy50 =>
          intro wq hSw
          have d0 := hSw.1
          clear hSw
          go_simp
          (try with_reducible rfl)
        simp only [sA, sB, sC]
        refine tkX (i := 4) 44 ?_
        simp only [sA, sB, sC]
        refine tkY (i := 5) (v := ?vv52) 45 ?yy52 ?_
        case yy52 =>
          intro wq hSw
          obtain ⟨d0, d1, d2⟩ := hSw.2.c3
          clear hSw
          go_simp
          (try with_reducible rfl)
        simp only [sA, sB, sC]
        refine tkX (i := 6) 46 ?_
        simp only [sA, sB, sC]
        refine tkX (i := 7) 47 ?_
        simp only [sA, sB, sC]
        refine wpAnyH_ready (rs := [8]) (by kernel_rfl) (by simp) ?_
        refine (AllReadyH.cons rfl (fun K hK => ?_) AllReadyH.nil)
        obtain ⟨p1, p2, p3⟩ := HP3.out
        have f1 := HGB.out.free (x * 4 + 1)
        have f2 := HGB.out.free (x * 4 + 2)
        have f3 := HGB.out.free (x * 4 + 3)
        have f2b := HGB.out.free (x * 4 + 1 + 1)
        have f3b := HGB.out.free (x * 4 + 1 + 2)
        have p2b : w7.cell? ⟨g, x * 4 + 1 + 1, none⟩ = _ := p2
        have p3b : w7.cell? ⟨g, x * 4 + 1 + 2, none⟩ = _ := p3
        go_simp
        have hset := HM6.out.ownSet HOV.out hxl v
        rw [HKX.out] at hset
        have HSET := Lib.hid hset; clear hset
        have hgn : w.heap.size + 1 ≠ g := by intro e; exact HSN.out _ (.inr rfl) (HM6.out.own.2 _ (by rw [HOV.out, e]; rfl))
        have hgm : mb ≠ g := by intro e; exact HM6.out.bf.row_ne HM6.out.own.1 (by decide) (by rw [HOV.out, e]; rfl)
        have HSF := Lib.hid (show ((fun w' => w'.cell? ⟨mb, 392, none⟩ = some (.slice (some ⟨g, 0, none⟩) m.own.length oc) ∧ Bx (w.heap.size + 1) #[.int .i64 v.k, .int .i64 v.n, .string (bs v.s)] 52 w')) (((w7.setCell ⟨g, x * 4 + 1, none⟩ (.int .i64 v.k)).setCell ⟨g, x * 4 + 1 + 1, none⟩ (.int .i64 v.n)).setCell ⟨g, x * 4 + 1 + 2, none⟩ (.string (bs v.s))) from ⟨by rw [HSET.out.1.bf.cell 392 (by decide), ← HOV.out]; rfl, ((HV6.out.other (c := g) (i := x * 4 + 1) hgn _).other (c := g) (i := x * 4 + 1 + 1) hgn _).other (c := g) (i := x * 4 + 1 + 2) hgn _⟩)
        refine hK.out _ _ ?_ (fun hHeld => ?_)
        · exact HSF.out
        clear hK K hHeld p1 p2 p3 p2b p3b f1 f2 f3 f2b f3b
        (try simp only [Act.put, sA, sB, sC])
        refine wpAnyH_done (by kernel_rfl) ?_ _
        have HM9 := Lib.hid HSET.out.1.drew; have HF9 := Lib.hid (HF6.out.then HSET.out.2).drew; clear HSET HSF
        generalize hW : World.drew (((w7.setCell ⟨g, x * 4 + 1, none⟩ (.int .i64 v.k)).setCell ⟨g, x * 4 + 1 + 1, none⟩ (.int .i64 v.n)).setCell ⟨g, x * 4 + 1 + 2, none⟩ (.string (bs v.s))) = w9 at HM9 HF9 ⊢
        clear hW
        go_wp2
        exact ⟨(by first | exact True.intro | rfl), .tuple #[], results_none rfl _ _ _, rfl, _, _, by rw [HST.out]; exact HM9.out, HF9.out⟩
end Go.Proofs.YtnglaegofhpleaaGreatDoor
namespace Go.Proofs.YtnglaegofhpleaaGreatDoor
open Go.RowKit

theorem cells3_al {W : World} {b i : Nat} {o : Obj} {u0 u1 u2 : Value} (h : W.cell? ⟨b, i, none⟩ = some u0 ∧ W.cell? ⟨b, i + 1, none⟩ = some u1 ∧ W.cell? ⟨b, i + 2, none⟩ = some u2) : (W.alloc o).cell? ⟨b, i, none⟩ = some u0 ∧ (W.alloc o).cell? ⟨b, i + 1, none⟩ = some u1 ∧ (W.alloc o).cell? ⟨b, i + 2, none⟩ = some u2 := by
  have hb := (Below.refl W.heap.size W).alloc (Nat.le_refl _) o
  exact ⟨cell1_below h.1 hb, cell1_below h.2.1 hb, cell1_below h.2.2 hb⟩
theorem cells3_st {W : World} {b i c : Nat} {u0 u1 u2 : Value} (hne : c ≠ b) (h : W.cell? ⟨b, i, none⟩ = some u0 ∧ W.cell? ⟨b, i + 1, none⟩ = some u1 ∧ W.cell? ⟨b, i + 2, none⟩ = some u2) (x y z : Value) :
    (((W.setCell ⟨c, 0, none⟩ x).setCell ⟨c, 1, none⟩ y).setCell ⟨c, 2, none⟩ z).cell? ⟨b, i, none⟩ = some u0 ∧ (((W.setCell ⟨c, 0, none⟩ x).setCell ⟨c, 1, none⟩ y).setCell ⟨c, 2, none⟩ z).cell? ⟨b, i + 1, none⟩ = some u1 ∧ (((W.setCell ⟨c, 0, none⟩ x).setCell ⟨c, 1, none⟩ y).setCell ⟨c, 2, none⟩ z).cell? ⟨b, i + 2, none⟩ = some u2 :=
  ⟨cell1_set _ hne (cell1_set _ hne (cell1_set _ hne h.1)), cell1_set _ hne (cell1_set _ hne (cell1_set _ hne h.2.1)), cell1_set _ hne (cell1_set _ hne (cell1_set _ hne h.2.2))⟩
set_option maxRecDepth 100000 in
set_option maxHeartbeats 16000000 in
theorem loop_any (B mb : Nat) (S : Nat → Prop) (H : Nat → Value) (m : Mc) (R : Rw) (x : Ins) (a b : Nat) (hxa : x.a = (a : Int)) (hxb : x.b = (b : Int)) (ha : a < 64) (hb : b < 64) (hn : 1 ≤ x.n ∧ x.n ≤ 16) (hs : ∀ i, OkV (m.slo i)) (w : World) (h : VMB B mb S H m R w) :
    Calls Tryz.prog 67 #[.pointer (some ⟨mb, 0, none⟩), .agg (insV x)] w (VPost B mb S H (loopM x m) (.tuple #[]) w) := by
  simp only [insV]
  obtain ⟨p, hp⟩ : ∃ p, m.slo a = p := ⟨_, rfl⟩
  obtain ⟨q, hq⟩ : ∃ q, m.slo b = q := ⟨_, rfl⟩
  have hok1 := hs a; rw [hp] at hok1
  have hok2 := hs b; rw [hq] at hok2
  obtain ⟨R0, hR0⟩ : ∃ r, loopM x m = r := ⟨_, rfl⟩
  have HRR := Lib.hid (show (if p.k ≠ 1 ∨ q.k ≠ 1 then endM 2 1009 [] m else if p.n < q.n ∧ x.n < q.n - p.n then endM 2 1005 [] m else m) = R0 from by rw [← hR0]; unfold loopM; rw [hxa, hxb, Int.toNat_natCast, Int.toNat_natCast, hp, hq])
  rw [hR0]
  clear hR0 hs
  rw [hxa, hxb]
  clear hxa hxb
  obtain ⟨v0, hW0, hb0, hx0⟩ := boxes1 w #[.int .i64 x.op, .int .i64 (a : Int), .int .i64 (b : Int), .int .i64 x.n, .string (bs x.s)] 45
  have HM := Lib.hid (h.call hb0); have HF := Lib.hid (FrS.of_below (S := S) hb0); have HN := Lib.hid (show ∀ j, w.heap.size ≤ j → ¬ S j from fun j hj e => by have := (h.rng j e).2; omega)
  have HW := Lib.hid hW0; have HX := Lib.hid hx0; clear hW0 hb0 hx0 h
  go_enter Tryz.func67, Tryz.ntmps67
  go_upto_region 1 with (fail)
  rw [HW.out]
  clear HW
  have hla := HM.out.lc ha
  rw [hp] at hla
  have hlb := HM.out.lc hb
  rw [hq] at hlb
  have HP := Lib.hid hp; have HQ := Lib.hid hq; clear hp hq
  go_cut [4, 5] from 6 to 51 (fun s4 s5 W => ∃ ab bb, s4 = .pointer (some ⟨ab, 0, none⟩) ∧ s5 = .pointer (some ⟨bb, 0, none⟩) ∧ Bx ab #[.int .i64 p.k, .int .i64 p.n, .string (bs p.s)] 52 W ∧ Bx bb #[.int .i64 q.k, .int .i64 q.n, .string (bs q.s)] 52 W ∧ Bx w.heap.size #[.int .i64 x.op, .int .i64 (a : Int), .int .i64 (b : Int), .int .i64 x.n, .string (bs x.s)] 45 W ∧ VMB B mb S H m R W ∧ FrS S S w W)
  case first =>
    have HS0 := Lib.hid (show ((fun w' => Bx w.heap.size #[.int .i64 x.op, .int .i64 (a : Int), .int .i64 (b : Int), .int .i64 x.n, .string (bs x.s)] 45 w' ∧ (w'.cell? ⟨mb, 200 + a * 3, none⟩ = some (.int .i64 p.k) ∧ w'.cell? ⟨mb, 200 + a * 3 + 1, none⟩ = some (.int .i64 p.n) ∧ w'.cell? ⟨mb, 200 + a * 3 + 2, none⟩ = some (.string (bs p.s))) ∧ (w'.cell? ⟨mb, 200 + b * 3, none⟩ = some (.int .i64 q.k) ∧ w'.cell? ⟨mb, 200 + b * 3 + 1, none⟩ = some (.int .i64 q.n) ∧ w'.cell? ⟨mb, 200 + b * 3 + 2, none⟩ = some (.string (bs q.s))))) v0.drew from ⟨HX.out, hla, hlb⟩)
    clear hla hlb
    have hxl := HX.out.lt
    have hml := HM.out.bf.lt
    have hai : (0 : Int) ≤ (a : Int) ∧ (a : Int) < 64 := by omega
    have hbi : (0 : Int) ≤ (b : Int) ∧ (b : Int) < 64 := by omega
    refine wp_region_held_drew (S := (fun w' => Bx w.heap.size #[.int .i64 x.op, .int .i64 (a : Int), .int .i64 (b : Int), .int .i64 x.n, .string (bs x.s)] 45 w' ∧ (w'.cell? ⟨mb, 200 + a * 3, none⟩ = some (.int .i64 p.k) ∧ w'.cell? ⟨mb, 200 + a * 3 + 1, none⟩ = some (.int .i64 p.n) ∧ w'.cell? ⟨mb, 200 + a * 3 + 2, none⟩ = some (.string (bs p.s))) ∧ (w'.cell? ⟨mb, 200 + b * 3, none⟩ = some (.int .i64 q.k) ∧ w'.cell? ⟨mb, 200 + b * 3 + 1, none⟩ = some (.int .i64 q.n) ∧ w'.cell? ⟨mb, 200 + b * 3 + 2, none⟩ = some (.string (bs q.s))))) (by kernel_rfl) ?_ (fun hHeld => ?_)
    · exact HS0.out
    refine tkX (i := 0) 6 ?_
    simp only [sA, sB, sC]
    refine tkX (i := 1) 7 ?_
    simp only [sA, sB, sC]
    refine tkY (i := 2) (v := ?vv3) 8 ?yy3 ?_
    case yy3 =>
      intro wq hSw
      obtain ⟨z0, z1, z2, z3, z4⟩ := hSw.1.c5
      clear hSw
      go_simp
      (try with_reducible rfl)
    simp only [sA, sB, sC]
    refine tkX (i := 3) 9 ?_
    simp only [sA, sB, sC]
    refine tkX (i := 4) 10 ?_
    simp only [sA, sB, sC]
    refine tkX (i := 5) 11 ?_
    simp only [sA, sB, sC]
    refine tkY (i := 6) (v := ?vv7) 12 ?yy7 ?_
    case yy7 =>
      intro wq hSw
      obtain ⟨z0, z1, z2⟩ := hSw.2.1
      clear hSw
      go_simp
      (try with_reducible rfl)
    simp only [sA, sB, sC]
    refine tkX (i := 7) 13 ?_
    simp only [sA, sB, sC]
    refine tkX (i := 8) 14 ?_
    simp only [sA, sB, sC]
    refine tkY (i := 9) (v := ?vv10) 15 ?yy10 ?_
    case yy10 =>
      intro wq hSw
      obtain ⟨z0, z1, z2, z3, z4⟩ := hSw.1.c5
      clear hSw
      go_simp
      (try with_reducible rfl)
    simp only [sA, sB, sC]
    refine tkX (i := 10) 16 ?_
    simp only [sA, sB, sC]
    refine tkX (i := 11) 17 ?_
    simp only [sA, sB, sC]
    refine tkX (i := 12) 18 ?_
    simp only [sA, sB, sC]
    refine tkY (i := 13) (v := ?vv14) 19 ?yy14 ?_
    case yy14 =>
      intro wq hSw
      obtain ⟨z0, z1, z2⟩ := hSw.2.2
      clear hSw
      go_simp
      (try with_reducible rfl)
    simp only [sA, sB, sC]
    refine wpAnyH_ready (rs := [14, 15]) (by kernel_rfl) (by simp) ?_
    refine (AllReadyH.cons rfl (fun K hK => ?_) (AllReadyH.cons rfl (fun K hK => ?_) AllReadyH.nil))
    · skip
      go_simp
      skip
      focus (try go_wp2_with fail)
      refine hK.out _ _ ?_ (fun hHeld => ?_)
      · exact ⟨hHeld.1.alloc _, cells3_al hHeld.2.1, cells3_al hHeld.2.2⟩
      clear hK K
      (try simp only [Act.put, sA, sB, sC])
      refine wpAnyH_ready (rs := [15]) (by kernel_rfl) (by simp) ?_
      refine (AllReadyH.cons rfl (fun K hK => ?_) AllReadyH.nil)
      go_simp
      skip
      focus (try go_wp2_with fail)
      refine hK.out _ _ ?_ (fun hHeld => ?_)
      · exact ⟨hHeld.1.alloc _, cells3_al hHeld.2.1, cells3_al hHeld.2.2⟩
      clear hK K
      (try simp only [Act.put, sA, sB, sC])
      obtain ⟨u1, hu0, hub, hu1, hu2⟩ := boxes2 v0 #[.int .i64 0, .int .i64 0, .string ⟨#[]⟩] 52 #[.int .i64 0, .int .i64 0, .string ⟨#[]⟩] 52
      have HUB := Lib.hid (HM.out.call hub).drew; have HUF := Lib.hid (HF.out.then (FrS.of_below hub)).drew; have HU1 := Lib.hid hu1.drew; have HU2 := Lib.hid hu2.drew; clear hub hu1 hu2
      rw [hu0] at hHeld
      have HH := Lib.hid hHeld; clear hHeld
      rw [hu0]
      clear hu0
      generalize hW : u1.drew = u0 at HUB HUF HU1 HU2 HH ⊢
      clear hW
      have r0 : u0.cell? ⟨v0.heap.size, 0, none⟩ = some (.int .i64 0) := HU1.out.cell 0
      have r1 : u0.cell? ⟨v0.heap.size, 1, none⟩ = some (.int .i64 0) := HU1.out.cell 1
      have r2 : u0.cell? ⟨v0.heap.size, 2, none⟩ = some (.string ⟨#[]⟩) := HU1.out.cell 2
      have f0 := HU1.out.free 0
      have f1 := HU1.out.free 1
      have f2 := HU1.out.free 2
      have HH1 := Lib.hid (show ((fun w' => Bx w.heap.size #[.int .i64 x.op, .int .i64 (a : Int), .int .i64 (b : Int), .int .i64 x.n, .string (bs x.s)] 45 w' ∧ (w'.cell? ⟨mb, 200 + a * 3, none⟩ = some (.int .i64 p.k) ∧ w'.cell? ⟨mb, 200 + a * 3 + 1, none⟩ = some (.int .i64 p.n) ∧ w'.cell? ⟨mb, 200 + a * 3 + 2, none⟩ = some (.string (bs p.s))) ∧ (w'.cell? ⟨mb, 200 + b * 3, none⟩ = some (.int .i64 q.k) ∧ w'.cell? ⟨mb, 200 + b * 3 + 1, none⟩ = some (.int .i64 q.n) ∧ w'.cell? ⟨mb, 200 + b * 3 + 2, none⟩ = some (.string (bs q.s))))) (((u0.setCell ⟨v0.heap.size, 0, none⟩ (.int .i64 p.k)).setCell ⟨v0.heap.size, 1, none⟩ (.int .i64 p.n)).setCell ⟨v0.heap.size, 2, none⟩ (.string (bs p.s))) from ⟨((HH.out.1.other (c := v0.heap.size) (i := 0) (by omega) _).other (c := v0.heap.size) (i := 1) (by omega) _).other (c := v0.heap.size) (i := 2) (by omega) _, cells3_st (by omega) HH.out.2.1 _ _ _, cells3_st (by omega) HH.out.2.2 _ _ _⟩)
      have HA1 := Lib.hid (HU1.out.sets3 (.int .i64 p.k) (.int .i64 p.n) (.string (bs p.s)))
      have HB1 := Lib.hid (((HU2.out.other (c := v0.heap.size) (i := 0) (by omega) (.int .i64 p.k)).other (c := v0.heap.size) (i := 1) (by omega) (.int .i64 p.n)).other (c := v0.heap.size) (i := 2) (by omega) (.string (bs p.s)))
      have HM1 := Lib.hid (vm_sets3 HUB.out v0.heap.size (HN.out _ (by omega)) (.int .i64 p.k) (.int .i64 p.n) (.string (bs p.s)))
      have HF1 := Lib.hid (((HUF.out.set v0.heap.size 0 (.int .i64 p.k) (.inr (by omega))).set v0.heap.size 1 (.int .i64 p.n) (.inr (by omega))).set v0.heap.size 2 (.string (bs p.s)) (.inr (by omega)))
      refine wpAnyH_ready (rs := [16]) (by kernel_rfl) (by simp) ?_
      refine (AllReadyH.cons rfl (fun K hK => ?_) AllReadyH.nil)
      go_simp
      refine hK.out _ _ ?_ (fun hHeld => ?_)
      · exact HH1.out
      clear hK K r0 r1 r2 f0 f1 f2
      (try simp only [Act.put, sA, sB, sC])
      clear hHeld
      have HA2 := Lib.hid (((HA1.out.other (c := (v0.heap.size + 1)) (i := 0) (by omega) (.int .i64 q.k)).other (c := (v0.heap.size + 1)) (i := 1) (by omega) (.int .i64 q.n)).other (c := (v0.heap.size + 1)) (i := 2) (by omega) (.string (bs q.s)))
      have HB2 := Lib.hid (HB1.out.sets3 (.int .i64 q.k) (.int .i64 q.n) (.string (bs q.s)))
      have HM2 := Lib.hid (vm_sets3 HM1.out (v0.heap.size + 1) (HN.out _ (by omega)) (.int .i64 q.k) (.int .i64 q.n) (.string (bs q.s)))
      have HF2 := Lib.hid (((HF1.out.set (v0.heap.size + 1) 0 (.int .i64 q.k) (.inr (by omega))).set (v0.heap.size + 1) 1 (.int .i64 q.n) (.inr (by omega))).set (v0.heap.size + 1) 2 (.string (bs q.s)) (.inr (by omega)))
      have HH2 := Lib.hid (show ((fun w' => Bx w.heap.size #[.int .i64 x.op, .int .i64 (a : Int), .int .i64 (b : Int), .int .i64 x.n, .string (bs x.s)] 45 w' ∧ (w'.cell? ⟨mb, 200 + a * 3, none⟩ = some (.int .i64 p.k) ∧ w'.cell? ⟨mb, 200 + a * 3 + 1, none⟩ = some (.int .i64 p.n) ∧ w'.cell? ⟨mb, 200 + a * 3 + 2, none⟩ = some (.string (bs p.s))) ∧ (w'.cell? ⟨mb, 200 + b * 3, none⟩ = some (.int .i64 q.k) ∧ w'.cell? ⟨mb, 200 + b * 3 + 1, none⟩ = some (.int .i64 q.n) ∧ w'.cell? ⟨mb, 200 + b * 3 + 2, none⟩ = some (.string (bs q.s))))) ((((((u0.setCell ⟨v0.heap.size, 0, none⟩ (.int .i64 p.k)).setCell ⟨v0.heap.size, 1, none⟩ (.int .i64 p.n)).setCell ⟨v0.heap.size, 2, none⟩ (.string (bs p.s))).setCell ⟨(v0.heap.size + 1), 0, none⟩ (.int .i64 q.k)).setCell ⟨(v0.heap.size + 1), 1, none⟩ (.int .i64 q.n)).setCell ⟨(v0.heap.size + 1), 2, none⟩ (.string (bs q.s))) from ⟨((HH1.out.1.other (c := (v0.heap.size + 1)) (i := 0) (by omega) _).other (c := (v0.heap.size + 1)) (i := 1) (by omega) _).other (c := (v0.heap.size + 1)) (i := 2) (by omega) _, cells3_st (by omega) HH1.out.2.1 _ _ _, cells3_st (by omega) HH1.out.2.2 _ _ _⟩)
      obtain ⟨r0, r1, r2⟩ := HB1.out.c3
      have f0 := HB1.out.free 0
      have f1 := HB1.out.free 1
      have f2 := HB1.out.free 2
      refine wpAnyH_ready (rs := [17]) (by kernel_rfl) (by simp) ?_
      refine (AllReadyH.cons rfl (fun K hK => ?_) AllReadyH.nil)
      go_simp
      refine hK.out _ _ ?_ (fun hHeld => ?_)
      · exact HH2.out
      clear hK K r0 r1 r2 f0 f1 f2
      (try simp only [Act.put, sA, sB, sC])
      have HX2 := Lib.hid HH2.out.1
      clear hHeld HH1 HH2 HA1 HB1 HM1 HF1
      refine wpAnyH_done (by kernel_rfl) ?_ _
      go_wp2_with fail
      go_meet
      exact ⟨v0.heap.size, (v0.heap.size + 1), rfl, rfl, HA2.out, HB2.out, HX2.out, HM2.out, HF2.out⟩
    · skip
      go_simp
      skip
      focus (try go_wp2_with fail)
      refine hK.out _ _ ?_ (fun hHeld => ?_)
      · exact ⟨hHeld.1.alloc _, cells3_al hHeld.2.1, cells3_al hHeld.2.2⟩
      clear hK K
      (try simp only [Act.put, sA, sB, sC])
      refine wpAnyH_ready (rs := [14]) (by kernel_rfl) (by simp) ?_
      refine (AllReadyH.cons rfl (fun K hK => ?_) AllReadyH.nil)
      go_simp
      skip
      focus (try go_wp2_with fail)
      refine hK.out _ _ ?_ (fun hHeld => ?_)
      · exact ⟨hHeld.1.alloc _, cells3_al hHeld.2.1, cells3_al hHeld.2.2⟩
      clear hK K
      (try simp only [Act.put, sA, sB, sC])
      obtain ⟨u1, hu0, hub, hu1, hu2⟩ := boxes2 v0 #[.int .i64 0, .int .i64 0, .string ⟨#[]⟩] 52 #[.int .i64 0, .int .i64 0, .string ⟨#[]⟩] 52
      have HUB := Lib.hid (HM.out.call hub).drew; have HUF := Lib.hid (HF.out.then (FrS.of_below hub)).drew; have HU1 := Lib.hid hu1.drew; have HU2 := Lib.hid hu2.drew; clear hub hu1 hu2
      rw [hu0] at hHeld
      have HH := Lib.hid hHeld; clear hHeld
      rw [hu0]
      clear hu0
      generalize hW : u1.drew = u0 at HUB HUF HU1 HU2 HH ⊢
      clear hW
      have r0 : u0.cell? ⟨(v0.heap.size + 1), 0, none⟩ = some (.int .i64 0) := HU2.out.cell 0
      have r1 : u0.cell? ⟨(v0.heap.size + 1), 1, none⟩ = some (.int .i64 0) := HU2.out.cell 1
      have r2 : u0.cell? ⟨(v0.heap.size + 1), 2, none⟩ = some (.string ⟨#[]⟩) := HU2.out.cell 2
      have f0 := HU2.out.free 0
      have f1 := HU2.out.free 1
      have f2 := HU2.out.free 2
      have HH1 := Lib.hid (show ((fun w' => Bx w.heap.size #[.int .i64 x.op, .int .i64 (a : Int), .int .i64 (b : Int), .int .i64 x.n, .string (bs x.s)] 45 w' ∧ (w'.cell? ⟨mb, 200 + a * 3, none⟩ = some (.int .i64 p.k) ∧ w'.cell? ⟨mb, 200 + a * 3 + 1, none⟩ = some (.int .i64 p.n) ∧ w'.cell? ⟨mb, 200 + a * 3 + 2, none⟩ = some (.string (bs p.s))) ∧ (w'.cell? ⟨mb, 200 + b * 3, none⟩ = some (.int .i64 q.k) ∧ w'.cell? ⟨mb, 200 + b * 3 + 1, none⟩ = some (.int .i64 q.n) ∧ w'.cell? ⟨mb, 200 + b * 3 + 2, none⟩ = some (.string (bs q.s))))) (((u0.setCell ⟨(v0.heap.size + 1), 0, none⟩ (.int .i64 p.k)).setCell ⟨(v0.heap.size + 1), 1, none⟩ (.int .i64 p.n)).setCell ⟨(v0.heap.size + 1), 2, none⟩ (.string (bs p.s))) from ⟨((HH.out.1.other (c := (v0.heap.size + 1)) (i := 0) (by omega) _).other (c := (v0.heap.size + 1)) (i := 1) (by omega) _).other (c := (v0.heap.size + 1)) (i := 2) (by omega) _, cells3_st (by omega) HH.out.2.1 _ _ _, cells3_st (by omega) HH.out.2.2 _ _ _⟩)
      have HA1 := Lib.hid (HU2.out.sets3 (.int .i64 p.k) (.int .i64 p.n) (.string (bs p.s)))
      have HB1 := Lib.hid (((HU1.out.other (c := (v0.heap.size + 1)) (i := 0) (by omega) (.int .i64 p.k)).other (c := (v0.heap.size + 1)) (i := 1) (by omega) (.int .i64 p.n)).other (c := (v0.heap.size + 1)) (i := 2) (by omega) (.string (bs p.s)))
      have HM1 := Lib.hid (vm_sets3 HUB.out (v0.heap.size + 1) (HN.out _ (by omega)) (.int .i64 p.k) (.int .i64 p.n) (.string (bs p.s)))
      have HF1 := Lib.hid (((HUF.out.set (v0.heap.size + 1) 0 (.int .i64 p.k) (.inr (by omega))).set (v0.heap.size + 1) 1 (.int .i64 p.n) (.inr (by omega))).set (v0.heap.size + 1) 2 (.string (bs p.s)) (.inr (by omega)))
      refine wpAnyH_ready (rs := [16]) (by kernel_rfl) (by simp) ?_
      refine (AllReadyH.cons rfl (fun K hK => ?_) AllReadyH.nil)
      go_simp
      refine hK.out _ _ ?_ (fun hHeld => ?_)
      · exact HH1.out
      clear hK K r0 r1 r2 f0 f1 f2
      (try simp only [Act.put, sA, sB, sC])
      clear hHeld
      have HA2 := Lib.hid (((HA1.out.other (c := v0.heap.size) (i := 0) (by omega) (.int .i64 q.k)).other (c := v0.heap.size) (i := 1) (by omega) (.int .i64 q.n)).other (c := v0.heap.size) (i := 2) (by omega) (.string (bs q.s)))
      have HB2 := Lib.hid (HB1.out.sets3 (.int .i64 q.k) (.int .i64 q.n) (.string (bs q.s)))
      have HM2 := Lib.hid (vm_sets3 HM1.out v0.heap.size (HN.out _ (by omega)) (.int .i64 q.k) (.int .i64 q.n) (.string (bs q.s)))
      have HF2 := Lib.hid (((HF1.out.set v0.heap.size 0 (.int .i64 q.k) (.inr (by omega))).set v0.heap.size 1 (.int .i64 q.n) (.inr (by omega))).set v0.heap.size 2 (.string (bs q.s)) (.inr (by omega)))
      have HH2 := Lib.hid (show ((fun w' => Bx w.heap.size #[.int .i64 x.op, .int .i64 (a : Int), .int .i64 (b : Int), .int .i64 x.n, .string (bs x.s)] 45 w' ∧ (w'.cell? ⟨mb, 200 + a * 3, none⟩ = some (.int .i64 p.k) ∧ w'.cell? ⟨mb, 200 + a * 3 + 1, none⟩ = some (.int .i64 p.n) ∧ w'.cell? ⟨mb, 200 + a * 3 + 2, none⟩ = some (.string (bs p.s))) ∧ (w'.cell? ⟨mb, 200 + b * 3, none⟩ = some (.int .i64 q.k) ∧ w'.cell? ⟨mb, 200 + b * 3 + 1, none⟩ = some (.int .i64 q.n) ∧ w'.cell? ⟨mb, 200 + b * 3 + 2, none⟩ = some (.string (bs q.s))))) ((((((u0.setCell ⟨(v0.heap.size + 1), 0, none⟩ (.int .i64 p.k)).setCell ⟨(v0.heap.size + 1), 1, none⟩ (.int .i64 p.n)).setCell ⟨(v0.heap.size + 1), 2, none⟩ (.string (bs p.s))).setCell ⟨v0.heap.size, 0, none⟩ (.int .i64 q.k)).setCell ⟨v0.heap.size, 1, none⟩ (.int .i64 q.n)).setCell ⟨v0.heap.size, 2, none⟩ (.string (bs q.s))) from ⟨((HH1.out.1.other (c := v0.heap.size) (i := 0) (by omega) _).other (c := v0.heap.size) (i := 1) (by omega) _).other (c := v0.heap.size) (i := 2) (by omega) _, cells3_st (by omega) HH1.out.2.1 _ _ _, cells3_st (by omega) HH1.out.2.2 _ _ _⟩)
      obtain ⟨r0, r1, r2⟩ := HB1.out.c3
      have f0 := HB1.out.free 0
      have f1 := HB1.out.free 1
      have f2 := HB1.out.free 2
      refine wpAnyH_ready (rs := [17]) (by kernel_rfl) (by simp) ?_
      refine (AllReadyH.cons rfl (fun K hK => ?_) AllReadyH.nil)
      go_simp
      refine hK.out _ _ ?_ (fun hHeld => ?_)
      · exact HH2.out
      clear hK K r0 r1 r2 f0 f1 f2
      (try simp only [Act.put, sA, sB, sC])
      have HX2 := Lib.hid HH2.out.1
      clear hHeld HH1 HH2 HA1 HB1 HM1 HF1
      refine wpAnyH_done (by kernel_rfl) ?_ _
      go_wp2_with fail
      go_meet
      exact ⟨(v0.heap.size + 1), v0.heap.size, rfl, rfl, HA2.out, HB2.out, HX2.out, HM2.out, HF2.out⟩
  case rest =>
    obtain ⟨ab, bb, rfl, rfl, h1, h2, h3, h4, h5⟩ := hcut
    have HA := Lib.hid h1; have HB := Lib.hid h2; have HX := Lib.hid h3; have HM := Lib.hid h4; have HF := Lib.hid h5; clear h1 h2 h3 h4 h5 hla hlb
    obtain ⟨a0, a1, a2⟩ := HA.out.c3
    obtain ⟨b0, b1, b2⟩ := HB.out.c3
    by_cases e1 : p.k = 1
    rotate_left
    · have t1 : (p.k != 1) = true := by rw [bne_iff_ne]; exact e1
      have E1 := Lib.hid e1; clear e1
      have HR := Lib.hid (show R0 = endM 2 1009 [] m from HRR.out.symm.trans (if_pos (.inl E1.out)))
      go_wp2_with fail
      refine (vabort_any _ mb S H m R 1009 _ HM.out).mono ?_
      rintro e w2 ⟨rfl, S', R', h1, h2⟩
      have H1 := Lib.hid h1; have H2 := Lib.hid h2; clear h1 h2
      go_wp2
      exact ⟨(by first | exact True.intro | rfl), .tuple #[], results_none rfl _ _ _, rfl, S', R', by rw [HR.out]; exact H1.out, HF.out.then H2.out⟩
    have t1 : (p.k != 1) = false := by rw [e1]; rfl
    by_cases e2 : q.k = 1
    rotate_left
    · have t2 : (q.k != 1) = true := by rw [bne_iff_ne]; exact e2
      have E2 := Lib.hid e2; clear e1 e2
      have HR := Lib.hid (show R0 = endM 2 1009 [] m from HRR.out.symm.trans (if_pos (.inr E2.out)))
      go_wp2_with fail
      refine (vabort_any _ mb S H m R 1009 _ HM.out).mono ?_
      rintro e w2 ⟨rfl, S', R', h1, h2⟩
      have H1 := Lib.hid h1; have H2 := Lib.hid h2; clear h1 h2
      go_wp2
      exact ⟨(by first | exact True.intro | rfl), .tuple #[], results_none rfl _ _ _, rfl, S', R', by rw [HR.out]; exact H1.out, HF.out.then H2.out⟩
    have t2 : (q.k != 1) = false := by rw [e2]; rfl
    have HE := Lib.hid (show ¬ (p.k ≠ 1 ∨ q.k ≠ 1) from by rintro (e | e); exact e e1; exact e e2)
    clear e1 e2
    obtain ⟨x0, x1, x2, x3, x4⟩ := HX.out.c5
    obtain ⟨o1, o2, o3⟩ := hok1
    obtain ⟨o4, o5, o6⟩ := hok2
    by_cases h1 : p.n < q.n
    rotate_left
    · have hh1 : ¬ p.n < q.n := h1
      have HR := Lib.hid (show R0 = m from HRR.out.symm.trans ((if_neg HE.out).trans (if_neg (fun e => hh1 e.1))))
      go_wp2
      exact ⟨(by first | exact True.intro | rfl), .tuple #[], results_none rfl _ _ _, rfl, S, R, by rw [HR.out]; exact HM.out, HF.out⟩
    have hu1 : IntKind.u64.wrap (IntKind.u64.wrap q.n - IntKind.u64.wrap p.n) = q.n - p.n := by unfold IntKind.wrap; simp [IntKind.signed, IntKind.bits]; omega
    have hu2 : IntKind.u64.wrap x.n = x.n := by unfold IntKind.wrap; simp [IntKind.signed, IntKind.bits]; omega
    by_cases h2 : x.n < q.n - p.n
    · have HH := Lib.hid (And.intro h1 h2)
      have HR := Lib.hid (show R0 = endM 2 1005 [] m from HRR.out.symm.trans ((if_neg HE.out).trans (if_pos HH.out)))
      go_wp2_with fail
      refine (vabort_any _ mb S H m R 1005 _ HM.out).mono ?_
      rintro e w2 ⟨rfl, S', R', h1, h2⟩
      have H1 := Lib.hid h1; have H2 := Lib.hid h2; clear h1 h2
      go_wp2
      exact ⟨(by first | exact True.intro | rfl), .tuple #[], results_none rfl _ _ _, rfl, S', R', by rw [HR.out]; exact H1.out, HF.out.then H2.out⟩
    have hh2 : ¬ x.n < q.n - p.n := h2
    have HR := Lib.hid (show R0 = m from HRR.out.symm.trans ((if_neg HE.out).trans (if_neg (fun e => hh2 e.2))))
    go_wp2
    exact ⟨(by first | exact True.intro | rfl), .tuple #[], results_none rfl _ _ _, rfl, S, R, by rw [HR.out]; exact HM.out, HF.out⟩
set_option maxRecDepth 100000 in
set_option maxHeartbeats 16000000 in
theorem put_any (W0 : World) (mb : Nat) (S : Nat → Prop) (H : Nat → Value) (m : Mc) (R : Rw) (M : List Pr) (F : Ft) (hG : GivH H W0 M F) (hd2 : 2 ≤ m.dep) (hd : m.dep ≤ 64) (hok : ∀ i, i < m.dep → OkV (m.stk i)) (hs : SortK m.puts) (hl : m.puts.length ≤ 100000000 ∧ m.own.length ≤ 100000000) (w : World) (h : VMB W0.heap.size mb S H m R w) (hb0 : Below W0.heap.size W0 w) :
    Calls Tryz.prog 64 #[.pointer (some ⟨mb, 0, none⟩)] w (VPost W0.heap.size mb S H (putM F m) (.tuple #[]) w) := by
  obtain ⟨v, hv⟩ : ∃ v, popV m = v := ⟨_, rfl⟩
  obtain ⟨k, hk⟩ : ∃ k, popV (popM m) = k := ⟨_, rfl⟩
  have hkk : k.s.length ≤ 1000000 := by rw [← hk]; exact (hok _ (by show m.dep - 1 - 1 < m.dep; omega)).2.2
  obtain ⟨R0, hR0⟩ : ∃ r, putM F m = r := ⟨_, rfl⟩
  rw [hR0]
  have HRR := Lib.hid (show (if storedB v = false then endM 2 1009 [] (popM (popM m)) else storeM F k v (popM (popM m))) = R0 from by rw [← hR0]; unfold putM; rw [hv, hk])
  have HV := Lib.hid hv; have HK := Lib.hid hk; have HM := Lib.hid h; have HB := Lib.hid hb0; have HG := Lib.hid hG; have HSO := Lib.hid hs; clear hR0 hv hk h hb0 hG hs hok
  go_enter Tryz.func64, Tryz.ntmps64
  go_wp2_with fail
  refine (pop_any _ mb S H m R _ HM.out (by omega) hd).mono ?_
  rintro e w1 ⟨rfl, S1, R1, h1, f1⟩
  rw [HV.out]
  simp only [vV]
  have HM1 := Lib.hid h1; have HF := Lib.hid f1; have HB1 := Lib.hid (HM.out.below HB.out f1)
  clear h1 f1
  go_upto_region 1 with (fail)
  have hal := (Below.refl w1.heap.size w1).alloc (Nat.le_refl _) (.cells #[.int .i64 v.k, .int .i64 v.n, .string (bs v.s)] 52)
  have HN1 := Lib.hid (show ∀ j, w1.heap.size ≤ j → ¬ S1 j from fun j hj e => by have := (HM1.out.rng j e).2; omega)
  have HX := Lib.hid (Bx.new w1 #[.int .i64 v.k, .int .i64 v.n, .string (bs v.s)] 52); have HM1 := Lib.hid (HM1.out.call hal); have HF := Lib.hid (HF.out.then (FrS.of_below hal)); have HB1 := Lib.hid (btrans HB1.out HB1.out.size hal); clear hal
  obtain ⟨xb, hxb⟩ : ∃ n, w1.heap.size = n := ⟨_, rfl⟩
  generalize hW : w1.alloc (.cells #[.int .i64 v.k, .int .i64 v.n, .string (bs v.s)] 52) = v1 at HX HM1 HF HB1 ⊢
  clear hW
  rw [hxb] at HX HN1
  (try rw [hxb])
  clear hxb
  go_wp2_with fail
  have hxl := HX.out.lt
  refine (pop_any _ mb S1 H (popM m) R1 _ HM1.out (by show 1 ≤ m.dep - 1; omega) (by show m.dep - 1 ≤ 64; omega)).mono ?_
  rintro e w2 ⟨rfl, S2, R2, h2, f2⟩
  rw [HK.out]
  simp only [vV]
  have HM2 := Lib.hid h2; have HF := Lib.hid (HF.out.then f2); have HX := Lib.hid (HX.out.frs f2 (HN1.out xb (Nat.le_refl _))); have HB2 := Lib.hid (HM1.out.below HB1.out f2)
  clear h2 f2
  go_upto_region 2 with (fail)
  have hal := (Below.refl w2.heap.size w2).alloc (Nat.le_refl _) (.cells #[.int .i64 k.k, .int .i64 k.n, .string (bs k.s)] 52)
  have HY := Lib.hid (Bx.new w2 #[.int .i64 k.k, .int .i64 k.n, .string (bs k.s)] 52); have HM2 := Lib.hid (HM2.out.call hal); have HF := Lib.hid (HF.out.then (FrS.of_below hal)); have HX := Lib.hid (HX.out.call hal); have HB2 := Lib.hid (btrans HB2.out HB2.out.size hal); clear hal
  obtain ⟨yb, hyb⟩ : ∃ n, w2.heap.size = n := ⟨_, rfl⟩
  generalize hW : w2.alloc (.cells #[.int .i64 k.k, .int .i64 k.n, .string (bs k.s)] 52) = v2 at HX HY HM2 HF HB2 ⊢
  clear hW
  rw [hyb] at HY
  (try rw [hyb])
  clear hyb
  obtain ⟨x0, x1, x2⟩ := HX.out.c3
  obtain ⟨sb, hsb⟩ : ∃ b, storedB v = b := ⟨_, rfl⟩
  have HSB := Lib.hid hsb; clear hsb
  go_wp2_with fail
  have hst := stored_any v v2
  simp only [vV] at hst
  refine hst.mono ?_
  clear hst x0 x1 x2
  rw [HSB.out]
  rintro er w3 ⟨rfl, hb3⟩
  have HX := Lib.hid (HX.out.call hb3); have HY := Lib.hid (HY.out.call hb3); have HM2 := Lib.hid (HM2.out.call hb3); have HF := Lib.hid (HF.out.then (FrS.of_below hb3)); have HB2 := Lib.hid (btrans HB2.out HB2.out.size hb3); clear hb3
  cases sb with
  | false =>
    have HR := Lib.hid (show R0 = endM 2 1009 [] (popM (popM m)) from HRR.out.symm.trans (if_pos HSB.out))
    go_wp2_with fail
    refine (vabort_any _ mb S2 H _ R2 1009 _ HM2.out).mono ?_
    rintro e w4 ⟨rfl, S', R', h1, h2⟩
    have H1 := Lib.hid h1; have H2 := Lib.hid h2; clear h1 h2
    go_wp2
    exact ⟨(by first | exact True.intro | rfl), .tuple #[], results_none rfl _ _ _, rfl, S', R', by rw [HR.out]; exact H1.out, HF.out.then H2.out⟩
  | true =>
    have HR := Lib.hid (show R0 = storeM F k v (popM (popM m)) from HRR.out.symm.trans (if_neg (by rw [HSB.out]; simp)))
    obtain ⟨x0, x1, x2⟩ := HX.out.c3
    obtain ⟨y0, y1, y2⟩ := HY.out.c3
    go_wp2_with fail
    have hst := store_any W0 mb S2 H (popM (popM m)) R2 M F k v HG.out hkk HSO.out hl w3 HM2.out HB2.out
    simp only [vV] at hst
    refine hst.mono ?_
    rintro e w4 ⟨rfl, S', R', h1, h2⟩
    have H1 := Lib.hid h1; have H2 := Lib.hid h2; clear h1 h2 hst x0 x1 x2 y0 y1 y2
    go_wp2
    exact ⟨(by first | exact True.intro | rfl), .tuple #[], results_none rfl _ _ _, rfl, S', R', by rw [HR.out]; exact H1.out, HF.out.then H2.out⟩
end Go.Proofs.YtnglaegofhpleaaGreatDoor
