/- What the two functions that happen is given do: Write's adds a pending write, Sync's performs all of them. No conditions but the sizes. -/
import Derived.Test.YtkpfkknldeafkaaDiskClone
import Derived.Deep.AppendLies
import Derived.Deep.RegionLaw
import Derived.Outline
namespace Go.Proofs.Ytkpfkknldeafkaa
open Go.RowKit

/-- a row of the call's own stands, whatever is stored into another block -/
theorem own_set2 {B : Nat} {e : TypeId} {k : Nat} {v : Value} {n : Nat} {xs : List Value} {w : World} (h : w.ownsRow B e k v n xs) (b i : Nat) (hb : v.ownBlock ≠ some b) (u : Value) : (w.setCell ⟨b, i, none⟩ u).ownsRow B e k v n xs :=
  h.kept (grown_set w ⟨b, i, none⟩ u) (Or.inr hb)
theorem grownBy_bx {w w' : World} {row : Option Nat} (hg : w.grownBy w' row) {b : Nat} {cs : Array Value} {T : TypeId} (h : Bx b cs T w) (hne : some b ≠ row) : Bx b cs T w' :=
  (hg.block b h.lt hne).trans h
def fnPost (b B B0 : Nat) (d : Dk) (W : World) (e : Ending) (w' : World) : Prop :=
  ∃ sa sc pa pc, e = .returned (.tuple #[]) ∧ Bx b #[.slice sa d.S.length sc, .slice pa d.P.length pc, .int .i64 d.fuse, .int .i64 d.ops, .bool d.dead] 38 w' ∧ Owned B d w' (.slice sa d.S.length sc) (.slice pa d.P.length pc) ∧ Below B0 W w'

set_option maxRecDepth 100000 in
set_option maxHeartbeats 4000000 in
theorem WriteF_any (b ba bd B B0 : Nat) (sa pa : Option Addr) (sc pc : Nat) (d : Dk) (n : Int) (data : List UInt8) (W : World)
    (hX : Bx b #[.slice sa d.S.length sc, .slice pa d.P.length pc, .int .i64 d.fuse, .int .i64 d.ops, .bool d.dead] 38 W) (hA : Bx ba #[.int .i64 n] 3 W) (hDt : Bx bd #[.string (bs data)] 9 W) (hO : Owned B d W (.slice sa d.S.length sc) (.slice pa d.P.length pc))
    (hsb : (Value.slice sa d.S.length sc).ownBlock ≠ some b) (hpb : (Value.slice pa d.P.length pc).ownBlock ≠ some b) (hBB : B0 ≤ B) (hB0 : B0 ≤ b) (hp : d.P.length ≤ 8999999999999) :
    Calls Try.prog 101 #[.pointer (some ⟨b, 0, none⟩), .pointer (some ⟨ba, 0, none⟩), .pointer (some ⟨bd, 0, none⟩)] W (fnPost b B B0 (addW n data d) W) := by
  obtain ⟨B1, o1, o2, o3, o4, o5⟩ := hO
  obtain ⟨i0, hi, hz0, hz1, hz2⟩ := info_parts infoWrite
  have x1 : W.cell? ⟨b, 1, none⟩ = some (.slice pa d.P.length pc) := hX.cell 1
  have f1 := hX.free 1
  have y0 : W.cell? ⟨ba, 0, none⟩ = some (.int .i64 n) := hA.cell 0
  have z0 : W.cell? ⟨bd, 0, none⟩ = some (.string (bs data)) := hDt.cell 0
  have e1 : (W.alloc (.cells #[.int .i64 n, .string (bs data)] 94)).cell? ⟨b, 1, none⟩ = some (.slice pa d.P.length pc) := (hX.alloc _).cell 1
  have hone : ∀ u ∈ [Value.int .i64 n, strV data], u.oneCell' = true := by intro u hu; simp at hu; rcases hu with rfl | rfl <;> rfl
  have hne1 : some b ≠ (Value.slice pa d.P.length pc).ownBlock := Ne.symm hpb
  have hlb := hX.lt
  have hne2 : (Value.slice sa d.S.length sc).ownBlock = none ∨ (Value.slice sa d.S.length sc).ownBlock ≠ (Value.slice pa d.P.length pc).ownBlock := by
    cases hv : (Value.slice sa d.S.length sc).ownBlock with
    | none => exact .inl rfl
    | some g =>
      refine .inr (fun e => ?_)
      have h1 := o2 g hv
      have h2 := (o4.lt g e.symm).1
      omega
  go_enter Try.func101, Try.ntmps101
  go_wp2
  go_region_law
    ((refine step_append_wide _ (by rfl) _ _ _ (by rfl) B1 94 i0 (.agg #[.int .i64 0, .string ⟨#[]⟩]) 2 24 Try.underlying36 hi hz0 hz1 hz2 rfl (by decide) _ _ _ (by rfl) (o4.alloc _) ⟨W.heap.size, 0, none⟩ 1 1 [.int .i64 n, strV data] (by rfl) rfl (World.news_of_block (heap_alloc_new W _)) hone (by decide) (by unfold maxLen; omega) (by omega) (by simp; omega) ?_; intro g cap w1 hown1 hgrow; have hX1 := grownBy_bx hgrow (hX.alloc _) hne1; have c1 : w1.cell? ⟨b, 1, none⟩ = some (.slice pa d.P.length pc) := hX1.cell 1; have fz := hX1.free 1))
  all_goals go_wp2_with fail
  all_goals
    refine bodyPost_ret (v := .tuple #[]) (by simp [results, Try.results101, go_sem]) rfl ⟨sa, sc, some ⟨g, 0, none⟩, cap, rfl, ?_, ?_, ?_⟩
    · have h1 := hX1.set 1 (.slice (some ⟨g, 0, none⟩) (d.P.length + 1) cap)
      have e : (addW n data d).P.length = d.P.length + 1 := by simp [addW]
      rw [e]
      exact h1
    · have e : (addW n data d).P.length = d.P.length + 1 := by simp [addW]
      have e2 : wcs (addW n data d).P = wcs d.P ++ [.int .i64 n, strV data] := by rw [addW, wcs_append]; rfl
      refine ⟨B1, o1, o2, own_set2 ((o3.alloc _).drew.kept hgrow hne2) b 1 hsb _, ?_, ?_⟩
      · rw [e, e2]
        refine own_set2 hown1 b 1 ?_ _
        intro e3
        have e4 : g = b := by simpa [Value.ownBlock] using e3
        exact own_other hown1 hX1 (by decide) e4
      · have := hgrow.size; simp at this ⊢; omega
    · exact (((Below.refl B0 W).alloc (by omega) _).drew.grown hgrow (by simp; omega) (fun k hk => by have := (o4.lt k hk).1; omega)).setCell (by simpa using hB0) _

theorem perform_take (S : List (List UInt8)) (P : List (Int × List UInt8)) (k : Nat) (h : k < P.length) : perform S (P.take (k + 1)) = (perform S (P.take k)).set P[k].1.toNat P[k].2 := by
  rw [List.take_succ_eq_append_getElem h, perform_snoc]
theorem below_set {B : Nat} {w W : World} (h : Below B w W) (b i : Nat) (hb : B ≤ b) (u : Value) : Below B w (W.setCell ⟨b, i, none⟩ u) := h.setCell hb u

set_option maxRecDepth 100000 in
set_option maxHeartbeats 4000000 in
theorem SyncF_any (b B B0 : Nat) (sa pa : Option Addr) (sc pc : Nat) (d : Dk) (W : World)
    (hX : Bx b #[.slice sa d.S.length sc, .slice pa d.P.length pc, .int .i64 d.fuse, .int .i64 d.ops, .bool d.dead] 38 W) (hO : Owned B d W (.slice sa d.S.length sc) (.slice pa d.P.length pc))
    (hsb : (Value.slice sa d.S.length sc).ownBlock ≠ some b) (hpb : (Value.slice pa d.P.length pc).ownBlock ≠ some b) (hBB : B0 ≤ B) (hB0 : B0 ≤ b) (hp : d.P.length ≤ 9000000000000) (hs0 : 0 < d.S.length) (hs1 : d.S.length ≤ 1024) (hv : ∀ x ∈ d.P, 0 ≤ x.1 ∧ x.1 < (d.S.length : Int)) :
    Calls Try.prog 102 #[.pointer (some ⟨b, 0, none⟩)] W (fnPost b B B0 (syncD d) W) := by
  obtain ⟨B1, o1, o2, o3, o4, o5⟩ := hO
  obtain ⟨gs, cs, hgs, hcs, hBs⟩ : ∃ g c, (Value.slice sa d.S.length sc) = .slice (some ⟨g, 0, none⟩) d.S.length c ∧ d.S.length ≤ c ∧ B ≤ g := by
    rcases own_form o3 with ⟨_, h0⟩ | ⟨g, cap, h1, h2, h3⟩
    · omega
    · exact ⟨g, cap, h1, h2, h3⟩
  simp only [Value.slice.injEq, true_and] at hgs
  obtain ⟨rfl, rfl⟩ := hgs
  have hgb : gs < B1 := o2 gs rfl
  have hne : b ≠ gs := by intro e; exact hsb (by rw [e]; rfl)
  have HV := Lib.hid hv; clear hv
  have x1 : W.cell? ⟨b, 1, none⟩ = some (.slice pa d.P.length pc) := hX.cell 1
  go_enter Try.func102, Try.ntmps102
  go_wp2
  go_loopw [9] (fun i wr => ∃ k : Nat, k ≤ d.P.length ∧ i = .int .i64 k ∧ Bx b #[.slice (some ⟨gs, 0, none⟩) d.S.length sc, .slice pa d.P.length pc, .int .i64 d.fuse, .int .i64 d.ops, .bool d.dead] 38 wr ∧ wr.ownsRow B 9 1 (.slice (some ⟨gs, 0, none⟩) d.S.length sc) d.S.length ((perform d.S (d.P.take k)).map strV) ∧ wr.ownsRow B1 94 2 (.slice pa d.P.length pc) d.P.length (wcs d.P) ∧ Below B0 W wr ∧ W.heap.size ≤ wr.heap.size) (fun i _ => d.P.length - (intOf i).toNat)
  case atStart => exact ⟨0, Nat.zero_le _, rfl, hX, o3, o4, Below.refl _ _, Nat.le_refl _⟩
  case round =>
    obtain ⟨k, hk, rfl, hXr, p3, p4, hbw, hsz⟩ := hrel
    clear x1
    by_cases hlt : k < d.P.length
    · have hlt' : (k : Int) < (d.P.length : Int) := by omega
      obtain ⟨gp, cp, hgp, hcp, hBp⟩ : ∃ g c, (Value.slice pa d.P.length pc) = .slice (some ⟨g, 0, none⟩) d.P.length c ∧ d.P.length ≤ c ∧ B1 ≤ g := by
        rcases own_form p4 with ⟨_, h0⟩ | ⟨g, cap, h1, h2, h3⟩
        · omega
        · exact ⟨g, cap, h1, h2, h3⟩
      simp only [Value.slice.injEq, true_and] at hgp
      obtain ⟨rfl, rfl⟩ := hgp
      obtain ⟨hx1, hx2⟩ := HV.out d.P[k] (List.getElem_mem hlt)
      have hpt := perform_take d.S d.P k hlt
      obtain ⟨q1, q2⟩ := wcs_get d.P k hlt
      rw [← p4.cellAt (k * 2) (by omega)] at q1
      rw [← p4.cellAt (k * 2 + 1) (by omega)] at q2
      obtain ⟨⟨n, s⟩, hns⟩ : ∃ q, d.P[k] = q := ⟨_, rfl⟩
      rw [hns] at hx1 hx2 hpt q1 q2
      simp only at hx1 hx2 hpt q1 q2
      obtain ⟨m, rfl⟩ := Int.eq_ofNat_of_zero_le hx1
      rw [Int.toNat_natCast] at hpt
      have hm : m < d.S.length := by omega
      have hml : m < ((perform d.S (d.P.take k)).map strV).length := by rw [List.length_map, perform_len]; exact hm
      have hx2' : (m : Int) < (d.S.length : Int) := by omega
      have hm0 : (0 : Int) ≤ (m : Int) := by omega
      unfold strV at q2
      have hX2 := hXr.alloc (.cells #[.int .i64 m, .string (bs s)] 94)
      have p3a := p3.alloc (.cells #[.int .i64 m, .string (bs s)] 94)
      have e1 : (wr.alloc (.cells #[.int .i64 m, .string (bs s)] 94)).cell? ⟨gs, m, none⟩ = some (((perform d.S (d.P.take k)).map strV)[m]) := by
        rw [p3a.cellAt m (by omega), List.getElem?_eq_getElem hml]
      have e2 := p3a.frozenAt m
      have e3 : (wr.alloc (.cells #[.int .i64 m, .string (bs s)] 94)).cell? ⟨b, 0, none⟩ = some (.slice (some ⟨gs, 0, none⟩) d.S.length sc) := hX2.cell 0
      have hlg : gs < wr.heap.size := (p3.lt gs rfl).2
      have hne2 : wr.heap.size ≠ gs := by omega
      have HPT := Lib.hid hpt; clear hpt
      have HNS := Lib.hid hns; clear hns
      have hs3 : (wr.alloc (.cells #[.int .i64 m, .string (bs s)] 94)).drew.cell? ⟨b, 0, none⟩ = some (.slice (some ⟨gs, 0, none⟩) d.S.length sc) ∧ (wr.alloc (.cells #[.int .i64 m, .string (bs s)] 94)).drew.cell? ⟨wr.heap.size, 0, none⟩ = some (.int .i64 m) ∧ (wr.alloc (.cells #[.int .i64 m, .string (bs s)] 94)).drew.cell? ⟨wr.heap.size, 1, none⟩ = some (.string (bs s)) :=
        ⟨e3, (Bx.new wr _ _).cell 0, (Bx.new wr _ _).cell 1⟩
      have hX3 := (hXr.other (i := m) hne (.string (bs s))).alloc (.cells #[.int .i64 m, .string (bs s)] 94)
      have hN3 := Bx.new (wr.setCell ⟨gs, m, none⟩ (.string (bs s))) #[.int .i64 m, .string (bs s)] 94
      rw [World.size_setCell] at hN3
      have hs4 : ((wr.setCell ⟨gs, m, none⟩ (.string (bs s))).alloc (.cells #[.int .i64 m, .string (bs s)] 94)).drew.cell? ⟨b, 0, none⟩ = some (.slice (some ⟨gs, 0, none⟩) d.S.length sc) ∧ ((wr.setCell ⟨gs, m, none⟩ (.string (bs s))).alloc (.cells #[.int .i64 m, .string (bs s)] 94)).drew.cell? ⟨wr.heap.size, 0, none⟩ = some (.int .i64 m) ∧ ((wr.setCell ⟨gs, m, none⟩ (.string (bs s))).alloc (.cells #[.int .i64 m, .string (bs s)] 94)).drew.cell? ⟨wr.heap.size, 1, none⟩ = some (.string (bs s)) :=
        ⟨hX3.cell 0, hN3.cell 0, hN3.cell 1⟩
      clear hx1 hx2
      go_wp2
      go_region_held3 (fun w' => w'.cell? ⟨b, 0, none⟩ = some (.slice (some ⟨gs, 0, none⟩) d.S.length sc) ∧ w'.cell? ⟨wr.heap.size, 0, none⟩ = some (.int .i64 m) ∧ w'.cell? ⟨wr.heap.size, 1, none⟩ = some (.string (bs s))) (first | exact hs3 | exact hs4) (fail)
      go_wp2
      go_roundw
      case rel =>
        refine ⟨k + 1, by omega, by go_num, hX3, ?_, (own_set p4 gs m hgb _).alloc _, ?_, ?_⟩
        · have h1 := (p3.stored m (.string (bs s))).1.alloc (.cells #[.int .i64 m, .string (bs s)] 94)
          rw [HPT.out, List.map_set]
          exact h1
        · exact ((below_set hbw gs m (by omega) _).alloc (by simp; omega) _).drew
        · simp; omega
      case measure => simp [intOf]; omega
    · obtain rfl : k = d.P.length := by omega
      have hpe : perform d.S (d.P.take d.P.length) = (syncD d).S := by rw [List.take_length]; rfl
      rw [hpe] at p3
      have f1 := hXr.free 1
      have x1 : wr.cell? ⟨b, 1, none⟩ = some (.slice pa d.P.length pc) := hXr.cell 1
      have hl : (syncD d).S.length = d.S.length := perform_len _ _
      have HL := Lib.hid hl; clear hl hpe hlt
      go_wp2
      refine bodyPost_ret (v := .tuple #[]) (by simp [results, Try.results102, go_sem]) rfl ⟨some ⟨gs, 0, none⟩, sc, none, 0, rfl, ?_, ?_, ?_⟩
      · have h1 := hXr.set 1 (.slice none 0 0)
        rw [HL.out]
        exact h1
      · refine ⟨B1, o1, ?_, ?_, World.ownsRow_nil _ _ _ _, ?_⟩
        · rw [HL.out]; exact o2
        · rw [HL.out]; exact own_set2 p3 b 1 hsb _
        · simp; omega
      · exact below_set hbw b 1 hB0 _
end Go.Proofs.Ytkpfkknldeafkaa
