/- What Sync of the reference of layer 44 returns. No conditions but the sizes. -/
import Derived.Test.YtkpfkknldeafkaaDiskRef6
namespace Go.Proofs.Ytkpfkknldeafkaa
open Go.RowKit

theorem sync_bad {d : Dk} (h : validB d = false) : syncS d = (d, 1) := by unfold syncS; rw [h]; rfl
theorem sync_dead {d : Dk} (h : validB d = true) (h4 : d.dead = true) : syncS d = (d, 18) := by unfold syncS; rw [if_pos h, if_pos h4]
theorem sync_go {d : Dk} (h : validB d = true) (h4 : d.dead = false) : syncS d = happenS d syncD := by unfold syncS; rw [if_pos h, if_neg (by rw [h4]; decide)]

/-- what performed returns, the length under another name -/
def PerfPost (n : Nat) (L : List (List UInt8)) (w : World) (e : Ending) (w' : World) : Prop :=
  ∃ a c, e = .returned (.slice a n c) ∧ StrS w' (.slice a n c) L ∧ (∀ b off, a = some ⟨b, off, none⟩ → w.heap.size ≤ b) ∧ Below w.heap.size w w'
set_option maxRecDepth 100000 in
theorem Rperf_use (v : Value) (L : List (List UInt8)) (n m : Nat) (data : List UInt8) (w : World) (hS : StrS w v L) (hn : L.length = n) (hl : n ≤ 1024) (hm : m < n) :
    Calls Try.prog 104 #[v, .int .i64 m, .string (bs data)] w (PerfPost n (L.set m data) w) := by
  refine (Rperf_any v L m data w hS (by omega) (by omega)).mono ?_
  rintro e w' ⟨v', rfl, hown, hb⟩
  obtain ⟨a, c, rfl⟩ := own_slice hown
  refine ⟨a, c, by rw [hn], ?_, ?_, hb⟩
  · rw [← hn]
    exact StrS.of_own (by rw [List.length_set]; exact hown)
  · intro b off hab
    subst hab
    rcases own_form hown with ⟨h, _⟩ | ⟨g, cap, h, _, h2⟩
    · cases h
    · cases h; exact h2
set_option maxRecDepth 100000 in
theorem StrS.set {W : World} {a : Option Addr} {n c : Nat} {L : List (List UInt8)} (h : StrS W (.slice a n c) L) (q j : Nat) (hq : ∀ b off, a = some ⟨b, off, none⟩ → q ≠ b) (v : Value) : StrS (W.setCell ⟨q, j, none⟩ v) (.slice a n c) L := by
  obtain ⟨a2, cap, he, hc, hx⟩ := h
  refine ⟨a2, cap, he, hc, fun hne => ?_⟩
  obtain ⟨b, off, ha, hcell⟩ := hx hne
  refine ⟨b, off, ha, fun i hi => ?_⟩
  cases he
  rw [World.cell?_setCell_far _ _ _ _ (hq b off ha)]
  exact hcell i hi
/-- a is no address in either of two blocks -/
def NeB (a : Option Addr) (x y : Nat) : Prop := ∀ b off, a = some ⟨b, off, none⟩ → x ≠ b ∧ y ≠ b
theorem NeB.mk {a : Option Addr} {x y b o : Nat} (h : a = some ⟨b, o, none⟩) (h1 : x ≠ b) (h2 : y ≠ b) : NeB a x y := by
  intro b2 o2 h3; rw [h] at h3; cases h3; exact ⟨h1, h2⟩
set_option maxRecDepth 100000 in
/-- three cells in blocks that stand -/
theorem pen3_below {W W' : World} {x i b o1 o2 : Nat} {u1 u2 u3 : Value} (h : W.cell? ⟨x, i, none⟩ = some u1 ∧ W.cell? ⟨b, o1, none⟩ = some u2 ∧ W.cell? ⟨b, o2, none⟩ = some u3) (hb : Below W.heap.size W W') :
    W'.cell? ⟨x, i, none⟩ = some u1 ∧ W'.cell? ⟨b, o1, none⟩ = some u2 ∧ W'.cell? ⟨b, o2, none⟩ = some u3 := by
  refine ⟨?_, ?_, ?_⟩
  · rw [(bcell hb).1 _ _ (World.block_lt_of_cell? W _ h.1)]; exact h.1
  · rw [(bcell hb).1 _ _ (World.block_lt_of_cell? W _ h.2.1)]; exact h.2.1
  · rw [(bcell hb).1 _ _ (World.block_lt_of_cell? W _ h.2.2)]; exact h.2.2
theorem pen3_set {W : World} {x i b o1 o2 : Nat} {u1 u2 u3 : Value} {c j : Nat} (v : Value) (h1 : c ≠ x) (h2 : c ≠ b) (h : W.cell? ⟨x, i, none⟩ = some u1 ∧ W.cell? ⟨b, o1, none⟩ = some u2 ∧ W.cell? ⟨b, o2, none⟩ = some u3) :
    (W.setCell ⟨c, j, none⟩ v).cell? ⟨x, i, none⟩ = some u1 ∧ (W.setCell ⟨c, j, none⟩ v).cell? ⟨b, o1, none⟩ = some u2 ∧ (W.setCell ⟨c, j, none⟩ v).cell? ⟨b, o2, none⟩ = some u3 := by
  rw [World.cell?_setCell_far _ _ _ _ h1, World.cell?_setCell_far _ _ _ _ h2, World.cell?_setCell_far _ _ _ _ h2]
  exact h

set_option maxRecDepth 100000 in
set_option maxHeartbeats 4000000 in
theorem RSync_any (sa pa : Option Addr) (sc pc : Nat) (d : Dk) (w : World) (hD : Lists w sa sc pa pc d) :
    Calls Try.prog 64 #[.agg #[.slice sa d.S.length sc, .slice pa d.P.length pc, .int .i64 d.fuse, .int .i64 d.ops, .bool d.dead]] w (RPost (syncS d) w) := by
  have hb0 := ((Below.refl w.heap.size w).alloc (Nat.le_refl _) (.cells #[.slice sa d.S.length sc, .slice pa d.P.length pc, .int .i64 d.fuse, .int .i64 d.ops, .bool d.dead] 38)).alloc (by simp) (.cells #[.slice none 0 0, .slice none 0 0, .int .i64 0, .int .i64 0, .bool false] 38)
  have hX : Bx w.heap.size #[.slice sa d.S.length sc, .slice pa d.P.length pc, .int .i64 d.fuse, .int .i64 d.ops, .bool d.dead] 38 ((w.alloc (.cells #[.slice sa d.S.length sc, .slice pa d.P.length pc, .int .i64 d.fuse, .int .i64 d.ops, .bool d.dead] 38)).alloc (.cells #[.slice none 0 0, .slice none 0 0, .int .i64 0, .int .i64 0, .bool false] 38)) := by
    have h := (Bx.new w #[.slice sa d.S.length sc, .slice pa d.P.length pc, .int .i64 d.fuse, .int .i64 d.ops, .bool d.dead] 38)
    have h := h.alloc (.cells #[.slice none 0 0, .slice none 0 0, .int .i64 0, .int .i64 0, .bool false] 38)
    simpa using h
  have HX := Lib.hid hX; clear hX
  have hR : Bx (w.heap.size + 1) #[.slice none 0 0, .slice none 0 0, .int .i64 0, .int .i64 0, .bool false] 38 ((w.alloc (.cells #[.slice sa d.S.length sc, .slice pa d.P.length pc, .int .i64 d.fuse, .int .i64 d.ops, .bool d.dead] 38)).alloc (.cells #[.slice none 0 0, .slice none 0 0, .int .i64 0, .int .i64 0, .bool false] 38)) := by
    have h := (Bx.new (w.alloc (.cells #[.slice sa d.S.length sc, .slice pa d.P.length pc, .int .i64 d.fuse, .int .i64 d.ops, .bool d.dead] 38)) #[.slice none 0 0, .slice none 0 0, .int .i64 0, .int .i64 0, .bool false] 38)
    simpa using h
  have HR := Lib.hid hR; clear hR
  have hD0 := hD.below hb0
  go_enter Try.func64, Try.ntmps64
  go_wp2_with fail
  refine (RValid_any _ _ _ _ _ _ hD0).mono ?_
  cases hv : validB d with
  | false =>
    have HF := Lib.hid (sync_bad hv)
    rintro e w1 ⟨rfl, hb1⟩
    have hbl1 := btrans hb0 hb0.size hb1
    have hX := HX.out.call hb1
    have hR := HR.out.call hb1
    clear hv HX HR hb1
    have x0 : w1.cell? ⟨w.heap.size, 0, none⟩ = some (.slice sa d.S.length sc) := hX.cell 0
    have x1 : w1.cell? ⟨w.heap.size, 1, none⟩ = some (.slice pa d.P.length pc) := hX.cell 1
    have x2 : w1.cell? ⟨w.heap.size, 2, none⟩ = some (.int .i64 d.fuse) := hX.cell 2
    have x3 : w1.cell? ⟨w.heap.size, 3, none⟩ = some (.int .i64 d.ops) := hX.cell 3
    have x4 : w1.cell? ⟨w.heap.size, 4, none⟩ = some (.bool d.dead) := hX.cell 4
    have r0 : w1.cell? ⟨w.heap.size + 1, 0, none⟩ = some (.slice none 0 0) := hR.cell 0
    have r1 : w1.cell? ⟨w.heap.size + 1, 1, none⟩ = some (.slice none 0 0) := hR.cell 1
    have r2 : w1.cell? ⟨w.heap.size + 1, 2, none⟩ = some (.int .i64 0) := hR.cell 2
    have r3 : w1.cell? ⟨w.heap.size + 1, 3, none⟩ = some (.int .i64 0) := hR.cell 3
    have r4 : w1.cell? ⟨w.heap.size + 1, 4, none⟩ = some (.bool false) := hR.cell 4
    have g0 := hR.free 0
    have g1 := hR.free 1
    have g2 := hR.free 2
    have g3 := hR.free 3
    have g4 := hR.free 4
    have kk := (hR.sets (.slice sa d.S.length sc) (.slice pa d.P.length pc) (.int .i64 d.fuse) (.int .i64 d.ops) (.bool d.dead))
    have k0 := kk.cell 0
    have k1 := kk.cell 1
    have k2 := kk.cell 2
    have k3 := kk.cell 3
    have k4 := kk.cell 4
    simp only [List.getElem?_toArray, List.getElem?_cons_zero, List.getElem?_cons_succ] at k0 k1 k2 k3 k4
    clear kk
    have HB := Lib.hid hbl1
    clear hX hR
    go_wp2
    refine bodyPost_ret (v := .tuple #[.agg #[.slice sa d.S.length sc, .slice pa d.P.length pc, .int .i64 d.fuse, .int .i64 d.ops, .bool d.dead], .int .i64 1]) (by simp [results, Try.results64, go_sem, k0, k1, k2, k3, k4]) rfl ?_
    rw [HF.out]
    have hBF := below_sets HB.out (w.heap.size + 1) (by omega) (.slice sa d.S.length sc) (.slice pa d.P.length pc) (.int .i64 d.fuse) (.int .i64 d.ops) (.bool d.dead)
    exact ⟨sa, sc, pa, pc, rfl, hD.below hBF, hBF⟩
  | true =>
    rintro e w2 ⟨rfl, hb1⟩
    have hX := HX.out.call hb1; clear HX; have HX := Lib.hid hX; clear hX
    have hR := HR.out.call hb1; clear HR; have HR := Lib.hid hR; clear hR
    have hbl2 := btrans hb0 hb0.size hb1
    have hD2 := hD0.below hb1
    have HV := Lib.hid hv; clear hv hb1
    have hX := HX.out
    cases hd : d.dead with
    | true =>
        have HF := Lib.hid (sync_dead HV.out hd)
        have hR := HR.out
        have x0 : w2.cell? ⟨w.heap.size, 0, none⟩ = some (.slice sa d.S.length sc) := hX.cell 0
        have x1 : w2.cell? ⟨w.heap.size, 1, none⟩ = some (.slice pa d.P.length pc) := hX.cell 1
        have x2 : w2.cell? ⟨w.heap.size, 2, none⟩ = some (.int .i64 d.fuse) := hX.cell 2
        have x3 : w2.cell? ⟨w.heap.size, 3, none⟩ = some (.int .i64 d.ops) := hX.cell 3
        have x4 : w2.cell? ⟨w.heap.size, 4, none⟩ = some (.bool d.dead) := hX.cell 4
        have r0 : w2.cell? ⟨w.heap.size + 1, 0, none⟩ = some (.slice none 0 0) := hR.cell 0
        have r1 : w2.cell? ⟨w.heap.size + 1, 1, none⟩ = some (.slice none 0 0) := hR.cell 1
        have r2 : w2.cell? ⟨w.heap.size + 1, 2, none⟩ = some (.int .i64 0) := hR.cell 2
        have r3 : w2.cell? ⟨w.heap.size + 1, 3, none⟩ = some (.int .i64 0) := hR.cell 3
        have r4 : w2.cell? ⟨w.heap.size + 1, 4, none⟩ = some (.bool false) := hR.cell 4
        have g0 := hR.free 0
        have g1 := hR.free 1
        have g2 := hR.free 2
        have g3 := hR.free 3
        have g4 := hR.free 4
        have kk := (hR.sets (.slice sa d.S.length sc) (.slice pa d.P.length pc) (.int .i64 d.fuse) (.int .i64 d.ops) (.bool true))
        have k0 := kk.cell 0
        have k1 := kk.cell 1
        have k2 := kk.cell 2
        have k3 := kk.cell 3
        have k4 := kk.cell 4
        simp only [List.getElem?_toArray, List.getElem?_cons_zero, List.getElem?_cons_succ] at k0 k1 k2 k3 k4
        clear kk
        have HB := Lib.hid hbl2
        have HDD := Lib.hid hd
        rw [hd] at x4
        clear hX hR hd HX HR
        go_wp2
        refine bodyPost_ret (v := .tuple #[.agg #[.slice sa d.S.length sc, .slice pa d.P.length pc, .int .i64 d.fuse, .int .i64 d.ops, .bool true], .int .i64 18]) (by simp [results, Try.results64, go_sem, k0, k1, k2, k3, k4]) rfl ?_
        rw [HF.out]
        have hBF := below_sets HB.out (w.heap.size + 1) (by omega) (.slice sa d.S.length sc) (.slice pa d.P.length pc) (.int .i64 d.fuse) (.int .i64 d.ops) (.bool true)
        exact ⟨sa, sc, pa, pc, by rw [HDD.out], hD.below hBF, hBF⟩
    | false =>
        have HG := Lib.hid (sync_go HV.out hd)
        obtain ⟨hn, _, hpv⟩ := (validB_iff d).1 HV.out
        obtain ⟨n1, n2, n3, n4, n5, n6⟩ := (numsB_iff d).1 hn
        have HPV := Lib.hid hpv
        have x0 : w2.cell? ⟨w.heap.size, 0, none⟩ = some (.slice sa d.S.length sc) := hX.cell 0
        have x1 : w2.cell? ⟨w.heap.size, 1, none⟩ = some (.slice pa d.P.length pc) := hX.cell 1
        have x2 : w2.cell? ⟨w.heap.size, 2, none⟩ = some (.int .i64 d.fuse) := hX.cell 2
        have x3 : w2.cell? ⟨w.heap.size, 3, none⟩ = some (.int .i64 d.ops) := hX.cell 3
        have x4 : w2.cell? ⟨w.heap.size, 4, none⟩ = some (.bool false) := by rw [← hd]; exact hX.cell 4
        have HDD := Lib.hid hd
        clear hd hn hX hpv
        go_wp2_with fail
        rw [show (.bool false : Value) = .bool d.dead by rw [HDD.out]]
        by_cases h1 : d.fuse = 1
        · have HQ := Lib.hid (happen_id_blown h1)
          have HF := Lib.hid (show syncS d = ({ d with ops := min (d.ops + 1) 1099511627776, fuse := 0, dead := true }, 18) by rw [HG.out]; unfold happenS; rw [if_pos h1])
          clear h1
          refine (Roper_any _ _ _ _ _ _ n3 n4 n5 n6).mono ?_
          rw [HQ.out]
          rintro e w3 ⟨rfl, hb3⟩
          have hbl3 := btrans hbl2 hbl2.size hb3
          have hR := HR.out.call hb3
          clear x0 x1 x2 x3 x4 hb3 HR
          have r0 : w3.cell? ⟨w.heap.size + 1, 0, none⟩ = some (.slice none 0 0) := hR.cell 0
          have r1 : w3.cell? ⟨w.heap.size + 1, 1, none⟩ = some (.slice none 0 0) := hR.cell 1
          have r2 : w3.cell? ⟨w.heap.size + 1, 2, none⟩ = some (.int .i64 0) := hR.cell 2
          have r3 : w3.cell? ⟨w.heap.size + 1, 3, none⟩ = some (.int .i64 0) := hR.cell 3
          have r4 : w3.cell? ⟨w.heap.size + 1, 4, none⟩ = some (.bool false) := hR.cell 4
          have g0 := hR.free 0
          have g1 := hR.free 1
          have g2 := hR.free 2
          have g3 := hR.free 3
          have g4 := hR.free 4
          have kk := (hR.sets (.slice sa d.S.length sc) (.slice pa d.P.length pc) (.int .i64 0) (.int .i64 (min (d.ops + 1) 1099511627776)) (.bool true)).alloc (.cells #[.slice sa d.S.length sc, .slice pa d.P.length pc, .int .i64 0, .int .i64 (min (d.ops + 1) 1099511627776), .bool true] 38)
          have k0 := kk.cell 0
          have k1 := kk.cell 1
          have k2 := kk.cell 2
          have k3 := kk.cell 3
          have k4 := kk.cell 4
          simp only [List.getElem?_toArray, List.getElem?_cons_zero, List.getElem?_cons_succ] at k0 k1 k2 k3 k4
          clear kk
          have hz : w.heap.size + 1 < w3.heap.size := hR.lt
          have HB := Lib.hid hbl3
          clear hR
          go_wp2
          refine bodyPost_ret (v := .tuple #[.agg #[.slice sa d.S.length sc, .slice pa d.P.length pc, .int .i64 0, .int .i64 (min (d.ops + 1) 1099511627776), .bool true], .int .i64 18]) (by simp [results, Try.results64, go_sem, k0, k1, k2, k3, k4]) rfl ?_
          rw [HF.out]
          have hBF := (below_sets HB.out (w.heap.size + 1) (by omega) (.slice sa d.S.length sc) (.slice pa d.P.length pc) (.int .i64 0) (.int .i64 (min (d.ops + 1) 1099511627776)) (.bool true)).alloc (by simp; omega) (.cells #[.slice sa d.S.length sc, .slice pa d.P.length pc, .int .i64 0, .int .i64 (min (d.ops + 1) 1099511627776), .bool true] 38)
          exact ⟨sa, sc, pa, pc, rfl, hD.below hBF, hBF⟩
        · have HQ := Lib.hid (happen_id_go h1)
          have HF := Lib.hid (show syncS d = (syncD { d with ops := min (d.ops + 1) 1099511627776, fuse := max (d.fuse - 1) 0 }, 0) by rw [HG.out]; unfold happenS; rw [if_neg h1])
          clear h1
          refine (Roper_any _ _ _ _ _ _ n3 n4 n5 n6).mono ?_
          rw [HQ.out]
          rintro e w3 ⟨rfl, hb3⟩
          have hPl := hD.2.2.1
          have hbl3 := btrans hbl2 hbl2.size hb3
          have hR := HR.out.call hb3
          have hX := HX.out.call hb3
          have hD3 := hD2.below hb3
          clear x0 x1 x2 x3 x4 hb3 HR HX
          have hbn := hbl3.alloc hbl3.size (.cells #[.slice sa d.S.length sc, .slice pa d.P.length pc, .int .i64 (max (d.fuse - 1) 0), .int .i64 (min (d.ops + 1) 1099511627776), .bool d.dead] 38)
          have hszR : w.heap.size + 1 < w3.heap.size := hR.lt
          have hRn := hR.alloc (.cells #[.slice sa d.S.length sc, .slice pa d.P.length pc, .int .i64 (max (d.fuse - 1) 0), .int .i64 (min (d.ops + 1) 1099511627776), .bool d.dead] 38)
          have hXn := hX.alloc (.cells #[.slice sa d.S.length sc, .slice pa d.P.length pc, .int .i64 (max (d.fuse - 1) 0), .int .i64 (min (d.ops + 1) 1099511627776), .bool d.dead] 38)
          have hNn := Bx.new w3 #[.slice sa d.S.length sc, .slice pa d.P.length pc, .int .i64 (max (d.fuse - 1) 0), .int .i64 (min (d.ops + 1) 1099511627776), .bool d.dead] 38
          have hSn := (hD3.below ((Below.refl _ _).alloc (Nat.le_refl _) (.cells #[.slice sa d.S.length sc, .slice pa d.P.length pc, .int .i64 (max (d.fuse - 1) 0), .int .i64 (min (d.ops + 1) 1099511627776), .bool d.dead] 38))).1
          have hq0 : NeB sa w3.heap.size (w.heap.size + 1) := by
            obtain ⟨b2, o2, h2, _, q2⟩ := hD.sec 0 (by omega)
            have := World.block_lt_of_cell? w _ q2
            exact NeB.mk h2 (by simp at this; omega) (by simp at this; omega)
          clear hR hX hD3 hD2 hD0 hb0 hbl2 hbl3
          go_wp2
          go_loopw [6] (fun i wr => ∃ (k : Nat) (a : Option Addr) (c : Nat), k ≤ d.P.length ∧ i = .int .i64 k ∧ Bx w.heap.size #[.slice sa d.S.length sc, .slice pa d.P.length pc, .int .i64 d.fuse, .int .i64 d.ops, .bool d.dead] 38 wr ∧ Bx (w.heap.size + 1) #[.slice none 0 0, .slice none 0 0, .int .i64 0, .int .i64 0, .bool false] 38 wr ∧ Bx w3.heap.size #[.slice a d.S.length c, .slice pa d.P.length pc, .int .i64 (max (d.fuse - 1) 0), .int .i64 (min (d.ops + 1) 1099511627776), .bool d.dead] 38 wr ∧ StrS wr (.slice a d.S.length c) (perform d.S (d.P.take k)) ∧ NeB a w3.heap.size (w.heap.size + 1) ∧ Below w.heap.size w wr) (fun i _ => d.P.length - (intOf i).toNat)
          case atStart => exact ⟨0, _, _, Nat.zero_le _, rfl, hXn, hRn, hNn, hSn, hq0, hbn⟩
          case round =>
            obtain ⟨k, a, c, hk, rfl, hXr, hRr, hNr, hSr, hqr, hbr⟩ := hrel
            clear hXn hRn hNn hSn hbn hq0
            have HQR := Lib.hid hqr; clear hqr
            have x1 : wr.cell? ⟨w.heap.size, 1, none⟩ = some (.slice pa d.P.length pc) := hXr.cell 1
            by_cases hlt : k < d.P.length
            · have hlt' : (k : Int) < (d.P.length : Int) := by omega
              obtain ⟨pb, poff, hpa, p1, p2⟩ := (hD.below hbr).pen k hlt
              have hpb : pb < w.heap.size := by
                obtain ⟨b2, o2, h2, q1, q2⟩ := hD.pen k hlt
                rw [hpa] at h2; cases h2
                exact World.block_lt_of_cell? w _ q1
              obtain ⟨v1, v2, v3⟩ := HPV.out _ (List.getElem_mem hlt)
              obtain ⟨L2, hL2⟩ : ∃ L2, L2 = perform d.S (d.P.take k) := ⟨_, rfl⟩
              rw [← hL2] at hSr
              have HL2 := Lib.hid (show L2.length = d.S.length by rw [hL2, perform_len])
              have HL3 := Lib.hid (show perform d.S (d.P.take (k + 1)) = L2.set d.P[k].1.toNat d.P[k].2 by rw [List.take_succ_eq_append_getElem hlt, perform_snoc, hL2])
              obtain ⟨x, hx⟩ : ∃ x, d.P[k] = x := ⟨_, rfl⟩
              rw [hx] at p1 p2 v1 v2 v3 HL3
              obtain ⟨m, hm⟩ : ∃ m : Nat, x.1 = m := ⟨x.1.toNat, by omega⟩
              obtain ⟨data, hdt⟩ : ∃ q, x.2 = q := ⟨_, rfl⟩
              rw [hm] at p1 v1 v2 HL3
              rw [hdt] at p2 HL3
              have hmS : m < d.S.length := by omega
              rw [show ((m : Int)).toNat = m by omega] at HL3
              clear hL2 hx hm hdt v3 v1 v2 HPV
              have hs1 := And.intro x1 (And.intro p1 p2)
              rw [hpa] at hs1 x1
              have n0 : wr.cell? ⟨w3.heap.size, 0, none⟩ = some (.slice a d.S.length c) := hNr.cell 0
              have fn := hNr.free 0
              have hNlt := hNr.lt
              have HXr := Lib.hid hXr; have HRr := Lib.hid hRr; have HNr := Lib.hid hNr; have HBr := Lib.hid hbr; have HPA := Lib.hid hpa; have HSr := Lib.hid hSr; clear hXr hRr hNr hbr hpa hSr
              go_wp2
              refine wp_region_held_drew (S := (fun w' => w'.cell? ⟨w.heap.size, 1, none⟩ = some (.slice (some ⟨pb, poff, none⟩) d.P.length pc) ∧ w'.cell? ⟨pb, poff + k * 2, none⟩ = some (.int .i64 (m : Int)) ∧ w'.cell? ⟨pb, poff + k * 2 + 1, none⟩ = some (.string (bs data)))) (by kernel_rfl) ?_ (fun hHeld => ?_)
              · exact hs1
              refine takeH (i := 0) (v := ?vv1) 28 rfl rfl (by kernel_rfl) (by kernel_rfl) (by kernel_rfl) (fun _ _ _ h => h) (Or.inl ⟨by kernel_rfl, ?yy1⟩) (by assumption) ?_
              case yy1 => intro w hSw; (try dsimp only at hSw); go_simp; (try with_reducible rfl)
              simp only [List.setIfInBounds_toArray, List.set_cons_zero, List.set_cons_succ]
              refine takeH (i := 2) (v := ?vv2) 30 rfl rfl (by kernel_rfl) (by kernel_rfl) (by kernel_rfl) (fun _ _ _ h => h) (Or.inl ⟨by kernel_rfl, ?yy2⟩) (by assumption) ?_
              case yy2 => intro w hSw; (try dsimp only at hSw); go_simp; (try with_reducible rfl)
              simp only [List.setIfInBounds_toArray, List.set_cons_zero, List.set_cons_succ]
              refine takeH (i := 3) (v := ?vv3) 31 rfl rfl (by kernel_rfl) (by kernel_rfl) (by kernel_rfl) (fun _ _ _ h => h) (Or.inl ⟨by kernel_rfl, ?yy3⟩) (by assumption) ?_
              case yy3 => intro w hSw; (try dsimp only at hSw); go_simp; (try with_reducible rfl)
              simp only [List.setIfInBounds_toArray, List.set_cons_zero, List.set_cons_succ]
              refine takeH (i := 4) (v := ?vv4) 32 rfl rfl (by kernel_rfl) (by kernel_rfl) (by kernel_rfl) (fun _ _ _ h => h) (Or.inl ⟨by kernel_rfl, ?yy4⟩) (by assumption) ?_
              case yy4 => intro w hSw; (try dsimp only at hSw); go_simp; (try with_reducible rfl)
              simp only [List.setIfInBounds_toArray, List.set_cons_zero, List.set_cons_succ]
              refine takeH (i := 5) (v := ?vv5) 33 rfl rfl (by kernel_rfl) (by kernel_rfl) (by kernel_rfl) (fun _ _ _ h => h) (Or.inl ⟨by kernel_rfl, ?yy5⟩) (by assumption) ?_
              case yy5 => intro w hSw; (try dsimp only at hSw); go_simp; (try with_reducible rfl)
              simp only [List.setIfInBounds_toArray, List.set_cons_zero, List.set_cons_succ]
              refine takeH (i := 6) (v := ?vv6) 34 rfl rfl (by kernel_rfl) (by kernel_rfl) (by kernel_rfl) (fun _ _ _ h => h) (Or.inl ⟨by kernel_rfl, ?yy6⟩) (by assumption) ?_
              case yy6 => intro w hSw; (try dsimp only at hSw); go_simp; (try with_reducible rfl)
              simp only [List.setIfInBounds_toArray, List.set_cons_zero, List.set_cons_succ]
              refine takeH (i := 7) (v := ?vv7) 35 rfl rfl (by kernel_rfl) (by kernel_rfl) (by kernel_rfl) (fun _ _ _ h => h) (Or.inl ⟨by kernel_rfl, ?yy7⟩) (by assumption) ?_
              case yy7 => intro w hSw; (try dsimp only at hSw); go_simp; (try with_reducible rfl)
              simp only [List.setIfInBounds_toArray, List.set_cons_zero, List.set_cons_succ]
              refine takeH (i := 8) (v := ?vv8) 36 rfl rfl (by kernel_rfl) (by kernel_rfl) (by kernel_rfl) (fun _ _ _ h => h) (Or.inl ⟨by kernel_rfl, ?yy8⟩) (by assumption) ?_
              case yy8 => intro w hSw; (try dsimp only at hSw); go_simp; (try with_reducible rfl)
              simp only [List.setIfInBounds_toArray, List.set_cons_zero, List.set_cons_succ]
              refine takeH (i := 9) (v := ?vv9) 37 rfl rfl (by kernel_rfl) (by kernel_rfl) (by kernel_rfl) (fun _ _ _ h => h) (Or.inl ⟨by kernel_rfl, ?yy9⟩) (by assumption) ?_
              case yy9 => intro w hSw; (try dsimp only at hSw); go_simp; (try with_reducible rfl)
              simp only [List.setIfInBounds_toArray, List.set_cons_zero, List.set_cons_succ]
              refine takeH (i := 10) (v := ?vv10) 38 rfl rfl (by kernel_rfl) (by kernel_rfl) (by kernel_rfl) (fun _ _ _ h => h) (Or.inl ⟨by kernel_rfl, ?yy10⟩) (by assumption) ?_
              case yy10 => intro w hSw; (try dsimp only at hSw); go_simp; (try with_reducible rfl)
              simp only [List.setIfInBounds_toArray, List.set_cons_zero, List.set_cons_succ]
              refine takeH (i := 11) (v := ?vv11) 39 rfl rfl (by kernel_rfl) (by kernel_rfl) (by kernel_rfl) (fun _ _ _ h => h) (Or.inl ⟨by kernel_rfl, ?yy11⟩) (by assumption) ?_
              case yy11 => intro w hSw; (try dsimp only at hSw); go_simp; (try with_reducible rfl)
              simp only [List.setIfInBounds_toArray, List.set_cons_zero, List.set_cons_succ]
              refine takeH (i := 12) (v := ?vv12) 40 rfl rfl (by kernel_rfl) (by kernel_rfl) (by kernel_rfl) (fun _ _ _ h => h) (Or.inl ⟨by kernel_rfl, ?yy12⟩) (by assumption) ?_
              case yy12 => intro w hSw; (try dsimp only at hSw); go_simp; (try with_reducible rfl)
              simp only [List.setIfInBounds_toArray, List.set_cons_zero, List.set_cons_succ]
              refine takeH (i := 13) (v := ?vv13) 41 rfl rfl (by kernel_rfl) (by kernel_rfl) (by kernel_rfl) (fun _ _ _ h => h) (Or.inl ⟨by kernel_rfl, ?yy13⟩) (by assumption) ?_
              case yy13 => intro w hSw; (try dsimp only at hSw); go_simp; (try with_reducible rfl)
              simp only [List.setIfInBounds_toArray, List.set_cons_zero, List.set_cons_succ]
              refine wpAnyH_ready (rs := [1]) (by kernel_rfl) (by simp) ?_
              refine AllReadyH.cons rfl (fun K hK => ?_) AllReadyH.nil
              go_simp
              skip
              (try go_wp2_with fail)
              refine hK.out _ _ ?_ (fun hHeld => ?_)
              · exact hHeld
              clear hK K
              (try simp only [Act.put, List.setIfInBounds_toArray, List.set_cons_zero, List.set_cons_succ])
              refine wpAnyH_ready (rs := [14]) (by kernel_rfl) (by simp) ?_
              refine AllReadyH.cons rfl (fun K hK => ?_) AllReadyH.nil
              go_simp
              refine (Rperf_use _ L2 d.S.length m data _ (HSr.out.below ((Below.refl _ _).drew)) HL2.out n2 hmS).mono ?_; rintro e w5 ⟨a5, c5, rfl, hS5, hq5, hb5⟩; have n5 := (HNr.out.drew.call hb5).cell 0; have f5 := (HNr.out.drew.call hb5).free 0
              (try go_wp2_with fail)
              refine hK.out _ _ ?_ (fun hHeld => ?_)
              · exact pen3_below hHeld hb5
              clear hK K
              (try simp only [Act.put, List.setIfInBounds_toArray, List.set_cons_zero, List.set_cons_succ])
              refine takeH (i := 15) (v := ?vv14) 43 rfl rfl (by kernel_rfl) (by kernel_rfl) (by kernel_rfl) (fun _ _ _ h => h) (Or.inl ⟨by kernel_rfl, ?yy14⟩) (by assumption) ?_
              case yy14 => intro w hSw; (try dsimp only at hSw); go_simp; (try with_reducible rfl)
              simp only [List.setIfInBounds_toArray, List.set_cons_zero, List.set_cons_succ]
              refine wpAnyH_ready (rs := [16]) (by kernel_rfl) (by simp) ?_
              refine AllReadyH.cons rfl (fun K hK => ?_) AllReadyH.nil
              go_simp
              skip
              (try go_wp2_with fail)
              refine hK.out _ _ ?_ (fun hHeld => ?_)
              · exact pen3_set _ (by omega) (by omega) hHeld
              clear hK K
              (try simp only [Act.put, List.setIfInBounds_toArray, List.set_cons_zero, List.set_cons_succ])
              refine wpAnyH_done (by kernel_rfl) ?_ _
              have H5 := Lib.hid hb5; have HS5 := Lib.hid hS5; have HQ5 := Lib.hid hq5; clear hb5 hS5 hq5 n5 f5 hHeld x1 n0 fn p1 p2 hs1
              go_wp2
              go_roundw
              case rel => exact ⟨k + 1, a5, c5, by omega, by go_num, (HXr.out.drew.call H5.out).other (i := 0) (c := w3.heap.size) (by omega) _, (HRr.out.drew.call H5.out).other (i := 0) (c := w3.heap.size) (by omega) _, (HNr.out.drew.call H5.out).set 0 _, by rw [HL3.out]; exact HS5.out.set _ _ (fun b off h => by have := HQ5.out b off h; simp at this; omega) _, fun b off h => by have := HQ5.out b off h; simp at this; exact ⟨by omega, by omega⟩, below_set (btrans HBr.out.drew (by simpa using HBr.out.size) H5.out) w3.heap.size 0 (by omega) _⟩
              case measure => simp [intOf]; omega
            · obtain rfl : k = d.P.length := by omega
              have HPF := Lib.hid (show perform d.S (d.P.take d.P.length) = perform d.S d.P by rw [List.take_length])
              rw [HPF.out] at hSr
              clear hlt HPF
              have y1 : wr.cell? ⟨w3.heap.size, 1, none⟩ = some (.slice pa d.P.length pc) := hNr.cell 1
              have fy := hNr.free 1
              have hN6 := hNr.set 1 (.slice none 0 0)
              have hR6 := hRr.other (i := 1) (c := w3.heap.size) (by omega) (.slice none 0 0)
              have hzz : w3.heap.size < wr.heap.size := hNr.lt
              have z0 : (wr.setCell ⟨w3.heap.size, 1, none⟩ (.slice none 0 0)).cell? ⟨w3.heap.size, 0, none⟩ = some (.slice a d.S.length c) := hN6.cell 0
              have z1 : (wr.setCell ⟨w3.heap.size, 1, none⟩ (.slice none 0 0)).cell? ⟨w3.heap.size, 1, none⟩ = some (.slice none 0 0) := hN6.cell 1
              have z2 : (wr.setCell ⟨w3.heap.size, 1, none⟩ (.slice none 0 0)).cell? ⟨w3.heap.size, 2, none⟩ = some (.int .i64 (max (d.fuse - 1) 0)) := hN6.cell 2
              have z3 : (wr.setCell ⟨w3.heap.size, 1, none⟩ (.slice none 0 0)).cell? ⟨w3.heap.size, 3, none⟩ = some (.int .i64 (min (d.ops + 1) 1099511627776)) := hN6.cell 3
              have z4 : (wr.setCell ⟨w3.heap.size, 1, none⟩ (.slice none 0 0)).cell? ⟨w3.heap.size, 4, none⟩ = some (.bool d.dead) := hN6.cell 4
              have r0 : (wr.setCell ⟨w3.heap.size, 1, none⟩ (.slice none 0 0)).cell? ⟨w.heap.size + 1, 0, none⟩ = some (.slice none 0 0) := hR6.cell 0
              have r1 : (wr.setCell ⟨w3.heap.size, 1, none⟩ (.slice none 0 0)).cell? ⟨w.heap.size + 1, 1, none⟩ = some (.slice none 0 0) := hR6.cell 1
              have r2 : (wr.setCell ⟨w3.heap.size, 1, none⟩ (.slice none 0 0)).cell? ⟨w.heap.size + 1, 2, none⟩ = some (.int .i64 0) := hR6.cell 2
              have r3 : (wr.setCell ⟨w3.heap.size, 1, none⟩ (.slice none 0 0)).cell? ⟨w.heap.size + 1, 3, none⟩ = some (.int .i64 0) := hR6.cell 3
              have r4 : (wr.setCell ⟨w3.heap.size, 1, none⟩ (.slice none 0 0)).cell? ⟨w.heap.size + 1, 4, none⟩ = some (.bool false) := hR6.cell 4
              have g0 := hR6.free 0
              have g1 := hR6.free 1
              have g2 := hR6.free 2
              have g3 := hR6.free 3
              have g4 := hR6.free 4
              have HR := Lib.hid hRr; have HS := Lib.hid hSr; have HB := Lib.hid hbr
              clear hN6 hR6 hRr hNr hXr hSr hbr HPV
              go_wp2
              have KK := Lib.hid ((HR.out.other (i := 1) (c := w3.heap.size) (by omega) (.slice none 0 0)).sets (.slice a d.S.length c) (.slice none 0 0) (.int .i64 (max (d.fuse - 1) 0)) (.int .i64 (min (d.ops + 1) 1099511627776)) (.bool d.dead))
              have k0 := KK.out.cell 0
              have k1 := KK.out.cell 1
              have k2 := KK.out.cell 2
              have k3 := KK.out.cell 3
              have k4 := KK.out.cell 4
              simp only [List.getElem?_toArray, List.getElem?_cons_zero, List.getElem?_cons_succ] at k0 k1 k2 k3 k4
              refine bodyPost_ret (v := .tuple #[.agg #[.slice a d.S.length c, .slice none 0 0, .int .i64 (max (d.fuse - 1) 0), .int .i64 (min (d.ops + 1) 1099511627776), .bool d.dead], .int .i64 0]) (by simp [results, Try.results64, go_sem, k0, k1, k2, k3, k4]) rfl ?_
              rw [HF.out]
              have hBF := below_sets (below_set HB.out w3.heap.size 1 (by omega) (.slice none 0 0)) (w.heap.size + 1) (by omega) (.slice a d.S.length c) (.slice none 0 0) (.int .i64 (max (d.fuse - 1) 0)) (.int .i64 (min (d.ops + 1) 1099511627776)) (.bool d.dead)
              have HPL := perform_len d.S d.P
              refine ⟨a, c, none, 0, by simp [syncD, HPL], ⟨?_, ⟨none, 0, rfl, Nat.le_refl _, fun h => absurd rfl h⟩, by simp [syncD], by simp [syncD, HPL]; omega⟩, hBF⟩
              rw [show (syncD { d with ops := min (d.ops + 1) 1099511627776, fuse := max (d.fuse - 1) 0 }).S = perform d.S d.P from rfl, HPL]
              exact ((((((HS.out.set w3.heap.size 1 (fun b o h => (HQR.out b o h).1) _).set (w.heap.size + 1) 0 (fun b o h => (HQR.out b o h).2) _).set (w.heap.size + 1) 1 (fun b o h => (HQR.out b o h).2) _).set (w.heap.size + 1) 2 (fun b o h => (HQR.out b o h).2) _).set (w.heap.size + 1) 3 (fun b o h => (HQR.out b o h).2) _).set (w.heap.size + 1) 4 (fun b o h => (HQR.out b o h).2) _)
end Go.Proofs.Ytkpfkknldeafkaa
