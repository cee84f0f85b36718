/- The walk of SuperStores. No conditions. -/
import Derived.Test.YtkpfkknldeafkaaSupFin
import Derived.Test.YtkpfkknldeafkaaDiskRef
import Derived.Test.YtkpfkknldeafkaaDiskArgs
namespace Go.Proofs.Ytkpfkknldeafkaa
open Go.RowKit

/-- some truth value, and nothing but new memory -/
def AnyB (w : World) (e : Ending) (w' : World) : Prop := ∃ b, e = .returned (.bool b) ∧ Below w.heap.size w w'
theorem store_len (d : Dk) (x : Sp) : (storeS d x).1.S.length = d.S.length ∧ (storeS d x).1.P.length ≤ d.P.length + 1 := by
  unfold storeS
  split
  · exact ⟨rfl, by simp⟩
  · have h1 := write_len d (x.g % 2) (encS x).1
    split
    · exact h1
    · have h2 := sync_len (writeS d (x.g % 2) (encS x).1).1
      omega

set_option maxRecDepth 100000 in
set_option maxHeartbeats 4000000 in
theorem few_any (sa pa : Option Addr) (sc pc : Nat) (d : Dk) (w : World) (hD : Lists w sa sc pa pc d) :
    Calls Try.prog 25 #[.agg #[.slice sa d.S.length sc, .slice pa d.P.length pc, .int .i64 d.fuse, .int .i64 d.ops, .bool d.dead]] w (AnyB w) := by
  have HX := Lib.hid (Bx.new w #[.slice sa d.S.length sc, .slice pa d.P.length pc, .int .i64 d.fuse, .int .i64 d.ops, .bool d.dead] 38); have HB := Lib.hid ((Below.refl w.heap.size w).alloc (Nat.le_refl _) (.cells #[.slice sa d.S.length sc, .slice pa d.P.length pc, .int .i64 d.fuse, .int .i64 d.ops, .bool d.dead] 38))
  have HD := Lib.hid (hD.below HB.out)
  have l3 := hD.2.2.1
  have l4 := hD.2.2.2
  clear hD
  have x0 : (w.alloc (.cells #[.slice sa d.S.length sc, .slice pa d.P.length pc, .int .i64 d.fuse, .int .i64 d.ops, .bool d.dead] 38)).cell? ⟨w.heap.size, 0, none⟩ = some (.slice sa d.S.length sc) := HX.out.cell 0
  have x1 : (w.alloc (.cells #[.slice sa d.S.length sc, .slice pa d.P.length pc, .int .i64 d.fuse, .int .i64 d.ops, .bool d.dead] 38)).cell? ⟨w.heap.size, 1, none⟩ = some (.slice pa d.P.length pc) := HX.out.cell 1
  have x2 : (w.alloc (.cells #[.slice sa d.S.length sc, .slice pa d.P.length pc, .int .i64 d.fuse, .int .i64 d.ops, .bool d.dead] 38)).cell? ⟨w.heap.size, 2, none⟩ = some (.int .i64 d.fuse) := HX.out.cell 2
  have x3 : (w.alloc (.cells #[.slice sa d.S.length sc, .slice pa d.P.length pc, .int .i64 d.fuse, .int .i64 d.ops, .bool d.dead] 38)).cell? ⟨w.heap.size, 3, none⟩ = some (.int .i64 d.ops) := HX.out.cell 3
  have x4 : (w.alloc (.cells #[.slice sa d.S.length sc, .slice pa d.P.length pc, .int .i64 d.fuse, .int .i64 d.ops, .bool d.dead] 38)).cell? ⟨w.heap.size, 4, none⟩ = some (.bool d.dead) := HX.out.cell 4
  by_cases h1 : (40 : Int) < (d.S.length : Int)
  · go_enter Try.func25, Try.ntmps25
    go_wp2
    go_ret
    exact ⟨false, rfl, HB.out⟩
  · by_cases h2 : (20 : Int) < (d.P.length : Int)
    · go_enter Try.func25, Try.ntmps25
      go_wp2
      go_ret
      exact ⟨false, rfl, HB.out⟩
    · go_enter Try.func25, Try.ntmps25
      go_wp2
      go_loop [3] (fun i => ∃ k : Nat, k ≤ d.S.length ∧ i = .int .i64 k) (fun i => d.S.length - (intOf i).toNat)
      case atStart => exact ⟨0, Nat.zero_le _, rfl⟩
      case round =>
        obtain ⟨k, hk, rfl⟩ := hrel
        by_cases hlt : k < d.S.length
        · have hlt' : (k : Int) < (d.S.length : Int) := by omega
          obtain ⟨b, off, rfl, hcap, hcell⟩ := HD.out.sec k hlt
          obtain ⟨s, hs⟩ : ∃ s, d.S[k] = s := ⟨_, rfl⟩
          rw [hs] at hcell
          clear hs
          by_cases hl : (100 : Int) < (s.length : Int)
          · go_wp2
            go_ret
            exact ⟨false, rfl, HB.out⟩
          · go_wp2
            go_round
            case rel => exact ⟨k + 1, by omega, by go_num⟩
            case measure => simp [intOf]; omega
        · obtain rfl : k = d.S.length := by omega
          go_wp2
          go_loop [4] (fun i => ∃ k : Nat, k ≤ d.P.length ∧ i = .int .i64 k) (fun i => d.P.length - (intOf i).toNat)
          case atStart => exact ⟨0, Nat.zero_le _, rfl⟩
          case round =>
            obtain ⟨k, hk, rfl⟩ := hrel
            by_cases hlt : k < d.P.length
            · have hlt' : (k : Int) < (d.P.length : Int) := by omega
              obtain ⟨b, off, rfl, p1, p2⟩ := HD.out.pen k hlt
              obtain ⟨q, hq⟩ : ∃ q, d.P[k] = q := ⟨_, rfl⟩
              obtain ⟨n, s⟩ := q
              rw [hq] at p1 p2
              simp only at p1 p2
              clear hq
              by_cases hl : (100 : Int) < (s.length : Int)
              · go_wp2
                go_ret
                exact ⟨false, rfl, HB.out⟩
              · go_wp2
                go_round
                case rel => exact ⟨k + 1, by omega, by go_num⟩
                case measure => simp [intOf]; omega
            · obtain rfl : k = d.P.length := by omega
              go_wp2
              go_ret
              exact ⟨true, rfl, HB.out⟩
set_option maxRecDepth 100000 in
set_option maxHeartbeats 8000000 in
theorem storesWalk (sa pa : Option Addr) (sc pc : Nat) (d : Dk) (x : Sp) (w : World) (hD : Lists w sa sc pa pc d) (hp : d.P.length ≤ 5864062014805) :
    Calls Try.prog 6 #[.agg #[.slice sa d.S.length sc, .slice pa d.P.length pc, .int .i64 d.fuse, .int .i64 d.ops, .bool d.dead], .agg (spV x)] w fun e w' => e = .returned (.bool true) ∧ Below w.heap.size w w' := by
  have HX := Lib.hid ((Bx.new w #[.slice sa d.S.length sc, .slice pa d.P.length pc, .int .i64 d.fuse, .int .i64 d.ops, .bool d.dead] 38).alloc (.cells (spV x) 23)); have HY := Lib.hid (Bx.new1 w (.cells #[.slice sa d.S.length sc, .slice pa d.P.length pc, .int .i64 d.fuse, .int .i64 d.ops, .bool d.dead] 38) (spV x) 23); have HB := Lib.hid (((Below.refl w.heap.size w).alloc (Nat.le_refl _) (.cells #[.slice sa d.S.length sc, .slice pa d.P.length pc, .int .i64 d.fuse, .int .i64 d.ops, .bool d.dead] 38)).alloc (by simp) (.cells (spV x) 23))
  have l4 := hD.2.2.2
  have HDw := Lib.hid hD; clear hD
  obtain ⟨⟨y, er⟩, hl⟩ : ∃ r, loadS d = r := ⟨_, rfl⟩
  obtain ⟨⟨d2, es⟩, hs⟩ : ∃ r, storeS d x = r := ⟨_, rfl⟩
  have hsl := store_len d x
  rw [hs] at hsl
  simp only at hsl
  obtain ⟨sl1, sl2⟩ := hsl
  have sl3 : d2.S.length ≤ 9000000000000 := by rw [sl1]; exact l4
  clear sl1
  have HLD := Lib.hid hl; have HST := Lib.hid hs; clear hl hs
  go_enter Try.func6, Try.ntmps6
  go_upto_region 1 with (fail)
  generalize hW : (w.alloc (.cells #[.slice sa d.S.length sc, .slice pa d.P.length pc, .int .i64 d.fuse, .int .i64 d.ops, .bool d.dead] 38)).alloc (.cells (spV x) 23) = v0 at HX HY HB ⊢
  clear hW
  have z0 := HX.out.lt
  have z1 := HY.out.lt
  have x0 : v0.cell? ⟨w.heap.size, 0, none⟩ = some (.slice sa d.S.length sc) := HX.out.cell 0
  have x1 : v0.cell? ⟨w.heap.size, 1, none⟩ = some (.slice pa d.P.length pc) := HX.out.cell 1
  have x2 : v0.cell? ⟨w.heap.size, 2, none⟩ = some (.int .i64 d.fuse) := HX.out.cell 2
  have x3 : v0.cell? ⟨w.heap.size, 3, none⟩ = some (.int .i64 d.ops) := HX.out.cell 3
  have x4 : v0.cell? ⟨w.heap.size, 4, none⟩ = some (.bool d.dead) := HX.out.cell 4
  go_wp2_with fail
  refine (few_any _ _ _ _ d _ (HDw.out.below HB.out)).mono ?_
  rintro e w1 ⟨b, rfl, hb1⟩
  clear x0 x1 x2 x3 x4
  have HX := Lib.hid (HX.out.call hb1); have HY := Lib.hid (HY.out.call hb1); have HB := Lib.hid (btrans HB.out HB.out.size hb1); clear hb1
  cases b with
  | false =>
    go_wp2_with fail
    refine (works_any _).mono ?_
    rintro e wz ⟨rfl, hbz⟩
    have HZ := Lib.hid hbz; clear hbz
    go_wp2_with fail
    go_ret
    exact ⟨rfl, btrans HB.out HB.out.size HZ.out⟩
  | true =>
    have x0 : w1.cell? ⟨w.heap.size, 0, none⟩ = some (.slice sa d.S.length sc) := HX.out.cell 0
    have x1 : w1.cell? ⟨w.heap.size, 1, none⟩ = some (.slice pa d.P.length pc) := HX.out.cell 1
    have x2 : w1.cell? ⟨w.heap.size, 2, none⟩ = some (.int .i64 d.fuse) := HX.out.cell 2
    have x3 : w1.cell? ⟨w.heap.size, 3, none⟩ = some (.int .i64 d.ops) := HX.out.cell 3
    have x4 : w1.cell? ⟨w.heap.size, 4, none⟩ = some (.bool d.dead) := HX.out.cell 4
    go_wp2_with fail
    refine (SLoad_any _ _ _ _ d _ (HDw.out.below HB.out)).mono ?_
    rw [HLD.out]
    simp only [spV]
    rintro e w2 ⟨rfl, hb2⟩
    clear x0 x1 x2 x3 x4
    have hal := (Below.refl w2.heap.size w2).alloc (Nat.le_refl _) (.cells #[.int .i64 y.g, .int .i64 y.e, .int .i64 y.a, .int .i64 y.z, .int .i64 y.p] 23)
    have HX := Lib.hid ((HX.out.call hb2).alloc (.cells #[.int .i64 y.g, .int .i64 y.e, .int .i64 y.a, .int .i64 y.z, .int .i64 y.p] 23))
    have HY := Lib.hid ((HY.out.call hb2).alloc (.cells #[.int .i64 y.g, .int .i64 y.e, .int .i64 y.a, .int .i64 y.z, .int .i64 y.p] 23))
    have HB := Lib.hid (btrans (btrans HB.out HB.out.size hb2) (btrans HB.out HB.out.size hb2).size hal)
    have HL1 := Lib.hid (Bx.new w2 #[.int .i64 y.g, .int .i64 y.e, .int .i64 y.a, .int .i64 y.z, .int .i64 y.p] 23)
    clear hal hb2
    go_upto_region 4 with (fail)
    generalize hW : w2.alloc (.cells #[.int .i64 y.g, .int .i64 y.e, .int .i64 y.a, .int .i64 y.z, .int .i64 y.p] 23) = v2 at HX HY HB HL1 ⊢
    clear hW
    have x0 : v2.cell? ⟨w.heap.size, 0, none⟩ = some (.slice sa d.S.length sc) := HX.out.cell 0
    have x1 : v2.cell? ⟨w.heap.size, 1, none⟩ = some (.slice pa d.P.length pc) := HX.out.cell 1
    have x2 : v2.cell? ⟨w.heap.size, 2, none⟩ = some (.int .i64 d.fuse) := HX.out.cell 2
    have x3 : v2.cell? ⟨w.heap.size, 3, none⟩ = some (.int .i64 d.ops) := HX.out.cell 3
    have x4 : v2.cell? ⟨w.heap.size, 4, none⟩ = some (.bool d.dead) := HX.out.cell 4
    go_wp2_with fail
    refine (RSLoad_any _ _ _ _ d _ (HDw.out.below HB.out)).mono ?_
    rw [HLD.out]
    simp only [spV]
    rintro e w3 ⟨rfl, hb3⟩
    clear x0 x1 x2 x3 x4
    have hal := (Below.refl w3.heap.size w3).alloc (Nat.le_refl _) (.cells #[.int .i64 y.g, .int .i64 y.e, .int .i64 y.a, .int .i64 y.z, .int .i64 y.p] 23)
    have HX := Lib.hid ((HX.out.call hb3).alloc (.cells #[.int .i64 y.g, .int .i64 y.e, .int .i64 y.a, .int .i64 y.z, .int .i64 y.p] 23))
    have HY := Lib.hid ((HY.out.call hb3).alloc (.cells #[.int .i64 y.g, .int .i64 y.e, .int .i64 y.a, .int .i64 y.z, .int .i64 y.p] 23))
    have HL1 := Lib.hid ((HL1.out.call hb3).alloc (.cells #[.int .i64 y.g, .int .i64 y.e, .int .i64 y.a, .int .i64 y.z, .int .i64 y.p] 23))
    have HB := Lib.hid (btrans (btrans HB.out HB.out.size hb3) (btrans HB.out HB.out.size hb3).size hal)
    have HL2 := Lib.hid (Bx.new w3 #[.int .i64 y.g, .int .i64 y.e, .int .i64 y.a, .int .i64 y.z, .int .i64 y.p] 23)
    clear hal hb3
    go_upto_region 5 with (fail)
    generalize hW : w3.alloc (.cells #[.int .i64 y.g, .int .i64 y.e, .int .i64 y.a, .int .i64 y.z, .int .i64 y.p] 23) = v3 at HX HY HB HL1 HL2 ⊢
    clear hW
    have q0 : v3.cell? ⟨w2.heap.size, 0, none⟩ = some (.int .i64 y.g) := HL1.out.cell 0
    have q1 : v3.cell? ⟨w2.heap.size, 1, none⟩ = some (.int .i64 y.e) := HL1.out.cell 1
    have q2 : v3.cell? ⟨w2.heap.size, 2, none⟩ = some (.int .i64 y.a) := HL1.out.cell 2
    have q3 : v3.cell? ⟨w2.heap.size, 3, none⟩ = some (.int .i64 y.z) := HL1.out.cell 3
    have q4 : v3.cell? ⟨w2.heap.size, 4, none⟩ = some (.int .i64 y.p) := HL1.out.cell 4
    have r0 : v3.cell? ⟨w3.heap.size, 0, none⟩ = some (.int .i64 y.g) := HL2.out.cell 0
    have r1 : v3.cell? ⟨w3.heap.size, 1, none⟩ = some (.int .i64 y.e) := HL2.out.cell 1
    have r2 : v3.cell? ⟨w3.heap.size, 2, none⟩ = some (.int .i64 y.a) := HL2.out.cell 2
    have r3 : v3.cell? ⟨w3.heap.size, 3, none⟩ = some (.int .i64 y.z) := HL2.out.cell 3
    have r4 : v3.cell? ⟨w3.heap.size, 4, none⟩ = some (.int .i64 y.p) := HL2.out.cell 4
    have x0 : v3.cell? ⟨w.heap.size, 0, none⟩ = some (.slice sa d.S.length sc) := HX.out.cell 0
    have x1 : v3.cell? ⟨w.heap.size, 1, none⟩ = some (.slice pa d.P.length pc) := HX.out.cell 1
    have x2 : v3.cell? ⟨w.heap.size, 2, none⟩ = some (.int .i64 d.fuse) := HX.out.cell 2
    have x3 : v3.cell? ⟨w.heap.size, 3, none⟩ = some (.int .i64 d.ops) := HX.out.cell 3
    have x4 : v3.cell? ⟨w.heap.size, 4, none⟩ = some (.bool d.dead) := HX.out.cell 4
    have y0 : v3.cell? ⟨w.heap.size + 1, 0, none⟩ = some (.int .i64 x.g) := HY.out.cell 0
    have y1 : v3.cell? ⟨w.heap.size + 1, 1, none⟩ = some (.int .i64 x.e) := HY.out.cell 1
    have y2 : v3.cell? ⟨w.heap.size + 1, 2, none⟩ = some (.int .i64 x.a) := HY.out.cell 2
    have y3 : v3.cell? ⟨w.heap.size + 1, 3, none⟩ = some (.int .i64 x.z) := HY.out.cell 3
    have y4 : v3.cell? ⟨w.heap.size + 1, 4, none⟩ = some (.int .i64 x.p) := HY.out.cell 4
    go_wp2_with fail
    refine (SStore_any _ _ _ _ d x _ (HDw.out.below HB.out) (by omega)).mono ?_
    rw [HST.out]
    rintro e w4 ⟨a1, c1, a2, c2, rfl, hO4, hb4⟩
    clear x0 x1 x2 x3 x4 y0 y1 y2 y3 y4 r0 r1 r2 r3 r4
    have hal := (Below.refl w4.heap.size w4).alloc (Nat.le_refl _) (.cells #[.slice a1 d2.S.length c1, .slice a2 d2.P.length c2, .int .i64 d2.fuse, .int .i64 d2.ops, .bool d2.dead] 38)
    have HX := Lib.hid ((HX.out.call hb4).alloc (.cells #[.slice a1 d2.S.length c1, .slice a2 d2.P.length c2, .int .i64 d2.fuse, .int .i64 d2.ops, .bool d2.dead] 38))
    have HY := Lib.hid ((HY.out.call hb4).alloc (.cells #[.slice a1 d2.S.length c1, .slice a2 d2.P.length c2, .int .i64 d2.fuse, .int .i64 d2.ops, .bool d2.dead] 38))
    have HB := Lib.hid (btrans (btrans HB.out HB.out.size hb4) (btrans HB.out HB.out.size hb4).size hal)
    have HE1 := Lib.hid (Bx.new w4 #[.slice a1 d2.S.length c1, .slice a2 d2.P.length c2, .int .i64 d2.fuse, .int .i64 d2.ops, .bool d2.dead] 38)
    have HO1 := Lib.hid ((hO4.lists (d := d2) (by omega) (by omega)).below hal); clear hO4
    clear hal hb4
    go_upto_region 8 with (fail)
    generalize hW : w4.alloc (.cells #[.slice a1 d2.S.length c1, .slice a2 d2.P.length c2, .int .i64 d2.fuse, .int .i64 d2.ops, .bool d2.dead] 38) = v4 at HX HY HB HE1 HO1 ⊢
    clear hW
    have x0 : v4.cell? ⟨w.heap.size, 0, none⟩ = some (.slice sa d.S.length sc) := HX.out.cell 0
    have x1 : v4.cell? ⟨w.heap.size, 1, none⟩ = some (.slice pa d.P.length pc) := HX.out.cell 1
    have x2 : v4.cell? ⟨w.heap.size, 2, none⟩ = some (.int .i64 d.fuse) := HX.out.cell 2
    have x3 : v4.cell? ⟨w.heap.size, 3, none⟩ = some (.int .i64 d.ops) := HX.out.cell 3
    have x4 : v4.cell? ⟨w.heap.size, 4, none⟩ = some (.bool d.dead) := HX.out.cell 4
    have y0 : v4.cell? ⟨w.heap.size + 1, 0, none⟩ = some (.int .i64 x.g) := HY.out.cell 0
    have y1 : v4.cell? ⟨w.heap.size + 1, 1, none⟩ = some (.int .i64 x.e) := HY.out.cell 1
    have y2 : v4.cell? ⟨w.heap.size + 1, 2, none⟩ = some (.int .i64 x.a) := HY.out.cell 2
    have y3 : v4.cell? ⟨w.heap.size + 1, 3, none⟩ = some (.int .i64 x.z) := HY.out.cell 3
    have y4 : v4.cell? ⟨w.heap.size + 1, 4, none⟩ = some (.int .i64 x.p) := HY.out.cell 4
    go_wp2_with fail
    refine (RSStore_any _ _ _ _ d x _ (HDw.out.below HB.out) (by omega)).mono ?_
    rw [HST.out]
    rintro e w5 ⟨a3, c3, a4, c4, rfl, hL5, hb5⟩
    clear x0 x1 x2 x3 x4 y0 y1 y2 y3 y4
    have hal := (Below.refl w5.heap.size w5).alloc (Nat.le_refl _) (.cells #[.slice a3 d2.S.length c3, .slice a4 d2.P.length c4, .int .i64 d2.fuse, .int .i64 d2.ops, .bool d2.dead] 38)
    have HE1 := Lib.hid ((HE1.out.call hb5).alloc (.cells #[.slice a3 d2.S.length c3, .slice a4 d2.P.length c4, .int .i64 d2.fuse, .int .i64 d2.ops, .bool d2.dead] 38))
    have HO1 := Lib.hid ((HO1.out.below hb5).below hal)
    have HB := Lib.hid (btrans (btrans HB.out HB.out.size hb5) (btrans HB.out HB.out.size hb5).size hal)
    have HE2 := Lib.hid (Bx.new w5 #[.slice a3 d2.S.length c3, .slice a4 d2.P.length c4, .int .i64 d2.fuse, .int .i64 d2.ops, .bool d2.dead] 38)
    have HO2 := Lib.hid (hL5.below hal); clear hL5 HX HY
    clear hal hb5
    go_upto_region 9 with (fail)
    generalize hW : w5.alloc (.cells #[.slice a3 d2.S.length c3, .slice a4 d2.P.length c4, .int .i64 d2.fuse, .int .i64 d2.ops, .bool d2.dead] 38) = v5 at HB HE1 HE2 HO1 HO2 ⊢
    clear hW
    have x0 : v5.cell? ⟨w4.heap.size, 0, none⟩ = some (.slice a1 d2.S.length c1) := HE1.out.cell 0
    have x1 : v5.cell? ⟨w4.heap.size, 1, none⟩ = some (.slice a2 d2.P.length c2) := HE1.out.cell 1
    have x2 : v5.cell? ⟨w4.heap.size, 2, none⟩ = some (.int .i64 d2.fuse) := HE1.out.cell 2
    have x3 : v5.cell? ⟨w4.heap.size, 3, none⟩ = some (.int .i64 d2.ops) := HE1.out.cell 3
    have x4 : v5.cell? ⟨w4.heap.size, 4, none⟩ = some (.bool d2.dead) := HE1.out.cell 4
    have y0 : v5.cell? ⟨w5.heap.size, 0, none⟩ = some (.slice a3 d2.S.length c3) := HE2.out.cell 0
    have y1 : v5.cell? ⟨w5.heap.size, 1, none⟩ = some (.slice a4 d2.P.length c4) := HE2.out.cell 1
    have y2 : v5.cell? ⟨w5.heap.size, 2, none⟩ = some (.int .i64 d2.fuse) := HE2.out.cell 2
    have y3 : v5.cell? ⟨w5.heap.size, 3, none⟩ = some (.int .i64 d2.ops) := HE2.out.cell 3
    have y4 : v5.cell? ⟨w5.heap.size, 4, none⟩ = some (.bool d2.dead) := HE2.out.cell 4
    have t3 : (es == es) = true := by simp
    go_wp2_with fail
    refine (RSame_any _ _ _ _ _ _ _ _ d2 _ HO1.out HO2.out).mono ?_
    rintro e w6 ⟨rfl, hb6⟩
    clear x0 x1 x2 x3 x4 y0 y1 y2 y3 y4
    have HB := Lib.hid (btrans HB.out HB.out.size hb6); clear hb6
    go_wp2_with fail
    refine (works_any _).mono ?_
    rintro e wz ⟨rfl, hbz⟩
    have HZ := Lib.hid hbz; clear hbz
    go_wp2_with fail
    go_ret
    exact ⟨rfl, btrans HB.out HB.out.size HZ.out⟩
theorem storesLaw (sa : Option Addr) (sc : Nat) (pa : Option Addr) (pc : Nat) (d : Dk) {w0 : World} (h1 : StrS w0 (.slice sa d.S.length sc) d.S) (h2 : WrS w0 (.slice pa d.P.length pc) d.P) (h3 : d.P.length ≤ 5864062014805) (h4 : d.S.length ≤ 9000000000000) (x : Sp) (w : World) (hw : w0 = w := by rfl) :
    Calls Try.prog 6 #[.agg #[.slice sa d.S.length sc, .slice pa d.P.length pc, .int .i64 d.fuse, .int .i64 d.ops, .bool d.dead], .agg (spV x)] w fun e w' => e = .returned (.bool true) ∧ Below w.heap.size w w' := by
  subst hw; exact storesWalk sa pa sc pc d x w0 ⟨h1, h2, by omega, h4⟩ h3
end Go.Proofs.Ytkpfkknldeafkaa
