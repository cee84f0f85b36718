/- What Crash of the reference of layer 44 returns. No conditions but the sizes. -/
import Derived.Test.YtnghdolpmmdknaaDiskRef7
import Derived.Test.YtnghdolpmmdknaaDiskCrP
import Derived.Deep.QuietTactic
import Derived.BigQuiet
namespace Go.Proofs.Ytnghdolpmmdknaa
open Go.RowKit

/-- what Crash of the reference returns: a disk somewhere in memory -/
def RCPost (d : Dk) (w : World) (e : Ending) (w' : World) : Prop :=
  ∃ sa sc pa pc, e = .returned (.agg #[.slice sa d.S.length sc, .slice pa d.P.length pc, .int .i64 d.fuse, .int .i64 d.ops, .bool d.dead]) ∧ Lists w' sa sc pa pc d ∧ Below w.heap.size w w'
theorem Bx.drewN {b : Nat} {cs : Array Value} {T : TypeId} {W : World} (h : Bx b cs T W) (n : Nat) : Bx b cs T (W.drewN n) := h
theorem bdrewN {B : Nat} {w W : World} (h : Below B w W) (n : Nat) : Below B w (W.drewN n) := h.trans ⟨rfl, rfl, rfl, Nat.le_refl _, fun _ _ => rfl⟩
theorem cell1_below {W W' : World} {b i : Nat} {u : Value} (h : W.cell? ⟨b, i, none⟩ = some u) (hb : Below W.heap.size W W') : W'.cell? ⟨b, i, none⟩ = some u := by
  rw [(bcell hb).1 _ _ (World.block_lt_of_cell? W _ h)]; exact h
theorem cell1_set {W : World} {b i c j : Nat} {u : Value} (v : Value) (h1 : c ≠ b) (h : W.cell? ⟨b, i, none⟩ = some u) : (W.setCell ⟨c, j, none⟩ v).cell? ⟨b, i, none⟩ = some u := by
  rw [World.cell?_setCell_far _ _ _ _ h1]; exact h
theorem stepC_no {P : List (Int × List UInt8)} {last tear : Int} {S : List (List UInt8)} {k m : Nat} {data : List UInt8} (hk : k < P.length) (h1 : P[k].1 = (m : Int)) (h2 : P[k].2 = data) (h : ¬ ((k : Int) = last ∧ 1 ≤ tear ∧ tear < 64)) : stepC P last tear S ⟨k, hk⟩ = S.set m data := by
  unfold stepC; rw [if_neg h]; simp only; rw [h1, h2]; rfl
theorem stepC_yes {P : List (Int × List UInt8)} {last tear : Int} {S : List (List UInt8)} {k m : Nat} {data : List UInt8} (hk : k < P.length) (h1 : P[k].1 = (m : Int)) (h2 : P[k].2 = data) (h : (k : Int) = last ∧ 1 ≤ tear ∧ tear < 64) : stepC P last tear S ⟨k, hk⟩ = S.set m (cutW data (S.getD m []) tear) := by
  unfold stepC; rw [if_pos h]; simp only; rw [h1, h2]; rfl

set_option maxRecDepth 100000 in
set_option maxHeartbeats 16000000 in
theorem RCrash_any (sa pa ka : Option Addr) (sc pc kc : Nat) (d : Dk) (kb : List Bool) (tear : Int) (w : World) (hD : Lists w sa sc pa pc d) (hS : BoS w.heap.size w (.slice ka kb.length kc) kb) (hkl : kb.length ≤ 9223372036854775807) :
    Calls Try.prog 34 #[.agg #[.slice sa d.S.length sc, .slice pa d.P.length pc, .int .i64 d.fuse, .int .i64 d.ops, .bool d.dead], .slice ka kb.length kc, .int .i64 tear] w (RCPost (crashD d kb tear) w) := by
  have hb0 := ((Below.refl w.heap.size w).alloc (Nat.le_refl _) (.cells #[.slice sa d.S.length sc, .slice pa d.P.length pc, .int .i64 d.fuse, .int .i64 d.ops, .bool d.dead] 47)).alloc (by simp) (.cells #[.slice none 0 0, .slice none 0 0, .int .i64 0, .int .i64 0, .bool false] 47)
  have hX : Bx w.heap.size #[.slice sa d.S.length sc, .slice pa d.P.length pc, .int .i64 d.fuse, .int .i64 d.ops, .bool d.dead] 47 ((w.alloc (.cells #[.slice sa d.S.length sc, .slice pa d.P.length pc, .int .i64 d.fuse, .int .i64 d.ops, .bool d.dead] 47)).alloc (.cells #[.slice none 0 0, .slice none 0 0, .int .i64 0, .int .i64 0, .bool false] 47)) := by
    have h := (Bx.new w #[.slice sa d.S.length sc, .slice pa d.P.length pc, .int .i64 d.fuse, .int .i64 d.ops, .bool d.dead] 47)
    have h := h.alloc (.cells #[.slice none 0 0, .slice none 0 0, .int .i64 0, .int .i64 0, .bool false] 47)
    simpa using h
  have HX := Lib.hid hX; clear hX
  have hR : Bx (w.heap.size + 1) #[.slice none 0 0, .slice none 0 0, .int .i64 0, .int .i64 0, .bool false] 47 ((w.alloc (.cells #[.slice sa d.S.length sc, .slice pa d.P.length pc, .int .i64 d.fuse, .int .i64 d.ops, .bool d.dead] 47)).alloc (.cells #[.slice none 0 0, .slice none 0 0, .int .i64 0, .int .i64 0, .bool false] 47)) := by
    have h := (Bx.new (w.alloc (.cells #[.slice sa d.S.length sc, .slice pa d.P.length pc, .int .i64 d.fuse, .int .i64 d.ops, .bool d.dead] 47)) #[.slice none 0 0, .slice none 0 0, .int .i64 0, .int .i64 0, .bool false] 47)
    simpa using h
  have HR := Lib.hid hR; clear hR
  have hD0 := hD.below hb0
  go_enter Try.func34, Try.ntmps34
  go_wp2_with fail
  refine (RValid_any _ _ _ _ _ _ hD0).mono ?_
  cases hv : validB d with
  | false =>
    have HF := Lib.hid (crash_off kb tear hv)
    rintro e w1 ⟨rfl, hb1⟩
    have hbl1 := btrans hb0 hb0.size hb1
    have hX := HX.out.call hb1
    have hR := HR.out.call hb1
    clear hv HX HR hb1
    have x0 : w1.cell? ⟨w.heap.size, 0, none⟩ = some (.slice sa d.S.length sc) := hX.cell 0
    have x1 : w1.cell? ⟨w.heap.size, 1, none⟩ = some (.slice pa d.P.length pc) := hX.cell 1
    have x2 : w1.cell? ⟨w.heap.size, 2, none⟩ = some (.int .i64 d.fuse) := hX.cell 2
    have x3 : w1.cell? ⟨w.heap.size, 3, none⟩ = some (.int .i64 d.ops) := hX.cell 3
    have x4 : w1.cell? ⟨w.heap.size, 4, none⟩ = some (.bool d.dead) := hX.cell 4
    have r0 : w1.cell? ⟨w.heap.size + 1, 0, none⟩ = some (.slice none 0 0) := hR.cell 0
    have r1 : w1.cell? ⟨w.heap.size + 1, 1, none⟩ = some (.slice none 0 0) := hR.cell 1
    have r2 : w1.cell? ⟨w.heap.size + 1, 2, none⟩ = some (.int .i64 0) := hR.cell 2
    have r3 : w1.cell? ⟨w.heap.size + 1, 3, none⟩ = some (.int .i64 0) := hR.cell 3
    have r4 : w1.cell? ⟨w.heap.size + 1, 4, none⟩ = some (.bool false) := hR.cell 4
    have g0 := hR.free 0
    have g1 := hR.free 1
    have g2 := hR.free 2
    have g3 := hR.free 3
    have g4 := hR.free 4
    have kk := (hR.sets (.slice sa d.S.length sc) (.slice pa d.P.length pc) (.int .i64 d.fuse) (.int .i64 d.ops) (.bool d.dead))
    have k0 := kk.cell 0
    have k1 := kk.cell 1
    have k2 := kk.cell 2
    have k3 := kk.cell 3
    have k4 := kk.cell 4
    simp only [List.getElem?_toArray, List.getElem?_cons_zero, List.getElem?_cons_succ] at k0 k1 k2 k3 k4
    clear kk
    have HB := Lib.hid hbl1
    clear hX hR
    go_wp2
    refine bodyPost_ret (v := .agg #[.slice sa d.S.length sc, .slice pa d.P.length pc, .int .i64 d.fuse, .int .i64 d.ops, .bool d.dead]) (by simp [results, Try.results34, go_sem, k0, k1, k2, k3, k4]) rfl ?_
    rw [HF.out]
    have hBF := below_sets HB.out (w.heap.size + 1) (by omega) (.slice sa d.S.length sc) (.slice pa d.P.length pc) (.int .i64 d.fuse) (.int .i64 d.ops) (.bool d.dead)
    exact ⟨sa, sc, pa, pc, rfl, hD.below hBF, hBF⟩
  | true =>
    have HF := Lib.hid (crash_on kb tear hv)
    rintro e w2 ⟨rfl, hb1⟩
    have hX := HX.out.call hb1; clear HX; have HX := Lib.hid hX; clear hX
    have hR := HR.out.call hb1; clear HR; have HR := Lib.hid hR; clear hR
    have hbl2 := btrans hb0 hb0.size hb1
    have hD2 := hD0.below hb1
    obtain ⟨hn, hsv, hpv⟩ := (validB_iff d).1 hv
    obtain ⟨n1, n2, n3, n4, n5, n6⟩ := (numsB_iff d).1 hn
    have HPV := Lib.hid hpv; have HSV := Lib.hid hsv
    have hPl := hD.2.2.1
    clear hv hb1 hn hsv hpv hD0 hb0
    have hX := HX.out
    have x1 : w2.cell? ⟨w.heap.size, 1, none⟩ = some (.slice pa d.P.length pc) := hX.cell 1
    clear hX
    go_wp2
    go_loop [7, 8] (fun la i => ∃ k : Nat, k ≤ d.P.length ∧ i = .int .i64 k ∧ la = .int .i64 (lastI (kf d.P.length kb k))) (fun _ i => d.P.length - (intOf i).toNat)
    case atStart => exact ⟨0, Nat.zero_le _, rfl, rfl⟩
    case round =>
      obtain ⟨k, hk, rfl, rfl⟩ := hrel
      by_cases hlt : k < d.P.length
      · have hlt' : (k : Int) < (d.P.length : Int) := by omega
        by_cases hkb : k < kb.length
        · have hkb' : (k : Int) < (kb.length : Int) := by omega
          obtain ⟨bb, boff, hka, hblt, kc0⟩ : ∃ b off, ka = some ⟨b, off, none⟩ ∧ b < w.heap.size ∧ w2.cell? ⟨b, off + k, none⟩ = some (.bool kb[k]) := by
            obtain ⟨a3, c3, he, _, hx⟩ := hS.below hbl2
            cases he
            obtain ⟨b, off, h1, h2, h3⟩ := hx (by intro h0; rw [h0] at hkb; simp at hkb)
            exact ⟨b, off, h1, h2, h3 k hkb⟩
          subst hka
          cases hb : kb[k] with
          | true =>
            rw [hb] at kc0
            have HL := Lib.hid (show lastI (kf d.P.length kb (k + 1)) = (k : Int) by rw [kf_yes _ _ _ hlt hkb hb, lastI_snoc])
            clear hb
            go_wp2
            go_round
            case rel => exact ⟨k + 1, by omega, by go_num, by rw [HL.out]⟩
            case measure => simp [intOf]; omega
          | false =>
            rw [hb] at kc0
            have HL := Lib.hid (show kf d.P.length kb (k + 1) = kf d.P.length kb k by exact kf_no _ _ _ hlt (fun _ => hb))
            clear hb
            go_wp2
            go_round
            case rel => exact ⟨k + 1, by omega, by go_num, by rw [HL.out]⟩
            case measure => simp [intOf]; omega
        · have HK := Lib.hid (show lastI (kf d.P.length kb k) = lastI (kf d.P.length kb d.P.length) by rw [kf_stop _ _ k hk (.inr (by omega))])
          clear hlt hk
          obtain ⟨u1, u2, u3, u4⟩ := kf_upto d.P.length kb d.P.length (Nat.le_refl _)
          obtain ⟨la, hla⟩ : ∃ la, la = lastI (kf d.P.length kb d.P.length) := ⟨_, rfl⟩
          rw [← hla] at u1 u2 u3 u4 HF
          rw [← HK.out] at hla
          have U1 := Lib.hid u1; have HLA := Lib.hid hla; clear u1
          rw [← hla]
          clear hla
          have x0 : w2.cell? ⟨w.heap.size, 0, none⟩ = some (.slice sa d.S.length sc) := HX.out.cell 0
          have x1 : w2.cell? ⟨w.heap.size, 1, none⟩ = some (.slice pa d.P.length pc) := HX.out.cell 1
          have x2 : w2.cell? ⟨w.heap.size, 2, none⟩ = some (.int .i64 d.fuse) := HX.out.cell 2
          have x3 : w2.cell? ⟨w.heap.size, 3, none⟩ = some (.int .i64 d.ops) := HX.out.cell 3
          have x4 : w2.cell? ⟨w.heap.size, 4, none⟩ = some (.bool d.dead) := HX.out.cell 4
          have hbn := hbl2.alloc hbl2.size (.cells #[.slice sa d.S.length sc, .slice pa d.P.length pc, .int .i64 d.fuse, .int .i64 d.ops, .bool d.dead] 47)
          have hXn := HX.out.alloc (.cells #[.slice sa d.S.length sc, .slice pa d.P.length pc, .int .i64 d.fuse, .int .i64 d.ops, .bool d.dead] 47)
          have hRn := HR.out.alloc (.cells #[.slice sa d.S.length sc, .slice pa d.P.length pc, .int .i64 d.fuse, .int .i64 d.ops, .bool d.dead] 47)
          have hNn := Bx.new w2 #[.slice sa d.S.length sc, .slice pa d.P.length pc, .int .i64 d.fuse, .int .i64 d.ops, .bool d.dead] 47
          have hSn := (hD2.below ((Below.refl _ _).alloc (Nat.le_refl _) (.cells #[.slice sa d.S.length sc, .slice pa d.P.length pc, .int .i64 d.fuse, .int .i64 d.ops, .bool d.dead] 47))).1
          have hRl : w.heap.size + 1 < w2.heap.size := HR.out.lt
          have hq0 : NeB sa w2.heap.size (w.heap.size + 1) := by
            obtain ⟨b2, o2, h2, _, q2⟩ := hD.sec 0 (by omega)
            have := World.block_lt_of_cell? w _ q2
            exact NeB.mk h2 (by simp at this; omega) (by simp at this; omega)
          go_wp2
          go_loopw [10] (fun i wr => ∃ (k : Nat) (a : Option Addr) (c : Nat), (k : Int) ≤ la + 1 ∧ i = .int .i64 k ∧ Bx w.heap.size #[.slice sa d.S.length sc, .slice pa d.P.length pc, .int .i64 d.fuse, .int .i64 d.ops, .bool d.dead] 47 wr ∧ Bx (w.heap.size + 1) #[.slice none 0 0, .slice none 0 0, .int .i64 0, .int .i64 0, .bool false] 47 wr ∧ Bx w2.heap.size #[.slice a d.S.length c, .slice pa d.P.length pc, .int .i64 d.fuse, .int .i64 d.ops, .bool d.dead] 47 wr ∧ StrS wr (.slice a d.S.length c) (foldC d.P d.S la tear (kf d.P.length kb k)) ∧ NeB a w2.heap.size (w.heap.size + 1) ∧ Below w.heap.size w wr) (fun i _ => (la + 1).toNat - (intOf i).toNat)
          case atStart => exact ⟨0, _, _, by omega, rfl, hXn, hRn, hNn, hSn, hq0, hbn⟩
          case round =>
            obtain ⟨k, a, c, hk2, rfl, hXr, hRr, hNr, hSr, hqr, hbr⟩ := hrel
            clear hXn hRn hNn hSn hbn hq0
            have HQR := Lib.hid hqr; clear hqr
            clear x0 x1 x2 x3 x4
            by_cases hle : (k : Int) ≤ la
            · have hlt : k < d.P.length := by omega
              have hkb : k < kb.length := by omega
              have hlt' : (k : Int) < (d.P.length : Int) := by omega
              have hkb' : (k : Int) < (kb.length : Int) := by omega
              obtain ⟨bb, boff, hka, hblt, kc0⟩ : ∃ b off, ka = some ⟨b, off, none⟩ ∧ b < w.heap.size ∧ wr.cell? ⟨b, off + k, none⟩ = some (.bool kb[k]) := by
                obtain ⟨a3, c3, he, _, hx⟩ := hS.below hbr
                cases he
                obtain ⟨b, off, h1, h2, h3⟩ := hx (by intro h0; rw [h0] at hkb; simp at hkb)
                exact ⟨b, off, h1, h2, h3 k hkb⟩
              subst hka
              cases hb : kb[k] with
              | false =>
                rw [hb] at kc0
                have HL := Lib.hid (show kf d.P.length kb (k + 1) = kf d.P.length kb k by exact kf_no _ _ _ hlt (fun _ => hb))
                clear hb
                go_wp2
                go_roundw
                case rel => exact ⟨k + 1, a, c, by omega, by go_num, hXr, hRr, hNr, by rw [HL.out]; exact hSr, HQR.out, hbr⟩
                case measure => simp [intOf]; omega
              | true =>
                rw [hb] at kc0
                have HKY := Lib.hid (kf_yes d.P.length kb k hlt hkb hb)
                clear hb
                have y1 : wr.cell? ⟨w.heap.size, 1, none⟩ = some (.slice pa d.P.length pc) := hXr.cell 1
                obtain ⟨pb, poff, hpa, p1, p2⟩ := (hD.below hbr).pen k hlt
                rw [hpa] at y1
                obtain ⟨v1, v2, v3⟩ := HPV.out _ (List.getElem_mem hlt)
                obtain ⟨L2, hL2⟩ : ∃ L2, L2 = foldC d.P d.S la tear (kf d.P.length kb k) := ⟨_, rfl⟩
                rw [← hL2] at hSr
                obtain ⟨q1, q2⟩ := foldC_inv la tear (fun x hx => (HPV.out x hx).2.2) HSV.out (kf d.P.length kb k)
                rw [← hL2] at q1 q2
                have HL2 := Lib.hid q1
                have HSN := Lib.hid (show foldC d.P d.S la tear (kf d.P.length kb (k + 1)) = stepC d.P la tear L2 ⟨k, hlt⟩ by rw [HKY.out, foldC_snoc, hL2])
                obtain ⟨x, hx⟩ : ∃ x, d.P[k] = x := ⟨_, rfl⟩
                rw [hx] at p1 p2 v1 v2 v3
                obtain ⟨m, hm⟩ : ∃ m : Nat, x.1 = m := ⟨x.1.toNat, by omega⟩
                obtain ⟨data, hdt⟩ : ∃ q, x.2 = q := ⟨_, rfl⟩
                rw [hm] at p1 v1 v2
                rw [hdt] at p2 v3
                have HNO := stepC_no (last := la) (tear := tear) (S := L2) hlt ((congrArg Prod.fst hx).trans hm) ((congrArg Prod.snd hx).trans hdt)
                have HYE := stepC_yes (last := la) (tear := tear) (S := L2) hlt ((congrArg Prod.fst hx).trans hm) ((congrArg Prod.snd hx).trans hdt)
                have hmS : m < d.S.length := by omega
                have hmS2 : m < L2.length := by omega
                have H64 := Lib.hid (q2 _ (List.getElem_mem hmS2))
                have HD64 := Lib.hid v3
                have HPA := Lib.hid hpa
                clear q1 q2 hx hm hdt v3 v1 v2 hpa
                have n0 : wr.cell? ⟨w2.heap.size, 0, none⟩ = some (.slice a d.S.length c) := hNr.cell 0
                have hbw := Bx.new wr #[.int .i64 (m : Int), .string (bs data)] 54
                have hW0 : Below wr.heap.size wr (wr.alloc (.cells #[.int .i64 (m : Int), .string (bs data)] 54)) := (Below.refl _ _).alloc (Nat.le_refl _) _
                have n0b := cell1_below n0 hW0
                have w0 : (wr.alloc (.cells #[.int .i64 (m : Int), .string (bs data)] 54)).cell? ⟨wr.heap.size, 0, none⟩ = some (.int .i64 (m : Int)) := hbw.cell 0
                have w1 : (wr.alloc (.cells #[.int .i64 (m : Int), .string (bs data)] 54)).cell? ⟨wr.heap.size, 1, none⟩ = some (.string (bs data)) := hbw.cell 1
                have hNlt := hNr.lt
                clear hbw n0
                by_cases hc : (k : Int) = la ∧ 1 ≤ tear ∧ tear < 64
                · have HST := Lib.hid (HSN.out.trans (HYE hc))
                  clear HNO HYE
                  obtain ⟨hc1, hc2, hc3⟩ := hc
                  obtain ⟨t, rfl⟩ : ∃ t : Nat, tear = t := ⟨tear.toNat, by omega⟩
                  have t1 : ((k : Int) == la) = true := by rw [hc1]; exact beq_self_eq_true _
                  clear hc1
                  obtain ⟨sb, soff, hsa, hsc, sm⟩ : ∃ b off, a = some ⟨b, off, none⟩ ∧ d.S.length ≤ c ∧ wr.cell? ⟨b, off + m, none⟩ = some (.string (bs L2[m])) := by
                    obtain ⟨a3, c3, he, hcc, hx⟩ := hSr
                    injection he with e1 e2 e3
                    subst e1 e3
                    obtain ⟨b, off, h1, h3⟩ := hx (by intro h0; rw [h0] at hmS2; simp at hmS2)
                    exact ⟨b, off, h1, by omega, h3 m hmS2⟩
                  subst hsa
                  obtain ⟨sec, hsec⟩ : ∃ q, L2[m] = q := ⟨_, rfl⟩
                  rw [hsec] at sm H64
                  have HCW := Lib.hid (show cutW data (L2.getD m []) (t : Int) = data.take t ++ sec.drop t by unfold cutW; rw [List.getD_eq_getElem?_getD, List.getElem?_eq_getElem hmS2, hsec, Option.getD_some]; rfl)
                  clear hsec
                  have hmi : (m : Int) < (d.S.length : Int) := by omega
                  have hd64 : t ≤ data.length := by rw [HD64.out]; omega
                  have hs64 : t ≤ sec.length := by rw [H64.out]; omega
                  have hs65 : ¬ 9223372036854775807 < sec.length := by rw [H64.out]; omega
                  have smb := cell1_below sm hW0
                  clear hW0
                  go_wp2_with fail
                  go_quiet (fail)
                  go_wp2_with fail
                  clear smb sm
                  have hW : Below wr.heap.size wr ((wr.alloc (.cells #[.int .i64 (m : Int), .string (bs data)] 54)).drewN nq) := bdrewN ((Below.refl _ _).alloc (Nat.le_refl _) _) _
                  have HXW := Lib.hid (hXr.call hW); have HRW := Lib.hid (hRr.call hW); have HNW := Lib.hid (hNr.call hW); have HSW := Lib.hid (hSr.below hW); have HBW := Lib.hid (btrans hbr hbr.size hW)
                  have hzw := hW.size
                  refine (Rperf_use _ L2 d.S.length m (List.take t data ++ List.drop t sec) _ HSW.out HL2.out n2 hmS).mono ?_
                  rintro e w5 ⟨a5, c5, rfl, hS5, hq5, hb5⟩
                  have n5 := (HNW.out.call hb5).cell 0
                  have f5 := (HNW.out.call hb5).free 0
                  have H5 := Lib.hid hb5; have HS5 := Lib.hid hS5; have HQ5 := Lib.hid hq5; clear hb5 hS5 hq5 hXr hRr hNr hSr hbr hW hL2 n0b w0 w1
                  go_wp2
                  go_roundw
                  case rel => exact ⟨k + 1, a5, c5, by omega, by go_num, (HXW.out.call H5.out).other (i := 0) (c := w2.heap.size) (by omega) _, (HRW.out.call H5.out).other (i := 0) (c := w2.heap.size) (by omega) _, (HNW.out.call H5.out).set 0 _, by rw [HST.out, HCW.out]; exact HS5.out.set _ _ (fun b off h => by have := HQ5.out b off h; simp at this; omega) _, fun b off h => by have := HQ5.out b off h; simp at this; exact ⟨by omega, by omega⟩, below_set (btrans HBW.out HBW.out.size H5.out) w2.heap.size 0 (by omega) _⟩
                  case measure => simp [intOf]; omega
                · have HST := Lib.hid (HSN.out.trans (HNO hc))
                  clear HNO HYE
                  by_cases hc1 : (k : Int) = la
                  · have t1 : ((k : Int) == la) = true := by rw [hc1]; exact beq_self_eq_true _
                    by_cases hc2 : 1 ≤ tear
                    · have hc3 : 64 ≤ tear := by omega
                      clear hc hc1
                      have t3 : decide (tear < 64) = false := by rw [decide_eq_false_iff_not]; omega
                      go_wp2_with fail
                      have hW : Below wr.heap.size wr (wr.alloc (.cells #[.int .i64 (m : Int), .string (bs data)] 54)) := (Below.refl _ _).alloc (Nat.le_refl _) _
                      have HXW := Lib.hid (hXr.call hW); have HRW := Lib.hid (hRr.call hW); have HNW := Lib.hid (hNr.call hW); have HSW := Lib.hid (hSr.below hW); have HBW := Lib.hid (btrans hbr hbr.size hW)
                      have hzw := hW.size
                      refine (Rperf_use _ L2 d.S.length m data _ HSW.out HL2.out n2 hmS).mono ?_
                      rintro e w5 ⟨a5, c5, rfl, hS5, hq5, hb5⟩
                      have n5 := (HNW.out.call hb5).cell 0
                      have f5 := (HNW.out.call hb5).free 0
                      have H5 := Lib.hid hb5; have HS5 := Lib.hid hS5; have HQ5 := Lib.hid hq5; clear hb5 hS5 hq5 hXr hRr hNr hSr hbr hW hL2 n0b w0 w1
                      go_wp2
                      go_roundw
                      case rel => exact ⟨k + 1, a5, c5, by omega, by go_num, (HXW.out.call H5.out).other (i := 0) (c := w2.heap.size) (by omega) _, (HRW.out.call H5.out).other (i := 0) (c := w2.heap.size) (by omega) _, (HNW.out.call H5.out).set 0 _, by rw [HST.out]; exact HS5.out.set _ _ (fun b off h => by have := HQ5.out b off h; simp at this; omega) _, fun b off h => by have := HQ5.out b off h; simp at this; exact ⟨by omega, by omega⟩, below_set (btrans HBW.out HBW.out.size H5.out) w2.heap.size 0 (by omega) _⟩
                      case measure => simp [intOf]; omega
                    · clear hc hc1
                      have t2 : decide (1 ≤ tear) = false := by rw [decide_eq_false_iff_not]; omega
                      go_wp2_with fail
                      have hW : Below wr.heap.size wr (wr.alloc (.cells #[.int .i64 (m : Int), .string (bs data)] 54)) := (Below.refl _ _).alloc (Nat.le_refl _) _
                      have HXW := Lib.hid (hXr.call hW); have HRW := Lib.hid (hRr.call hW); have HNW := Lib.hid (hNr.call hW); have HSW := Lib.hid (hSr.below hW); have HBW := Lib.hid (btrans hbr hbr.size hW)
                      have hzw := hW.size
                      refine (Rperf_use _ L2 d.S.length m data _ HSW.out HL2.out n2 hmS).mono ?_
                      rintro e w5 ⟨a5, c5, rfl, hS5, hq5, hb5⟩
                      have n5 := (HNW.out.call hb5).cell 0
                      have f5 := (HNW.out.call hb5).free 0
                      have H5 := Lib.hid hb5; have HS5 := Lib.hid hS5; have HQ5 := Lib.hid hq5; clear hb5 hS5 hq5 hXr hRr hNr hSr hbr hW hL2 n0b w0 w1
                      go_wp2
                      go_roundw
                      case rel => exact ⟨k + 1, a5, c5, by omega, by go_num, (HXW.out.call H5.out).other (i := 0) (c := w2.heap.size) (by omega) _, (HRW.out.call H5.out).other (i := 0) (c := w2.heap.size) (by omega) _, (HNW.out.call H5.out).set 0 _, by rw [HST.out]; exact HS5.out.set _ _ (fun b off h => by have := HQ5.out b off h; simp at this; omega) _, fun b off h => by have := HQ5.out b off h; simp at this; exact ⟨by omega, by omega⟩, below_set (btrans HBW.out HBW.out.size H5.out) w2.heap.size 0 (by omega) _⟩
                      case measure => simp [intOf]; omega
                  · have t1 : ((k : Int) == la) = false := by rw [beq_eq_false_iff_ne]; exact hc1
                    clear hc hc1
                    go_wp2_with fail
                    have hW : Below wr.heap.size wr (wr.alloc (.cells #[.int .i64 (m : Int), .string (bs data)] 54)) := (Below.refl _ _).alloc (Nat.le_refl _) _
                    have HXW := Lib.hid (hXr.call hW); have HRW := Lib.hid (hRr.call hW); have HNW := Lib.hid (hNr.call hW); have HSW := Lib.hid (hSr.below hW); have HBW := Lib.hid (btrans hbr hbr.size hW)
                    have hzw := hW.size
                    refine (Rperf_use _ L2 d.S.length m data _ HSW.out HL2.out n2 hmS).mono ?_
                    rintro e w5 ⟨a5, c5, rfl, hS5, hq5, hb5⟩
                    have n5 := (HNW.out.call hb5).cell 0
                    have f5 := (HNW.out.call hb5).free 0
                    have H5 := Lib.hid hb5; have HS5 := Lib.hid hS5; have HQ5 := Lib.hid hq5; clear hb5 hS5 hq5 hXr hRr hNr hSr hbr hW hL2 n0b w0 w1
                    go_wp2
                    go_roundw
                    case rel => exact ⟨k + 1, a5, c5, by omega, by go_num, (HXW.out.call H5.out).other (i := 0) (c := w2.heap.size) (by omega) _, (HRW.out.call H5.out).other (i := 0) (c := w2.heap.size) (by omega) _, (HNW.out.call H5.out).set 0 _, by rw [HST.out]; exact HS5.out.set _ _ (fun b off h => by have := HQ5.out b off h; simp at this; omega) _, fun b off h => by have := HQ5.out b off h; simp at this; exact ⟨by omega, by omega⟩, below_set (btrans HBW.out HBW.out.size H5.out) w2.heap.size 0 (by omega) _⟩
                    case measure => simp [intOf]; omega
            · obtain rfl : k = (la + 1).toNat := by omega
              have HLE := Lib.hid (show foldC d.P d.S la tear (kf d.P.length kb (la + 1).toNat) = foldC d.P d.S la tear (kf d.P.length kb d.P.length) by rw [U1.out])
              rw [HLE.out] at hSr
              have HLN := Lib.hid (show (foldC d.P d.S la tear (kf d.P.length kb d.P.length)).length = d.S.length by exact (foldC_inv la tear (fun x hx => (HPV.out x hx).2.2) HSV.out _).1)
              have n0 : wr.cell? ⟨w2.heap.size, 0, none⟩ = some (.slice a d.S.length c) := hNr.cell 0
              have n1 : wr.cell? ⟨w2.heap.size, 1, none⟩ = some (.slice pa d.P.length pc) := hNr.cell 1
              have n2 : wr.cell? ⟨w2.heap.size, 2, none⟩ = some (.int .i64 d.fuse) := hNr.cell 2
              have n3 : wr.cell? ⟨w2.heap.size, 3, none⟩ = some (.int .i64 d.ops) := hNr.cell 3
              have n4 : wr.cell? ⟨w2.heap.size, 4, none⟩ = some (.bool d.dead) := hNr.cell 4
              have fn1 := hNr.free 1
              have fn2 := hNr.free 2
              have fn4 := hNr.free 4
              have hN6 := ((hNr.set 1 (.slice none 0 0)).set 4 (.bool false)).set 2 (.int .i64 0)
              have hR6 := ((hRr.other (i := 1) (c := w2.heap.size) (by omega) (.slice none 0 0)).other (i := 4) (c := w2.heap.size) (by omega) (.bool false)).other (i := 2) (c := w2.heap.size) (by omega) (.int .i64 0)
              have hzz : w2.heap.size < wr.heap.size := hNr.lt
              have z0 : (((wr.setCell ⟨w2.heap.size, 1, none⟩ (.slice none 0 0)).setCell ⟨w2.heap.size, 4, none⟩ (.bool false)).setCell ⟨w2.heap.size, 2, none⟩ (.int .i64 0)).cell? ⟨w2.heap.size, 0, none⟩ = some (.slice a d.S.length c) := hN6.cell 0
              have z1 : (((wr.setCell ⟨w2.heap.size, 1, none⟩ (.slice none 0 0)).setCell ⟨w2.heap.size, 4, none⟩ (.bool false)).setCell ⟨w2.heap.size, 2, none⟩ (.int .i64 0)).cell? ⟨w2.heap.size, 1, none⟩ = some (.slice none 0 0) := hN6.cell 1
              have z2 : (((wr.setCell ⟨w2.heap.size, 1, none⟩ (.slice none 0 0)).setCell ⟨w2.heap.size, 4, none⟩ (.bool false)).setCell ⟨w2.heap.size, 2, none⟩ (.int .i64 0)).cell? ⟨w2.heap.size, 2, none⟩ = some (.int .i64 0) := hN6.cell 2
              have z3 : (((wr.setCell ⟨w2.heap.size, 1, none⟩ (.slice none 0 0)).setCell ⟨w2.heap.size, 4, none⟩ (.bool false)).setCell ⟨w2.heap.size, 2, none⟩ (.int .i64 0)).cell? ⟨w2.heap.size, 3, none⟩ = some (.int .i64 d.ops) := hN6.cell 3
              have z4 : (((wr.setCell ⟨w2.heap.size, 1, none⟩ (.slice none 0 0)).setCell ⟨w2.heap.size, 4, none⟩ (.bool false)).setCell ⟨w2.heap.size, 2, none⟩ (.int .i64 0)).cell? ⟨w2.heap.size, 4, none⟩ = some (.bool false) := hN6.cell 4
              have r0 : (((wr.setCell ⟨w2.heap.size, 1, none⟩ (.slice none 0 0)).setCell ⟨w2.heap.size, 4, none⟩ (.bool false)).setCell ⟨w2.heap.size, 2, none⟩ (.int .i64 0)).cell? ⟨w.heap.size + 1, 0, none⟩ = some (.slice none 0 0) := hR6.cell 0
              have r1 : (((wr.setCell ⟨w2.heap.size, 1, none⟩ (.slice none 0 0)).setCell ⟨w2.heap.size, 4, none⟩ (.bool false)).setCell ⟨w2.heap.size, 2, none⟩ (.int .i64 0)).cell? ⟨w.heap.size + 1, 1, none⟩ = some (.slice none 0 0) := hR6.cell 1
              have r2 : (((wr.setCell ⟨w2.heap.size, 1, none⟩ (.slice none 0 0)).setCell ⟨w2.heap.size, 4, none⟩ (.bool false)).setCell ⟨w2.heap.size, 2, none⟩ (.int .i64 0)).cell? ⟨w.heap.size + 1, 2, none⟩ = some (.int .i64 0) := hR6.cell 2
              have r3 : (((wr.setCell ⟨w2.heap.size, 1, none⟩ (.slice none 0 0)).setCell ⟨w2.heap.size, 4, none⟩ (.bool false)).setCell ⟨w2.heap.size, 2, none⟩ (.int .i64 0)).cell? ⟨w.heap.size + 1, 3, none⟩ = some (.int .i64 0) := hR6.cell 3
              have r4 : (((wr.setCell ⟨w2.heap.size, 1, none⟩ (.slice none 0 0)).setCell ⟨w2.heap.size, 4, none⟩ (.bool false)).setCell ⟨w2.heap.size, 2, none⟩ (.int .i64 0)).cell? ⟨w.heap.size + 1, 4, none⟩ = some (.bool false) := hR6.cell 4
              have g0 := hR6.free 0
              have g1 := hR6.free 1
              have g2 := hR6.free 2
              have g3 := hR6.free 3
              have g4 := hR6.free 4
              have HRZ := Lib.hid hRr; have HSZ := Lib.hid hSr; have HBZ := Lib.hid hbr
              clear hN6 hR6 hRr hNr hXr hSr hbr HPV HSV hk2 hle
              go_wp2
              have KK := Lib.hid ((((HRZ.out.other (i := 1) (c := w2.heap.size) (by omega) (.slice none 0 0)).other (i := 4) (c := w2.heap.size) (by omega) (.bool false)).other (i := 2) (c := w2.heap.size) (by omega) (.int .i64 0)).sets (.slice a d.S.length c) (.slice none 0 0) (.int .i64 0) (.int .i64 d.ops) (.bool false))
              have k0 := KK.out.cell 0
              have k1 := KK.out.cell 1
              have k2 := KK.out.cell 2
              have k3 := KK.out.cell 3
              have k4 := KK.out.cell 4
              simp only [List.getElem?_toArray, List.getElem?_cons_zero, List.getElem?_cons_succ] at k0 k1 k2 k3 k4
              refine bodyPost_ret (v := .agg #[.slice a d.S.length c, .slice none 0 0, .int .i64 0, .int .i64 d.ops, .bool false]) (by simp [results, Try.results34, go_sem, k0, k1, k2, k3, k4]) rfl ?_
              rw [HF.out]
              have hBF := below_sets (below_set (below_set (below_set HBZ.out w2.heap.size 1 (by omega) (.slice none 0 0)) w2.heap.size 4 (by omega) (.bool false)) w2.heap.size 2 (by omega) (.int .i64 0)) (w.heap.size + 1) (by omega) (.slice a d.S.length c) (.slice none 0 0) (.int .i64 0) (.int .i64 d.ops) (.bool false)
              refine ⟨a, c, none, 0, by simp [HLN.out], ⟨?_, ⟨none, 0, rfl, Nat.le_refl _, fun h => absurd rfl h⟩, by simp, by simp [HLN.out]; omega⟩, hBF⟩
              simp only [HLN.out]
              exact ((((((((HSZ.out.set w2.heap.size 1 (fun b o h => (HQR.out b o h).1) _).set w2.heap.size 4 (fun b o h => (HQR.out b o h).1) _).set w2.heap.size 2 (fun b o h => (HQR.out b o h).1) _).set (w.heap.size + 1) 0 (fun b o h => (HQR.out b o h).2) _).set (w.heap.size + 1) 1 (fun b o h => (HQR.out b o h).2) _).set (w.heap.size + 1) 2 (fun b o h => (HQR.out b o h).2) _).set (w.heap.size + 1) 3 (fun b o h => (HQR.out b o h).2) _).set (w.heap.size + 1) 4 (fun b o h => (HQR.out b o h).2) _)
      · have HK := Lib.hid (show lastI (kf d.P.length kb k) = lastI (kf d.P.length kb d.P.length) by rw [kf_stop _ _ k hk (.inl (by omega))])
        clear hk
        obtain ⟨u1, u2, u3, u4⟩ := kf_upto d.P.length kb d.P.length (Nat.le_refl _)
        obtain ⟨la, hla⟩ : ∃ la, la = lastI (kf d.P.length kb d.P.length) := ⟨_, rfl⟩
        rw [← hla] at u1 u2 u3 u4 HF
        rw [← HK.out] at hla
        have U1 := Lib.hid u1; have HLA := Lib.hid hla; clear u1
        rw [← hla]
        clear hla
        have x0 : w2.cell? ⟨w.heap.size, 0, none⟩ = some (.slice sa d.S.length sc) := HX.out.cell 0
        have x1 : w2.cell? ⟨w.heap.size, 1, none⟩ = some (.slice pa d.P.length pc) := HX.out.cell 1
        have x2 : w2.cell? ⟨w.heap.size, 2, none⟩ = some (.int .i64 d.fuse) := HX.out.cell 2
        have x3 : w2.cell? ⟨w.heap.size, 3, none⟩ = some (.int .i64 d.ops) := HX.out.cell 3
        have x4 : w2.cell? ⟨w.heap.size, 4, none⟩ = some (.bool d.dead) := HX.out.cell 4
        have hbn := hbl2.alloc hbl2.size (.cells #[.slice sa d.S.length sc, .slice pa d.P.length pc, .int .i64 d.fuse, .int .i64 d.ops, .bool d.dead] 47)
        have hXn := HX.out.alloc (.cells #[.slice sa d.S.length sc, .slice pa d.P.length pc, .int .i64 d.fuse, .int .i64 d.ops, .bool d.dead] 47)
        have hRn := HR.out.alloc (.cells #[.slice sa d.S.length sc, .slice pa d.P.length pc, .int .i64 d.fuse, .int .i64 d.ops, .bool d.dead] 47)
        have hNn := Bx.new w2 #[.slice sa d.S.length sc, .slice pa d.P.length pc, .int .i64 d.fuse, .int .i64 d.ops, .bool d.dead] 47
        have hSn := (hD2.below ((Below.refl _ _).alloc (Nat.le_refl _) (.cells #[.slice sa d.S.length sc, .slice pa d.P.length pc, .int .i64 d.fuse, .int .i64 d.ops, .bool d.dead] 47))).1
        have hRl : w.heap.size + 1 < w2.heap.size := HR.out.lt
        have hq0 : NeB sa w2.heap.size (w.heap.size + 1) := by
          obtain ⟨b2, o2, h2, _, q2⟩ := hD.sec 0 (by omega)
          have := World.block_lt_of_cell? w _ q2
          exact NeB.mk h2 (by simp at this; omega) (by simp at this; omega)
        go_wp2
        go_loopw [10] (fun i wr => ∃ (k : Nat) (a : Option Addr) (c : Nat), (k : Int) ≤ la + 1 ∧ i = .int .i64 k ∧ Bx w.heap.size #[.slice sa d.S.length sc, .slice pa d.P.length pc, .int .i64 d.fuse, .int .i64 d.ops, .bool d.dead] 47 wr ∧ Bx (w.heap.size + 1) #[.slice none 0 0, .slice none 0 0, .int .i64 0, .int .i64 0, .bool false] 47 wr ∧ Bx w2.heap.size #[.slice a d.S.length c, .slice pa d.P.length pc, .int .i64 d.fuse, .int .i64 d.ops, .bool d.dead] 47 wr ∧ StrS wr (.slice a d.S.length c) (foldC d.P d.S la tear (kf d.P.length kb k)) ∧ NeB a w2.heap.size (w.heap.size + 1) ∧ Below w.heap.size w wr) (fun i _ => (la + 1).toNat - (intOf i).toNat)
        case atStart => exact ⟨0, _, _, by omega, rfl, hXn, hRn, hNn, hSn, hq0, hbn⟩
        case round =>
          obtain ⟨k, a, c, hk2, rfl, hXr, hRr, hNr, hSr, hqr, hbr⟩ := hrel
          clear hXn hRn hNn hSn hbn hq0
          have HQR := Lib.hid hqr; clear hqr
          clear x0 x1 x2 x3 x4
          by_cases hle : (k : Int) ≤ la
          · have hlt : k < d.P.length := by omega
            have hkb : k < kb.length := by omega
            have hlt' : (k : Int) < (d.P.length : Int) := by omega
            have hkb' : (k : Int) < (kb.length : Int) := by omega
            obtain ⟨bb, boff, hka, hblt, kc0⟩ : ∃ b off, ka = some ⟨b, off, none⟩ ∧ b < w.heap.size ∧ wr.cell? ⟨b, off + k, none⟩ = some (.bool kb[k]) := by
              obtain ⟨a3, c3, he, _, hx⟩ := hS.below hbr
              cases he
              obtain ⟨b, off, h1, h2, h3⟩ := hx (by intro h0; rw [h0] at hkb; simp at hkb)
              exact ⟨b, off, h1, h2, h3 k hkb⟩
            subst hka
            cases hb : kb[k] with
            | false =>
              rw [hb] at kc0
              have HL := Lib.hid (show kf d.P.length kb (k + 1) = kf d.P.length kb k by exact kf_no _ _ _ hlt (fun _ => hb))
              clear hb
              go_wp2
              go_roundw
              case rel => exact ⟨k + 1, a, c, by omega, by go_num, hXr, hRr, hNr, by rw [HL.out]; exact hSr, HQR.out, hbr⟩
              case measure => simp [intOf]; omega
            | true =>
              rw [hb] at kc0
              have HKY := Lib.hid (kf_yes d.P.length kb k hlt hkb hb)
              clear hb
              have y1 : wr.cell? ⟨w.heap.size, 1, none⟩ = some (.slice pa d.P.length pc) := hXr.cell 1
              obtain ⟨pb, poff, hpa, p1, p2⟩ := (hD.below hbr).pen k hlt
              rw [hpa] at y1
              obtain ⟨v1, v2, v3⟩ := HPV.out _ (List.getElem_mem hlt)
              obtain ⟨L2, hL2⟩ : ∃ L2, L2 = foldC d.P d.S la tear (kf d.P.length kb k) := ⟨_, rfl⟩
              rw [← hL2] at hSr
              obtain ⟨q1, q2⟩ := foldC_inv la tear (fun x hx => (HPV.out x hx).2.2) HSV.out (kf d.P.length kb k)
              rw [← hL2] at q1 q2
              have HL2 := Lib.hid q1
              have HSN := Lib.hid (show foldC d.P d.S la tear (kf d.P.length kb (k + 1)) = stepC d.P la tear L2 ⟨k, hlt⟩ by rw [HKY.out, foldC_snoc, hL2])
              obtain ⟨x, hx⟩ : ∃ x, d.P[k] = x := ⟨_, rfl⟩
              rw [hx] at p1 p2 v1 v2 v3
              obtain ⟨m, hm⟩ : ∃ m : Nat, x.1 = m := ⟨x.1.toNat, by omega⟩
              obtain ⟨data, hdt⟩ : ∃ q, x.2 = q := ⟨_, rfl⟩
              rw [hm] at p1 v1 v2
              rw [hdt] at p2 v3
              have HNO := stepC_no (last := la) (tear := tear) (S := L2) hlt ((congrArg Prod.fst hx).trans hm) ((congrArg Prod.snd hx).trans hdt)
              have HYE := stepC_yes (last := la) (tear := tear) (S := L2) hlt ((congrArg Prod.fst hx).trans hm) ((congrArg Prod.snd hx).trans hdt)
              have hmS : m < d.S.length := by omega
              have hmS2 : m < L2.length := by omega
              have H64 := Lib.hid (q2 _ (List.getElem_mem hmS2))
              have HD64 := Lib.hid v3
              have HPA := Lib.hid hpa
              clear q1 q2 hx hm hdt v3 v1 v2 hpa
              have n0 : wr.cell? ⟨w2.heap.size, 0, none⟩ = some (.slice a d.S.length c) := hNr.cell 0
              have hbw := Bx.new wr #[.int .i64 (m : Int), .string (bs data)] 54
              have hW0 : Below wr.heap.size wr (wr.alloc (.cells #[.int .i64 (m : Int), .string (bs data)] 54)) := (Below.refl _ _).alloc (Nat.le_refl _) _
              have n0b := cell1_below n0 hW0
              have w0 : (wr.alloc (.cells #[.int .i64 (m : Int), .string (bs data)] 54)).cell? ⟨wr.heap.size, 0, none⟩ = some (.int .i64 (m : Int)) := hbw.cell 0
              have w1 : (wr.alloc (.cells #[.int .i64 (m : Int), .string (bs data)] 54)).cell? ⟨wr.heap.size, 1, none⟩ = some (.string (bs data)) := hbw.cell 1
              have hNlt := hNr.lt
              clear hbw n0
              by_cases hc : (k : Int) = la ∧ 1 ≤ tear ∧ tear < 64
              · have HST := Lib.hid (HSN.out.trans (HYE hc))
                clear HNO HYE
                obtain ⟨hc1, hc2, hc3⟩ := hc
                obtain ⟨t, rfl⟩ : ∃ t : Nat, tear = t := ⟨tear.toNat, by omega⟩
                have t1 : ((k : Int) == la) = true := by rw [hc1]; exact beq_self_eq_true _
                clear hc1
                obtain ⟨sb, soff, hsa, hsc, sm⟩ : ∃ b off, a = some ⟨b, off, none⟩ ∧ d.S.length ≤ c ∧ wr.cell? ⟨b, off + m, none⟩ = some (.string (bs L2[m])) := by
                  obtain ⟨a3, c3, he, hcc, hx⟩ := hSr
                  injection he with e1 e2 e3
                  subst e1 e3
                  obtain ⟨b, off, h1, h3⟩ := hx (by intro h0; rw [h0] at hmS2; simp at hmS2)
                  exact ⟨b, off, h1, by omega, h3 m hmS2⟩
                subst hsa
                obtain ⟨sec, hsec⟩ : ∃ q, L2[m] = q := ⟨_, rfl⟩
                rw [hsec] at sm H64
                have HCW := Lib.hid (show cutW data (L2.getD m []) (t : Int) = data.take t ++ sec.drop t by unfold cutW; rw [List.getD_eq_getElem?_getD, List.getElem?_eq_getElem hmS2, hsec, Option.getD_some]; rfl)
                clear hsec
                have hmi : (m : Int) < (d.S.length : Int) := by omega
                have hd64 : t ≤ data.length := by rw [HD64.out]; omega
                have hs64 : t ≤ sec.length := by rw [H64.out]; omega
                have hs65 : ¬ 9223372036854775807 < sec.length := by rw [H64.out]; omega
                have smb := cell1_below sm hW0
                clear hW0
                go_wp2_with fail
                go_quiet (fail)
                go_wp2_with fail
                clear smb sm
                have hW : Below wr.heap.size wr ((wr.alloc (.cells #[.int .i64 (m : Int), .string (bs data)] 54)).drewN nq) := bdrewN ((Below.refl _ _).alloc (Nat.le_refl _) _) _
                have HXW := Lib.hid (hXr.call hW); have HRW := Lib.hid (hRr.call hW); have HNW := Lib.hid (hNr.call hW); have HSW := Lib.hid (hSr.below hW); have HBW := Lib.hid (btrans hbr hbr.size hW)
                have hzw := hW.size
                refine (Rperf_use _ L2 d.S.length m (List.take t data ++ List.drop t sec) _ HSW.out HL2.out n2 hmS).mono ?_
                rintro e w5 ⟨a5, c5, rfl, hS5, hq5, hb5⟩
                have n5 := (HNW.out.call hb5).cell 0
                have f5 := (HNW.out.call hb5).free 0
                have H5 := Lib.hid hb5; have HS5 := Lib.hid hS5; have HQ5 := Lib.hid hq5; clear hb5 hS5 hq5 hXr hRr hNr hSr hbr hW hL2 n0b w0 w1
                go_wp2
                go_roundw
                case rel => exact ⟨k + 1, a5, c5, by omega, by go_num, (HXW.out.call H5.out).other (i := 0) (c := w2.heap.size) (by omega) _, (HRW.out.call H5.out).other (i := 0) (c := w2.heap.size) (by omega) _, (HNW.out.call H5.out).set 0 _, by rw [HST.out, HCW.out]; exact HS5.out.set _ _ (fun b off h => by have := HQ5.out b off h; simp at this; omega) _, fun b off h => by have := HQ5.out b off h; simp at this; exact ⟨by omega, by omega⟩, below_set (btrans HBW.out HBW.out.size H5.out) w2.heap.size 0 (by omega) _⟩
                case measure => simp [intOf]; omega
              · have HST := Lib.hid (HSN.out.trans (HNO hc))
                clear HNO HYE
                by_cases hc1 : (k : Int) = la
                · have t1 : ((k : Int) == la) = true := by rw [hc1]; exact beq_self_eq_true _
                  by_cases hc2 : 1 ≤ tear
                  · have hc3 : 64 ≤ tear := by omega
                    clear hc hc1
                    have t3 : decide (tear < 64) = false := by rw [decide_eq_false_iff_not]; omega
                    go_wp2_with fail
                    have hW : Below wr.heap.size wr (wr.alloc (.cells #[.int .i64 (m : Int), .string (bs data)] 54)) := (Below.refl _ _).alloc (Nat.le_refl _) _
                    have HXW := Lib.hid (hXr.call hW); have HRW := Lib.hid (hRr.call hW); have HNW := Lib.hid (hNr.call hW); have HSW := Lib.hid (hSr.below hW); have HBW := Lib.hid (btrans hbr hbr.size hW)
                    have hzw := hW.size
                    refine (Rperf_use _ L2 d.S.length m data _ HSW.out HL2.out n2 hmS).mono ?_
                    rintro e w5 ⟨a5, c5, rfl, hS5, hq5, hb5⟩
                    have n5 := (HNW.out.call hb5).cell 0
                    have f5 := (HNW.out.call hb5).free 0
                    have H5 := Lib.hid hb5; have HS5 := Lib.hid hS5; have HQ5 := Lib.hid hq5; clear hb5 hS5 hq5 hXr hRr hNr hSr hbr hW hL2 n0b w0 w1
                    go_wp2
                    go_roundw
                    case rel => exact ⟨k + 1, a5, c5, by omega, by go_num, (HXW.out.call H5.out).other (i := 0) (c := w2.heap.size) (by omega) _, (HRW.out.call H5.out).other (i := 0) (c := w2.heap.size) (by omega) _, (HNW.out.call H5.out).set 0 _, by rw [HST.out]; exact HS5.out.set _ _ (fun b off h => by have := HQ5.out b off h; simp at this; omega) _, fun b off h => by have := HQ5.out b off h; simp at this; exact ⟨by omega, by omega⟩, below_set (btrans HBW.out HBW.out.size H5.out) w2.heap.size 0 (by omega) _⟩
                    case measure => simp [intOf]; omega
                  · clear hc hc1
                    have t2 : decide (1 ≤ tear) = false := by rw [decide_eq_false_iff_not]; omega
                    go_wp2_with fail
                    have hW : Below wr.heap.size wr (wr.alloc (.cells #[.int .i64 (m : Int), .string (bs data)] 54)) := (Below.refl _ _).alloc (Nat.le_refl _) _
                    have HXW := Lib.hid (hXr.call hW); have HRW := Lib.hid (hRr.call hW); have HNW := Lib.hid (hNr.call hW); have HSW := Lib.hid (hSr.below hW); have HBW := Lib.hid (btrans hbr hbr.size hW)
                    have hzw := hW.size
                    refine (Rperf_use _ L2 d.S.length m data _ HSW.out HL2.out n2 hmS).mono ?_
                    rintro e w5 ⟨a5, c5, rfl, hS5, hq5, hb5⟩
                    have n5 := (HNW.out.call hb5).cell 0
                    have f5 := (HNW.out.call hb5).free 0
                    have H5 := Lib.hid hb5; have HS5 := Lib.hid hS5; have HQ5 := Lib.hid hq5; clear hb5 hS5 hq5 hXr hRr hNr hSr hbr hW hL2 n0b w0 w1
                    go_wp2
                    go_roundw
                    case rel => exact ⟨k + 1, a5, c5, by omega, by go_num, (HXW.out.call H5.out).other (i := 0) (c := w2.heap.size) (by omega) _, (HRW.out.call H5.out).other (i := 0) (c := w2.heap.size) (by omega) _, (HNW.out.call H5.out).set 0 _, by rw [HST.out]; exact HS5.out.set _ _ (fun b off h => by have := HQ5.out b off h; simp at this; omega) _, fun b off h => by have := HQ5.out b off h; simp at this; exact ⟨by omega, by omega⟩, below_set (btrans HBW.out HBW.out.size H5.out) w2.heap.size 0 (by omega) _⟩
                    case measure => simp [intOf]; omega
                · have t1 : ((k : Int) == la) = false := by rw [beq_eq_false_iff_ne]; exact hc1
                  clear hc hc1
                  go_wp2_with fail
                  have hW : Below wr.heap.size wr (wr.alloc (.cells #[.int .i64 (m : Int), .string (bs data)] 54)) := (Below.refl _ _).alloc (Nat.le_refl _) _
                  have HXW := Lib.hid (hXr.call hW); have HRW := Lib.hid (hRr.call hW); have HNW := Lib.hid (hNr.call hW); have HSW := Lib.hid (hSr.below hW); have HBW := Lib.hid (btrans hbr hbr.size hW)
                  have hzw := hW.size
                  refine (Rperf_use _ L2 d.S.length m data _ HSW.out HL2.out n2 hmS).mono ?_
                  rintro e w5 ⟨a5, c5, rfl, hS5, hq5, hb5⟩
                  have n5 := (HNW.out.call hb5).cell 0
                  have f5 := (HNW.out.call hb5).free 0
                  have H5 := Lib.hid hb5; have HS5 := Lib.hid hS5; have HQ5 := Lib.hid hq5; clear hb5 hS5 hq5 hXr hRr hNr hSr hbr hW hL2 n0b w0 w1
                  go_wp2
                  go_roundw
                  case rel => exact ⟨k + 1, a5, c5, by omega, by go_num, (HXW.out.call H5.out).other (i := 0) (c := w2.heap.size) (by omega) _, (HRW.out.call H5.out).other (i := 0) (c := w2.heap.size) (by omega) _, (HNW.out.call H5.out).set 0 _, by rw [HST.out]; exact HS5.out.set _ _ (fun b off h => by have := HQ5.out b off h; simp at this; omega) _, fun b off h => by have := HQ5.out b off h; simp at this; exact ⟨by omega, by omega⟩, below_set (btrans HBW.out HBW.out.size H5.out) w2.heap.size 0 (by omega) _⟩
                  case measure => simp [intOf]; omega
          · obtain rfl : k = (la + 1).toNat := by omega
            have HLE := Lib.hid (show foldC d.P d.S la tear (kf d.P.length kb (la + 1).toNat) = foldC d.P d.S la tear (kf d.P.length kb d.P.length) by rw [U1.out])
            rw [HLE.out] at hSr
            have HLN := Lib.hid (show (foldC d.P d.S la tear (kf d.P.length kb d.P.length)).length = d.S.length by exact (foldC_inv la tear (fun x hx => (HPV.out x hx).2.2) HSV.out _).1)
            have n0 : wr.cell? ⟨w2.heap.size, 0, none⟩ = some (.slice a d.S.length c) := hNr.cell 0
            have n1 : wr.cell? ⟨w2.heap.size, 1, none⟩ = some (.slice pa d.P.length pc) := hNr.cell 1
            have n2 : wr.cell? ⟨w2.heap.size, 2, none⟩ = some (.int .i64 d.fuse) := hNr.cell 2
            have n3 : wr.cell? ⟨w2.heap.size, 3, none⟩ = some (.int .i64 d.ops) := hNr.cell 3
            have n4 : wr.cell? ⟨w2.heap.size, 4, none⟩ = some (.bool d.dead) := hNr.cell 4
            have fn1 := hNr.free 1
            have fn2 := hNr.free 2
            have fn4 := hNr.free 4
            have hN6 := ((hNr.set 1 (.slice none 0 0)).set 4 (.bool false)).set 2 (.int .i64 0)
            have hR6 := ((hRr.other (i := 1) (c := w2.heap.size) (by omega) (.slice none 0 0)).other (i := 4) (c := w2.heap.size) (by omega) (.bool false)).other (i := 2) (c := w2.heap.size) (by omega) (.int .i64 0)
            have hzz : w2.heap.size < wr.heap.size := hNr.lt
            have z0 : (((wr.setCell ⟨w2.heap.size, 1, none⟩ (.slice none 0 0)).setCell ⟨w2.heap.size, 4, none⟩ (.bool false)).setCell ⟨w2.heap.size, 2, none⟩ (.int .i64 0)).cell? ⟨w2.heap.size, 0, none⟩ = some (.slice a d.S.length c) := hN6.cell 0
            have z1 : (((wr.setCell ⟨w2.heap.size, 1, none⟩ (.slice none 0 0)).setCell ⟨w2.heap.size, 4, none⟩ (.bool false)).setCell ⟨w2.heap.size, 2, none⟩ (.int .i64 0)).cell? ⟨w2.heap.size, 1, none⟩ = some (.slice none 0 0) := hN6.cell 1
            have z2 : (((wr.setCell ⟨w2.heap.size, 1, none⟩ (.slice none 0 0)).setCell ⟨w2.heap.size, 4, none⟩ (.bool false)).setCell ⟨w2.heap.size, 2, none⟩ (.int .i64 0)).cell? ⟨w2.heap.size, 2, none⟩ = some (.int .i64 0) := hN6.cell 2
            have z3 : (((wr.setCell ⟨w2.heap.size, 1, none⟩ (.slice none 0 0)).setCell ⟨w2.heap.size, 4, none⟩ (.bool false)).setCell ⟨w2.heap.size, 2, none⟩ (.int .i64 0)).cell? ⟨w2.heap.size, 3, none⟩ = some (.int .i64 d.ops) := hN6.cell 3
            have z4 : (((wr.setCell ⟨w2.heap.size, 1, none⟩ (.slice none 0 0)).setCell ⟨w2.heap.size, 4, none⟩ (.bool false)).setCell ⟨w2.heap.size, 2, none⟩ (.int .i64 0)).cell? ⟨w2.heap.size, 4, none⟩ = some (.bool false) := hN6.cell 4
            have r0 : (((wr.setCell ⟨w2.heap.size, 1, none⟩ (.slice none 0 0)).setCell ⟨w2.heap.size, 4, none⟩ (.bool false)).setCell ⟨w2.heap.size, 2, none⟩ (.int .i64 0)).cell? ⟨w.heap.size + 1, 0, none⟩ = some (.slice none 0 0) := hR6.cell 0
            have r1 : (((wr.setCell ⟨w2.heap.size, 1, none⟩ (.slice none 0 0)).setCell ⟨w2.heap.size, 4, none⟩ (.bool false)).setCell ⟨w2.heap.size, 2, none⟩ (.int .i64 0)).cell? ⟨w.heap.size + 1, 1, none⟩ = some (.slice none 0 0) := hR6.cell 1
            have r2 : (((wr.setCell ⟨w2.heap.size, 1, none⟩ (.slice none 0 0)).setCell ⟨w2.heap.size, 4, none⟩ (.bool false)).setCell ⟨w2.heap.size, 2, none⟩ (.int .i64 0)).cell? ⟨w.heap.size + 1, 2, none⟩ = some (.int .i64 0) := hR6.cell 2
            have r3 : (((wr.setCell ⟨w2.heap.size, 1, none⟩ (.slice none 0 0)).setCell ⟨w2.heap.size, 4, none⟩ (.bool false)).setCell ⟨w2.heap.size, 2, none⟩ (.int .i64 0)).cell? ⟨w.heap.size + 1, 3, none⟩ = some (.int .i64 0) := hR6.cell 3
            have r4 : (((wr.setCell ⟨w2.heap.size, 1, none⟩ (.slice none 0 0)).setCell ⟨w2.heap.size, 4, none⟩ (.bool false)).setCell ⟨w2.heap.size, 2, none⟩ (.int .i64 0)).cell? ⟨w.heap.size + 1, 4, none⟩ = some (.bool false) := hR6.cell 4
            have g0 := hR6.free 0
            have g1 := hR6.free 1
            have g2 := hR6.free 2
            have g3 := hR6.free 3
            have g4 := hR6.free 4
            have HRZ := Lib.hid hRr; have HSZ := Lib.hid hSr; have HBZ := Lib.hid hbr
            clear hN6 hR6 hRr hNr hXr hSr hbr HPV HSV hk2 hle
            go_wp2
            have KK := Lib.hid ((((HRZ.out.other (i := 1) (c := w2.heap.size) (by omega) (.slice none 0 0)).other (i := 4) (c := w2.heap.size) (by omega) (.bool false)).other (i := 2) (c := w2.heap.size) (by omega) (.int .i64 0)).sets (.slice a d.S.length c) (.slice none 0 0) (.int .i64 0) (.int .i64 d.ops) (.bool false))
            have k0 := KK.out.cell 0
            have k1 := KK.out.cell 1
            have k2 := KK.out.cell 2
            have k3 := KK.out.cell 3
            have k4 := KK.out.cell 4
            simp only [List.getElem?_toArray, List.getElem?_cons_zero, List.getElem?_cons_succ] at k0 k1 k2 k3 k4
            refine bodyPost_ret (v := .agg #[.slice a d.S.length c, .slice none 0 0, .int .i64 0, .int .i64 d.ops, .bool false]) (by simp [results, Try.results34, go_sem, k0, k1, k2, k3, k4]) rfl ?_
            rw [HF.out]
            have hBF := below_sets (below_set (below_set (below_set HBZ.out w2.heap.size 1 (by omega) (.slice none 0 0)) w2.heap.size 4 (by omega) (.bool false)) w2.heap.size 2 (by omega) (.int .i64 0)) (w.heap.size + 1) (by omega) (.slice a d.S.length c) (.slice none 0 0) (.int .i64 0) (.int .i64 d.ops) (.bool false)
            refine ⟨a, c, none, 0, by simp [HLN.out], ⟨?_, ⟨none, 0, rfl, Nat.le_refl _, fun h => absurd rfl h⟩, by simp, by simp [HLN.out]; omega⟩, hBF⟩
            simp only [HLN.out]
            exact ((((((((HSZ.out.set w2.heap.size 1 (fun b o h => (HQR.out b o h).1) _).set w2.heap.size 4 (fun b o h => (HQR.out b o h).1) _).set w2.heap.size 2 (fun b o h => (HQR.out b o h).1) _).set (w.heap.size + 1) 0 (fun b o h => (HQR.out b o h).2) _).set (w.heap.size + 1) 1 (fun b o h => (HQR.out b o h).2) _).set (w.heap.size + 1) 2 (fun b o h => (HQR.out b o h).2) _).set (w.heap.size + 1) 3 (fun b o h => (HQR.out b o h).2) _).set (w.heap.size + 1) 4 (fun b o h => (HQR.out b o h).2) _)
end Go.Proofs.Ytnghdolpmmdknaa
