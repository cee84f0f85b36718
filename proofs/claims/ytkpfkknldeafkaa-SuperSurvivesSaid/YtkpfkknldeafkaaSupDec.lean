/- What super's Decode returns. No conditions. -/
import Derived.Test.YtkpfkknldeafkaaSupWalk
import Derived.Test.YtkpfkknldeafkaaSecJoinP
import Derived.Deep.Cut
import Derived.Deep.CutRange
import Derived.Deep.DeepCutAuto
namespace Go.Proofs.Ytkpfkknldeafkaa
open Go.RowKit

theorem take4_list {A : List Nat} (h : A.length = 4) : ∃ a b c d, A = [a, b, c, d] := by
  match A, h with
  | [a, b, c, d], _ => exact ⟨a, b, c, d, rfl⟩
theorem takeV_eq {s : List UInt8} {n : Int} {u : Nat} {a e : Int} (h : takeS s n = (u, a, e)) : Ending.returned (takeV (takeS s n)) = .returned (.tuple #[.int .u64 (u : Int), .int .i64 a, .int .i64 e]) := by rw [h]; rfl

set_option maxRecDepth 100000 in
set_option maxHeartbeats 8000000 in
theorem SDecode_any (s : List UInt8) (w : World) (hl : s.length ≤ 9223372036854775807) :
    Calls Try.prog 21 #[.string (bs s)] w fun e w' => e = .returned (.tuple #[.agg (spV (decS s).1), .int .i64 (decS s).2]) ∧ Below w.heap.size w w' := by
  have hb0 := (Below.refl w.heap.size w).alloc (Nat.le_refl _) (.cells (spV sp0) 23)
  have hR := Bx.new w (spV sp0) 23
  have HR := Lib.hid hR; have HB0 := Lib.hid hb0; clear hR hb0
  obtain ⟨⟨⟨g, p, q⟩, data, er⟩, ho⟩ : ∃ r, openS s = r := ⟨_, rfl⟩
  have hdl : data.length ≤ 40 := by have := openS_len s; rw [ho] at this; exact this
  have HO := Lib.hid ho; clear ho
  go_enter Try.func21, Try.ntmps21
  go_wp2_with fail
  refine (Open_any s _ hl).mono ?_
  rw [HO.out]
  rintro e w1 ⟨rfl, hb1⟩
  have hS1 := Bx.new w1 #[.int .i64 g, .int .i64 p, .int .i64 q] 87
  have hal := (Below.refl w1.heap.size w1).alloc (Nat.le_refl _) (.cells #[.int .i64 g, .int .i64 p, .int .i64 q] 87)
  have HR1 := Lib.hid (HR.out.call hb1); have HS1 := Lib.hid hS1; have HB1 := Lib.hid (btrans HB0.out HB0.out.size hb1); have HB2 := Lib.hid (btrans (btrans HB0.out HB0.out.size hb1) (btrans HB0.out HB0.out.size hb1).size hal)
  have z1 : w.heap.size < w1.heap.size := by have := hb1.size; simp at this; omega
  have HRW := Lib.hid ((HR.out.call hb1).alloc (.cells #[.int .i64 g, .int .i64 p, .int .i64 q] 87))
  clear hS1 hal hb1 HR HB0 HR1 HB1
  go_upto_region 2 with (fail)
  generalize hW2 : w1.alloc (.cells #[.int .i64 g, .int .i64 p, .int .i64 q] 87) = w2 at HS1 HB2 HRW ⊢
  clear hW2
  have z2 : w1.heap.size < w2.heap.size := HS1.out.lt
  by_cases her : er = 0
  · subst her
    have s0 : w2.cell? ⟨w1.heap.size, 0, none⟩ = some (.int .i64 g) := HS1.out.cell 0
    have s1 : w2.cell? ⟨w1.heap.size, 1, none⟩ = some (.int .i64 p) := HS1.out.cell 1
    have s2 : w2.cell? ⟨w1.heap.size, 2, none⟩ = some (.int .i64 q) := HS1.out.cell 2
    have zw : w.heap.size < w2.heap.size := by omega
    by_cases hp : p = 0
    · by_cases hq : q = 1
      · skip
        have tp : (p != 0) = false := by rw [hp]; rfl
        have tq : (q != 1) = false := by rw [hq]; rfl
        have HP := Lib.hid hp; have HQ := Lib.hid hq; clear hp hq
        have HD := Lib.hid (show decS s = decD g data by unfold decS; rw [HO.out]; simp only; rw [if_neg (by simp), if_pos ⟨HP.out, HQ.out⟩])
        go_wp2
        clear s0 s1 s2 tp tq
        have hA0 := Bx.new w2 (u64A [0, 0, 0, 0]) 90
        have hal2 := (Below.refl w2.heap.size w2).alloc (Nat.le_refl _) (.cells (u64A [0, 0, 0, 0]) 90)
        have HA := Lib.hid hA0; have HR2 := Lib.hid (HRW.out.alloc (.cells (u64A [0, 0, 0, 0]) 90)); have HS2 := Lib.hid (HS1.out.alloc (.cells (u64A [0, 0, 0, 0]) 90)); have HB3 := Lib.hid (btrans HB2.out HB2.out.size hal2); clear hA0 hal2
        go_loopw [8, 9, 34] (fun at_ bg i wr => ∃ (k : Nat) (ns A : List Nat) (a : Int), k ≤ 4 ∧ i = .int .i64 k ∧ at_ = .int .i64 a ∧ bg = .bool (bigB ns) ∧ tkN data k = (ns, a, 0) ∧ 0 ≤ a ∧ a ≤ 40 ∧ A.length = 4 ∧ A.take k = ns ∧ (∀ n ∈ ns, n < 18446744073709551616) ∧ Bx w.heap.size (spV sp0) 23 wr ∧ Bx w1.heap.size #[.int .i64 g, .int .i64 p, .int .i64 q] 87 wr ∧ Bx (w2.heap.size) (u64A A) 90 wr ∧ Below w.heap.size w wr) (fun _ _ i _ => 4 - (intOf i).toNat)
        case atStart => exact ⟨0, [], [0, 0, 0, 0], 0, by omega, rfl, rfl, rfl, rfl, by omega, by omega, rfl, rfl, by simp, HR2.out, HS2.out, HA.out, HB3.out⟩
        case round =>
          obtain ⟨k, ns, A, a, hk, rfl, rfl, rfl, ht, ha0, ha40, hAl, hAt, hnb, hRr, hSr, hAr, hbr⟩ := hrel
          have HT := Lib.hid ht; have HAT := Lib.hid hAt; have HAL := Lib.hid hAl; have HNB := Lib.hid hnb; have HRR := Lib.hid hRr; have HSR := Lib.hid hSr; have HAR := Lib.hid hAr; have HBR := Lib.hid hbr; clear ht hAt hAl hnb hRr hSr hAr hbr
          by_cases hlt : k < 4
          · have hlt' : (k : Int) < 4 := by omega
            obtain ⟨⟨u, a2, e2⟩, htk⟩ : ∃ r, takeS data a = r := ⟨_, rfl⟩
            have hbd := takeS_bounds data a
            rw [htk] at hbd
            simp only at hbd
            obtain ⟨b1, b2, b3, b4, b5, b6⟩ := hbd
            have HTK := Lib.hid htk; clear htk
            go_wp2_with fail
            refine (TakeUint_any data a wr (by omega)).mono ?_
            rw [takeV_eq HTK.out]
            rintro e w3 ⟨rfl, rfl⟩
            by_cases he2 : e2 = 0
            · subst he2
              have htk1 := tkN_ok HT.out HTK.out
              have HTK1 := Lib.hid htk1; clear htk1
              have y : wr.cell? ⟨w2.heap.size, k, none⟩ = some (.int .u64 (A[k]'(by rw [HAL.out]; exact hlt) : Int)) := by rw [HAR.out.cell k]; exact u64A_get A k (by rw [HAL.out]; exact hlt)
              have fy := HAR.out.free k
              have hu0 : (0 : Int) ≤ (u : Int) := by omega
              have HBG := Lib.hid (bigB_snoc ns u)
              have HS5 := Lib.hid (HAR.out.set k (.int .u64 (u : Int)))
              cases hbig : bigB ns with
              | true =>
                have HBI := Lib.hid hbig; clear hbig
                go_wp2
                go_roundw
                case rel => exact ⟨k + 1, ns ++ [u], A.set k u, a2, by omega, by go_num, rfl, by rw [HBG.out, HBI.out]; first | rfl | simp, HTK1.out, b2, by omega, by rw [List.length_set]; exact HAL.out, take_set A k u ns (by rw [HAL.out]; exact hlt) HAT.out, (fun n hn => by rcases List.mem_append.1 hn with h | h; exact HNB.out n h; rw [List.mem_singleton.1 h]; exact b1), HRR.out.other (by omega) _, HSR.out.other (by omega) _, by rw [← u64A_set]; exact HS5.out, HBR.out.setCell (by simp; omega) _⟩
                case measure => simp [intOf]; omega
              | false =>
                have HBI := Lib.hid hbig; clear hbig
                go_wp2
                go_roundw
                case rel => exact ⟨k + 1, ns ++ [u], A.set k u, a2, by omega, by go_num, rfl, by rw [HBG.out, HBI.out]; first | rfl | simp, HTK1.out, b2, by omega, by rw [List.length_set]; exact HAL.out, take_set A k u ns (by rw [HAL.out]; exact hlt) HAT.out, (fun n hn => by rcases List.mem_append.1 hn with h | h; exact HNB.out n h; rw [List.mem_singleton.1 h]; exact b1), HRR.out.other (by omega) _, HSR.out.other (by omega) _, by rw [← u64A_set]; exact HS5.out, HBR.out.setCell (by simp; omega) _⟩
                case measure => simp [intOf]; omega
            · have t2 : (e2 != 0) = true := by rw [bne_iff_ne]; exact he2
              have HE2 := Lib.hid he2; clear he2
              have r0 : wr.cell? ⟨w.heap.size, 0, none⟩ = some (.int .i64 0) := HRR.out.cell 0
              have r1 : wr.cell? ⟨w.heap.size, 1, none⟩ = some (.int .i64 0) := HRR.out.cell 1
              have r2 : wr.cell? ⟨w.heap.size, 2, none⟩ = some (.int .i64 0) := HRR.out.cell 2
              have r3 : wr.cell? ⟨w.heap.size, 3, none⟩ = some (.int .i64 0) := HRR.out.cell 3
              have r4 : wr.cell? ⟨w.heap.size, 4, none⟩ = some (.int .i64 0) := HRR.out.cell 4
              have f0 := HRR.out.free 0
              have f1 := HRR.out.free 1
              have f2 := HRR.out.free 2
              have f3 := HRR.out.free 3
              have f4 := HRR.out.free 4
              have HK := Lib.hid (HRR.out.sets (.int .i64 0) (.int .i64 0) (.int .i64 0) (.int .i64 0) (.int .i64 0))
              have HDEC := Lib.hid (show decS s = (sp0, e2) by rw [HD.out]; have h := tkN_stay (tkN_bad HT.out (by rw [HTK.out]) HE2.out) HE2.out (3 - k); rw [show k + 1 + (3 - k) = 4 by omega] at h; exact decD_bad h HE2.out)
              go_wp2
              have k0 := HK.out.cell 0
              have k1 := HK.out.cell 1
              have k2 := HK.out.cell 2
              have k3 := HK.out.cell 3
              have k4 := HK.out.cell 4
              simp only [List.getElem?_toArray, List.getElem?_cons_zero, List.getElem?_cons_succ] at k0 k1 k2 k3 k4
              rw [HDEC.out]
              refine bodyPost_ret (v := .tuple #[.agg (spV sp0), .int .i64 e2]) (by simp [results, Try.results21, go_sem, spV, sp0, k0, k1, k2, k3, k4]) rfl ⟨rfl, ?_⟩
              exact below_sets HBR.out w.heap.size (Nat.le_refl _) _ _ _ _ _
          · obtain rfl : k = 4 := by omega
            obtain ⟨n0, n1, n2, n3, rfl⟩ := take4_list HAL.out
            have hns : ns = [n0, n1, n2, n3] := by rw [← HAT.out]; rfl
            subst hns
            have hb := HNB.out
            have b0 := hb n0 (by simp); have b1 := hb n1 (by simp); have b2 := hb n2 (by simp); have b3 := hb n3 (by simp)
            clear hb
            have HSP := Lib.hid (show mkSp g [n0, n1, n2, n3] = ⟨g, (n0 : Int), (n1 : Int), (n2 : Int), (n3 : Int)⟩ from rfl)
            by_cases hat : a = (data.length : Int)
            · have HAT2 := Lib.hid hat
              have tat : (a != (data.length : Int)) = false := by rw [hat]; simp
              clear hat
              cases hbig : bigB [n0, n1, n2, n3] with
              | true =>
                have HBI := Lib.hid hbig; clear hbig
                have r0 : wr.cell? ⟨w.heap.size, 0, none⟩ = some (.int .i64 0) := HRR.out.cell 0
                have r1 : wr.cell? ⟨w.heap.size, 1, none⟩ = some (.int .i64 0) := HRR.out.cell 1
                have r2 : wr.cell? ⟨w.heap.size, 2, none⟩ = some (.int .i64 0) := HRR.out.cell 2
                have r3 : wr.cell? ⟨w.heap.size, 3, none⟩ = some (.int .i64 0) := HRR.out.cell 3
                have r4 : wr.cell? ⟨w.heap.size, 4, none⟩ = some (.int .i64 0) := HRR.out.cell 4
                have f0 := HRR.out.free 0
                have f1 := HRR.out.free 1
                have f2 := HRR.out.free 2
                have f3 := HRR.out.free 3
                have f4 := HRR.out.free 4
                have HK := Lib.hid (HRR.out.sets (.int .i64 0) (.int .i64 0) (.int .i64 0) (.int .i64 0) (.int .i64 0))
                have HDEC := Lib.hid (show decS s = (sp0, 5) by rw [HD.out]; refine decD_no HT.out ?_; rw [HBI.out]; simp)
                go_wp2
                have k0 := HK.out.cell 0
                have k1 := HK.out.cell 1
                have k2 := HK.out.cell 2
                have k3 := HK.out.cell 3
                have k4 := HK.out.cell 4
                simp only [List.getElem?_toArray, List.getElem?_cons_zero, List.getElem?_cons_succ] at k0 k1 k2 k3 k4
                rw [HDEC.out]
                refine bodyPost_ret (v := .tuple #[.agg (spV sp0), .int .i64 5]) (by simp [results, Try.results21, go_sem, spV, sp0, k0, k1, k2, k3, k4]) rfl ⟨rfl, ?_⟩
                exact below_sets HBR.out w.heap.size (Nat.le_refl _) _ _ _ _ _
              | false =>
                have HFIT := Lib.hid hbig; clear hbig
                have hf := HFIT.out
                simp only [bigB, List.any_cons, List.any_nil, Bool.or_false, Bool.or_eq_false_iff, decide_eq_false_iff_not] at hf
                obtain ⟨f0, f1, f2, f3⟩ := hf
                have c0 : (n0 : Int) ≤ 1099511627776 := by omega
                have c1 : (n1 : Int) ≤ 1099511627776 := by omega
                have c2 : (n2 : Int) ≤ 1099511627776 := by omega
                have c3 : (n3 : Int) ≤ 1099511627776 := by omega
                clear f0 f1 f2 f3
                have s0 : wr.cell? ⟨w1.heap.size, 0, none⟩ = some (.int .i64 g) := HSR.out.cell 0
                have s1 : wr.cell? ⟨w1.heap.size, 1, none⟩ = some (.int .i64 p) := HSR.out.cell 1
                have s2 : wr.cell? ⟨w1.heap.size, 2, none⟩ = some (.int .i64 q) := HSR.out.cell 2
                have y0 : wr.cell? ⟨w2.heap.size, 0, none⟩ = some (.int .u64 (n0 : Int)) := HAR.out.cell 0
                have y1 : wr.cell? ⟨w2.heap.size, 1, none⟩ = some (.int .u64 (n1 : Int)) := HAR.out.cell 1
                have y2 : wr.cell? ⟨w2.heap.size, 2, none⟩ = some (.int .u64 (n2 : Int)) := HAR.out.cell 2
                have y3 : wr.cell? ⟨w2.heap.size, 3, none⟩ = some (.int .u64 (n3 : Int)) := HAR.out.cell 3
                have hx := Bx.new wr (spV ⟨g, (n0 : Int), (n1 : Int), (n2 : Int), (n3 : Int)⟩) 23
                have hal := (Below.refl wr.heap.size wr).alloc (Nat.le_refl _) (.cells (spV ⟨g, (n0 : Int), (n1 : Int), (n2 : Int), (n3 : Int)⟩) 23)
                have x0 : (wr.alloc (.cells (spV ⟨g, (n0 : Int), (n1 : Int), (n2 : Int), (n3 : Int)⟩) 23)).cell? ⟨wr.heap.size, 0, none⟩ = some (.int .i64 g) := hx.cell 0
                have x1 : (wr.alloc (.cells (spV ⟨g, (n0 : Int), (n1 : Int), (n2 : Int), (n3 : Int)⟩) 23)).cell? ⟨wr.heap.size, 1, none⟩ = some (.int .i64 (n0 : Int)) := hx.cell 1
                have x2 : (wr.alloc (.cells (spV ⟨g, (n0 : Int), (n1 : Int), (n2 : Int), (n3 : Int)⟩) 23)).cell? ⟨wr.heap.size, 2, none⟩ = some (.int .i64 (n1 : Int)) := hx.cell 2
                have x3 : (wr.alloc (.cells (spV ⟨g, (n0 : Int), (n1 : Int), (n2 : Int), (n3 : Int)⟩) 23)).cell? ⟨wr.heap.size, 3, none⟩ = some (.int .i64 (n2 : Int)) := hx.cell 3
                have x4 : (wr.alloc (.cells (spV ⟨g, (n0 : Int), (n1 : Int), (n2 : Int), (n3 : Int)⟩) 23)).cell? ⟨wr.heap.size, 4, none⟩ = some (.int .i64 (n3 : Int)) := hx.cell 4
                have HX := Lib.hid hx; have HBX := Lib.hid (btrans HBR.out HBR.out.size hal); have HRX := Lib.hid (HRR.out.alloc (.cells (spV ⟨g, (n0 : Int), (n1 : Int), (n2 : Int), (n3 : Int)⟩) 23)); clear hx hal
                have zr : w.heap.size < wr.heap.size := HRR.out.lt
                go_wp2_with fail
                refine (SValid_any ⟨g, (n0 : Int), (n1 : Int), (n2 : Int), (n3 : Int)⟩ _).mono ?_
                cases hv : spB ⟨g, (n0 : Int), (n1 : Int), (n2 : Int), (n3 : Int)⟩ with
                | false =>
                  rintro e w5 ⟨rfl, hb5⟩
                  have HV := Lib.hid hv; clear hv s0 s1 s2 y0 y1 y2 y3 x0 x1 x2 x3 x4
                  have HR5 := Lib.hid (HRX.out.call hb5); have HB5 := Lib.hid (btrans HBX.out HBX.out.size hb5); clear hb5
                  have r0 : w5.cell? ⟨w.heap.size, 0, none⟩ = some (.int .i64 0) := HR5.out.cell 0
                  have r1 : w5.cell? ⟨w.heap.size, 1, none⟩ = some (.int .i64 0) := HR5.out.cell 1
                  have r2 : w5.cell? ⟨w.heap.size, 2, none⟩ = some (.int .i64 0) := HR5.out.cell 2
                  have r3 : w5.cell? ⟨w.heap.size, 3, none⟩ = some (.int .i64 0) := HR5.out.cell 3
                  have r4 : w5.cell? ⟨w.heap.size, 4, none⟩ = some (.int .i64 0) := HR5.out.cell 4
                  have f0 := HR5.out.free 0
                  have f1 := HR5.out.free 1
                  have f2 := HR5.out.free 2
                  have f3 := HR5.out.free 3
                  have f4 := HR5.out.free 4
                  have HK := Lib.hid (HR5.out.sets (.int .i64 0) (.int .i64 0) (.int .i64 0) (.int .i64 0) (.int .i64 0))
                  have HDEC := Lib.hid (show decS s = (sp0, 5) by rw [HD.out]; refine decD_no HT.out ?_; rw [HSP.out, HV.out]; simp)
                  go_wp2
                  have k0 := HK.out.cell 0
                  have k1 := HK.out.cell 1
                  have k2 := HK.out.cell 2
                  have k3 := HK.out.cell 3
                  have k4 := HK.out.cell 4
                  simp only [List.getElem?_toArray, List.getElem?_cons_zero, List.getElem?_cons_succ] at k0 k1 k2 k3 k4
                  rw [HDEC.out]
                  refine bodyPost_ret (v := .tuple #[.agg (spV sp0), .int .i64 5]) (by simp [results, Try.results21, go_sem, spV, sp0, k0, k1, k2, k3, k4]) rfl ⟨rfl, ?_⟩
                  exact below_sets HB5.out w.heap.size (Nat.le_refl _) _ _ _ _ _
                | true =>
                  rintro e w5 ⟨rfl, hb5⟩
                  have HV := Lib.hid hv; clear hv s0 s1 s2 y0 y1 y2 y3 x0 x1 x2 x3 x4
                  have HR5 := Lib.hid (HRX.out.call hb5); have HX5 := Lib.hid (HX.out.call hb5); have HB5 := Lib.hid (btrans HBX.out HBX.out.size hb5); clear hb5
                  have x0 : w5.cell? ⟨wr.heap.size, 0, none⟩ = some (.int .i64 g) := HX5.out.cell 0
                  have x1 : w5.cell? ⟨wr.heap.size, 1, none⟩ = some (.int .i64 (n0 : Int)) := HX5.out.cell 1
                  have x2 : w5.cell? ⟨wr.heap.size, 2, none⟩ = some (.int .i64 (n1 : Int)) := HX5.out.cell 2
                  have x3 : w5.cell? ⟨wr.heap.size, 3, none⟩ = some (.int .i64 (n2 : Int)) := HX5.out.cell 3
                  have x4 : w5.cell? ⟨wr.heap.size, 4, none⟩ = some (.int .i64 (n3 : Int)) := HX5.out.cell 4
                  have r0 : w5.cell? ⟨w.heap.size, 0, none⟩ = some (.int .i64 0) := HR5.out.cell 0
                  have r1 : w5.cell? ⟨w.heap.size, 1, none⟩ = some (.int .i64 0) := HR5.out.cell 1
                  have r2 : w5.cell? ⟨w.heap.size, 2, none⟩ = some (.int .i64 0) := HR5.out.cell 2
                  have r3 : w5.cell? ⟨w.heap.size, 3, none⟩ = some (.int .i64 0) := HR5.out.cell 3
                  have r4 : w5.cell? ⟨w.heap.size, 4, none⟩ = some (.int .i64 0) := HR5.out.cell 4
                  have f0 := HR5.out.free 0
                  have f1 := HR5.out.free 1
                  have f2 := HR5.out.free 2
                  have f3 := HR5.out.free 3
                  have f4 := HR5.out.free 4
                  have HK := Lib.hid (HR5.out.sets (.int .i64 g) (.int .i64 (n0 : Int)) (.int .i64 (n1 : Int)) (.int .i64 (n2 : Int)) (.int .i64 (n3 : Int)))
                  have HDEC := Lib.hid (show decS s = (⟨g, (n0 : Int), (n1 : Int), (n2 : Int), (n3 : Int)⟩, 0) by rw [HD.out, ← HSP.out]; exact decD_ok HT.out HAT2.out HFIT.out (by rw [HSP.out]; exact HV.out))
                  go_wp2
                  have k0 := HK.out.cell 0
                  have k1 := HK.out.cell 1
                  have k2 := HK.out.cell 2
                  have k3 := HK.out.cell 3
                  have k4 := HK.out.cell 4
                  simp only [List.getElem?_toArray, List.getElem?_cons_zero, List.getElem?_cons_succ] at k0 k1 k2 k3 k4
                  rw [HDEC.out]
                  refine bodyPost_ret (v := .tuple #[.agg (spV ⟨g, (n0 : Int), (n1 : Int), (n2 : Int), (n3 : Int)⟩), .int .i64 0]) (by simp [results, Try.results21, go_sem, spV, k0, k1, k2, k3, k4]) rfl ⟨rfl, ?_⟩
                  exact below_sets HB5.out w.heap.size (Nat.le_refl _) _ _ _ _ _
            · have tat : (a != (data.length : Int)) = true := by rw [bne_iff_ne]; exact hat
              have HAT2 := Lib.hid hat; clear hat
              have r0 : wr.cell? ⟨w.heap.size, 0, none⟩ = some (.int .i64 0) := HRR.out.cell 0
              have r1 : wr.cell? ⟨w.heap.size, 1, none⟩ = some (.int .i64 0) := HRR.out.cell 1
              have r2 : wr.cell? ⟨w.heap.size, 2, none⟩ = some (.int .i64 0) := HRR.out.cell 2
              have r3 : wr.cell? ⟨w.heap.size, 3, none⟩ = some (.int .i64 0) := HRR.out.cell 3
              have r4 : wr.cell? ⟨w.heap.size, 4, none⟩ = some (.int .i64 0) := HRR.out.cell 4
              have f0 := HRR.out.free 0
              have f1 := HRR.out.free 1
              have f2 := HRR.out.free 2
              have f3 := HRR.out.free 3
              have f4 := HRR.out.free 4
              have HK := Lib.hid (HRR.out.sets (.int .i64 0) (.int .i64 0) (.int .i64 0) (.int .i64 0) (.int .i64 0))
              have HDEC := Lib.hid (show decS s = (sp0, 5) by rw [HD.out]; exact decD_no HT.out (fun h => HAT2.out h.1))
              go_wp2
              have k0 := HK.out.cell 0
              have k1 := HK.out.cell 1
              have k2 := HK.out.cell 2
              have k3 := HK.out.cell 3
              have k4 := HK.out.cell 4
              simp only [List.getElem?_toArray, List.getElem?_cons_zero, List.getElem?_cons_succ] at k0 k1 k2 k3 k4
              rw [HDEC.out]
              refine bodyPost_ret (v := .tuple #[.agg (spV sp0), .int .i64 5]) (by simp [results, Try.results21, go_sem, spV, sp0, k0, k1, k2, k3, k4]) rfl ⟨rfl, ?_⟩
              exact below_sets HBR.out w.heap.size (Nat.le_refl _) _ _ _ _ _
      · have tp : (p != 0) = false := by rw [hp]; rfl
        have tq : (q != 1) = true := by rw [bne_iff_ne]; exact hq
        have HQ := Lib.hid hq; clear hq hp
        have r0 : w2.cell? ⟨w.heap.size, 0, none⟩ = some (.int .i64 0) := HRW.out.cell 0
        have r1 : w2.cell? ⟨w.heap.size, 1, none⟩ = some (.int .i64 0) := HRW.out.cell 1
        have r2 : w2.cell? ⟨w.heap.size, 2, none⟩ = some (.int .i64 0) := HRW.out.cell 2
        have r3 : w2.cell? ⟨w.heap.size, 3, none⟩ = some (.int .i64 0) := HRW.out.cell 3
        have r4 : w2.cell? ⟨w.heap.size, 4, none⟩ = some (.int .i64 0) := HRW.out.cell 4
        have f0 := HRW.out.free 0
        have f1 := HRW.out.free 1
        have f2 := HRW.out.free 2
        have f3 := HRW.out.free 3
        have f4 := HRW.out.free 4
        have HK := Lib.hid (HRW.out.sets (.int .i64 0) (.int .i64 0) (.int .i64 0) (.int .i64 0) (.int .i64 0))
        have HDEC := Lib.hid (show decS s = (sp0, 5) by unfold decS; rw [HO.out]; simp only; rw [if_neg (by simp), if_neg (fun h => HQ.out h.2)])
        go_wp2
        have k0 := HK.out.cell 0
        have k1 := HK.out.cell 1
        have k2 := HK.out.cell 2
        have k3 := HK.out.cell 3
        have k4 := HK.out.cell 4
        simp only [List.getElem?_toArray, List.getElem?_cons_zero, List.getElem?_cons_succ] at k0 k1 k2 k3 k4
        rw [HDEC.out]
        refine bodyPost_ret (v := .tuple #[.agg (spV sp0), .int .i64 5]) (by simp [results, Try.results21, go_sem, spV, sp0, k0, k1, k2, k3, k4]) rfl ⟨rfl, ?_⟩
        exact below_sets HB2.out w.heap.size (Nat.le_refl _) _ _ _ _ _
    · have tp : (p != 0) = true := by rw [bne_iff_ne]; exact hp
      have HP := Lib.hid hp; clear hp
      have r0 : w2.cell? ⟨w.heap.size, 0, none⟩ = some (.int .i64 0) := HRW.out.cell 0
      have r1 : w2.cell? ⟨w.heap.size, 1, none⟩ = some (.int .i64 0) := HRW.out.cell 1
      have r2 : w2.cell? ⟨w.heap.size, 2, none⟩ = some (.int .i64 0) := HRW.out.cell 2
      have r3 : w2.cell? ⟨w.heap.size, 3, none⟩ = some (.int .i64 0) := HRW.out.cell 3
      have r4 : w2.cell? ⟨w.heap.size, 4, none⟩ = some (.int .i64 0) := HRW.out.cell 4
      have f0 := HRW.out.free 0
      have f1 := HRW.out.free 1
      have f2 := HRW.out.free 2
      have f3 := HRW.out.free 3
      have f4 := HRW.out.free 4
      have HK := Lib.hid (HRW.out.sets (.int .i64 0) (.int .i64 0) (.int .i64 0) (.int .i64 0) (.int .i64 0))
      have HDEC := Lib.hid (show decS s = (sp0, 5) by unfold decS; rw [HO.out]; simp only; rw [if_neg (by simp), if_neg (fun h => HP.out h.1)])
      go_wp2
      have k0 := HK.out.cell 0
      have k1 := HK.out.cell 1
      have k2 := HK.out.cell 2
      have k3 := HK.out.cell 3
      have k4 := HK.out.cell 4
      simp only [List.getElem?_toArray, List.getElem?_cons_zero, List.getElem?_cons_succ] at k0 k1 k2 k3 k4
      rw [HDEC.out]
      refine bodyPost_ret (v := .tuple #[.agg (spV sp0), .int .i64 5]) (by simp [results, Try.results21, go_sem, spV, sp0, k0, k1, k2, k3, k4]) rfl ⟨rfl, ?_⟩
      exact below_sets HB2.out w.heap.size (Nat.le_refl _) _ _ _ _ _
  · have te : (er != 0) = true := by rw [bne_iff_ne]; exact her
    have HER := Lib.hid her; clear her
    have r0 : w2.cell? ⟨w.heap.size, 0, none⟩ = some (.int .i64 0) := HRW.out.cell 0
    have r1 : w2.cell? ⟨w.heap.size, 1, none⟩ = some (.int .i64 0) := HRW.out.cell 1
    have r2 : w2.cell? ⟨w.heap.size, 2, none⟩ = some (.int .i64 0) := HRW.out.cell 2
    have r3 : w2.cell? ⟨w.heap.size, 3, none⟩ = some (.int .i64 0) := HRW.out.cell 3
    have r4 : w2.cell? ⟨w.heap.size, 4, none⟩ = some (.int .i64 0) := HRW.out.cell 4
    have f0 := HRW.out.free 0
    have f1 := HRW.out.free 1
    have f2 := HRW.out.free 2
    have f3 := HRW.out.free 3
    have f4 := HRW.out.free 4
    have HK := Lib.hid (HRW.out.sets (.int .i64 0) (.int .i64 0) (.int .i64 0) (.int .i64 0) (.int .i64 0))
    have HDEC := Lib.hid (show decS s = (sp0, er) by unfold decS; rw [HO.out]; simp only; rw [if_pos HER.out])
    go_wp2
    have k0 := HK.out.cell 0
    have k1 := HK.out.cell 1
    have k2 := HK.out.cell 2
    have k3 := HK.out.cell 3
    have k4 := HK.out.cell 4
    simp only [List.getElem?_toArray, List.getElem?_cons_zero, List.getElem?_cons_succ] at k0 k1 k2 k3 k4
    rw [HDEC.out]
    refine bodyPost_ret (v := .tuple #[.agg (spV sp0), .int .i64 er]) (by simp [results, Try.results21, go_sem, spV, sp0, k0, k1, k2, k3, k4]) rfl ⟨rfl, ?_⟩
    exact below_sets HB2.out w.heap.size (Nat.le_refl _) _ _ _ _ _
end Go.Proofs.Ytkpfkknldeafkaa
