/- The walks of two more laws of layer 3: a sealed string of which one byte is changed; strings that differ in one byte. No conditions. -/
import Derived.Test.YtilfhcnliagdjaaSumLaw
import Derived.ChangeAlike
import Derived.RegionTactic
import Derived.Deep.RegionWith
import Derived.Lib.SmallJoins
namespace Go.Proofs.Ytilfhcnliagdjaa
open Go.RowKit
theorem xor8 (a b : Nat) (ha : a < 256) (hb : b < 256) : bits .xor .u8 (a : Int) (b : Int) = ((a ^^^ b : Nat) : Int) := by
  have hx := Nat.xor_lt_two_pow (x := a) (y := b) (n := 8) (by omega) (by omega)
  have h1 : (BitVec.ofInt 8 (a : Int)).toNat = a := by
    rw [BitVec.ofInt_natCast, BitVec.toNat_ofNat]; exact Nat.mod_eq_of_lt (by omega)
  have h2 : (BitVec.ofInt 8 (b : Int)).toNat = b := by
    rw [BitVec.ofInt_natCast, BitVec.toNat_ofNat]; exact Nat.mod_eq_of_lt (by omega)
  show IntKind.u8.wrap ((BitVec.ofInt 8 (a : Int) ^^^ BitVec.ofInt 8 (b : Int)).toNat : Int) = _
  rw [BitVec.toNat_xor, h1, h2, IntKind.wrap_u8]
  omega
theorem xor8_range (b : UInt8) (c : Int) (c0 : 0 ≤ c) (c1 : c < 256) : 0 ≤ bits .xor .u8 (b.toNat : Int) c ∧ bits .xor .u8 (b.toNat : Int) c < 256 := by
  have hb := b.toNat_lt
  obtain ⟨c, rfl⟩ := Int.eq_ofNat_of_zero_le c0
  rw [xor8 _ _ (by omega) (by omega)]
  have := Nat.xor_lt_two_pow (x := b.toNat) (y := c) (n := 8) (by omega) (by omega)
  omega
theorem changed (l S : List UInt8) (k : Nat) (hS : S = seal' l) (hk : k < S.length) (c : Int) (c0 : 0 ≤ c) (c1 : c < 256) (hc : ¬ c = 0) (hS2 : S.length ≤ 9223372036854775800) :
    (S.take k ++ byt (bits .xor .u8 (S[k].toNat : Int) c) :: S.drop (k + 1)).length ≤ 9223372036854775800 ∧ open' (S.take k ++ byt (bits .xor .u8 (S[k].toNat : Int) c) :: S.drop (k + 1)) = ([], 14) := by
  obtain ⟨c, rfl⟩ := Int.eq_ofNat_of_zero_le c0
  have hb := (S[k]).toNat_lt
  have hne : byt (bits .xor .u8 (S[k].toNat : Int) (c : Int)) ≠ S[k] := by
    intro h
    have h2 : ((byt (bits .xor .u8 (S[k].toNat : Int) (c : Int))).toNat : Int) = (S[k].toNat : Int) := by rw [h]
    rw [byt_toNat _ (xor8_range S[k] c c0 c1).1 (xor8_range S[k] c c0 c1).2, xor8 _ _ (by omega) (by omega)] at h2
    have h3 : S[k].toNat ^^^ c = S[k].toNat ^^^ 0 := by rw [Nat.xor_zero]; omega
    have := xor_cancel_left h3
    omega
  generalize byt (bits .xor .u8 (S[k].toNat : Int) (c : Int)) = b at *
  have e : S.take k ++ b :: S.drop (k + 1) = S.set k b := by rw [List.set_eq_take_append_cons_drop, if_pos hk]
  rw [e, List.length_set]
  refine ⟨hS2, ?_⟩
  subst hS
  have hl := seal'_length l
  have := seal'_changed l k hk b hne
  unfold open'
  rw [List.length_set, hl, if_neg (by omega), Nat.add_sub_cancel, if_neg this]
set_option maxHeartbeats 800000 in
theorem opensLaw (l : List UInt8) (hl : l.length ≤ 140737488351232) (i : Int) (wi : (Lit.int .u16 i).wf = true) (c : Int) (wc : (Lit.int .u8 c).wf = true) (w : World) :
    Calls Try.prog 3 #[.string (bs l), .int .u16 i, .int .u8 c] w fun e w' => e = .returned (.bool true) ∧ Below w.heap.size w w' := by
  obtain ⟨i0, i1⟩ := u16_range wi
  obtain ⟨c0, c1⟩ := u8_range wc
  clear wi wc
  obtain ⟨S, hS⟩ : ∃ S, S = seal' l := ⟨_, rfl⟩
  have hlen : S.length = l.length + 4 := by rw [hS]; exact seal'_length l
  have hop : open' S = (l, 0) := by
    unfold open'
    have e1 : S.take (S.length - 4) = l := by rw [hlen, hS]; simp [seal']
    rw [if_neg (by omega), e1, if_pos hS.symm, ]
  have htk : S.take l.length = l := by rw [hS]; simp [seal']
  have q1 : (l == l) = true := by simp
  have q2 : ((S.length : Int) == (l.length : Int) + 4) = true := by rw [hlen]; simp
  have q3 : ((S.length : Int) != (l.length : Int) + 4) = false := by rw [hlen]; simp
  have hlt : l.length ≤ S.length := by omega
  have hS2 : S.length ≤ 9223372036854775800 := by omega
  have hSp : 0 < S.length := by omega
  have HS := Lib.hid hS; clear hS
  have HL := Lib.hid hlen; clear hlen
  have HOP := Lib.hid hop; clear hop
  by_cases hc : c = 0
  · subst hc
    go_enter Try.func3, Try.ntmps3
    go_wp2_with fail
    refine (Seal_any _ _ (by omega)).mono ?_
    rw [← HS.out]
    rintro e w1 ⟨rfl, hb1⟩
    go_wp2_with fail
    refine (Open_any _ _ hS2).mono ?_
    rw [HOP.out]
    rintro e w2 ⟨rfl, hb2⟩
    have h2 := btrans hb1 hb1.size hb2; clear hb1 hb2
    go_wp2_with fail
    refine (examples_any _).mono ?_
    rintro e w5 ⟨rfl, hb5⟩
    go_wp2
    go_ret
    exact ⟨rfl, btrans h2 h2.size hb5⟩
  · have hcb : (c == 0) = false := by simp [hc]
    obtain ⟨k, hk⟩ : ∃ k : Nat, i % (S.length : Int) = k := ⟨(i % (S.length : Int)).toNat, by rw [Int.toNat_of_nonneg (Int.emod_nonneg _ (by omega))]⟩
    have hk2 : k < S.length := by have := Int.emod_lt_of_pos i (show (0 : Int) < S.length by omega); omega
    have hx := xor8_range S[k] c c0 c1
    have hT : (S.take k ++ byt (bits .xor .u8 (S[k].toNat : Int) c) :: S.drop (k + 1)).length ≤ 9223372036854775800 ∧ open' (S.take k ++ byt (bits .xor .u8 (S[k].toNat : Int) c) :: S.drop (k + 1)) = ([], 14) :=
      changed l S k HS.out hk2 c c0 c1 hc hS2
    clear hc
    obtain ⟨x, hxe⟩ : ∃ x, x = bits .xor .u8 (S[k].toNat : Int) c := ⟨_, rfl⟩
    rw [← hxe] at hx hT
    have HT := Lib.hid hT; clear hT
    go_enter Try.func3, Try.ntmps3
    go_wp2_with fail
    refine (Seal_any _ _ (by omega)).mono ?_
    rw [← HS.out]
    rintro e w1 ⟨rfl, hb1⟩
    go_wp2_with fail
    refine (Open_any _ _ hS2).mono ?_
    rw [HOP.out]
    rintro e w2 ⟨rfl, hb2⟩
    have h2 := btrans hb1 hb1.size hb2; clear hb1 hb2
    have hxe' := hxe.symm
    clear hxe
    have hcv : ∀ (W : World) cap, (convert 28 9 (.slice (some ⟨W.heap.size, 0, none⟩) 1 cap)).run Try.prog (W.alloc (.cells #[.int .u8 x] 5)).drew = .ok (.string (bs [byt x])) (W.alloc (.cells #[.int .u8 x] 5)).drew :=
      fun W cap => run_str_one (P := Try.prog) W.drew x 5 28 9 cap Try.underlying28 Try.underlying5 Try.underlying9 hx.1 hx.2
    go_wp2
    rw [hk]
    go_region
    go_wp2_with fail
    refine (Open_any _ _ HT.out.1).mono ?_
    rw [HT.out.2]
    rintro e w3 ⟨rfl, hb3⟩
    have h3 := btrans (h2.alloc h2.size _).drew (h2.alloc h2.size _).drew.size hb3; clear h2 hb3
    go_wp2_with fail
    refine (examples_any _).mono ?_
    rintro e w5 ⟨rfl, hb5⟩
    go_wp2
    go_ret
    exact ⟨rfl, btrans h3 h3.size hb5⟩

theorem run_str_cell {P : Program} (e src dst : TypeId) (hs : P.underlying src = some (.slice e)) (he : P.underlying e = some (.int .u8)) (hd : P.underlying dst = some .string)
    (W : World) (b : Nat) (x : UInt8) (cap : Nat) (h : W.cell? ⟨b, 0, none⟩ = some (.int .u8 (x.toNat : Int))) :
    (convert src dst (.slice (some ⟨b, 0, none⟩) 1 cap)).run P W = .ok (.string (bs [x])) W := by
  refine Lib.run_convert_whole (P := P) _ src e dst hs he hd b 0 (bs [x]) ?_ cap
  intro i hi
  have hi0 : i = 0 := by rw [bs_size] at hi; simp at hi; exact hi
  subst hi0
  exact h
/-- one new row of one byte behind a world -/
theorem conv1 (W : World) (x : UInt8) : (convert 28 9 (.slice (some ⟨W.heap.size, 0, none⟩) 1 1)).run Try.prog (W.alloc (.cells #[.int .u8 x.toNat] 5)).drew = .ok (.string (bs [x])) (W.alloc (.cells #[.int .u8 x.toNat] 5)).drew :=
  run_str_cell (P := Try.prog) 5 28 9 Try.underlying28 Try.underlying5 Try.underlying9 _ _ x 1 (by
    show (W.alloc (.cells #[.int .u8 x.toNat] 5)).cell? _ = _
    rw [World.cell?_alloc_at _ _ _ _ rfl]; rfl)
theorem conv2a (W : World) (x y : UInt8) : (convert 28 9 (.slice (some ⟨W.heap.size, 0, none⟩) 1 1)).run Try.prog ((W.alloc (.cells #[.int .u8 x.toNat] 5)).alloc (.cells #[.int .u8 y.toNat] 5)).drew = .ok (.string (bs [x])) ((W.alloc (.cells #[.int .u8 x.toNat] 5)).alloc (.cells #[.int .u8 y.toNat] 5)).drew :=
  run_str_cell (P := Try.prog) 5 28 9 Try.underlying28 Try.underlying5 Try.underlying9 _ _ x 1 (by
    show ((W.alloc (.cells #[.int .u8 x.toNat] 5)).alloc (.cells #[.int .u8 y.toNat] 5)).cell? _ = _
    rw [World.cell?_alloc_past _ _ _ (by simp), World.cell?_alloc_at _ _ _ _ rfl]; rfl)
theorem conv2b (W : World) (x y : UInt8) : (convert 28 9 (.slice (some ⟨W.heap.size + 1, 0, none⟩) 1 1)).run Try.prog ((W.alloc (.cells #[.int .u8 x.toNat] 5)).alloc (.cells #[.int .u8 y.toNat] 5)).drew = .ok (.string (bs [y])) ((W.alloc (.cells #[.int .u8 x.toNat] 5)).alloc (.cells #[.int .u8 y.toNat] 5)).drew :=
  run_str_cell (P := Try.prog) 5 28 9 Try.underlying28 Try.underlying5 Try.underlying9 _ _ y 1 (by
    show ((W.alloc (.cells #[.int .u8 x.toNat] 5)).alloc (.cells #[.int .u8 y.toNat] 5)).cell? _ = _
    rw [World.cell?_alloc_at _ _ _ _ (by simp)]; rfl)
set_option maxHeartbeats 1600000 in
theorem differsWalk (a b : List UInt8) (ha : a.length ≤ 140737488351232) (hb : b.length ≤ 140737488351232) (c d : UInt8) (w : World) :
    Calls Try.prog 6 #[.string (bs a), .string (bs b), .agg #[.int .u8 c.toNat, .int .u8 d.toNat]] w fun e w' => e = .returned (.bool true) ∧ Below w.heap.size w w' := by
  have W1 : ∀ o, (w.alloc o).heap.size = w.heap.size + 1 := fun o => by simp
  have f1 := fun o x => conv1 (w.alloc o) x
  have f2 := fun o x y => conv2a (w.alloc o) x y
  have f3 := fun o x y => conv2b (w.alloc o) x y
  simp only [W1] at f1 f2 f3
  clear W1
  have L := Lib.hid (show ∀ x : UInt8, (a ++ x :: b).length ≤ maxLen by intro x; unfold maxLen; rw [List.length_append, List.length_cons]; omega)
  have BL : ∀ A o1 o2, Below w.heap.size w ((((w.alloc A).alloc o1).alloc o2).drew) := fun A o1 o2 => ((((Below.refl _ _).alloc (Nat.le_refl _) _).alloc (by simp) _).alloc (by simp; omega) _).drew
  have BLH := Lib.hid BL; clear BL
  by_cases hcd : c = d
  · subst hcd
    go_enter Try.func6, Try.ntmps6
    go_wp2
    go_region
    all_goals clear f1 f2 f3
    all_goals go_wp2_with fail
    all_goals refine (FNV_any _ _ (L.out _)).mono ?_
    all_goals rintro e w2 ⟨rfl, rfl⟩
    all_goals go_wp2_with fail
    all_goals refine (FNV_any _ _ (L.out _)).mono ?_
    all_goals rintro e w2 ⟨rfl, rfl⟩
    all_goals go_wp2_with fail
    all_goals refine (CRC_any _ _ (L.out _)).mono ?_
    all_goals rintro e w2 ⟨rfl, rfl⟩
    all_goals go_wp2_with fail
    all_goals refine (CRC_any _ _ (L.out _)).mono ?_
    all_goals rintro e w2 ⟨rfl, rfl⟩
    all_goals go_wp2_with fail
    all_goals refine (examples_any _).mono ?_
    all_goals rintro e w2 ⟨rfl, hb2⟩
    all_goals go_wp2
    all_goals go_ret
    all_goals exact ⟨rfl, btrans (BLH.out _ _ _) (BLH.out _ _ _).size hb2⟩
  · have t0 : (((c.toNat : Int) == (d.toNat : Int))) = false := by
      rw [beq_eq_false_iff_ne]; intro h; apply hcd; apply UInt8.toNat_inj.1; omega
    have t1 : (((fnv (a ++ c :: b) : Nat) : Int) != ((fnv (a ++ d :: b) : Nat) : Int)) = true := by
      rw [bne_iff_ne]; intro h; exact fnv_differs a b hcd (by omega)
    have t2 : (((crc (a ++ c :: b) : Nat) : Int) != ((crc (a ++ d :: b) : Nat) : Int)) = true := by
      rw [bne_iff_ne]; intro h; exact crc_differs a b hcd (by omega)
    clear hcd
    go_enter Try.func6, Try.ntmps6
    go_wp2
    go_region
    all_goals clear f1 f2 f3
    all_goals go_wp2_with fail
    all_goals refine (FNV_any _ _ (L.out _)).mono ?_
    all_goals rintro e w2 ⟨rfl, rfl⟩
    all_goals go_wp2_with fail
    all_goals refine (FNV_any _ _ (L.out _)).mono ?_
    all_goals rintro e w2 ⟨rfl, rfl⟩
    all_goals go_wp2_with fail
    all_goals refine (CRC_any _ _ (L.out _)).mono ?_
    all_goals rintro e w2 ⟨rfl, rfl⟩
    all_goals go_wp2_with fail
    all_goals refine (CRC_any _ _ (L.out _)).mono ?_
    all_goals rintro e w2 ⟨rfl, rfl⟩
    all_goals go_wp2_with fail
    all_goals refine (examples_any _).mono ?_
    all_goals rintro e w2 ⟨rfl, hb2⟩
    all_goals go_wp2
    all_goals go_ret
    all_goals exact ⟨rfl, btrans (BLH.out _ _ _) (BLH.out _ _ _).size hb2⟩
theorem differsLaw (a : List UInt8) (ha : a.length ≤ 140737488351232) (b : List UInt8) (hb : b.length ≤ 140737488351232) (c d : Int) (wc : (Lit.int .u8 c).wf = true) (wd : (Lit.int .u8 d).wf = true) (w : World) :
    Calls Try.prog 6 #[.string (bs a), .string (bs b), .agg #[.int .u8 c, .int .u8 d]] w fun e w' => e = .returned (.bool true) ∧ Below w.heap.size w w' := by
  have h := differsWalk a b ha hb (byt c) (byt d) w
  rwa [byt_toNat c (u8_range wc).1 (u8_range wc).2, byt_toNat d (u8_range wd).1 (u8_range wd).2] at h

theorem open_arr2 {H : Type} {enc : TypeId × Value → H} {W : World} {base : Nat} {spare : Nat → Bool} {held : Bool} {r : Reach} {b0 : Nat} {v : Value} {d : DataW H} {p : List MemPlace}
    (hv : Value.okWide Try.prog W r b0 38 v) (h : DataW.Trod enc Try.prog W base spare held 38 v d p) :
    ∃ c e : Int, v = .agg #[.int .u8 c, .int .u8 e] ∧ (Lit.int .u8 c).wf = true ∧ (Lit.int .u8 e).wf = true := by
  simp only [Value.okWide, Try.underlying38] at hv
  obtain ⟨cs, rfl, h2, _⟩ := hv
  rw [show Try.prog.cellsOf 38 = 2 from by kernel_rfl] at h2
  obtain ⟨c0, c1, rfl⟩ := Joins.array2 h2
  obtain ⟨fuel, hf⟩ := h
  obtain ⟨xs, m, _, _, _, hxl, hx⟩ := DataW.trod_array Try.underlying38 hf
  rw [show Try.prog.cellsOf 5 = 1 from by kernel_rfl] at hx
  have x0 := hx 0 (by omega)
  have x1 := hx 1 (by omega)
  rw [List.getElem?_eq_getElem (by omega)] at x0 x1
  obtain ⟨n0, e0, _, w0⟩ := DataW.trod_int Try.underlying5 x0
  obtain ⟨n1, e1, _, w1⟩ := DataW.trod_int Try.underlying5 x1
  simp [Value.cells] at e0 e1
  subst e0 e1
  exact ⟨n0, n1, rfl, w0, w1⟩
end Go.Proofs.Ytilfhcnliagdjaa
