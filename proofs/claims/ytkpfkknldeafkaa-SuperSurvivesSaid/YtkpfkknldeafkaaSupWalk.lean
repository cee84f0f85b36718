/- What super's Valid and Encode return. No conditions. -/
import Derived.Test.YtkpfkknldeafkaaSupP
import Derived.Test.YtkpfkknldeafkaaWireRef
import Derived.Lib.AppendStr
import Derived.Deep.RegionLaw
import Derived.Outline
namespace Go.Proofs.Ytkpfkknldeafkaa
open Go.RowKit

theorem Bx.new1 (w : World) (a : Obj) (cs : Array Value) (T : TypeId) : Bx (w.heap.size + 1) cs T ((w.alloc a).alloc (.cells cs T)) := by
  have := Bx.new (w.alloc a) cs T; simpa using this
theorem Bx.new2 (w : World) (a b : Obj) (cs : Array Value) (T : TypeId) : Bx (w.heap.size + 2) cs T (((w.alloc a).alloc b).alloc (.cells cs T)) := by
  have := Bx.new ((w.alloc a).alloc b) cs T; simpa using this

/-- 'append(data[:len(data):len(data)], s...)': a row without spare capacity grows into a new one -/
theorem run_append_full {P : Program} (w : World) (t u ty e : TypeId) (i : TypeInfo) (ht : P.underlying t = some (.slice e)) (hu : P.underlying u = some .string) (hi : P.info? e = some i) (hz : i.zero = some (.int .u8 0))
    (hsize : i.size = 1) (hby : i.bytes = 1) (g n : Nat) (xs : List Value) (hxl : xs.length = n) (holds : ∀ j u, xs[j]? = some u → w.cell? ⟨g, 0 + j, none⟩ = some u) (s : ByteArray) (h0 : 0 < s.size) (hbytes : n + s.size ≤ 1000000) :
    ∃ v' w', (Builtin.append_ #[t, u] ty #[.slice (some ⟨g, 0, none⟩) n n, .string s]).run P w = .ok v' w' ∧ w'.ownsRow w.heap.size e 1 v' (n + s.size) (xs ++ Lib.strCells s) ∧ w.grownBy w' none := by
  have hlen : (xs ++ Lib.strCells s).length = (n + s.size) * 1 := by rw [List.length_append, hxl, Lib.strCells_length, Nat.mul_one]
  have holds2 : ∀ j u, xs[j]? = some u → w.cell? ((⟨g, 0, none⟩ : Addr).add j) = some u := by
    intro j u hj
    have e : (⟨g, 0, none⟩ : Addr).add j = ⟨g, 0 + j, none⟩ := by unfold Addr.add; split <;> simp_all
    rw [e]; exact holds j u hj
  have hr := Lib.run_append_grow_string (P := P) w t u ty e i (.int .u8 0) ht hu hi hz ⟨g, 0, none⟩ n n xs (by rw [hsize]; simpa using hxl) holds2 s (by omega) (by omega) (by rw [hby]; exact growslice_fits (by omega) (by omega))
  have hge := grownCap_ge w (n + s.size) n e
  have hcm : grownCap w (n + s.size) n e ≤ maxLen := grownCap_le_maxLen w (n + s.size) n e (by unfold maxLen; omega)
  refine ⟨_, _, hr, ⟨hlen, .inr ⟨w.heap.size, _, _, rfl, Nat.le_refl _, heap_alloc_new w.drew _, hge, hcm, ?_, ?_⟩⟩, ⟨rfl, rfl, rfl, by simp, fun k hk _ => heap_alloc_old w.drew _ hk⟩⟩
  · have hz1 : (Value.int IntKind.u8 0).cells.size = 1 := rfl
    simp only [Array.size_append, List.size_toArray, size_zeroCells, hz1, hxl, Lib.strCells_length]
    omega
  · simp only [Array.toList_append, List.append_assoc]
    rw [← List.append_assoc, ← hlen]
    exact List.take_left
set_option maxRecDepth 100000 in
theorem run_append_text (w : World) (ty : TypeId) (v : Value) (L y : List UInt8)
    (hv : (v = .slice none 0 0 ∧ L = []) ∨ ∃ g, v = .slice (some ⟨g, 0, none⟩) L.length L.length ∧ ∀ j u, (bcs L)[j]? = some u → w.cell? ⟨g, 0 + j, none⟩ = some u) (h0 : 0 < y.length) (hb : L.length + y.length ≤ 1000000) :
    ∃ v' w', (Builtin.append_ #[81, 9] ty #[v, .string (bs y)]).run Try.prog w = .ok v' w' ∧ w'.ownsRow w.heap.size 5 1 v' (L ++ y).length (bcs (L ++ y)) ∧ Below w.heap.size w w' := by
  obtain ⟨i0, hi, hz0, hz1, hz2⟩ := info_parts Try.infoByte
  have hsc : ∀ l : List UInt8, Lib.strCells (bs l) = bcs l := fun l => by simp [Lib.strCells, bcs, bs]
  have hcat : bcs (L ++ y) = bcs L ++ bcs y := by simp [bcs]
  rcases hv with ⟨rfl, rfl⟩ | ⟨g, rfl, hc⟩
  · have hown : w.ownsRow w.heap.size 5 1 (.slice none 0 0) 0 [] := World.ownsRow_nil _ _ _ _
    obtain ⟨v', w', h1, h2, h3, _⟩ := Lib.run_append_own_string (P := Try.prog) w w.heap.size 81 9 ty 5 i0 Try.underlying81 Try.underlying9 hi hz0 hz1 hz2 (.slice none 0 0) 0 [] hown (bs y) (by rw [bs_size]; unfold maxLen; simp at hb; omega) (by rw [bs_size]; simp at hb; omega) (Nat.le_refl _)
    refine ⟨v', w', h1, ?_, ?_⟩
    · rw [hsc, bs_size] at h2
      simpa using h2
    · exact (Below.refl _ _).grown h3 (Nat.le_refl _) (fun k hk => by cases hk)
  · obtain ⟨v', w', h1, h2, h3⟩ := run_append_full (P := Try.prog) w 81 9 ty 5 i0 Try.underlying81 Try.underlying9 hi hz0 hz1 hz2 g L.length (bcs L) (bcs_length L) hc (bs y) (by rw [bs_size]; exact h0) (by rw [bs_size]; exact hb)
    refine ⟨v', w', h1, ?_, ?_⟩
    · rw [hsc, bs_size, ← hcat, ← List.length_append] at h2
      exact h2
    · exact (Below.refl _ _).grown h3 (Nat.le_refl _) (fun k hk => by cases hk)
theorem step_append_text {ops : Array Oper} {o : Oper} {a : Act} {w : World} {K : Act → World → Prop} {Q : Exit → Act → World → Prop} {E : Prop} (hgd : o.guard = none) (s x : Operand)
    (ho : o.op = .call { callee := .builtin .append, args := #[s, x], argTypes := #[81, 9] }) (v : Value) (L y : List UInt8) (hs : a.eval s = v) (hx : a.eval x = .string (bs y))
    (hv : (v = .slice none 0 0 ∧ L = []) ∨ ∃ g, v = .slice (some ⟨g, 0, none⟩) L.length L.length ∧ ∀ j u, (bcs L)[j]? = some u → w.cell? ⟨g, 0 + j, none⟩ = some u) (h0 : 0 < y.length) (hb : L.length + y.length ≤ 1000000)
    (h : ∀ v' w', w'.ownsRow w.heap.size 5 1 v' (L ++ y).length (bcs (L ++ y)) → Below w.heap.size w w' → K (a.put o.dst v') w') :
    if Region.wanted o (yielded ops a.tmps) = true then Oper.wp Try.prog o a w K Q else E := by
  have hw : Region.wanted o (yielded ops a.tmps) = true := by simp [Region.wanted, hgd]
  rw [if_pos hw]
  obtain ⟨v', w', hr, h2, h3⟩ := run_append_text w o.type v L y hv h0 hb
  unfold Oper.wp execOp
  simp only [ho, resolve, invoke, builtin, Sem.run_bind, Sem.run_pure, Result.andThen_ok, List.map_toArray, List.map_cons, List.map_nil, hs, hx, hr]
  exact h v' w' h2 h3
theorem strCells_bs (l : List UInt8) : Lib.strCells (bs l) = bcs l := by simp [Lib.strCells, bcs, bs]

set_option maxRecDepth 100000 in
set_option maxHeartbeats 1000000 in
theorem SValid_any (x : Sp) (w : World) :
    Calls Try.prog 18 #[.agg (spV x)] w fun e w' => e = .returned (.bool (spB x)) ∧ Below w.heap.size w w' := by
  obtain ⟨g, e, a, z, p⟩ := x
  simp only [spV]
  go_enter Try.func18, Try.ntmps18
  go_wp2
  all_goals go_ret
  all_goals refine ⟨ret_bool ?_, (Below.refl _ _).alloc (Nat.le_refl _) _⟩
  all_goals (try simp only [beq_iff_eq, beq_eq_false_iff_ne, ne_eq] at *)
  all_goals first
    | exact ((spB_iff ⟨g, e, a, z, p⟩).2 (by simp only; omega)).symm
    | exact (spB_no (x := ⟨g, e, a, z, p⟩) (by simp only; omega)).symm
    | (rw [Bool.eq_iff_iff, spB_iff]; simp; omega)

/-- the numbers of a superblock's data -/
def nums4 (x : Sp) : List Int := [x.e, x.a, x.z, x.p]
def encK (x : Sp) (k : Nat) : List UInt8 := ((nums4 x).take k).flatMap fun n => uintS n.toNat
theorem encK_four (x : Sp) : encK x 4 = encD x := by simp [encK, nums4, encD, List.append_assoc]
theorem encK_succ (x : Sp) (k : Nat) (h : k < (nums4 x).length) : encK x (k + 1) = encK x k ++ uintS (nums4 x)[k].toNat := by
  unfold encK; rw [List.take_succ_eq_append_getElem h, List.flatMap_append]; simp
theorem nums_bound {x : Sp} (h : spB x = true) (k : Nat) (hk : k < (nums4 x).length) : 0 ≤ (nums4 x)[k] ∧ (nums4 x)[k] ≤ 1099511627776 := by
  obtain ⟨h1, h2, h3, h4, h5, h6, h7, h8, h9, h10⟩ := spB_bounds h
  match k, hk with
  | 0, _ => exact ⟨h3, h4⟩
  | 1, _ => exact ⟨h5, by show x.a ≤ _; omega⟩
  | 2, _ => exact ⟨h7, by show x.z ≤ _; omega⟩
  | 3, _ => exact ⟨h9, h10⟩
theorem encK_len {x : Sp} (h : spB x = true) (k : Nat) : (encK x k).length ≤ 24 := by
  have key : ∀ l : List Int, (∀ n ∈ l, 0 ≤ n ∧ n ≤ 1099511627776) → (l.flatMap fun n => uintS n.toNat).length ≤ 6 * l.length := by
    intro l
    induction l with
    | nil => intro _; simp
    | cons n r ih =>
      intro hl
      have h1 := hl n (by simp)
      have h2 := uintS_len n.toNat (by omega)
      have h3 := ih (fun m hm => hl m (by simp [hm]))
      simp only [List.flatMap_cons, List.length_append, List.length_cons]; omega
  have := key ((nums4 x).take k) (fun n hn => by
    obtain ⟨i, hi, rfl⟩ := List.mem_iff_getElem.1 (List.mem_of_mem_take hn)
    exact nums_bound h i hi)
  have h2 : ((nums4 x).take k).length ≤ 4 := by rw [List.length_take]; simp [nums4]; omega
  unfold encK; omega
set_option maxRecDepth 100000 in
set_option maxHeartbeats 2000000 in
theorem SEncode_any (x : Sp) (w : World) :
    Calls Try.prog 16 #[.agg (spV x)] w fun e w' => e = .returned (.tuple #[.string (bs (encS x).1), .int .i64 (encS x).2]) ∧ Below w.heap.size w w' := by
  have hb0 := (Below.refl w.heap.size w).alloc (Nat.le_refl _) (.cells (spV x) 23)
  have hX := Bx.new w (spV x) 23
  have x0 : (w.alloc (.cells (spV x) 23)).cell? ⟨w.heap.size, 0, none⟩ = some (.int .i64 x.g) := hX.cell 0
  have x1 : (w.alloc (.cells (spV x) 23)).cell? ⟨w.heap.size, 1, none⟩ = some (.int .i64 x.e) := hX.cell 1
  have x2 : (w.alloc (.cells (spV x) 23)).cell? ⟨w.heap.size, 2, none⟩ = some (.int .i64 x.a) := hX.cell 2
  have x3 : (w.alloc (.cells (spV x) 23)).cell? ⟨w.heap.size, 3, none⟩ = some (.int .i64 x.z) := hX.cell 3
  have x4 : (w.alloc (.cells (spV x) 23)).cell? ⟨w.heap.size, 4, none⟩ = some (.int .i64 x.p) := hX.cell 4
  have HX := Lib.hid hX; have HB0 := Lib.hid hb0; clear hX hb0
  go_enter Try.func16, Try.ntmps16
  go_wp2_with fail
  refine (SValid_any x _).mono ?_
  cases hv : spB x with
  | false =>
    rintro e w1 ⟨rfl, hb1⟩
    have HF := Lib.hid (show encS x = ([], 1) by unfold encS; rw [if_neg (by rw [hv]; decide)])
    clear hv x0 x1 x2 x3 x4
    go_wp2
    go_ret2
    rw [HF.out]
    exact ⟨rfl, btrans HB0.out HB0.out.size hb1⟩
  | true =>
    rintro e w1 ⟨rfl, hb1⟩
    have HF := Lib.hid (show encS x = (sealedL x.g.toNat 0 1 (encD x), 0) by unfold encS; rw [if_pos hv])
    have HV := Lib.hid hv
    have HX1 := Lib.hid (HX.out.call hb1)
    have HB1 := Lib.hid (btrans HB0.out HB0.out.size hb1)
    clear hv x0 x1 x2 x3 x4 hb1
    have x0 : w1.cell? ⟨w.heap.size, 0, none⟩ = some (.int .i64 x.g) := HX1.out.cell 0
    have x1 : w1.cell? ⟨w.heap.size, 1, none⟩ = some (.int .i64 x.e) := HX1.out.cell 1
    have x2 : w1.cell? ⟨w.heap.size, 2, none⟩ = some (.int .i64 x.a) := HX1.out.cell 2
    have x3 : w1.cell? ⟨w.heap.size, 3, none⟩ = some (.int .i64 x.z) := HX1.out.cell 3
    have x4 : w1.cell? ⟨w.heap.size, 4, none⟩ = some (.int .i64 x.p) := HX1.out.cell 4
    go_wp2
    clear x0 x1 x2 x3 x4
    have hr0 := Bx.new w1 #[.int .i64 x.e, .int .i64 x.a, .int .i64 x.z, .int .i64 x.p] 2
    have HR := Lib.hid hr0; clear hr0
    obtain ⟨i0, hi, hz0, hz1, hz2⟩ := info_parts Try.infoByte
    go_loopw [4, 20] (fun v i wr => ∃ k : Nat, k ≤ 4 ∧ i = .int .i64 k ∧ wr.ownsRow (w1.heap.size + 1) 5 1 v (encK x k).length (bcs (encK x k)) ∧ Below (w1.heap.size + 1) (w1.alloc (.cells #[.int .i64 x.e, .int .i64 x.a, .int .i64 x.z, .int .i64 x.p] 2)) wr) (fun _ i _ => 4 - (intOf i).toNat)
    case atStart => exact ⟨0, by omega, rfl, World.ownsRow_nil _ _ _ _, Below.refl _ _⟩
    case round =>
      obtain ⟨k, hk, rfl, hown, hbr⟩ := hrel
      have hsz : w1.heap.size + 1 ≤ wr.heap.size := by have := hbr.size; simpa using this
      have hXr := HR.out.below hbr (by omega)
      have HOW := Lib.hid hown; have HBR := Lib.hid hbr; clear hown hbr
      by_cases hlt : k < 4
      · have hkl : k < (nums4 x).length := hlt
        have hlt' : (k : Int) < 4 := by omega
        obtain ⟨n, hn⟩ : ∃ n, (nums4 x)[k] = n := ⟨_, rfl⟩
        have hnb := nums_bound HV.out k hkl
        have hes := encK_succ x k hkl
        rw [hn] at hnb hes
        have hcell : wr.cell? ⟨w1.heap.size, k, none⟩ = some (.int .i64 n) := by
          rw [hXr.cell k, ← hn]
          match k, hkl with
          | 0, _ | 1, _ | 2, _ | 3, _ => rfl
        obtain ⟨n, rfl⟩ : ∃ m : Nat, n = m := ⟨n.toNat, by omega⟩
        rw [Int.toNat_natCast] at hes
        have hw64 : IntKind.u64.wrap (n : Int) = (n : Int) := wrap_u64 n (by omega)
        have HES := Lib.hid hes; clear hn hes hXr
        have hl24 := encK_len HV.out k
        have hu6 := uintS_len n (by omega)
        have hu1 : 1 ≤ (uintS n).length := (uintF_len 9 n).1
        rcases own_form HOW.out with ⟨rfl, hz⟩ | ⟨g, cap, rfl, hc, _⟩
        · have hk0 : encK x k = [] := List.eq_nil_of_length_eq_zero hz
          have HK0 := Lib.hid hk0; clear hk0 hz
          go_wp2_with fail
          go_region_law (first
            | (go_simp; go_at_call 51; refine (Uint_any n (by omega) _).mono ?_; rintro e w2 ⟨rfl, hb2⟩)
            | (refine step_append_text rfl _ _ rfl (.slice none 0 0) [] (uintS n) rfl rfl (Or.inl ⟨rfl, rfl⟩) (by omega) (by simp; omega) ?_; intro v3 w3 hown3 hb3))
          have HO3 := Lib.hid (own_mono hown3 (Nat.le_trans hsz hb2.size)); have HB3 := Lib.hid (btrans HBR.out.drew hsz (btrans hb2 hb2.size hb3)); clear hown3 hb2 hb3
          go_wp2
          go_roundw
          case rel => exact ⟨k + 1, by omega, by go_num, by rw [HES.out, HK0.out]; exact HO3.out, HB3.out⟩
          case measure => simp [intOf]; omega
        · have hcl := own_addr HOW.out
          have hgl := (HOW.out.lt g rfl).2
          have HCL := Lib.hid hcl; clear hcl
          go_wp2_with fail
          go_region_law (first
            | (go_simp; go_at_call 51; refine (Uint_any n (by omega) _).mono ?_; rintro e w2 ⟨rfl, hb2⟩)
            | (refine step_append_text rfl _ _ rfl (.slice (some ⟨g, 0, none⟩) (encK x k).length (encK x k).length) (encK x k) (uintS n) rfl rfl (Or.inr ⟨g, rfl, fun j u hj => (hb2.cell (p := ⟨g, 0 + j, none⟩) hgl).trans (HCL.out j u hj)⟩) (by omega) (by omega) ?_; intro v3 w3 hown3 hb3))
          have HO3 := Lib.hid (own_mono hown3 (Nat.le_trans hsz hb2.size)); have HB3 := Lib.hid (btrans HBR.out.drew hsz (btrans hb2 hb2.size hb3)); clear hown3 hb2 hb3
          go_wp2
          go_roundw
          case rel => exact ⟨k + 1, by omega, by go_num, by rw [HES.out]; exact HO3.out, HB3.out⟩
          case measure => simp [intOf]; omega
      · obtain rfl : k = 4 := by omega
        have hown := HOW.out
        rw [encK_four] at hown
        have hconv := own_conv hown
        have hXs := HX1.out.below (B := w1.heap.size) (((Below.refl w1.heap.size w1).alloc (Nat.le_refl _) _).trans (HBR.out.mono (by omega))) HX1.out.lt
        have x0 : wr.cell? ⟨w.heap.size, 0, none⟩ = some (.int .i64 x.g) := hXs.cell 0
        have HES := Lib.hid (enc_seal HV.out)
        have h40 := encD_len HV.out
        clear hown hXs
        go_wp2_with fail
        refine (Seal_any x.g 0 1 (encD x) _ (by omega)).mono ?_
        rw [HES.out]
        rintro e w5 ⟨rfl, hb5⟩
        go_wp2
        go_ret2
        rw [HF.out]
        exact ⟨rfl, btrans HB1.out HB1.out.size (btrans (((Below.refl w1.heap.size w1).alloc (Nat.le_refl _) _).trans (HBR.out.mono (by omega))) (by omega) hb5)⟩
end Go.Proofs.Ytkpfkknldeafkaa
