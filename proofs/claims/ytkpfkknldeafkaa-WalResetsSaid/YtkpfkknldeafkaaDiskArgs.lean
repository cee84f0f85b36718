/- How arguments of layer 44's laws are read: a disk, a slice of truth values. No conditions. -/
import Derived.Test.YtkpfkknldeafkaaDiskRef8
import Derived.ProofKit
import Derived.OpenShut
import Derived.Lib.SmallJoins
import Derived.SliceStrings
import Derived.Deep.Slices
import Derived.SizedLaws
namespace Go.Proofs.Ytkpfkknldeafkaa
open Go.ChangeShapes Go.WideShapes Go.ChangeAt Go.RowKit

theorem sized_of {H : Type} {P : Program} {ts : List TypeId} {ds : List (DataW H)} (h : (DataW.weightsEach P ts ds).all (· ≤ reachBytes) = true) {j : Nat} {t : TypeId} {d : DataW H} (ht : ts[j]? = some t) (hd : ds[j]? = some d) : ∀ n ∈ d.weights P t, n ≤ reachBytes := by
  intro n hn
  have := List.all_eq_true.1 h n (DataW.weights_mem_each ht hd n hn)
  simpa using this
theorem BoS.mono {n₀ n₁ : Nat} {W : World} {v : Value} {kb : List Bool} (h : BoS n₀ W v kb) (hn : n₀ ≤ n₁) : BoS n₁ W v kb := by
  obtain ⟨a, cap, rfl, hc, hx⟩ := h
  refine ⟨a, cap, rfl, hc, fun hne => ?_⟩
  obtain ⟨b, off, rfl, hlt, hcell⟩ := hx hne
  exact ⟨b, off, rfl, by omega, hcell⟩

section
variable {H : Type} {enc : TypeId × Value → H} {W : World} {base : Nat} {spare : Nat → Bool} {held : Bool}

set_option maxRecDepth 100000 in
theorem trod_strs {fuel : Nat} {cs : List Value} {x : DataW H × List MemPlace} (h : DataW.trod enc Try.prog W base spare held fuel 35 cs = some x) (hz : ∀ n ∈ x.1.weights Try.prog 35, n ≤ reachBytes) :
    ∃ (a : Option Addr) (c : Nat) (L : List (List UInt8)), cs = [.slice a L.length c] ∧ StrS W (.slice a L.length c) L ∧ L.length ≤ 9000000000000 := by
  rcases open_strings Try.underlying35 Try.underlying9 (by kernel_rfl) h with ⟨rfl, _⟩ | ⟨a, len, cap, ss, rfl, _, hl, _, hss, hx, hcell, _⟩
  · exact ⟨none, 0, [], rfl, ⟨none, 0, rfl, Nat.le_refl _, fun hne => absurd rfl hne⟩, by simp⟩
  · have hlen : len ≤ ss.length := by rw [hss]; split <;> omega
    have hlm : ((ss.take len).map fun s => s.data.toList).length = len := by rw [List.length_map, List.length_take, Nat.min_eq_left hlen]
    have hsz : len ≤ 9000000000000 := by
      have h1 := hz ((((strs (ss.take len) : List (DataW H))).length + ((strs (ss.drop len) : List (DataW H))).length) * Try.prog.bytesOf 9) (by rw [hx]; simp [DataW.weights, Try.underlying35])
      rw [show Try.prog.bytesOf 9 = 16 by kernel_rfl] at h1
      have h2 : ((strs (ss.take len) : List (DataW H))).length = len := by unfold strs; rw [List.length_map, List.length_take, Nat.min_eq_left hlen]
      rw [h2] at h1
      unfold reachBytes at h1
      omega
    refine ⟨some a, cap, (ss.take len).map fun s => s.data.toList, by rw [hlm], ⟨some a, cap, rfl, by rw [hlm]; exact hl, fun hne => ?_⟩, by rw [hlm]; exact hsz⟩
    have h0 : 0 < len := by
      rcases Nat.eq_zero_or_pos len with h | h
      · subst h; simp at hne
      · exact h
    obtain ⟨b, off, spot⟩ := a
    have hc := hcell 0 (by omega)
    have hspot : spot = none := by simpa [Addr.add] using World.cell?_spot hc
    subst hspot
    refine ⟨b, off, rfl, fun i hi => ?_⟩
    rw [hlm] at hi
    have := hcell i (by omega)
    rw [addr_add] at this
    rw [this]
    simp only [List.getElem_map, List.getElem_take]
    unfold strV
    rw [bs_toList, List.getD_eq_getElem?_getD, List.getElem?_eq_getElem (by omega)]
    rfl

set_option maxRecDepth 100000 in
theorem trod_write {fuel : Nat} {cs : List Value} {x : DataW H × List MemPlace} (h : DataW.trod enc Try.prog W base spare held fuel 94 cs = some x) :
    ∃ (n : Int) (s : ByteArray), cs = [.int .i64 n, .string s] := by
  obtain ⟨ys, n, _, _, hlen, hyl, hf⟩ := DataW.trod_struct Try.underlying94 h
  rw [show Try.prog.cellsOf 94 = 2 by kernel_rfl] at hlen
  match cs, hlen with
  | [u0, u1], _ =>
    match ys, hyl with
    | [y0, y1], _ =>
      have h0 : DataW.trod enc Try.prog W base spare held n 3 (([u0, u1].drop 0).take (Try.prog.cellsOf 3)) = some y0 := hf 0 _ rfl
      have h1 : DataW.trod enc Try.prog W base spare held n 9 (([u0, u1].drop 1).take (Try.prog.cellsOf 9)) = some y1 := hf 1 _ rfl
      rw [show Try.prog.cellsOf 3 = 1 by kernel_rfl] at h0
      rw [show Try.prog.cellsOf 9 = 1 by kernel_rfl] at h1
      obtain ⟨m, e0, _⟩ := DataW.trod_int Try.underlying3 h0
      obtain ⟨s, e1, _⟩ := DataW.trod_string Try.underlying9 h1
      simp at e0 e1
      exact ⟨m, s, by rw [e0, e1]⟩

set_option maxRecDepth 100000 in
theorem trod_wrs {fuel : Nat} {cs : List Value} {x : DataW H × List MemPlace} (h : DataW.trod enc Try.prog W base spare held fuel 36 cs = some x) (hz : ∀ n ∈ x.1.weights Try.prog 36, n ≤ reachBytes) :
    ∃ (a : Option Addr) (c : Nat) (M : List (Int × List UInt8)), cs = [.slice a M.length c] ∧ WrS W (.slice a M.length c) M ∧ M.length ≤ 5864062014805 := by
  rcases Deep.open_slice Try.underlying36 h with ⟨rfl, _⟩ | ⟨a, len, cap, m, n, D, Pl, rfl, _, hl, _, hm, hx, hi⟩
  · exact ⟨none, 0, [], rfl, ⟨none, 0, rfl, Nat.le_refl _, fun hne => absurd rfl hne⟩, by simp⟩
  · have hlm : len ≤ m := by rw [hm]; split <;> omega
    have hsz : len ≤ 5864062014805 := by
      have h1 := hz ((((List.range len).map D).length + (((List.range (m - len)).map fun j => D (len + j))).length) * Try.prog.bytesOf 94) (by rw [hx]; simp [DataW.weights, Try.underlying36])
      rw [show Try.prog.bytesOf 94 = 24 by kernel_rfl] at h1
      rw [List.length_map, List.length_range] at h1
      unfold reachBytes at h1
      omega
    have hel : ∀ i, i < len → ∃ (q : Int × List UInt8), W.cell? (a.add (i * 2)) = some (.int .i64 q.1) ∧ W.cell? ((a.add (i * 2)).add 1) = some (strV q.2) := by
      intro i hil
      obtain ⟨cs', hc, ht⟩ := hi i (by omega)
      rw [show Try.prog.cellsOf 94 = 2 by kernel_rfl] at hc
      obtain ⟨q, s, rfl⟩ := trod_write ht
      obtain ⟨_, _, hat⟩ := World.cells?_some hc
      have h0 := hat 0 (by decide)
      have h1 := hat 1 (by decide)
      refine ⟨(q, s.data.toList), ?_, ?_⟩
      · have : (a.add (i * 2)).add 0 = a.add (i * 2) := by unfold Addr.add; split <;> simp_all
        rw [this] at h0; exact h0
      · rw [h1]; unfold strV; rw [bs_toList]; rfl
    obtain ⟨F, hF⟩ : ∃ F : Nat → Int × List UInt8, ∀ i, i < len → W.cell? (a.add (i * 2)) = some (.int .i64 (F i).1) ∧ W.cell? ((a.add (i * 2)).add 1) = some (strV (F i).2) :=
      ⟨fun i => if h : i < len then (hel i h).choose else (0, []), fun i h => by simp only [dif_pos h]; exact (hel i h).choose_spec⟩
    have hML : ((List.range len).map F).length = len := by simp
    refine ⟨some a, cap, (List.range len).map F, by rw [hML], ⟨some a, cap, rfl, by rw [hML]; exact hl, fun hne => ?_⟩, by rw [hML]; exact hsz⟩
    have h0 : 0 < len := by
      rcases Nat.eq_zero_or_pos len with h | h
      · subst h; simp at hne
      · exact h
    obtain ⟨b, off, spot⟩ := a
    have hspot : spot = none := by simpa [Addr.add] using World.cell?_spot (hF 0 h0).1
    subst hspot
    refine ⟨b, off, rfl, fun i hi2 => ?_⟩
    rw [hML] at hi2
    obtain ⟨q1, q2⟩ := hF i hi2
    rw [addr_add] at q1 q2
    rw [addr_add] at q2
    simp only [List.getElem_map, List.getElem_range]
    exact ⟨q1, q2⟩

set_option maxRecDepth 100000 in
theorem open_bos {r : Reach} {b0 : Nat} {v : Value} {d : DataW H} {p : List MemPlace} (hv : Value.okWide Try.prog W r b0 50 v) (h : DataW.Trod enc Try.prog W base spare held 50 v d p) (hz : ∀ n ∈ d.weights Try.prog 50, n ≤ reachBytes) :
    ∃ (a : Option Addr) (c : Nat) (kb : List Bool), v = .slice a kb.length c ∧ BoS W.heap.size W (.slice a kb.length c) kb ∧ kb.length ≤ 140737488355328 := by
  obtain ⟨a0, len0, cap0, rfl⟩ := okWide_slice Try.underlying50 hv
  obtain ⟨fuel, hf⟩ := h
  rcases Deep.open_slice Try.underlying50 hf with ⟨hcs, _⟩ | ⟨a, len, cap, m, n, D, Pl, hcs, _, hl, _, hm, hx, hi⟩
  · simp [Value.cells] at hcs
    obtain ⟨rfl, rfl, rfl⟩ := hcs
    exact ⟨none, 0, [], rfl, ⟨none, 0, rfl, Nat.le_refl _, fun hne => absurd rfl hne⟩, by simp⟩
  · simp [Value.cells] at hcs
    obtain ⟨rfl, rfl, rfl⟩ := hcs
    have hlm : len0 ≤ m := by rw [hm]; split <;> omega
    have hsz : len0 ≤ 140737488355328 := by
      rw [Prod.mk.injEq] at hx
      have h1 := hz ((((List.range len0).map D).length + (((List.range (m - len0)).map fun j => D (len0 + j))).length) * Try.prog.bytesOf 4) (by rw [hx.1]; simp [DataW.weights, Try.underlying50])
      rw [show Try.prog.bytesOf 4 = 1 by kernel_rfl] at h1
      rw [List.length_map, List.length_range] at h1
      unfold reachBytes at h1
      omega
    have hel : ∀ i, i < len0 → ∃ q : Bool, W.cell? (a.add i) = some (.bool q) := by
      intro i hil
      obtain ⟨cs', hc, ht⟩ := hi i (by omega)
      rw [show Try.prog.cellsOf 4 = 1 by kernel_rfl] at hc
      obtain ⟨q, rfl, _⟩ := DataW.trod_bool Try.underlying4 ht
      obtain ⟨_, _, hat⟩ := World.cells?_some hc
      have h0 := hat 0 (by decide)
      rw [Nat.mul_one] at h0
      have : (a.add i).add 0 = a.add i := by unfold Addr.add; split <;> simp_all
      rw [this] at h0
      exact ⟨q, h0⟩
    obtain ⟨F, hF⟩ : ∃ F : Nat → Bool, ∀ i, i < len0 → W.cell? (a.add i) = some (.bool (F i)) :=
      ⟨fun i => if h : i < len0 then (hel i h).choose else false, fun i h => by simp only [dif_pos h]; exact (hel i h).choose_spec⟩
    have hML : ((List.range len0).map F).length = len0 := by simp
    refine ⟨some a, cap0, (List.range len0).map F, by rw [hML], ⟨some a, cap0, rfl, by rw [hML]; exact hl, fun hne => ?_⟩, by rw [hML]; exact hsz⟩
    have h0 : 0 < len0 := by
      rcases Nat.eq_zero_or_pos len0 with h | h
      · subst h; simp at hne
      · exact h
    obtain ⟨b, off, spot⟩ := a
    have hspot : spot = none := by simpa [Addr.add] using World.cell?_spot (hF 0 h0)
    subst hspot
    refine ⟨b, off, rfl, ?_, fun i hi2 => ?_⟩
    · have := hF 0 h0
      rw [addr_add] at this
      exact World.block_lt_of_cell? W _ this
    · rw [hML] at hi2
      have := hF i hi2
      rw [addr_add] at this
      simp only [List.getElem_map, List.getElem_range]
      exact this

set_option maxRecDepth 100000 in
theorem open_disk {r : Reach} {b0 : Nat} {v : Value} {d : DataW H} {p : List MemPlace} (hv : Value.okWide Try.prog W r b0 38 v) (h : DataW.Trod enc Try.prog W base spare held 38 v d p) (hz : ∀ n ∈ d.weights Try.prog 38, n ≤ reachBytes) :
    ∃ (sa : Option Addr) (sc : Nat) (pa : Option Addr) (pc : Nat) (k : Dk), v = .agg #[.slice sa k.S.length sc, .slice pa k.P.length pc, .int .i64 k.fuse, .int .i64 k.ops, .bool k.dead] ∧
      StrS W (.slice sa k.S.length sc) k.S ∧ WrS W (.slice pa k.P.length pc) k.P ∧ k.P.length ≤ 5864062014805 ∧ k.S.length ≤ 9000000000000 := by
  obtain ⟨cs, rfl, hsz⟩ := okWide_struct Try.underlying38 hv
  obtain ⟨l⟩ := cs
  have hC : Try.prog.cellsOf 38 = 5 := by kernel_rfl
  match l, hsz.trans hC with
  | [u0, u1, u2, u3, u4], _ =>
    obtain ⟨fuel, hf⟩ := h
    obtain ⟨ys, n, _, hx, _, hyl, hg⟩ := DataW.trod_struct Try.underlying38 hf
    match ys, hyl with
    | [y0, y1, y2, y3, y4], _ =>
      have g0 : DataW.trod enc Try.prog W base spare held n 35 (([u0, u1, u2, u3, u4].drop 0).take (Try.prog.cellsOf 35)) = some y0 := hg 0 _ rfl
      have g1 : DataW.trod enc Try.prog W base spare held n 36 (([u0, u1, u2, u3, u4].drop 1).take (Try.prog.cellsOf 36)) = some y1 := hg 1 _ rfl
      have g2 : DataW.trod enc Try.prog W base spare held n 3 (([u0, u1, u2, u3, u4].drop 2).take (Try.prog.cellsOf 3)) = some y2 := hg 2 _ rfl
      have g3 : DataW.trod enc Try.prog W base spare held n 3 (([u0, u1, u2, u3, u4].drop 3).take (Try.prog.cellsOf 3)) = some y3 := hg 3 _ rfl
      have g4 : DataW.trod enc Try.prog W base spare held n 4 (([u0, u1, u2, u3, u4].drop 4).take (Try.prog.cellsOf 4)) = some y4 := hg 4 _ rfl
      rw [show Try.prog.cellsOf 35 = 1 by kernel_rfl] at g0
      rw [show Try.prog.cellsOf 36 = 1 by kernel_rfl] at g1
      rw [show Try.prog.cellsOf 3 = 1 by kernel_rfl] at g2 g3
      rw [show Try.prog.cellsOf 4 = 1 by kernel_rfl] at g4
      rw [Prod.mk.injEq] at hx
      have z0 : ∀ n ∈ y0.1.weights Try.prog 35, n ≤ reachBytes := fun n hn => hz n (by rw [hx.1]; simp only [DataW.weights, Try.underlying38, List.map_cons, List.map_nil, DataW.weightsEach, List.mem_append]; exact Or.inl hn)
      have z1 : ∀ n ∈ y1.1.weights Try.prog 36, n ≤ reachBytes := fun n hn => hz n (by rw [hx.1]; simp only [DataW.weights, Try.underlying38, List.map_cons, List.map_nil, DataW.weightsEach, List.mem_append]; exact Or.inr (Or.inl hn))
      obtain ⟨sa, sc, L, e0, hS, hSl⟩ := trod_strs g0 z0
      obtain ⟨pa, pc, M, e1, hM, hMl⟩ := trod_wrs g1 z1
      obtain ⟨n2, e2, _⟩ := DataW.trod_int Try.underlying3 g2
      obtain ⟨n3, e3, _⟩ := DataW.trod_int Try.underlying3 g3
      obtain ⟨b4, e4, _⟩ := DataW.trod_bool Try.underlying4 g4
      simp at e0 e1 e2 e3 e4
      subst e0 e1 e2 e3 e4
      exact ⟨sa, sc, pa, pc, ⟨L, M, n2, n3, b4⟩, rfl, hS, hM, hMl, hSl⟩
end
end Go.Proofs.Ytkpfkknldeafkaa
