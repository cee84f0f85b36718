/- How a slice of operations is read as an argument of layer 44's laws. No conditions. -/
import Derived.Test.YtnghdolpmmdknaaDiskLaw2
namespace Go.Proofs.Ytnghdolpmmdknaa
open Go.ChangeShapes Go.WideShapes Go.ChangeAt Go.RowKit

section
variable {H : Type} {enc : TypeId × Value → H} {W : World} {base : Nat} {spare : Nat → Bool} {held : Bool}
set_option maxRecDepth 100000 in
theorem trod_op {fuel : Nat} {cs : List Value} {x : DataW H × List MemPlace} (h : DataW.trod enc Try.prog W base spare held fuel 64 cs = some x) :
    ∃ (n : Int) (c : UInt8), cs = [.int .i64 n, .int .u8 (c.toNat : Int)] := by
  obtain ⟨ys, n, _, _, hlen, hyl, hf⟩ := DataW.trod_struct Try.underlying64 h
  rw [show Try.prog.cellsOf 64 = 2 by kernel_rfl] at hlen
  match cs, hlen with
  | [u0, u1], _ =>
    match ys, hyl with
    | [y0, y1], _ =>
      have h0 : DataW.trod enc Try.prog W base spare held n 3 (([u0, u1].drop 0).take (Try.prog.cellsOf 3)) = some y0 := hf 0 _ rfl
      have h1 : DataW.trod enc Try.prog W base spare held n 5 (([u0, u1].drop 1).take (Try.prog.cellsOf 5)) = some y1 := hf 1 _ rfl
      rw [show Try.prog.cellsOf 3 = 1 by kernel_rfl] at h0
      rw [show Try.prog.cellsOf 5 = 1 by kernel_rfl] at h1
      obtain ⟨m, e0, _⟩ := DataW.trod_int Try.underlying3 h0
      obtain ⟨s, e1, _, hw⟩ := DataW.trod_int Try.underlying5 h1
      simp at e0 e1
      have hs : 0 ≤ s ∧ s < 256 := by
        have h1 : IntKind.u8.min = 0 := by decide
        have h2 : IntKind.u8.max = 255 := by decide
        simp only [Lit.wf, Bool.and_eq_true, decide_eq_true_eq, h1, h2] at hw; omega
      refine ⟨m, byt s, ?_⟩
      rw [byt_toNat s hs.1 hs.2, e0, e1]

theorem open_ops {r : Reach} {b0 : Nat} {v : Value} {d : DataW H} {p : List MemPlace} (hv : Value.okWide Try.prog W r b0 62 v) (h : DataW.Trod enc Try.prog W base spare held 62 v d p) (hz : ∀ n ∈ d.weights Try.prog 62, n ≤ reachBytes) :
    ∃ (a : Option Addr) (c : Nat) (M : List (Int × UInt8)), v = .slice a M.length c ∧ OpS W (.slice a M.length c) M ∧ M.length ≤ 8796093022208 := by
  obtain ⟨a0, len0, cap0, rfl⟩ := okWide_slice Try.underlying62 hv
  obtain ⟨fuel, hf⟩ := h
  rcases Deep.open_slice Try.underlying62 hf with ⟨hcs, _⟩ | ⟨a, len, cap, m, n, D, Pl, hcs, _, hl, _, hm, hx, hi⟩
  · simp [Value.cells] at hcs
    obtain ⟨rfl, rfl, rfl⟩ := hcs
    exact ⟨none, 0, [], rfl, ⟨none, 0, rfl, Nat.le_refl _, fun hne => absurd rfl hne⟩, by simp⟩
  · simp [Value.cells] at hcs
    obtain ⟨rfl, rfl, rfl⟩ := hcs
    have hlm : len0 ≤ m := by rw [hm]; split <;> omega
    have hsz : len0 ≤ 8796093022208 := by
      rw [Prod.mk.injEq] at hx
      have h1 := hz ((((List.range len0).map D).length + (((List.range (m - len0)).map fun j => D (len0 + j))).length) * Try.prog.bytesOf 64) (by rw [hx.1]; simp [DataW.weights, Try.underlying62])
      rw [show Try.prog.bytesOf 64 = 16 by kernel_rfl] at h1
      rw [List.length_map, List.length_range] at h1
      unfold reachBytes at h1
      omega
    have hel : ∀ i, i < len0 → ∃ (q : Int × UInt8), W.cell? (a.add (i * 2)) = some (.int .i64 q.1) ∧ W.cell? ((a.add (i * 2)).add 1) = some (.int .u8 (q.2.toNat : Int)) := by
      intro i hil
      obtain ⟨cs', hc, ht⟩ := hi i (by omega)
      rw [show Try.prog.cellsOf 64 = 2 by kernel_rfl] at hc
      obtain ⟨q, s, rfl⟩ := trod_op ht
      obtain ⟨_, _, hat⟩ := World.cells?_some hc
      have h0 := hat 0 (by decide)
      have h1 := hat 1 (by decide)
      refine ⟨(q, s), ?_, h1⟩
      have : (a.add (i * 2)).add 0 = a.add (i * 2) := by unfold Addr.add; split <;> simp_all
      rw [this] at h0; exact h0
    obtain ⟨F, hF⟩ : ∃ F : Nat → Int × UInt8, ∀ i, i < len0 → W.cell? (a.add (i * 2)) = some (.int .i64 (F i).1) ∧ W.cell? ((a.add (i * 2)).add 1) = some (.int .u8 ((F i).2.toNat : Int)) :=
      ⟨fun i => if h : i < len0 then (hel i h).choose else (0, 0), fun i h => by simp only [dif_pos h]; exact (hel i h).choose_spec⟩
    have hML : ((List.range len0).map F).length = len0 := by simp
    refine ⟨some a, cap0, (List.range len0).map F, by rw [hML], ⟨some a, cap0, rfl, by rw [hML]; exact hl, fun hne => ?_⟩, by rw [hML]; exact hsz⟩
    have h0 : 0 < len0 := by
      rcases Nat.eq_zero_or_pos len0 with h | h
      · subst h; simp at hne
      · exact h
    obtain ⟨b, off, spot⟩ := a
    have hspot : spot = none := by simpa [Addr.add] using World.cell?_spot (hF 0 h0).1
    subst hspot
    refine ⟨b, off, rfl, fun i hi2 => ?_⟩
    rw [hML] at hi2
    obtain ⟨q1, q2⟩ := hF i hi2
    rw [addr_add] at q1 q2
    rw [addr_add] at q2
    simp only [List.getElem_map, List.getElem_range]
    exact ⟨q1, q2⟩
end
end Go.Proofs.Ytnghdolpmmdknaa
