/- What performed of the reference of layer 44 returns. No conditions but the sizes. -/
import Derived.Test.YtkpfkknldeafkaaDiskRef3
namespace Go.Proofs.Ytkpfkknldeafkaa
open Go.RowKit

set_option maxRecDepth 100000 in
set_option maxHeartbeats 2000000 in
theorem Rperf_any (v : Value) (L : List (List UInt8)) (m : Nat) (data : List UInt8) (w : World) (hS : StrS w v L) (hl : L.length ≤ 1024) (hm : m < L.length) :
    Calls Try.prog 104 #[v, .int .i64 m, .string (bs data)] w fun e w' => ∃ v', e = .returned v' ∧ w'.ownsRow w.heap.size 9 1 v' L.length ((L.set m data).map strV) ∧ Below w.heap.size w w' := by
  obtain ⟨a, cap, rfl, hc, hx⟩ := hS
  obtain ⟨b, off, rfl, hcell⟩ := hx (by intro h; rw [h] at hm; simp at hm)
  obtain ⟨i0, hi, hz0, hz1, hz2⟩ := info_parts Try.info9
  have hnews : ∀ j u, (L.map strV)[j]? = some u → w.cell? ((⟨b, off, none⟩ : Addr).add j) = some u := by
    intro j u hj
    have hjl : j < L.length := by
      rcases Nat.lt_or_ge j L.length with h | h
      · exact h
      · rw [List.getElem?_eq_none (by simpa using h)] at hj; cases hj
    rw [addr_add, hcell j hjl]
    simp only [List.getElem?_map, List.getElem?_eq_getElem hjl, Option.map_some] at hj
    exact hj
  have HN := Lib.hid hnews; clear hnews hcell hx
  have hm0 : (0 : Int) ≤ (m : Int) := by omega
  have hm2 : (m : Int) < (L.length : Int) := by omega
  go_enter Try.func104, Try.ntmps104
  go_wp2_with (at_builtin; refine wpList_append_own_wide _ rfl _ _ 35 rfl w.heap.size 9 i0 (.string ⟨#[]⟩) 1 16 Try.underlying35 hi hz0 hz1 hz2 rfl (by decide) _ _ _ rfl (World.ownsRow_nil _ _ _ _) ⟨b, off, none⟩ L.length cap (L.map strV) rfl ?qc1 ?qc2 ?qc3 ?qc4 ?qc5 ?qc6 ?_)
  case qc1 => simp
  case qc2 => exact HN.out
  case qc3 =>
    intro y hy
    obtain ⟨z, _, rfl⟩ := List.mem_map.1 hy
    rfl
  case qc4 => unfold maxLen; omega
  case qc5 => omega
  case qc6 => simp
  intro v' w1 hown hgrow _
  have hown : w1.ownsRow w.heap.size 9 1 v' L.length (L.map strV) := by simpa using hown
  obtain ⟨g, cap2, rfl, hgc, hgB⟩ : ∃ g c, v' = .slice (some ⟨g, 0, none⟩) L.length c ∧ L.length ≤ c ∧ w.heap.size ≤ g := by
    rcases own_form hown with ⟨_, h0⟩ | ⟨g, cap, h1, h2, h3⟩
    · omega
    · exact ⟨g, cap, h1, h2, h3⟩
  have hml : m < (L.map strV).length := by rw [List.length_map]; exact hm
  have e1 := hown.cellAt m (by omega)
  rw [List.getElem?_eq_getElem hml] at e1
  have e2 := hown.frozenAt m
  have hb := (Below.refl w.heap.size w).grown hgrow (Nat.le_refl _) (by intro k hk; simp [Value.ownBlock] at hk)
  have hst := (hown.stored m (.string (bs data))).1
  have HST := Lib.hid hst; clear hst
  clear hown hgrow
  go_wp2
  go_ret
  exact ⟨_, rfl, by rw [List.map_set]; exact HST.out, below_set hb g m hgB _⟩
end Go.Proofs.Ytkpfkknldeafkaa
