/- A slice of bytes that the call itself made and appends to, and its string. No conditions. -/
import Derived.Test.YtkmmdkklpbafdaaGreatDoorStrs
namespace Go.Proofs.YtkmmdkklpbafdaaGreatDoor
open Go.RowKit

theorem Tryz.infoByte : (Tryz.prog.info? 5).map (fun i => (i.zero, i.size, i.bytes)) = some (some (.int .u8 0), 1, 1) := by kernel_rfl
/-- bytes as cells -/
def bcs (L : List UInt8) : List Value := L.map fun b => Value.int .u8 (b.toNat : Int)
theorem bcs_length (L : List UInt8) : (bcs L).length = L.length := by simp [bcs]
theorem bcs_get (L : List UInt8) (j : Nat) : (bcs L)[j]? = L[j]?.map fun b => Value.int .u8 (b.toNat : Int) := by simp [bcs]

set_option maxRecDepth 100000 in
/-- 'v = append(v, c)', v a slice of bytes of the call's own; the new byte lies in a block of its own -/
theorem wpList_append_byte {w1 : World} {ops : Array Oper} {rest : List Oper} {o : Oper} {a : Act} {Q : Exit → Act → World → Prop} (hgd : o.guard = none) (s x : Operand)
    (ho : o.op = .call { callee := .builtin .append, args := #[s, x], argTypes := #[45, 45] }) (B : Nat) (v : Value) (L : List UInt8) (y : UInt8) (hown : w1.ownsRow B 5 1 v L.length (bcs L))
    (hs : a.eval s = v) (hx : a.eval x = .slice (some ⟨w1.heap.size, 0, none⟩) 1 1) (hlen : L.length ≤ 1000000000000) (W0 : World) (hbel : Below B W0 w1) (hB : B ≤ w1.heap.size) (z : Int) (hz : z = (y.toNat : Int))
    (h : ∀ v' w', w'.ownsRow B 5 1 v' (L ++ [y]).length (bcs (L ++ [y])) → Below B W0 w' → w1.grownBy w' v.ownBlock → wpList Tryz.prog ops Q rest (a.put o.dst v') w') :
    wpList Tryz.prog ops Q (o :: rest) a (w1.alloc (.cells #[.int .u8 z] 5)) := by
  subst hz
  obtain ⟨i0, hi, hz0, hz1, hz2⟩ := info_parts Tryz.infoByte
  refine wpList_append_own _ hgd s x 45 ho B 5 i0 (.int .u8 0) 1 1 Tryz.underlying45 hi hz0 hz1 hz2 rfl (by decide) v L.length (bcs L) hs (hown.alloc _) ⟨w1.heap.size, 0, none⟩ 1 1 [.int .u8 (y.toNat : Int)] hx rfl ?_ ?_ ?_ ?_ ?_ ?_
  · exact cell_one_new _ _ _
  · intro u hu; simp at hu; subst hu; rfl
  · unfold maxLen; omega
  · omega
  · simp; omega
  · intro v' w2 hown2 hgrow _
    refine h v' w2 (by simpa [bcs] using hown2) ?_ ?_
    · refine (hbel.alloc hB _).grown hgrow (by simp; omega) ?_
      intro k hk
      exact (hown.lt k hk).1
    · exact ⟨hgrow.os, hgrow.tape, hgrow.output, Nat.le_trans (by simp) hgrow.size, fun k hk hne => (hgrow.block k (by simp; omega) hne).trans ((World.grownBy_alloc w1 (.cells #[.int .u8 (y.toNat : Int)] 5) none).block k hk (by simp))⟩

set_option maxRecDepth 100000 in
/-- 'string(v)', v a slice of bytes of the call's own -/
theorem own_conv {W : World} {B : Nat} {v : Value} {L : List UInt8} (h : W.ownsRow B 5 1 v L.length (bcs L)) : (convert 45 9 v).run Tryz.prog W = .ok (.string (bs L)) W := by
  rcases own_form h with ⟨rfl, h0⟩ | ⟨g, cap, rfl, hc, _⟩
  · have : L = [] := List.eq_nil_of_length_eq_zero h0
    subst this
    rw [run_convert_bytes_string (P := Tryz.prog) W 45 9 5 none 0 0 Tryz.underlying45 Tryz.underlying5 Tryz.underlying9]
    unfold Conv.bytesToString
    simp [Sem.run_pure]
    rfl
  · have hb : Lib.Bytes W g 0 (bs L) := by
      intro i hi
      have hi' : i < L.length := by rw [bs_size] at hi; exact hi
      have := h.cells (g := g) rfl i (.int .u8 (L[i].toNat : Int)) (by rw [bcs_get, List.getElem?_eq_getElem hi']; rfl)
      have e : (⟨g, 0, none⟩ : Addr).add i = ⟨g, 0 + i, none⟩ := by unfold Addr.add; split <;> simp_all
      rw [← e, bs_get]
      exact this
    have := Lib.run_convert_whole (P := Tryz.prog) W 45 5 9 Tryz.underlying45 Tryz.underlying5 Tryz.underlying9 g 0 (bs L) hb cap
    rwa [bs_size] at this
end Go.Proofs.YtkmmdkklpbafdaaGreatDoor
