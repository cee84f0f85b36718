/- A region that draws its order, inside a round of a loop over an iterator: where its operations make no call and defer nothing, the plain walk's word serves. No conditions but those. -/
import Derived.Test.YtkpfkknldeafkaaRegion
import Derived.OrdersIn
import Derived.TacticsIn
namespace Go.Proofs.Ytkpfkknldeafkaa
open Go.RowKit

def calmR : Result Next → Prop
  | .ok (.value _) _ => True
  | .ok .skip _ => True
  | .halt _ _ => True
  | _ => False
structure CalmOp (P : Program) (o : Oper) : Prop where
  nodefer : ∀ c, o.op ≠ .defer c
  nocall : ∀ w ρ, o.about P w ρ = none
  calm : ∀ ρ w, calmR ((execOp ρ o).run P w)
theorem calm_value {P : Program} {o : Oper} (h1 : ∀ c, o.op ≠ .defer c) (h2 : ∀ w ρ, o.about P w ρ = none) (h3 : ∀ ρ, ∃ s : Sem Value, execOp ρ o = (do pure (.value (← s)))) : CalmOp P o :=
  ⟨h1, h2, fun ρ w => by
    obtain ⟨s, hs⟩ := h3 ρ
    rw [hs, Sem.run_bind]
    cases s.run P w <;> trivial⟩
theorem calm_unit {P : Program} {o : Oper} (h1 : ∀ c, o.op ≠ .defer c) (h2 : ∀ w ρ, o.about P w ρ = none) (h3 : ∀ ρ, ∃ s : Sem Unit, execOp ρ o = (do s; pure .skip)) : CalmOp P o :=
  ⟨h1, h2, fun ρ w => by
    obtain ⟨s, hs⟩ := h3 ρ
    rw [hs, Sem.run_bind]
    cases s.run P w <;> trivial⟩
set_option maxRecDepth 100000 in
theorem calm_region {F : Fence} {n : Nat} {P : Program} {md : Region.Mode} {ops : Array Oper} {Q : Exit → Act → World → Prop} (hc : ∀ (i : Nat) (o : Oper), ops[i]? = some o → CalmOp P o) :
    ∀ (fuel : Nat) (listed : Array Bool) (a : Act) (w : World), wpAny P md ops (fun e a w => e = .normal ∧ Q .normal a w) fuel listed a w → wpAnyIn F n P md ops Q fuel listed a w
  | 0, _, _, _, h => ⟨h.1, h.2.2⟩
  | fuel + 1, listed, a, w, h => by
    refine ⟨fun hr => (h.1 hr).2, fun i hi => ?_⟩
    have h1 := h.2 i hi
    unfold wpOp at h1
    unfold wpOpIn
    cases ho : ops[i]? with
    | none =>
      rw [ho] at h1
      exact calm_region hc fuel _ _ _ h1
    | some o =>
      rw [ho] at h1
      simp only at h1 ⊢
      have hC := hc i o ho
      by_cases hw : Region.wanted o (yielded ops a.tmps) = true
      · rw [if_pos hw] at h1 ⊢
        rcases h1 with h1 | ⟨_, a', w', he, _⟩
        · refine ⟨fun f hf => (by rw [hC.nocall] at hf; cases hf), ?_⟩
          have hs : Oper.semAt F.round a.eval o = execOp a.eval o := by
            cases F.round with
            | none => simp [Oper.semAt]
            | some l => exact Oper.semAt_some l _ o hC.nodefer
          rw [hs]
          have hq := hC.calm a.eval w
          unfold Oper.wp at h1
          revert h1 hq
          cases (execOp a.eval o).run P w with
          | halt s w' =>
            intro h1 _
            cases s <;> first | exact h1.elim | cases h1.1
          | ok x w' =>
            cases x with
            | value v => intro h1 _; exact calm_region hc fuel _ _ _ h1
            | skip => intro h1 _; exact calm_region hc fuel _ _ _ h1
            | _ => intro _ hq; exact hq.elim
        · cases he
      · rw [if_neg hw] at h1 ⊢
        exact ⟨fun f hf => (by rw [hC.nocall] at hf; cases hf), calm_region hc fuel _ _ _ h1⟩
end Go.Proofs.Ytkpfkknldeafkaa
