/- What the reference's sealed, Seal, Open, Split, Join and Few (layer 45) return. No conditions but the numbers' own ranges. -/
import Derived.Test.YtkpfkknldeafkaaSecRef
import Derived.Test.YtkpfkknldeafkaaSecJoinP
namespace Go.Proofs.Ytkpfkknldeafkaa
open Go.RowKit

theorem head_str (g p q n : Nat) : Value.string (bs (markL g p ++ (be q 2 ++ be n 2))) = .string (bs (headL g p q n)) := by unfold headL markL; simp [List.append_assoc]
theorem sealed_str (g p q : Nat) (l B : List UInt8) (hB : B = bodyL l) : Ending.returned (.string (bs (headL g p q l.length ++ (lit (crc (headL g p q l.length ++ B)) 4 ++ (B ++ markL g p))))) = .returned (.string (bs (sealedL g p q l))) := by
  subst hB; unfold sealedL; simp [List.append_assoc]
/-- the stamp in its box -/
def SBox (w : World) (g p q : Int) (W : World) : Prop := W.heap[w.heap.size]? = some (.cells #[.int .i64 g, .int .i64 p, .int .i64 q] 87 (0, 0)) ∧ Below w.heap.size w W
theorem SBox.start (w : World) (g p q : Int) : SBox w g p q (w.alloc (.cells #[.int .i64 g, .int .i64 p, .int .i64 q] 87)) := ⟨heap_alloc_new w _, (Below.refl _ _).alloc (Nat.le_refl _) _⟩
theorem SBox.call {w W W' : World} {g p q : Int} (h : SBox w g p q W) (hb : Below W.heap.size W W') : SBox w g p q W' := ⟨(hb.block _ (lt_of_heap h.1)).trans h.1, btrans h.2 h.2.size hb⟩
theorem SBox.drew {w W : World} {g p q : Int} (h : SBox w g p q W) : SBox w g p q W.drew := ⟨h.1, h.2.drew⟩
theorem SBox.cells {w W : World} {g p q : Int} (h : SBox w g p q W) : W.cell? ⟨w.heap.size, 0, none⟩ = some (.int .i64 g) ∧ W.cell? ⟨w.heap.size, 1, none⟩ = some (.int .i64 p) ∧ W.cell? ⟨w.heap.size, 2, none⟩ = some (.int .i64 q) := by
  have h1 := h.1
  refine ⟨?_, ?_, ?_⟩ <;> simp [World.cell?, h1]
theorem keep3_draw {w W : World} {g p q : Int} (h : W.cell? ⟨w.heap.size, 0, none⟩ = some (.int .i64 g) ∧ W.cell? ⟨w.heap.size, 1, none⟩ = some (.int .i64 p) ∧ W.cell? ⟨w.heap.size, 2, none⟩ = some (.int .i64 q) ∧ SBox w g p q W) :
    W.drew.cell? ⟨w.heap.size, 0, none⟩ = some (.int .i64 g) ∧ W.drew.cell? ⟨w.heap.size, 1, none⟩ = some (.int .i64 p) ∧ W.drew.cell? ⟨w.heap.size, 2, none⟩ = some (.int .i64 q) ∧ SBox w g p q W.drew := ⟨h.1, h.2.1, h.2.2.1, h.2.2.2.drew⟩
theorem keep3_call {w W W' : World} {g p q : Int} (h : W.cell? ⟨w.heap.size, 0, none⟩ = some (.int .i64 g) ∧ W.cell? ⟨w.heap.size, 1, none⟩ = some (.int .i64 p) ∧ W.cell? ⟨w.heap.size, 2, none⟩ = some (.int .i64 q) ∧ SBox w g p q W) (hb : Below W.heap.size W W') :
    W'.cell? ⟨w.heap.size, 0, none⟩ = some (.int .i64 g) ∧ W'.cell? ⟨w.heap.size, 1, none⟩ = some (.int .i64 p) ∧ W'.cell? ⟨w.heap.size, 2, none⟩ = some (.int .i64 q) ∧ SBox w g p q W' := by
  have h2 := h.2.2.2.call hb
  obtain ⟨a, b, c⟩ := h2.cells
  exact ⟨a, b, c, h2⟩
theorem keep3_mk {w W : World} {g p q : Int} (h : SBox w g p q W) : W.cell? ⟨w.heap.size, 0, none⟩ = some (.int .i64 g) ∧ W.cell? ⟨w.heap.size, 1, none⟩ = some (.int .i64 p) ∧ W.cell? ⟨w.heap.size, 2, none⟩ = some (.int .i64 q) ∧ SBox w g p q W := by
  obtain ⟨a, b, c⟩ := h.cells
  exact ⟨a, b, c, h⟩
theorem keep3_box {w W : World} {g p q : Int} (h : W.cell? ⟨w.heap.size, 0, none⟩ = some (.int .i64 g) ∧ W.cell? ⟨w.heap.size, 1, none⟩ = some (.int .i64 p) ∧ W.cell? ⟨w.heap.size, 2, none⟩ = some (.int .i64 q) ∧ SBox w g p q W) : SBox w g p q W := h.2.2.2

set_option maxRecDepth 100000 in
set_option maxHeartbeats 2000000 in
theorem Rsealed_any (g p q : Int) (l : List UInt8) (w : World) (g0 : 0 ≤ g) (g1 : g < 9223372036854775808) (p0 : 0 ≤ p) (p1 : p < 9223372036854775808) (q0 : 0 ≤ q) (q1 : q < 9223372036854775808) (hl : l.length ≤ 40) :
    Calls Try.prog 95 #[.agg #[.int .i64 g, .int .i64 p, .int .i64 q], .string (bs l)] w fun e w' => e = .returned (.string (bs (sealedL g.toNat p.toNat q.toNat l))) ∧ Below w.heap.size w w' := by
  have hs0 := keep3_mk (SBox.start w g p q)
  have e1 : IntKind.u64.wrap q = q := by rw [IntKind.wrap_u64]; omega
  have hl' : (l.length : Int) ≤ 40 := by omega
  have e2 : IntKind.u64.wrap (l.length : Int) = l.length := by rw [IntKind.wrap_u64]; omega
  go_enter Try.func95, Try.ntmps95
  go_upto_region 1 with (fail)
  go_cut [5] (fun s5 wx => s5 = .string (bs (headL g.toNat p.toNat q.toNat l.length)) ∧ SBox w g p q wx)
  case first =>
    go_region_held3 (fun w' => w'.cell? ⟨w.heap.size, 0, none⟩ = some (.int .i64 g) ∧ w'.cell? ⟨w.heap.size, 1, none⟩ = some (.int .i64 p) ∧ w'.cell? ⟨w.heap.size, 2, none⟩ = some (.int .i64 q) ∧ SBox w g p q w')
      (first | assumption | exact hs0 | exact keep3_draw (by assumption) | exact keep3_call (by assumption) (by assumption))
      (first
        | (go_at_call 117; refine (Rbig_any _ _ _ (by omega) (by omega) (by decide) (by decide)).mono ?_; rintro e w' ⟨rfl, hb⟩)
        | (go_at_call 116; refine (RMark_any _ _ _ _ g0 g1 p0 p1).mono ?_; rintro e w' ⟨rfl, hb⟩))
    all_goals go_wp2_with fail
    all_goals go_meet
    all_goals exact ⟨head_str _ _ _ _, keep3_box (by assumption)⟩
  case rest =>
    obtain ⟨rfl, hS⟩ := hcut
    go_wp2
    clear e1 e2
    go_loop [6] (fun b => ∃ k : Nat, k ≤ 40 - l.length ∧ b = .string (bs (l ++ List.replicate k 0))) (fun b => 40 - (match b with | .string s => s.size | _ => 0))
    case atStart => exact ⟨0, Nat.zero_le _, by simp⟩
    case round =>
      obtain ⟨k, hk, rfl⟩ := hrel
      by_cases hlt : k < 40 - l.length
      · have hz : (l ++ List.replicate k 0).length < 40 := by simp; omega
        obtain ⟨B, hB⟩ : ∃ B : List UInt8, B = l ++ List.replicate k 0 := ⟨_, rfl⟩
        rw [← hB] at hz
        rw [← hB]
        have HB := Lib.hid hB; clear hB
        go_wp2
        go_round
        case rel =>
          refine ⟨k + 1, by omega, ?_⟩
          rw [show (ByteArray.mk #[0]) = bs [0] from rfl, bs_append, HB.out, List.append_assoc, ← List.replicate_succ']
        case measure =>
          show 40 - (bs B ++ ByteArray.mk #[0]).size < 40 - (bs B).size
          rw [show (ByteArray.mk #[0]) = bs [0] from rfl, bs_append, bs_size, bs_size, List.length_append]
          simp; omega
      · obtain ⟨B, hB⟩ : ∃ B : List UInt8, B = bodyL l := ⟨_, rfl⟩
        have hkb : l ++ List.replicate k 0 = B := by rw [hB, show k = 40 - l.length by omega]; rfl
        rw [hkb]
        have hbl : B.length = 40 := by rw [hB]; exact bodyL_length l hl
        have HB := Lib.hid hB; clear hB
        have HM := Lib.hid (show (headL g.toNat p.toNat q.toNat l.length ++ B).length ≤ maxLen by rw [List.length_append, headL_length, hbl]; decide)
        have hcr := crc_lt (headL g.toNat p.toNat q.toNat l.length ++ B)
        have hs1 := keep3_mk hS
        have e3 : IntKind.u64.wrap ((crc (headL g.toNat p.toNat q.toNat l.length ++ B) : Nat) : Int) = ((crc (headL g.toNat p.toNat q.toNat l.length ++ B) : Nat) : Int) := by rw [IntKind.wrap_u64]; omega
        clear hkb hs0
        go_wp2
        go_upto_region 5 with (fail)
        go_region_held3 (fun w' => w'.cell? ⟨w.heap.size, 0, none⟩ = some (.int .i64 g) ∧ w'.cell? ⟨w.heap.size, 1, none⟩ = some (.int .i64 p) ∧ w'.cell? ⟨w.heap.size, 2, none⟩ = some (.int .i64 q) ∧ SBox w g p q w')
          (first | assumption | exact hs1 | exact keep3_draw (by assumption) | exact keep3_call (by assumption) (by assumption))
          (first
            | (go_at_call 118; refine (R45little_any _ _ _ (by omega) (by omega) (by decide) (by decide)).mono ?_; rintro e w' ⟨rfl, hb⟩)
            | (go_at_call 119; refine (RCRC_any _ _ HM.out).mono ?_; rintro e w' ⟨rfl, rfl⟩)
            | (go_at_call 116; refine (RMark_any _ _ _ _ g0 g1 p0 p1).mono ?_; rintro e w' ⟨rfl, hb⟩))
        all_goals go_wp2
        all_goals go_ret
        all_goals exact ⟨sealed_str _ _ _ _ _ HB.out, (keep3_box (g := g) (p := p) (q := q) (by assumption)).2⟩
end Go.Proofs.Ytkpfkknldeafkaa
