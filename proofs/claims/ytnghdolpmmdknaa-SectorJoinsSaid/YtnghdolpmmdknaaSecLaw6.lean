/- The walk of a law of layer 45: Join agrees with the reference. No conditions. -/
import Derived.Test.YtnghdolpmmdknaaSecLives
import Derived.Test.YtnghdolpmmdknaaSecArgs
import Derived.Test.YtnghdolpmmdknaaSecRJoin
namespace Go.Proofs.Ytnghdolpmmdknaa
open Go.ChangeShapes Go.WideShapes Go.ChangeAt Go.RowKit

theorem open_strs2 {H : Type} {enc : TypeId × Value → H} {W : World} {base : Nat} {spare : Nat → Bool} {held : Bool} {r : Reach} {b0 : Nat} {v : Value} {d : DataW H} {p : List MemPlace}
    (hv : Value.okWide Try.prog W r b0 29 v) (h : DataW.Trod enc Try.prog W base spare held 29 v d p) :
    ∃ L : List (List UInt8), StrS W v L ∧ (∀ s ∈ L, s.length ≤ 9223372036854775807) ∧ L.length ≤ 9223372036854775807 := by
  obtain ⟨L, h1, h2⟩ := open_strs hv h
  refine ⟨L, h1, h2, ?_⟩
  obtain ⟨a, cap, rfl, hcap, _⟩ := h1
  obtain ⟨fuel, hf⟩ := h
  rcases open_strings Try.underlying29 Try.underlying9 (by kernel_rfl) hf with ⟨hcs, _⟩ | ⟨x, len', cap', ss, hcs, _, hl, hm, _⟩
  · simp [Value.cells] at hcs
    omega
  · simp [Value.cells] at hcs
    obtain ⟨rfl, rfl, rfl⟩ := hcs
    unfold maxLen at hm; omega

set_option maxRecDepth 100000 in
set_option maxHeartbeats 2000000 in
theorem joinsWalk (v : Value) (L : List (List UInt8)) (least most : Int) (w : World) (hS : StrS w v L) (hL : ∀ s ∈ L, s.length ≤ 9223372036854775807) (hn : L.length ≤ 9223372036854775807) :
    Calls Try.prog 5 #[v, .int .i64 least, .int .i64 most] w fun e w' => e = .returned (.bool true) ∧ Below w.heap.size w w' := by
  have hB0 := Below.refl w.heap.size w
  obtain ⟨a, n, m, k, hj⟩ : ∃ a n m k, joinS L least most = (a, n, m, k) := ⟨_, _, _, _, rfl⟩
  have HJ := Lib.hid hj; clear hj
  have q1 : (a == a) = true := by simp
  go_enter Try.func5, Try.ntmps5
  go_wp2_with fail
  refine (Few_any _ _ _ hS hn).mono ?_
  rintro e w' ⟨b, rfl, hb, rfl⟩
  clear hb
  cases b with
  | false =>
    go_wp2_with (go_at_call 15; refine (lives_any _).mono ?_; rintro e w5 ⟨rfl, hb⟩)
    go_ret
    exact ⟨rfl, hb⟩
  | true =>
    go_wp2_with fail
    refine (Join_any _ _ _ _ _ hS hL).mono ?_
    rw [HJ.out]
    rintro e w1 ⟨rfl, hb1⟩
    have hS1 := hS.below hb1
    go_wp2_with fail
    refine (RJoin_any _ _ _ _ _ hS1 hL).mono ?_
    rw [HJ.out]
    rintro e w2 ⟨rfl, hb2⟩
    have hb3 := btrans hb1 hb1.size hb2
    clear hb1 hb2 hS1
    have q2 : (k == k) = true := by simp
    go_wp2_with (go_at_call 15; refine (lives_any _).mono ?_; rintro e w5 ⟨rfl, hb⟩)
    go_ret
    exact ⟨rfl, btrans hb3 hb3.size hb⟩

theorem joinsLaw (v0 : Value) (M : List (List UInt8)) {w0 : World} (hS0 : StrS w0 v0 M) (hM : ∀ s ∈ M, s.length ≤ 9223372036854775807) (hn : M.length ≤ 9223372036854775807)
    (least : Int) (_wl : (Lit.int .i64 least).wf = true) (most : Int) (_wm : (Lit.int .i64 most).wf = true) (w : World) (hw : w0 = w := by rfl) :
    Calls Try.prog 5 #[v0, .int .i64 least, .int .i64 most] w fun e w' => e = .returned (.bool true) ∧ Below w.heap.size w w' := by
  subst hw; exact joinsWalk v0 M least most w0 hS0 hM hn
end Go.Proofs.Ytnghdolpmmdknaa
