/- The plain law of torn sectors: the mark in front and at the end. No conditions. -/
import Derived.Test.YtnghdolpmmdknaaSecJoinP
namespace Go.Proofs.Ytnghdolpmmdknaa
open Go.RowKit

theorem open_ends {s : List UInt8} {g p q : Int} {d : List UInt8} (h : openS s = ((g, p, q), d, 0)) : s.take 8 = markL g.toNat p.toNat ∧ s.drop 56 = markL g.toNat p.toNat ∧ s.length = 64 := by
  obtain ⟨g', p', q', d', e, hs, hd, hl⟩ := openS_ok (s := s) (by rw [h])
  rw [h] at e
  simp only [Prod.mk.injEq] at e
  obtain ⟨⟨rfl, rfl, rfl⟩, rfl, _⟩ := e
  rw [Int.toNat_natCast, Int.toNat_natCast]
  have hlen := sealedL_length g' p' q' d hd
  subst hl
  refine ⟨?_, ?_, hlen⟩
  · have e1 : sealedL g' p' q' d = markL g' p' ++ (be q' 2 ++ (be d.length 2 ++ (lit (crc (headL g' p' q' d.length ++ bodyL d)) 4 ++ (bodyL d ++ markL g' p')))) := by simp [sealedL, headL, markL, List.append_assoc]
    rw [e1, List.take_left' (markL_length _ _)]
  · have e2 : sealedL g' p' q' d = (headL g' p' q' d.length ++ (lit (crc (headL g' p' q' d.length ++ bodyL d)) 4 ++ bodyL d)) ++ markL g' p' := by simp [sealedL, List.append_assoc]
    rw [e2, List.drop_left' (by simp [headL_length, lit_length, bodyL_length d hd])]

theorem torn_plain {o t : List UInt8} {g p q : Int} {d : List UInt8} {m : Nat} (ht : openS t = ((g, p, q), d, 0)) (hne : o.drop 56 ≠ t.drop 56)
    {tn : List UInt8} (htn : tn = t.take m ++ o.drop m) (hm : m ≤ 64) {g' p' q' er : Int} {d' : List UInt8} (h1 : openS tn = ((g', p', q'), d', er)) {x : Int × Int × Int} {d2 : List UInt8} {er2 : Int} (h2 : openS o = (x, d2, er2)) :
    er ≠ 0 ∨ (er = 0 ∧ g' = g ∧ p' = p ∧ tn = t ∧ tn ≠ o) ∨ (er = 0 ∧ tn ≠ t ∧ ¬ (g' = g ∧ p' = p) ∧ (er2 = 0 → tn = o)) := by
  obtain ⟨t1, t2, t3⟩ := open_ends ht
  by_cases her : er = 0
  · subst her
    obtain ⟨n1, n2, n3⟩ := open_ends h1
    have hlow : m ≤ 56 → tn.drop 56 = o.drop 56 := by
      intro hm56
      rw [htn, List.drop_append, List.length_take, t3, Nat.min_eq_left hm, List.drop_of_length_le (by rw [List.length_take]; omega), List.nil_append, List.drop_drop]
      congr 1; omega
    by_cases hd : tn.drop 56 = t.drop 56
    · have hm56 : 56 < m := by
        rcases Nat.lt_or_ge 56 m with h | h
        · exact h
        · exact absurd ((hlow h).symm.trans hd) hne
      have hfr : tn.take 56 = t.take 56 := by
        rw [htn, List.take_append_of_le_length (by rw [List.length_take]; omega), List.take_take, Nat.min_eq_left (by omega)]
      have htt : tn = t := by rw [← List.take_append_drop 56 tn, hfr, hd, List.take_append_drop]
      refine .inr (.inl ⟨rfl, ?_, ?_, htt, ?_⟩)
      · rw [htt, ht] at h1; simp only [Prod.mk.injEq] at h1; exact h1.1.1.symm
      · rw [htt, ht] at h1; simp only [Prod.mk.injEq] at h1; exact h1.1.2.1.symm
      · intro h; apply hne; rw [← h, htt]
    · refine .inr (.inr ⟨rfl, ?_, ?_, ?_⟩)
      · intro h; apply hd; rw [h]
      · rintro ⟨rfl, rfl⟩; apply hd; rw [n2, t2]
      · intro h0
        subst h0
        obtain ⟨x1, x2, x3⟩ := x
        obtain ⟨o1, o2, _⟩ := open_ends h2
        have hm8 : m < 8 := by
          rcases Nat.lt_or_ge m 8 with h | h
          · exact h
          · exfalso
            apply hd
            have : tn.take 8 = t.take 8 := by rw [htn, List.take_append_of_le_length (by rw [List.length_take]; omega), List.take_take, Nat.min_eq_left h]
            rw [n2, ← n1, this, t1, t2]
        have hdr : tn.drop 8 = o.drop 8 := by
          rw [htn, List.drop_append, List.length_take, t3, Nat.min_eq_left hm, List.drop_of_length_le (by rw [List.length_take]; omega), List.nil_append, List.drop_drop]
          congr 1; omega
        have hta : tn.take 8 = o.take 8 := by rw [n1, ← n2, hlow (by omega), o2, o1]
        rw [← List.take_append_drop 8 tn, hta, hdr, List.take_append_drop]
  · exact .inl her

/-- the facts that the law's two tests need, branch for branch -/
theorem torn_facts {o t tn : List UInt8} {g p g' p' er er2 : Int}
    (h : er ≠ 0 ∨ (er = 0 ∧ g' = g ∧ p' = p ∧ tn = t ∧ tn ≠ o) ∨ (er = 0 ∧ tn ≠ t ∧ ¬ (g' = g ∧ p' = p) ∧ (er2 = 0 → tn = o))) :
    ((er == 0) = false ∧ (er2 != 0) = true) ∨
    ((er == 0) = false ∧ (er != 0) = true ∧ (er2 != 0) = false) ∨
    ((er == 0) = true ∧ (g' == g) = true ∧ (p' == p) = true ∧ (tn == t) = true ∧ (er2 != 0) = true) ∨
    ((er == 0) = true ∧ (er != 0) = false ∧ (g' == g) = true ∧ (p' == p) = true ∧ (tn != t) = false ∧ (er2 != 0) = false ∧ (tn == o) = false ∧ (tn == t) = true) ∨
    ((er == 0) = true ∧ (g' == g) = false ∧ (er2 != 0) = true) ∨
    ((er == 0) = true ∧ (er != 0) = false ∧ (g' == g) = false ∧ (er2 != 0) = false ∧ (tn == o) = true) ∨
    ((er == 0) = true ∧ (g' == g) = true ∧ (p' == p) = false ∧ (er2 != 0) = true) ∨
    ((er == 0) = true ∧ (er != 0) = false ∧ (g' == g) = true ∧ (p' == p) = false ∧ (er2 != 0) = false ∧ (tn == o) = true) := by
  rcases h with h | ⟨rfl, rfl, rfl, rfl, h⟩ | ⟨rfl, h1, h2, h3⟩
  · by_cases h2 : er2 = 0
    · exact .inr (.inl ⟨by simpa using h, by simpa using h, by simp [h2]⟩)
    · exact .inl ⟨by simpa using h, by simpa using h2⟩
  · by_cases h2 : er2 = 0
    · exact .inr (.inr (.inr (.inl ⟨by simp, by simp, by simp, by simp, by simp, by simp [h2], by simpa using h, by simp⟩)))
    · exact .inr (.inr (.inl ⟨by simp, by simp, by simp, by simp, by simpa using h2⟩))
  · by_cases hg : g' = g
    · have hp : p' ≠ p := fun hp => h2 ⟨hg, hp⟩
      by_cases h4 : er2 = 0
      · exact .inr (.inr (.inr (.inr (.inr (.inr (.inr ⟨by simp, by simp, by simp [hg], by simpa using hp, by simp [h4], by simp [h3 h4]⟩))))))
      · exact .inr (.inr (.inr (.inr (.inr (.inr (.inl ⟨by simp, by simp [hg], by simpa using hp, by simpa using h4⟩))))))
    · by_cases h4 : er2 = 0
      · exact .inr (.inr (.inr (.inr (.inr (.inl ⟨by simp, by simp, by simpa using hg, by simp [h4], by simp [h3 h4]⟩)))))
      · exact .inr (.inr (.inr (.inr (.inl ⟨by simp, by simpa using hg, by simpa using h4⟩))))
end Go.Proofs.Ytnghdolpmmdknaa
