/- What may be, by both; what is reckoned may be. -/
import Derived.Test.YtahcnpjgbhpbeaaVc
import Derived.Test.YtahcnpjgbhpbeaaPVx2
import Derived.Test.YtahcnpjgbhpbeaaPVx17
namespace Go.Proofs.Ytahcnpjgbhpbeaa.Pure
open Go.RowKit Go.Proofs.Ytahcnpjgbhpbeaa.PV Go.Proofs.YtahcnpjgbhpbeaaW.PrintWords Go.Proofs.YtahcnpjgbhpbeaaW.PrintLast Go.Proofs.YtahcnpjgbhpbeaaW.PrintMore Go.Proofs.YtahcnpjgbhpbeaaW.Own
set_option linter.unusedVariables false
set_option linter.unusedSimpArgs false
/-! ### What may be -/
def mayR (t a : Int) (s : ByteArray) : Bool := decide (t ≤ 7) && (decide (t = 3) || decide (s.toList = [])) && decide ((s.size : Int) ≤ 65536) && (if t = 0 ∨ t = 3 then decide (a = 0) else if t = 2 then decide (a = 0 ∨ a = 1) else decide (t = 1 ∨ 0 ≤ a))
/-! ### Ones, Twos -/
theorem size_of_empty {s : ByteArray} (h : s.toList = []) : s.size = 0 := by rw [empty_of h]; rfl
theorem vmay (t a : Int) (s : ByteArray) (ht : 0 ≤ t) (k : Nat) : value_May.f (k + 1) t a s = some (mayR t a s) := by
  unfold value_May.f mayR
  by_cases c3 : t = 3
  · subst c3
    rw [if_pos rfl]
    by_cases ca : a = 0
    · rw [if_pos ca]; simp [ca]
    · rw [if_neg ca]; simp [ca]
  · rw [if_neg c3]
    by_cases cs : s.toList = []
    · rw [if_pos cs]
      have hz := size_of_empty cs
      simp only [value_May.j0]
      by_cases c7 : t > 7
      · rw [if_pos (decide_eq_true c7)]
        have : ¬ t ≤ 7 := by omega
        simp [this]
      · rw [if_neg (by simpa using c7)]
        have q7 : t ≤ 7 := by omega
        by_cases c0 : t = 0
        · rw [if_pos c0]; simp [c0, cs, hz]; rfl
        · rw [if_neg c0]
          by_cases c2 : t = 2
          · rw [if_pos c2]
            by_cases ca : a = 0
            · rw [if_pos ca]; simp [c2, cs, hz, ca]
            · rw [if_neg ca]
              by_cases cb : a = 1
              · simp [c2, cs, hz, ca, cb]
              · simp [c2, cs, hz, ca, cb]
          · rw [if_neg c2]
            by_cases c1 : t = 1
            · rw [if_pos c1]; simp [c1, cs, hz]
            · rw [if_neg c1]; simp [c0, c1, c2, c3, cs, hz, q7]
    · rw [if_neg cs]
      simp only [value_May.j0, if_true]
      simp [c3, cs]
theorem rmay (t a : Int) (s : ByteArray) (ht : 0 ≤ t) (k : Nat) : sacristanref01_May.f (k + 2) t a s = some (mayR t a s) := by
  have tail : ∀ x : Bool, sacristanref01_May.j0 (k + 2) x t a s = some (!x && (if t = 0 ∨ t = 3 then decide (a = 0) else if t = 2 then decide (a = 0 ∨ a = 1) else decide (t = 1 ∨ 0 ≤ a))) := by
    intro x
    simp only [sacristanref01_May.j0, sacristanref01_May.j1]
    cases x
    · rw [if_neg (by decide)]
      by_cases c0 : t = 0
      · simp [c0]; rfl
      · by_cases c3 : t = 3
        · simp [c3]; rfl
        · by_cases c2 : t = 2
          · by_cases ca : a = 0
            · simp [c2, ca]
            · simp [c2, ca]; rfl
          · by_cases c1 : t = 1
            · simp [c1]
            · simp [c0, c1, c2, c3]
    · rfl
  unfold sacristanref01_May.f mayR
  by_cases c7 : t > 7
  · rw [if_pos c7, tail]
    have : ¬ t ≤ 7 := by omega
    simp [this]
  · have q7 : t ≤ 7 := by omega
    rw [if_neg c7]
    by_cases c3 : t = 3
    · rw [if_pos c3, tail]
      by_cases cz : (s.size : Int) > 65536
      · have : ¬ (s.size : Int) ≤ 65536 := by omega
        simp [c3, cz, this]
      · have : (s.size : Int) ≤ 65536 := by omega
        simp [c3, cz, this]
    · rw [if_neg c3]
      by_cases cs : s.toList = []
      · rw [if_pos cs, tail]
        have hz := size_of_empty cs
        simp [cs, hz, q7]
      · rw [if_neg cs, tail]
        simp [c3, cs]
theorem may_parts {t a : Int} {s : ByteArray} (h : mayR t a s = true) (ha : I64 a) : Fits t a s ∧ s.size ≤ 65536 ∧ (t = 3 ∨ s.toList = []) := by
  unfold mayR at h
  simp only [Bool.and_eq_true, Bool.or_eq_true, decide_eq_true_eq] at h
  obtain ⟨⟨⟨h7, hs⟩, hz⟩, hr⟩ := h
  refine ⟨⟨ha, by omega, fun h => hs.resolve_left (by omega), fun h => ?_⟩, by omega, hs⟩
  rw [if_pos (.inr h)] at hr
  simpa using hr
theorem may_res {r : Res} (h : r = er 1 ∨ r = er 2 ∨ r = er 3 ∨ r = er 4 ∨ r = er 5 ∨ (∃ n, r = okv n) ∨ (∃ b, r = okb b) ∨ ∃ s : ByteArray, s.size ≤ 65536 ∧ r = (3, 0, s, 0)) : mayR r.1 r.2.1 r.2.2.1 = true := by
  have he : ∀ c, mayR (er c).1 (er c).2.1 (er c).2.2.1 = true := by
    intro c
    unfold mayR er
    simp only [ByteArray.toList_eq]; rfl
  rcases h with rfl | rfl | rfl | rfl | rfl | ⟨n, rfl⟩ | ⟨b, rfl⟩ | ⟨s, hs, rfl⟩
  · exact he _
  · exact he _
  · exact he _
  · exact he _
  · exact he _
  · unfold mayR okv; simp only [ByteArray.toList_eq]; rfl
  · unfold mayR okb; simp only [ByteArray.toList_eq]; cases b <;> rfl
  · unfold mayR
    have : (s.size : Int) ≤ 65536 := by omega
    simp [this]
end Go.Proofs.Ytahcnpjgbhpbeaa.Pure
