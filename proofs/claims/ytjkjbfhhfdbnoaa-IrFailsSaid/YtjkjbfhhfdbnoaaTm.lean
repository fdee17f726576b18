/- right, plainly. -/
import Derived.Test.YtjkjbfhhfdbnoaaTl
import Derived.Test.YtjkjbfhhfdbnoaaSh
namespace Go.Proofs.Ytjkjbfhhfdbnoaa.Pure
open Go.RowKit Go.Proofs.Ytjkjbfhhfdbnoaa.PB Go.Proofs.Ytjkjbfhhfdbnoaa.NW Go.Proofs.YtjkjbfhhfdbnoaaW.PrintWords Go.Proofs.YtjkjbfhhfdbnoaaW.PrintLast Go.Proofs.YtjkjbfhhfdbnoaaW.PrintMore
set_option linter.unusedVariables false
set_option linter.unusedSimpArgs false

theorem right15_l0 (s t u : List S37) (o : List S54) (hs : s.length ≤ 9223372036854775807) (ht : t.length ≤ 9223372036854775807) (hu : u.length ≤ 9223372036854775807) (ho : o.length ≤ 9223372036854775807) (hx : ∀ x ∈ o, x.f3.length ≤ 9223372036854775807) :
    ∀ (d i : Nat), o.length - i = d → i ≤ o.length → ∃ K b, (∀ k, K < k → sacristanlaw15_right.l0 k s t (i : Int) u o = some b) ∧ (b = true → (∀ v ∈ s, mayB v.f0 v.f1 v.f2 = true) ∧ (∀ v ∈ t, mayB v.f0 v.f1 v.f2 = true) ∧ (∀ v ∈ u, mayB v.f0 v.f1 v.f2 = true) ∧ ∀ (j : Nat) (h : j < o.length), i ≤ j → ∀ v ∈ o[j].f3, mayB v.f0 v.f1 v.f2 = true) := by
  intro d
  induction d with
  | zero =>
    intro i hd hi
    obtain ⟨b1, f1, p1⟩ := Right_f s hs
    obtain ⟨b2, f2, p2⟩ := Right_f t ht
    obtain ⟨b3, f3, p3⟩ := Right_f u hu
    refine ⟨s.length + t.length + u.length + 20, if b1 = true then (if b2 = true then b3 else false) else false, fun k hk => ?_, fun h => ?_⟩
    · obtain ⟨k, rfl⟩ : ∃ m, k = m + 1 := ⟨k - 1, by omega⟩
      simp only [sacristanlaw15_right.l0]
      rw [if_neg (by omega), f1 k (by omega), f2 k (by omega), f3 k (by omega)]
      cases b1 <;> cases b2 <;> cases b3 <;> rfl
    · cases b1 <;> cases b2 <;> cases b3 <;> simp at h
      exact ⟨p1 rfl, p2 rfl, p3 rfl, fun j h hj => by omega⟩
  | succ d ih =>
    intro i hd hi
    have hlt : i < o.length := by omega
    obtain ⟨K, b, hb, hj⟩ := ih (i + 1) (by omega) (by omega)
    obtain ⟨b1, f1, p1⟩ := Right_f o[i].f3 (hx _ (List.getElem_mem hlt))
    cases b1 with
    | false =>
      refine ⟨o[i].f3.length + 20, false, fun k hk => ?_, fun h => by cases h⟩
      obtain ⟨k, rfl⟩ : ∃ m, k = m + 1 := ⟨k - 1, by omega⟩
      simp only [sacristanlaw15_right.l0]
      rw [if_pos (by omega), if_pos (by omega), rd54_nat hlt, f1 k (by omega)]
      rfl
    | true =>
      refine ⟨K + o[i].f3.length + 20, b, fun k hk => ?_, fun e => ?_⟩
      · obtain ⟨k, rfl⟩ : ∃ m, k = m + 1 := ⟨k - 1, by omega⟩
        simp only [sacristanlaw15_right.l0]
        rw [if_pos (by omega), if_pos (by omega), rd54_nat hlt, f1 k (by omega), Option.bind_some, if_pos rfl, show wrap64 ((i : Int) + 1) = ((i + 1 : Nat) : Int) by unfold wrap64; omega]
        exact hb k (by omega)
      · obtain ⟨q1, q2, q3, q4⟩ := hj e
        refine ⟨q1, q2, q3, fun j h hij => ?_⟩
        by_cases e2 : j = i
        · subst e2; exact p1 rfl
        · exact q4 j h (by omega)
theorem right15_f (s t u : List S37) (o : List S54) (hs : s.length ≤ 9223372036854775807) (ht : t.length ≤ 9223372036854775807) (hu : u.length ≤ 9223372036854775807) (ho : o.length ≤ 9223372036854775807) (hx : ∀ x ∈ o, x.f3.length ≤ 9223372036854775807) :
    ∃ K b, sacristanlaw15_right.f K s t u o = some b ∧ (b = true → RightIs s t u o) := by
  obtain ⟨K, b, hb, hj⟩ := right15_l0 s t u o hs ht hu ho hx o.length 0 rfl (Nat.zero_le _)
  refine ⟨K + 1, b, hb _ (by omega), fun e => ?_⟩
  obtain ⟨q1, q2, q3, q4⟩ := hj e
  refine ⟨q1, q2, q3, fun x hx => ?_⟩
  obtain ⟨j, h, rfl⟩ := List.getElem_of_mem hx
  exact q4 j h (Nat.zero_le _)
end Go.Proofs.Ytjkjbfhhfdbnoaa.Pure
