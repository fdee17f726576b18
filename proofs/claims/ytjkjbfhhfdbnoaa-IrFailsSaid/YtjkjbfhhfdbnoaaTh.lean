/- What inst keeps of the values. -/
import Derived.Test.YtjkjbfhhfdbnoaaTd
namespace Go.Proofs.Ytjkjbfhhfdbnoaa.NW
open Go.RowKit Go.Proofs.YtjkjbfhhfdbnoaaW.PrintWords Go.Proofs.YtjkjbfhhfdbnoaaW.PrintMore Go.Proofs.Ytjkjbfhhfdbnoaa.PB
set_option linter.unusedVariables false
set_option linter.unusedSimpArgs false
theorem does_keepsV {O : Ops} {P : S37 → Prop} (hO : OpsVal O P) {l7 l8 ups : List S37} {ons : List S54} {l3 : List S39} (hA : AllP P l7 l8 ups ons l3) {R : Nat} {x : S39} {r r' : List S37} {g g' : List S54} (hL : Left P R r g) (hm : x ∈ l3)
    (hx : instB R x.f0 x.f1 x.f2 x.f3 x.f4 x.f5.f0 x.f5.f1 x.f5.f2 g.length = true) (h : doesK O ups ons x r g = some (r', g')) : Left P R r' g' ∧ g'.length = (if x.f0 = 6 then g.length + 1 else g.length) := by
  have hi := instOk_of (r := r) (g := g) (by rw [hL.len]) hx
  unfold doesK at h
  by_cases c6 : x.f0 = 6
  · rw [if_pos c6, Option.map_eq_some_iff] at h
    obtain ⟨o, ho, h⟩ := h
    simp only [Prod.mk.injEq] at h
    obtain ⟨rfl, rfl⟩ := h
    unfold onK at ho
    split at ho
    case isFalse => cases ho
    rename_i h2
    split at ho
    case isFalse => cases ho
    split at ho
    case isFalse => cases ho
    injection ho with ho
    subst ho
    refine ⟨⟨hL.len, hL.r, fun o ho v hv => ?_⟩, by rw [if_pos c6]; simp⟩
    rcases List.mem_append.1 ho with ho | ho
    · exact hL.g o ho v hv
    · rw [List.mem_singleton.1 ho] at hv
      exact hA.o _ (onF_mem h2) v hv
  rw [if_neg c6] at h
  rw [if_neg c6]
  by_cases c8 : x.f0 = 8
  · rw [if_pos c8] at h
    split at h
    · injection h with h; simp only [Prod.mk.injEq] at h; obtain ⟨rfl, rfl⟩ := h; exact ⟨hL, rfl⟩
    · cases h
  rw [if_neg c8, Option.map_eq_some_iff] at h
  obtain ⟨v, hv, h⟩ := h
  simp only [Prod.mk.injEq] at h
  obtain ⟨rfl, rfl⟩ := h
  have hPv : P v := by
    unfold valK at hv
    by_cases c1 : x.f0 = 1
    · rw [if_pos c1] at hv
      injection hv with hv
      subst hv
      unfold instB at hx
      rw [if_pos c1, ifT, ifT] at hx
      exact hA.k x hm c1 hx.2.2
    rw [if_neg c1] at hv
    by_cases c2 : x.f0 = 2
    · rw [if_pos c2] at hv
      injection hv with hv
      subst hv
      obtain ⟨a0, a1⟩ := hi.a (.inl c2)
      exact hL.r _ (mem_rd a0 a1)
    rw [if_neg c2] at hv
    by_cases c3 : x.f0 = 3
    · rw [if_pos c3] at hv
      obtain ⟨a0, a1⟩ := hi.a (.inr (.inl c3))
      obtain ⟨rr, er, _, h2, h3⟩ := hO.one x.f4 _ (hL.r _ (mem_rd a0 a1))
      rw [h2] at hv
      split at hv
      · rename_i he; injection hv with hv; subst hv; exact h3 he
      · cases hv
    rw [if_neg c3] at hv
    by_cases c4 : x.f0 = 4
    · rw [if_pos c4] at hv
      obtain ⟨a0, a1⟩ := hi.a (.inr (.inr (.inl c4)))
      obtain ⟨b0, b1⟩ := hi.b c4
      obtain ⟨rr, er, _, h2, h3⟩ := hO.two x.f4 _ _ (hL.r _ (mem_rd a0 a1)) (hL.r _ (mem_rd b0 b1))
      rw [h2] at hv
      split at hv
      · rename_i he; injection hv with hv; subst hv; exact h3 he
      · cases hv
    rw [if_neg c4] at hv
    by_cases c5 : x.f0 = 5
    · rw [if_pos c5] at hv
      split at hv
      · rename_i hlt; injection hv with hv; subst hv; exact hA.u _ (mem_rd (hi.up (.inl c5)) hlt)
      · cases hv
    rw [if_neg c5] at hv
    by_cases c7 : x.f0 = 7
    · rw [if_pos c7] at hv
      split at hv
      · rename_i hlt
        injection hv with hv
        subst hv
        obtain ⟨b0, b1⟩ := hi.gd c7
        exact hL.g _ (mem_rd54 b0 b1) _ (mem_rd (hi.up (.inr c7)) hlt)
      · cases hv
    rw [if_neg c7] at hv
    injection hv with hv
    subst hv
    exact hA.z
  refine ⟨⟨by rw [List.length_set]; exact hL.len, fun u hu => ?_, hL.g⟩, rfl⟩
  rcases List.mem_or_eq_of_mem_set hu with hu | rfl
  · exact hL.r u hu
  · exact hPv
end Go.Proofs.Ytjkjbfhhfdbnoaa.NW
