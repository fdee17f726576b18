/- What may keep a block from going through is never swept, and stays in its order: for every block. -/
import Derived.Test.YtjkjbfhhfdbnoaaSf
import Derived.Test.YtjkjbfhhfdbnoaaPBx16
namespace Go.Proofs.Ytjkjbfhhfdbnoaa.Pure
open Go.RowKit Go.Maps Go.Proofs.Ytjkjbfhhfdbnoaa.PB Go.Proofs.Ytjkjbfhhfdbnoaa.NW Go.Proofs.YtjkjbfhhfdbnoaaW.PrintWords Go.Proofs.YtjkjbfhhfdbnoaaW.PrintLast Go.Proofs.YtjkjbfhhfdbnoaaW.PrintMore Go.Proofs.YtjkjbfhhfdbnoaaW.Own
set_option linter.unusedVariables false
set_option linter.unusedSimpArgs false

section
variable (z0 z1 z2 : Int) (l3 : List S39) (z4 : Int) (l5 l6 : List Int) (z7 z8 z9 : Int) (y0 y1 y2 : Int) (c : List S39) (y4 : Int) (m5 m6 : List Int) (y7 y8 y9 : Int)
theorem keeps_l1 (hn : l3.length ≤ 100) (hc : c.length ≤ 100) (i : Nat) (hi : i < l3.length) (rest : List S39)
    (hgo : ∀ k : Nat, k ≤ c.length → rest.Sublist (c.drop k) → EvT fun n => sacristanlaw18_SweepKeeps.l0 n (k : Int) ((i + 1 : Nat) : Int) z0 z1 z2 l3 z4 l5 l6 z7 z8 z9 y0 y1 y2 c y4 m5 m6 y7 y8 y9) :
    ∀ (d k : Nat), c.length - k = d → k ≤ c.length → (l3[i] :: rest).Sublist (c.drop k) → EvT fun n => sacristanlaw18_SweepKeeps.l1 n (k : Int) (i : Int) z0 z1 z2 l3 z4 l5 l6 z7 z8 z9 y0 y1 y2 c y4 m5 m6 y7 y8 y9 := by
  intro d
  induction d with
  | zero =>
    intro k hd hk hs
    rw [List.drop_of_length_le (by omega)] at hs
    cases hs
  | succ d ih =>
    intro k hd hk hs
    have hlt : k < c.length := by omega
    have hw1 : wrap64 ((k : Int) + 1) = ((k + 1 : Nat) : Int) := by rw [w64s (by omega) (by omega)]; omega
    have hw2 : wrap64 ((i : Int) + 1) = ((i + 1 : Nat) : Int) := by rw [w64s (by omega) (by omega)]; omega
    rw [List.drop_eq_getElem_cons hlt] at hs
    by_cases he : c[k] = l3[i]
    · have hr : rest.Sublist (c.drop (k + 1)) := by
        rcases List.sublist_cons_iff.1 hs with h | ⟨r, e, h⟩
        · exact (List.sublist_cons_self _ _).trans h
        · injection e with _ e; rw [e]; exact h
      refine (hgo (k + 1) (by omega) hr).step 2 fun n => ?_
      simp only [sacristanlaw18_SweepKeeps.l1, sacristanlaw18_SweepKeeps.j3]
      rw [if_pos (by omega), if_pos (by omega), if_pos (by omega), if_pos (by omega), rdT_nat hlt, rdT_nat hi, if_neg (by rw [(ne39 _ _).2 he]; decide), if_neg (by omega), hw1, hw2]
    · have hr : (l3[i] :: rest).Sublist (c.drop (k + 1)) := by
        rcases List.sublist_cons_iff.1 hs with h | ⟨r, e, h⟩
        · exact h
        · injection e with e _; exact absurd e.symm he
      refine (ih (k + 1) (by omega) (by omega) hr).step 1 fun n => ?_
      have hne := mt (ne39 c[k] l3[i]).1 he
      rw [Bool.not_eq_false] at hne
      simp only [sacristanlaw18_SweepKeeps.l1]
      rw [if_pos (by omega), if_pos (by omega), if_pos (by omega), if_pos (by omega), rdT_nat hlt, rdT_nat hi, if_pos hne, hw1]
theorem keeps_l0 (hn : l3.length ≤ 100) (hc : c.length ≤ 100) : ∀ (d i k : Nat), l3.length - i = d → i ≤ l3.length → k ≤ c.length → ((l3.drop i).filter mayStop).Sublist (c.drop k) →
    EvT fun n => sacristanlaw18_SweepKeeps.l0 n (k : Int) (i : Int) z0 z1 z2 l3 z4 l5 l6 z7 z8 z9 y0 y1 y2 c y4 m5 m6 y7 y8 y9 := by
  intro d
  induction d with
  | zero =>
    intro i k hd hi hk hs
    refine ⟨1, fun n hn => ?_⟩
    obtain ⟨n, rfl⟩ : ∃ m, n = m + 1 := ⟨n - 1, by omega⟩
    simp only [sacristanlaw18_SweepKeeps.l0]
    rw [if_neg (by omega), awake18_f]
    rfl
  | succ d ih =>
    intro i k hd hi hk hs
    have hlt : i < l3.length := by omega
    have hw2 : wrap64 ((i : Int) + 1) = ((i + 1 : Nat) : Int) := by rw [w64s (by omega) (by omega)]; omega
    rw [List.drop_eq_getElem_cons hlt] at hs
    by_cases h12 : l3[i].f0 = 1 ∨ l3[i].f0 = 2
    · have hm : mayStop l3[i] = false := by unfold mayStop; rcases h12 with e | e <;> simp [e]
      rw [List.filter_cons_of_neg (by rw [hm]; decide)] at hs
      refine (ih (i + 1) k (by omega) (by omega) hk hs).step 2 fun n => ?_
      simp only [sacristanlaw18_SweepKeeps.l0, sacristanlaw18_SweepKeeps.j1]
      rw [if_pos (by omega), if_pos (by omega), rdT_nat hlt, hw2]
      by_cases h1 : l3[i].f0 = 1
      · rw [if_pos h1]; simp
      · rw [if_neg h1, if_pos (by rw [beq_iff_eq]; omega)]
    · have hm : mayStop l3[i] = true := by unfold mayStop; simp; omega
      rw [List.filter_cons_of_pos hm] at hs
      have h := keeps_l1 z0 z1 z2 l3 z4 l5 l6 z7 z8 z9 y0 y1 y2 c y4 m5 m6 y7 y8 y9 hn hc i hlt ((l3.drop (i + 1)).filter mayStop) (fun k' hk' hs' => ih (i + 1) k' (by omega) (by omega) hk' hs') _ k rfl hk hs
      refine h.step 2 fun n => ?_
      simp only [sacristanlaw18_SweepKeeps.l0, sacristanlaw18_SweepKeeps.j1]
      rw [if_pos (by omega), if_pos (by omega), rdT_nat hlt, if_neg (by omega), if_neg (by rw [beq_iff_eq]; omega)]
end
/-- THE LAW, plainly -/
theorem SweepKeeps (z0 z1 z2 : Int) (l3 : List S39) (z4 : Int) (l5 l6 : List Int) (z7 z8 z9 : Int) : ∃ k, sacristanlaw18_SweepKeeps.f k z0 z1 z2 l3 z4 l5 l6 z7 z8 z9 = some true := by
  obtain ⟨b, hb, hsm⟩ := great_f z0 z1 z2 l3 z4 l5 l6 z7 z8 z9 [] [] [] []
  cases b with
  | true =>
    refine ⟨6000, ?_⟩
    unfold sacristanlaw18_SweepKeeps.f
    rw [hb _ (by omega), Option.bind_some, if_pos rfl, awake18_f]
    rfl
  | false =>
    have hs := hsm rfl
    obtain ⟨h1, h2⟩ := sweepF_subs z0 z1 z2 l3 z4 l5 l6 z7 z8 z9
    have h3 := hs.insts
    have hcl := h2.length_le
    obtain ⟨K, hK⟩ := keeps_l0 z0 z1 z2 l3 z4 l5 l6 z7 z8 z9 z0 z1 z2 (sweepF z0 z1 z2 l3 z4 l5 l6 z7 z8 z9) z4 l5 l6 z7 z8 z9 h3 (by omega) _ 0 0 rfl (Nat.zero_le _) (Nat.zero_le _) h1
    refine ⟨K + 6000, ?_⟩
    unfold sacristanlaw18_SweepKeeps.f
    rw [hb _ (by omega), Option.bind_some, if_neg (by decide), sweep_f hs.insts hs.save hs.stack (fun x hx => (hs.words x hx).1), Option.bind_some]
    exact hK (K + 6000) (by omega)
end Go.Proofs.Ytjkjbfhhfdbnoaa.Pure
