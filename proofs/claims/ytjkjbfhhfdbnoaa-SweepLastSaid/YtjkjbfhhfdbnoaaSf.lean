/- What Sweep keeps, plainly. -/
import Derived.Test.YtjkjbfhhfdbnoaaSa
import Derived.Test.YtjkjbfhhfdbnoaaPBy15
namespace Go.Proofs.Ytjkjbfhhfdbnoaa.Pure
open Go.RowKit Go.Maps Go.Proofs.Ytjkjbfhhfdbnoaa.PB Go.Proofs.Ytjkjbfhhfdbnoaa.NW Go.Proofs.YtjkjbfhhfdbnoaaW.PrintWords Go.Proofs.YtjkjbfhhfdbnoaaW.PrintLast Go.Proofs.YtjkjbfhhfdbnoaaW.PrintMore Go.Proofs.YtjkjbfhhfdbnoaaW.Own
set_option linter.unusedVariables false
set_option linter.unusedSimpArgs false

theorem awake18_f : sacristanlaw18_awake.f = some true := by decide +kernel
/-- from some number of rounds on, it answers true -/
def EvT (g : Nat → Option Bool) : Prop := ∃ K, ∀ k, K ≤ k → g k = some true
theorem EvT.step {g h : Nat → Option Bool} (n : Nat) (hg : EvT g) (hh : ∀ k, h (k + n) = g k) : EvT h := by
  obtain ⟨K, hK⟩ := hg
  refine ⟨K + n, fun k hk => ?_⟩
  obtain ⟨m, rfl⟩ : ∃ m, k = m + n := ⟨k - n, by omega⟩
  rw [hh]
  exact hK m (by omega)
theorem bytes_iff (a b : ByteArray) : a.toList = b.toList ↔ a = b := by
  rw [ByteArray.toList_eq, ByteArray.toList_eq]
  exact ⟨fun h => ByteArray.ext (Array.ext' h), fun h => by rw [h]⟩
theorem ne39 (y x : S39) : (!((y.f0) == (x.f0)) || (!((y.f1) == (x.f1)) || (!((y.f2) == (x.f2)) || (!((y.f3) == (x.f3)) || (!(((y.f4).toList) == ((x.f4).toList)) || ((!((y.f5.f0) == (x.f5.f0)) || (!((y.f5.f1) == (x.f5.f1)) || (!(((y.f5.f2).toList) == ((x.f5.f2).toList))))))))))) = false ↔ y = x := by
  simp only [Bool.or_eq_false_iff, Bool.not_eq_false', beq_iff_eq, bytes_iff]
  obtain ⟨y0, y1, y2, y3, y4, y5, y6, y7⟩ := y
  obtain ⟨x0, x1, x2, x3, x4, x5, x6, x7⟩ := x
  simp
/-- what may keep a block from going through -/
def mayStop (x : S39) : Bool := !(x.f0 == 1 || x.f0 == 2)
theorem step_subs (l : List S39) : ∀ s : List Bool × List S39, ∃ t, (l.foldl stepW s).2 = s.2 ++ t ∧ (l.filter mayStop).Sublist t ∧ t.Sublist l := by
  induction l with
  | nil => intro s; exact ⟨[], by simp, by simp, by simp⟩
  | cons x l ih =>
    intro s
    obtain ⟨t, h1, h2, h3⟩ := ih (stepW s x)
    rw [List.foldl_cons, h1]
    unfold stepW
    by_cases h : (x.f0 = 1 ∨ x.f0 = 2) ∧ rdOf false s.1 x.f1 = false
    · rw [if_pos h]
      have hm : mayStop x = false := by unfold mayStop; rcases h.1 with e | e <;> simp [e]
      exact ⟨t, rfl, by rw [List.filter_cons_of_neg (by rw [hm]; decide)]; exact h2, h3.cons x⟩
    · rw [if_neg h]
      refine ⟨x :: t, by simp, ?_, h3.cons_cons x⟩
      rw [List.filter_cons]
      split
      · exact h2.cons_cons x
      · exact h2.cons x
theorem sweepF_subs (z0 z1 z2 : Int) (l3 : List S39) (z4 : Int) (l5 l6 : List Int) (z7 z8 z9 : Int) : (l3.filter mayStop).Sublist (sweepF z0 z1 z2 l3 z4 l5 l6 z7 z8 z9) ∧ (sweepF z0 z1 z2 l3 z4 l5 l6 z7 z8 z9).Sublist l3 := by
  unfold sweepF
  split
  · unfold sweepL
    obtain ⟨t, h1, h2, h3⟩ := step_subs l3.reverse (startW z2 l5 l6 z7, [])
    rw [h1]
    simp only [List.nil_append]
    constructor
    · have := h2.reverse
      rw [← List.filter_reverse, List.reverse_reverse] at this
      exact this
    · have := h3.reverse
      rw [List.reverse_reverse] at this
      exact this
  · exact ⟨List.filter_sublist, List.Sublist.refl _⟩
theorem sweep_f {z0 z1 z2 : Int} {l3 : List S39} {z4 : Int} {l5 l6 : List Int} {z7 z8 z9 : Int} (h3 : l3.length ≤ 100) (h5 : l5.length ≤ 400) (h6 : l6.length ≤ 400) (hw : ∀ x ∈ l3, x.f4.size ≤ 100) :
    sweep_Sweep.f z0 z1 z2 l3 z4 l5 l6 z7 z8 z9 = some (z0, z1, z2, sweepF z0 z1 z2 l3 z4 l5 l6 z7 z8 z9, z4, l5, l6, z7, z8, z9) := by
  unfold sweep_Sweep.f
  rw [if_pos]
  simp only [Bool.and_eq_true, List.all_eq_true, decide_eq_true_eq]
  exact ⟨fun x hx => by have := hw x hx; omega, by omega, by omega, by omega⟩
end Go.Proofs.Ytjkjbfhhfdbnoaa.Pure
