/- An Int, a Bool and a Str are made as told, and = tells whether two are the same: for every input. -/
import Derived.Test.YtahcnpjgbhpbeaaVe
import Derived.Test.YtahcnpjgbhpbeaaPVx11
namespace Go.Proofs.Ytahcnpjgbhpbeaa.Pure
open Go.RowKit Go.Proofs.Ytahcnpjgbhpbeaa.PV Go.Proofs.YtahcnpjgbhpbeaaW.PrintWords Go.Proofs.YtahcnpjgbhpbeaaW.PrintLast Go.Proofs.YtahcnpjgbhpbeaaW.PrintMore Go.Proofs.YtahcnpjgbhpbeaaW.Own
set_option linter.unusedVariables false
set_option linter.unusedSimpArgs false
/-! ### Makes -/
theorem two_eq (t1 a : Int) (s : ByteArray) (t2 b : Int) (t : ByteArray) : twoR (⟨#[61]⟩ : ByteArray).toList t1 a s t2 b t = if t1 = t2 ∧ t1 ≤ 3 then okb (a == b && s.toList == t.toList) else er 2 := by
  rw [ByteArray.toList_eq]; rfl
theorem fits_bool (b : Bool) : Fits 2 (if b then 1 else 0) ⟨#[]⟩ := ⟨by cases b <;> (unfold I64; decide), by decide, fun h => by omega, fun h => by omega⟩
theorem ValueMakes : sacristanlaw01_ValueMakes.Pure := by
  intro a0 a1 a2 a3 h0 h2 h3
  have i0 := I64.of_wf h0
  refine ⟨300, ?_⟩
  have wake : sacristanlaw01_ValueMakes.j0 300 a0 a1 a2 a3 true = some true := by
    simp only [sacristanlaw01_ValueMakes.j0, if_true]
    rw [awake_f 290]; rfl
  have last : sacristanlaw01_ValueMakes.j0 300 a0 a1 a2 a3 false = some true := by
    simp only [sacristanlaw01_ValueMakes.j0, Bool.false_eq_true, if_false, value_Of.f, value_Text.f, is_f, bool_f, sacristanref01_Int.f, Option.bind_some, beq_self_eq_true, Bool.not_true, Bool.or_self]
    simp only [sacristanlaw01_ValueMakes.j1, Bool.false_eq_true, if_false, value_Text.f, Option.bind_some]
    rw [vtwo _ 3 0 a2 3 0 a3 (fits_str a2 h2) (fits_str a3 h3) 289, vtwo _ 1 a0 _ 2 _ _ (fits_int a0 i0) (fits_bool a1) 289, two_eq, two_eq, if_pos (by decide), if_neg (by decide)]
    simp only [Option.bind_some, bool_f, beq_self_eq_true, Bool.true_and]
    rw [if_pos (show (okb (a2.toList == a3.toList)).2.2.2 = 0 from rfl), if_pos, if_pos (show (er 2).2.2.2 = 2 from rfl), awake_f 289]
    · rfl
    · simp only [okb, beq_self_eq_true, Bool.and_self]
  unfold sacristanlaw01_ValueMakes.f
  by_cases c : (a2.size : Int) > 1000
  · rw [if_pos c]; exact wake
  · rw [if_neg c]
    by_cases c2 : (a3.size : Int) > 1000
    · rw [decide_eq_true c2]; exact wake
    · rw [decide_eq_false c2]; exact last
end Go.Proofs.Ytahcnpjgbhpbeaa.Pure
