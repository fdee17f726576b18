/- Any two numbers' sums, products, quotients and moves are the document's, a quotient and what is left come to the number again, and sums may be turned: for every input. -/
import Derived.Test.YtahcnpjgbhpbeaaVd
import Derived.Test.YtahcnpjgbhpbeaaVe
import Derived.Test.YtahcnpjgbhpbeaaPVx10
namespace Go.Proofs.Ytahcnpjgbhpbeaa.Pure
open Go.RowKit Go.Proofs.Ytahcnpjgbhpbeaa.PV Go.Proofs.YtahcnpjgbhpbeaaW.PrintWords Go.Proofs.YtahcnpjgbhpbeaaW.PrintLast Go.Proofs.YtahcnpjgbhpbeaaW.PrintMore Go.Proofs.YtahcnpjgbhpbeaaW.Own
set_option linter.unusedVariables false
set_option linter.unusedSimpArgs false
theorem ValueInts : sacristanlaw01_ValueInts.Pure := by
  intro a0 a1 a2 h0 h1 h2
  have u0 := u8_of_wf h0
  have i1 := I64.of_wf h1
  have i2 := I64.of_wf h2
  refine ⟨300, ?_⟩
  unfold sacristanlaw01_ValueInts.f sacristanref01_Twos.f
  simp only [Option.bind_some]
  have m0 : 0 ≤ Int.tmod a0 11 := Int.tmod_nonneg _ u0.1
  have m1 : Int.tmod a0 11 < 11 := Int.tmod_lt_of_pos _ (by decide)
  rw [if_pos m0, if_pos (by simp only [List.length_cons, List.length_nil]; omega)]
  generalize rdOf ByteArray.empty _ (Int.tmod a0 11) = w
  have f1 := fits_int a1 i1
  have f2 := fits_int a2 i2
  simp only [value_Of.f, sacristanref01_Int.f, Option.bind_some]
  rw [vtwo w 1 a1 _ 1 a2 _ f1 f2 291, rtwo w 1 a1 _ 1 a2 _ f1 f2 90]
  simp only [Option.bind_some, beq_self_eq_true, bne_self_eq_false, Bool.not_true, Bool.or_self, Bool.false_eq_true, if_false]
  simp only [sacristanlaw01_ValueInts.j0, value_Of.f, Option.bind_some, Bool.false_eq_true, if_false]
  rw [vtwo _ 1 a1 _ 1 a2 _ f1 f2 290, vtwo _ 1 a1 _ 1 a2 _ f1 f2 290, two_int _ [47] rfl (by decide), two_int _ [37] rfl (by decide)]
  have e1 : intsR [47] a1 a2 = divS a1 a2 := rfl
  have e2 : intsR [37] a1 a2 = modS a1 a2 := rfl
  rw [e1, e2]
  simp only [Option.bind_some]
  have last : sacristanlaw01_ValueInts.j1 299 a1 a2 false = some true := by
    simp only [sacristanlaw01_ValueInts.j1, value_Of.f, Option.bind_some, Bool.false_eq_true, if_false]
    rw [vtwo _ 1 a1 _ 1 a2 _ f1 f2 289, vtwo _ 1 a2 _ 1 a1 _ f2 f1 289, two_int _ [43] rfl (by decide), two_int _ [43] rfl (by decide)]
    have e3 : intsR [43] a2 a1 = intsR [43] a1 a2 := by
      show addS a2 a1 = addS a1 a2
      unfold addS; rw [Int.add_comm]
    rw [e3]
    simp only [Option.bind_some, beq_self_eq_true, Bool.and_self, if_true]
    rw [awake_f 289]
    rfl
  by_cases c : a2 = 0
  · unfold divS
    rw [if_pos c, if_neg (by decide)]; exact last
  · unfold modS
    rw [if_neg c]
    unfold divS
    rw [if_neg c]
    by_cases c2 : a1 = -9223372036854775808 ∧ a2 = -1
    · rw [if_pos c2, if_neg (by decide)]; exact last
    · rw [if_neg c2, if_pos (show (okv (Int.tdiv a1 a2)).2.2.2 = 0 from rfl), if_pos (show (okv (Int.tmod a1 a2)).2.2.2 = 0 from rfl)]
      have e4 : wrap64 (wrap64 ((okv (Int.tdiv a1 a2)).2.1 * a2) + (okv (Int.tmod a1 a2)).2.1) = a1 := by
        show wrap64 (wrap64 (Int.tdiv a1 a2 * a2) + Int.tmod a1 a2) = a1
        have := Int.mul_tdiv_add_tmod a1 a2
        rw [Int.mul_comm] at this
        obtain ⟨_, _⟩ := i1
        unfold wrap64
        omega
      rw [e4, bne_self_eq_false]; exact last
end Go.Proofs.Ytahcnpjgbhpbeaa.Pure
