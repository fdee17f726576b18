/- Of two Ints, and of two Strs, just one is so (below, the same, above): for every input. -/
import Derived.Test.YtahcnpjgbhpbeaaVe
import Derived.Test.YtahcnpjgbhpbeaaPVx13
namespace Go.Proofs.Ytahcnpjgbhpbeaa.Pure
open Go.RowKit Go.Proofs.Ytahcnpjgbhpbeaa.PV Go.Proofs.YtahcnpjgbhpbeaaW.PrintWords Go.Proofs.YtahcnpjgbhpbeaaW.PrintLast Go.Proofs.YtahcnpjgbhpbeaaW.PrintMore Go.Proofs.YtahcnpjgbhpbeaaW.Own
set_option linter.unusedVariables false
set_option linter.unusedSimpArgs false
theorem two_eq (t1 a : Int) (s : ByteArray) (t2 b : Int) (t : ByteArray) : twoR (⟨#[61]⟩ : ByteArray).toList t1 a s t2 b t = if t1 = t2 ∧ t1 ≤ 3 then okb (a == b && s.toList == t.toList) else er 2 := by
  rw [ByteArray.toList_eq]; rfl
/-! ### Order -/
theorem two_less (t1 a : Int) (s : ByteArray) (t2 b : Int) (t : ByteArray) : twoR (⟨#[60]⟩ : ByteArray).toList t1 a s t2 b t = if t1 = 1 ∧ t2 = 1 then okb (decide (a < b)) else if t1 = 3 ∧ t2 = 3 then okb (Op.bytesLess s.toList t.toList) else er 2 := by
  rw [ByteArray.toList_eq]; rfl
theorem less_tri (a b : List UInt8) : ((if Op.bytesLess a b = true then 1 else 0) + (if Op.bytesLess b a = true then 1 else 0) + (if (a == b) = true then 1 else 0) : Int) = 1 := by
  have h := bytesLess_swap a b
  have h2 := bytesLess_swap b a
  by_cases e : a = b
  · subst e; rw [less_irrefl]; simp
  · have e1 : (a == b) = false := by simpa using e
    have e2 : (b == a) = false := by simpa using fun x => e x.symm
    rw [e1, Bool.or_false] at h
    rw [e1]
    cases x : Op.bytesLess a b <;> cases y : Op.bytesLess b a <;> simp_all
set_option maxRecDepth 20000 in
theorem ValueOrder : sacristanlaw01_ValueOrder.Pure := by
  intro a0 a1 a2 a3 h0 h1 h2 h3
  have i0 := I64.of_wf h0
  have i1 := I64.of_wf h1
  refine ⟨300, ?_⟩
  have wake : sacristanlaw01_ValueOrder.j0 300 a0 a1 a2 a3 true = some true := by
    simp only [sacristanlaw01_ValueOrder.j0, if_true]
    rw [awake_f 290]; rfl
  have last : sacristanlaw01_ValueOrder.j0 300 a0 a1 a2 a3 false = some true := by
    simp only [sacristanlaw01_ValueOrder.j0, Bool.false_eq_true, if_false, value_Of.f, value_Text.f, Option.bind_some]
    have w1 : wrap64 ((0 : Int) + 1) = 1 := by unfold wrap64; omega
    have w2 : wrap64 ((0 : Int) + 2) = 2 := by unfold wrap64; omega
    have w3 : wrap64 ((2 : Int) + 1) = 3 := by unfold wrap64; omega
    have w4 : wrap64 ((2 : Int) + 2) = 4 := by unfold wrap64; omega
    generalize hl : ([(⟨1, a0, ⟨#[]⟩⟩ : S26), (⟨1, a1, ⟨#[]⟩⟩ : S26), (⟨3, 0, a2⟩ : S26), (⟨3, 0, a3⟩ : S26)] : List S26) = l
    have hn : l.length = 4 := by rw [← hl]; rfl
    have e0 : rd_T26 l 0 = ⟨1, a0, ⟨#[]⟩⟩ := by rw [← hl]; rfl
    have e1 : rd_T26 l 1 = ⟨1, a1, ⟨#[]⟩⟩ := by rw [← hl]; rfl
    have e2 : rd_T26 l 2 = ⟨3, 0, a2⟩ := by rw [← hl]; rfl
    have e3 : rd_T26 l 3 = ⟨3, 0, a3⟩ := by rw [← hl]; rfl
    have tri1 : wrap64 (wrap64 ((if a0 < a1 then 1 else 0) + (if a1 < a0 then 1 else 0)) + (if a0 = a1 then 1 else 0)) = 1 := by
      unfold wrap64
      by_cases c1 : a0 < a1
      · rw [if_pos c1, if_neg (by omega), if_neg (by omega)]; rfl
      · rw [if_neg c1]
        by_cases c2 : a1 < a0
        · rw [if_pos c2, if_neg (by omega)]; rfl
        · rw [if_neg c2, if_pos (by omega)]; rfl
    have tri2 : wrap64 (wrap64 ((if Op.bytesLess a2.toList a3.toList = true then 1 else 0) + (if Op.bytesLess a3.toList a2.toList = true then 1 else 0)) + (if (a2.toList == a3.toList) = true then 1 else 0)) = 1 := by
      have := less_tri a2.toList a3.toList
      rw [w64 (show I64 ((if Op.bytesLess a2.toList a3.toList = true then 1 else 0) + (if Op.bytesLess a3.toList a2.toList = true then 1 else 0)) by unfold I64; split <;> split <;> omega), this]
      unfold wrap64; omega
    rw [show (299 : Nat) = 298 + 1 from rfl, sacristanlaw01_ValueOrder.l0]
    rw [if_pos (by omega), if_pos (by omega), if_pos (by omega), w1, if_pos (by omega), if_pos (by omega), e0, e1]
    simp only []
    rw [vtwo _ 1 a0 _ 1 a1 _ (fits_int a0 i0) (fits_int a1 i1) 289, vtwo _ 1 a1 _ 1 a0 _ (fits_int a1 i1) (fits_int a0 i0) 289, vtwo _ 1 a0 _ 1 a1 _ (fits_int a0 i0) (fits_int a1 i1) 289, two_less, two_less, two_eq]
    rw [if_pos ⟨rfl, rfl⟩, if_pos ⟨rfl, rfl⟩, if_pos (by decide)]
    simp only [if_true, Option.bind_some, okb, decide_eq_true_eq, beq_self_eq_true, Bool.and_true, beq_iff_eq]
    simp only [tri1, bne_self_eq_false]
    rw [show (298 : Nat) = 296 + 1 + 1 from rfl, sacristanlaw01_ValueOrder.j2, if_neg (by decide), w2, sacristanlaw01_ValueOrder.l0]
    rw [if_pos (by omega), if_pos (by omega), if_pos (by omega), w3, if_pos (by omega), if_pos (by omega), e2, e3]
    simp only []
    rw [vtwo _ 3 0 _ 3 0 _ (fits_str a2 h2) (fits_str a3 h3) 287, vtwo _ 3 0 _ 3 0 _ (fits_str a3 h3) (fits_str a2 h2) 287, vtwo _ 3 0 _ 3 0 _ (fits_str a2 h2) (fits_str a3 h3) 287, two_less, two_less, two_eq]
    rw [if_neg (by decide), if_pos (by decide), if_neg (by decide), if_pos (by decide), if_pos (by decide)]
    simp only [Option.bind_some, okb, beq_self_eq_true, Bool.true_and, if_true]
    simp only [tri2, bne_self_eq_false]
    rw [show (296 : Nat) = 294 + 1 + 1 from rfl, sacristanlaw01_ValueOrder.j2, if_neg (by decide), w4, sacristanlaw01_ValueOrder.l0, if_neg (by omega), awake_f 285]; rfl
  unfold sacristanlaw01_ValueOrder.f
  by_cases c : (a2.size : Int) > 1000
  · rw [if_pos c]; exact wake
  · rw [if_neg c]
    by_cases c2 : (a3.size : Int) > 1000
    · rw [decide_eq_true c2]; exact wake
    · rw [decide_eq_false c2]; exact last
end Go.Proofs.Ytahcnpjgbhpbeaa.Pure
