/- Bits that are moved up and down again are the lowest ones; down by so many at once or one behind the other is the same: for every input. -/
import Derived.Test.YtahcnpjgbhpbeaaVb
import Derived.Test.YtahcnpjgbhpbeaaVe
import Derived.Test.YtahcnpjgbhpbeaaPVx12
namespace Go.Proofs.Ytahcnpjgbhpbeaa.Pure
open Go.RowKit Go.Proofs.Ytahcnpjgbhpbeaa.PV Go.Proofs.YtahcnpjgbhpbeaaW.PrintWords Go.Proofs.YtahcnpjgbhpbeaaW.PrintLast Go.Proofs.YtahcnpjgbhpbeaaW.PrintMore Go.Proofs.YtahcnpjgbhpbeaaW.Own
set_option linter.unusedVariables false
set_option linter.unusedSimpArgs false
/-! ### Shifts -/
theorem tb_ext (x y : Int) (hx : I64 x) (hy : I64 y) (h : ∀ i, i < 64 → tb x i = tb y i) : x = y := by
  have hl : ∀ i, i < 64 → ((List.range 64).map (tb y)).getD i false = tb y i := by
    intro i hi
    simp [List.getD_eq_getElem?_getD, hi]
  have h1 := of_f x hx ((List.range 64).map (tb y)) (by simp) (fun i hi => by rw [hl i hi, h i hi]) 66 (by omega)
  have h2 := of_f y hy ((List.range 64).map (tb y)) (by simp) hl 66 (by omega)
  rw [h1] at h2
  exact Option.some.inj h2
theorem tb_ones (i : Nat) : tb (-1) i = true := by
  unfold tb
  have hp := pow_pos' i
  generalize (2 : Int) ^ i = p at *
  have : (-1) / p = -1 := by
    rw [Int.ediv_eq_iff_of_pos hp]; omega
  rw [this]; rfl
theorem up_down (a : Int) (k : Nat) (hk : k ≤ 63) : wrap64 (wrap64 (a * 2 ^ k) % 18446744073709551616 / 2 ^ k) = Go.bits .and .i64 a (wrap64 ((-1) % 18446744073709551616 / 2 ^ k)) := by
  refine tb_ext _ _ (w64_I64 _) (bits_and_I64 _ _ _) fun i hi => ?_
  rw [tb_and _ _ _ hi, ← tb_ushr _ _ _ hi, ← tb_ushr _ _ _ hi, tb_ones]
  by_cases h : i + k ≤ 63
  · rw [tb_wrap64 _ _ (by omega), tb_shl]
    simp [h]
  · simp [h]
theorem ValueShifts : sacristanlaw01_ValueShifts.Pure := by
  intro a0 a1 a2 h0 h1 h2
  have i0 := I64.of_wf h0
  have u1 := u8_of_wf h1
  have u2 := u8_of_wf h2
  refine ⟨300, ?_⟩
  have n1 : 0 ≤ Int.tmod a1 64 ∧ Int.tmod a1 64 < 64 := ⟨Int.tmod_nonneg _ u1.1, Int.tmod_lt_of_pos _ (by decide)⟩
  have n2 : 0 ≤ Int.tmod a2 64 ∧ Int.tmod a2 64 < 64 := ⟨Int.tmod_nonneg _ u2.1, Int.tmod_lt_of_pos _ (by decide)⟩
  unfold sacristanlaw01_ValueShifts.f
  rw [w64 (show I64 (Int.tmod a1 64) by unfold I64; omega), w64 (show I64 (Int.tmod a2 64) by unfold I64; omega)]
  obtain ⟨k, hk⟩ := Int.eq_ofNat_of_zero_le n1.1
  obtain ⟨j, hj⟩ := Int.eq_ofNat_of_zero_le n2.1
  rw [hk] at n1 ⊢
  rw [hj] at n2 ⊢
  have fk := fits_int (k : Int) (by unfold I64; omega)
  have fj := fits_int (j : Int) (by unfold I64; omega)
  simp only [value_Of.f, Option.bind_some]
  have s1 : intsR [115, 104, 108] a0 k = okv (wrap64 (a0 * 2 ^ k)) := by
    show shlS a0 k = _
    unfold shlS; rw [if_neg (by omega), Int.toNat_natCast]
  have s2 : ∀ x : Int, intsR [117, 115, 104, 114] x k = okv (wrap64 (x % 18446744073709551616 / 2 ^ k)) := by
    intro x
    show ushrS x k = _
    unfold ushrS; rw [if_neg (by omega), Int.toNat_natCast]
  have s3 : ∀ (x : Int) (n : Nat), n ≤ 63 → intsR [115, 104, 114] x n = okv (x / 2 ^ n) := by
    intro x n hn
    show shrS x n = _
    unfold shrS; rw [if_neg (by omega), Int.toNat_natCast]
  have s4 : ∀ x y : Int, intsR [97, 110, 100] x y = okv (Go.bits .and .i64 x y) := fun _ _ => rfl
  rw [vtwo _ 1 a0 _ 1 k _ (fits_int a0 i0) fk 291, two_int _ [115, 104, 108] rfl (by decide), s1]
  simp only [Option.bind_some, okv]
  rw [vtwo _ 1 _ _ 1 k _ (fits_int _ (w64_I64 _)) fk 291, two_int _ [117, 115, 104, 114] rfl (by decide), s2]
  simp only [Option.bind_some, okv]
  rw [vtwo _ 1 (-1) _ 1 k _ (fits_int _ (by unfold I64; omega)) fk 291, two_int _ [117, 115, 104, 114] rfl (by decide), s2]
  simp only [Option.bind_some, okv]
  rw [vtwo _ 1 a0 _ 1 _ _ (fits_int a0 i0) (fits_int _ (w64_I64 _)) 291, two_int _ [97, 110, 100] rfl (by decide), s4]
  simp only [Option.bind_some, okv, if_true, up_down a0 k (by omega), beq_self_eq_true, Bool.not_true, Bool.or_self]
  simp only [sacristanlaw01_ValueShifts.j0, Bool.false_eq_true, if_false]
  rw [w64 (show I64 ((k : Int) + j) by unfold I64; omega)]
  by_cases c : (k : Int) + j > 63
  · rw [if_pos c, awake_f 290]; rfl
  · rw [if_neg c]
    simp only [value_Of.f, Option.bind_some]
    have s5 : intsR [115, 104, 114] a0 ((k : Int) + j) = okv (a0 / 2 ^ (k + j)) := by
      have := s3 a0 (k + j) (by omega)
      rw [← this]; congr 1
    rw [vtwo _ 1 a0 _ 1 k _ (fits_int a0 i0) fk 290, two_int _ [115, 104, 114] rfl (by decide), s3 _ _ (by omega)]
    simp only [Option.bind_some, okv]
    rw [vtwo _ 1 _ _ 1 j _ (fits_int _ (shr_range a0 i0 k)) fj 290, two_int _ [115, 104, 114] rfl (by decide), s3 _ _ (by omega)]
    rw [vtwo _ 1 a0 _ 1 _ _ (fits_int a0 i0) (fits_int _ (by unfold I64; omega)) 290, two_int _ [115, 104, 114] rfl (by decide), s5]
    simp only [Option.bind_some, okv]
    have e : a0 / 2 ^ k / 2 ^ j = a0 / 2 ^ (k + j) := by
      rw [Int.ediv_ediv_of_nonneg (by have := pow_pos' k; omega), ← Int.pow_add]
    rw [e]
    simp only [beq_self_eq_true, Bool.and_self, if_true]
    rw [awake_f 290]; rfl
end Go.Proofs.Ytahcnpjgbhpbeaa.Pure
