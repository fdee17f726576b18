/- What the reference reckons with two values is the same. -/
import Derived.Test.YtahcnpjgbhpbeaaVb
import Derived.Test.YtahcnpjgbhpbeaaVc
import Derived.Test.YtahcnpjgbhpbeaaPVx7
import Derived.Test.YtahcnpjgbhpbeaaPVx8
namespace Go.Proofs.Ytahcnpjgbhpbeaa.Pure
open Go.RowKit Go.Proofs.Ytahcnpjgbhpbeaa.PV Go.Proofs.YtahcnpjgbhpbeaaW.PrintWords Go.Proofs.YtahcnpjgbhpbeaaW.PrintLast Go.Proofs.YtahcnpjgbhpbeaaW.PrintMore Go.Proofs.YtahcnpjgbhpbeaaW.Own
set_option linter.unusedVariables false
set_option linter.unusedSimpArgs false
/-! ### The reference's ints -/
theorem rInt (n : Int) : sacristanref01_Int.f n = some (1, n, ⟨#[]⟩) := rfl
theorem r0 (a b : Int) (x : Bool) (k : Nat) : sacristanref01_ints.j0 (k + 1) a b x 0 0 ⟨#[]⟩ = some (if x then er 3 else okv (wrap64 (a + b))) := by
  cases x <;> rfl
theorem r1 (a b : Int) (x : Bool) (k : Nat) : sacristanref01_ints.j1 (k + 1) a b x 0 0 ⟨#[]⟩ = some (if x then er 3 else okv (wrap64 (a - b))) := by
  cases x <;> rfl
theorem ref_add (w : ByteArray) (hw : w.toList = [43]) (a b : Int) (ha : I64 a) (hb : I64 b) (k : Nat) : sacristanref01_ints.f (k + 1) w a b = some (addS a b) := by
  obtain ⟨_, _⟩ := ha; obtain ⟨_, _⟩ := hb
  unfold sacristanref01_ints.f addS
  rw [if_pos hw]
  by_cases h1 : b > 0
  · rw [if_pos h1, w64 (show I64 (9223372036854775807 - b) by unfold I64; omega)]
    by_cases h2 : a > 9223372036854775807 - b
    · rw [if_pos h2, r0, if_pos rfl, if_neg (by unfold I64; omega)]
    · rw [if_neg h2, if_neg (by omega), r0, if_neg (by decide), if_pos (by unfold I64; omega), w64 (by unfold I64; omega)]
  · rw [if_neg h1]
    by_cases h2 : b < 0
    · rw [if_pos h2, w64 (show I64 (-9223372036854775808 - b) by unfold I64; omega), r0]
      by_cases h3 : a < -9223372036854775808 - b
      · rw [if_pos (decide_eq_true h3), if_neg (by unfold I64; omega)]
      · rw [if_neg (by simpa using h3), if_pos (by unfold I64; omega), w64 (by unfold I64; omega)]
    · rw [if_neg h2, r0, if_neg (by decide), if_pos (by unfold I64; omega), w64 (by unfold I64; omega)]
theorem ref_sub (w : ByteArray) (hw : w.toList = [45]) (a b : Int) (ha : I64 a) (hb : I64 b) (k : Nat) : sacristanref01_ints.f (k + 1) w a b = some (subS a b) := by
  obtain ⟨_, _⟩ := ha; obtain ⟨_, _⟩ := hb
  unfold sacristanref01_ints.f subS
  rw [if_neg (by rw [hw]; decide), if_pos hw]
  by_cases h1 : b < 0
  · rw [if_pos h1, w64 (show I64 (9223372036854775807 + b) by unfold I64; omega)]
    by_cases h2 : a > 9223372036854775807 + b
    · rw [if_pos h2, r1, if_pos rfl, if_neg (by unfold I64; omega)]
    · rw [if_neg h2, if_neg (by omega), r1, if_neg (by decide), if_pos (by unfold I64; omega), w64 (by unfold I64; omega)]
  · rw [if_neg h1]
    by_cases h2 : b > 0
    · rw [if_pos h2, w64 (show I64 (-9223372036854775808 + b) by unfold I64; omega), r1]
      by_cases h3 : a < -9223372036854775808 + b
      · rw [if_pos (decide_eq_true h3), if_neg (by unfold I64; omega)]
      · rw [if_neg (by simpa using h3), if_pos (by unfold I64; omega), w64 (by unfold I64; omega)]
    · rw [if_neg h2, r1, if_neg (by decide), if_pos (by unfold I64; omega), w64 (by unfold I64; omega)]

/-! products -/
theorem r5 (a b : Int) (x : Bool) (k : Nat) : sacristanref01_ints.j5 (k + 1) a b x 0 0 ⟨#[]⟩ = some (if x then er 3 else okv (wrap64 (a * b))) := by
  cases x <;> rfl
/-- A product that is too great doesn't come back by a quotient. -/
theorem mul_back (a b : Int) (ha : I64 a) (hb : I64 b) (h0 : b ≠ 0) (hm : a ≠ -9223372036854775808) (hm2 : b ≠ -9223372036854775808) : wrap64 (Int.tdiv (wrap64 (a * b)) b) = a ↔ I64 (a * b) := by
  constructor
  · intro h
    obtain ⟨a1, a2⟩ := ha; obtain ⟨b1, b2⟩ := hb
    have hp := w64_I64 (a * b)
    generalize hq : wrap64 (a * b) = p at *
    have hne : ¬ (p = -9223372036854775808 ∧ b = -1) := by
      rintro ⟨rfl, rfl⟩
      have e1 : Int.tdiv (-9223372036854775808) (-1) = 9223372036854775808 := by decide
      rw [e1] at h
      unfold wrap64 at h
      omega
    rw [w64 (tdiv_I64 p b hp h0 hne)] at h
    -- p = b * a + rest, |rest| < |b|
    have e := Int.mul_tdiv_add_tmod p b
    rw [h] at e
    have e2 : ∃ c, p = a * b + c * 18446744073709551616 := by
      refine ⟨-((a * b + 9223372036854775808) / 18446744073709551616), ?_⟩
      rw [← hq]; unfold wrap64; omega
    obtain ⟨c, e2⟩ := e2
    have hr : (Int.tmod p b).natAbs < b.natAbs := by
      rw [Int.natAbs_tmod]; exact Nat.mod_lt _ (by omega)
    have hr2 : Int.tmod p b = c * 18446744073709551616 := by rw [Int.mul_comm b a] at e; omega
    have hc : c = 0 := by
      rw [hr2] at hr
      omega
    rw [hc] at e2
    rw [show a * b = p by omega]
    exact hp
  · intro h
    rw [w64 h, Int.mul_tdiv_cancel _ h0, w64 ha]
theorem r4 (a b : Int) (ha : I64 a) (hb : I64 b) (h0 : b ≠ 0) (ha0 : a ≠ 0) (h1 : ¬ (a = -9223372036854775808 ∧ b ≠ 1)) (h2 : ¬ (b = -9223372036854775808 ∧ a ≠ 1)) (k : Nat) :
    sacristanref01_ints.j4 (k + 2) a b false 0 0 ⟨#[]⟩ = some (mulS a b) := by
  simp only [sacristanref01_ints.j4, Bool.false_eq_true, if_false]
  unfold mulS
  by_cases c1 : a = -9223372036854775808
  · obtain rfl : b = 1 := by
      refine Classical.byContradiction fun h => h1 ⟨c1, h⟩
    rw [if_pos c1, r5, if_neg (by decide), Int.mul_one, if_pos ha, w64 ha]
  · rw [if_neg c1]
    by_cases c2 : b = -9223372036854775808
    · obtain rfl : a = 1 := by
        refine Classical.byContradiction fun h => h2 ⟨c2, h⟩
      rw [if_pos c2, r5, if_neg (by decide), Int.one_mul, if_pos hb, w64 hb]
    · rw [if_neg c2, if_neg h0, r5]
      have hm := mul_back a b ha hb h0 c1 c2
      by_cases c3 : I64 (a * b)
      · rw [if_pos c3, w64 c3]
        have := hm.2 c3
        rw [w64 c3] at this
        rw [if_neg (by simpa using this)]
      · rw [if_neg c3, if_pos (by simpa using fun h => c3 (hm.1 h))]
theorem ref_mul (w : ByteArray) (hw : w.toList = [42]) (a b : Int) (ha : I64 a) (hb : I64 b) (k : Nat) : sacristanref01_ints.f (k + 9) w a b = some (mulS a b) := by
  unfold sacristanref01_ints.f
  rw [if_neg (by rw [hw]; decide), if_neg (by rw [hw]; decide), if_pos hw]
  have e2 : ∀ x, sacristanref01_ints.j2 (k + 9) a b x 0 0 ⟨#[]⟩ = if x = true then some (okv 0) else sacristanref01_ints.j3 (k + 8) a b ((a == -1 && b == -9223372036854775808) || (b == -1 && a == -9223372036854775808)) 0 0 ⟨#[]⟩ := by
    intro x
    simp only [sacristanref01_ints.j2]
    cases x
    · simp only [Bool.false_eq_true, if_false]
      by_cases c1 : a = -1
      · have x1 : (a == -1) = true := beq_iff_eq.2 c1
        have x4 : (a == -9223372036854775808) = false := beq_eq_false_iff_ne.2 (by omega)
        rw [if_pos c1]
        by_cases c2 : b = -9223372036854775808
        · have x2 : (b == -9223372036854775808) = true := beq_iff_eq.2 c2
          rw [if_pos c2, x1, x2]; rfl
        · have x2 : (b == -9223372036854775808) = false := beq_eq_false_iff_ne.2 c2
          rw [if_neg c2, x1, x2, x4]
          by_cases c3 : b = -1
          · rw [if_pos c3, Bool.and_false, Bool.and_false]; rfl
          · rw [if_neg c3, Bool.and_false, Bool.and_false]; rfl
      · have x1 : (a == -1) = false := beq_eq_false_iff_ne.2 c1
        rw [if_neg c1, x1, Bool.false_and, Bool.false_or]
        by_cases c3 : b = -1
        · have x3 : (b == -1) = true := beq_iff_eq.2 c3
          rw [if_pos c3, x3, Bool.true_and]
        · have x3 : (b == -1) = false := beq_eq_false_iff_ne.2 c3
          rw [if_neg c3, x3, Bool.false_and]
    · rfl
  have e3 : ∀ x, sacristanref01_ints.j3 (k + 8) a b x 0 0 ⟨#[]⟩ = if x = true then some (er 3) else sacristanref01_ints.j4 (k + 7) a b ((a == -9223372036854775808 && b != 1) || (b == -9223372036854775808 && a != 1)) 0 0 ⟨#[]⟩ := by
    intro x
    simp only [sacristanref01_ints.j3]
    cases x
    · simp only [Bool.false_eq_true, if_false]
      by_cases c1 : a = -9223372036854775808
      · have x1 : (a == -9223372036854775808) = true := beq_iff_eq.2 c1
        rw [if_pos c1, x1, Bool.true_and]
        by_cases c2 : b = 1
        · have x2 : (b != 1) = false := by rw [c2]; rfl
          rw [if_pos c2, x2, Bool.false_or]
          by_cases c3 : b = -9223372036854775808
          · omega
          · have x3 : (b == -9223372036854775808) = false := beq_eq_false_iff_ne.2 c3
            rw [if_neg c3, x3, Bool.false_and]
        · have x2 : (b != 1) = true := bne_iff_ne.2 c2
          rw [if_neg c2, x2, Bool.true_or]
      · have x1 : (a == -9223372036854775808) = false := beq_eq_false_iff_ne.2 c1
        rw [if_neg c1, x1, Bool.false_and, Bool.false_or]
        by_cases c3 : b = -9223372036854775808
        · have x3 : (b == -9223372036854775808) = true := beq_iff_eq.2 c3
          rw [if_pos c3, x3, Bool.true_and]
        · have x3 : (b == -9223372036854775808) = false := beq_eq_false_iff_ne.2 c3
          rw [if_neg c3, x3, Bool.false_and]
    · rfl
  have e4 : ∀ x, x = true → sacristanref01_ints.j4 (k + 7) a b x 0 0 ⟨#[]⟩ = some (er 3) := by
    intro x hx; subst hx; rfl
  have big : ∀ x y : Int, x = -9223372036854775808 → I64 y → y ≠ 1 → y ≠ 0 → ¬ I64 (x * y) := by
    intro x y hx hy h1 h0 h
    obtain ⟨_, _⟩ := h; obtain ⟨_, _⟩ := hy
    subst hx
    omega
  have main : a ≠ 0 → b ≠ 0 → sacristanref01_ints.j2 (k + 9) a b false 0 0 ⟨#[]⟩ = some (mulS a b) := by
    intro ha0 hb0
    rw [e2, if_neg (by decide), e3]
    by_cases c : ((a == -1 && b == -9223372036854775808) || (b == -1 && a == -9223372036854775808)) = true
    · rw [if_pos c]
      unfold mulS
      simp only [Bool.or_eq_true, Bool.and_eq_true, beq_iff_eq] at c
      rcases c with ⟨c1, c2⟩ | ⟨c1, c2⟩
      · rw [if_neg (by rw [Int.mul_comm]; exact big b a c2 ha (by omega) ha0)]
      · rw [if_neg (big a b c2 hb (by omega) hb0)]
    · rw [if_neg c]
      by_cases d : ((a == -9223372036854775808 && b != 1) || (b == -9223372036854775808 && a != 1)) = true
      · rw [e4 _ d]
        unfold mulS
        simp only [Bool.or_eq_true, Bool.and_eq_true, beq_iff_eq, bne_iff_ne] at d
        rcases d with ⟨c1, c2⟩ | ⟨c1, c2⟩
        · rw [if_neg (big a b c1 hb c2 hb0)]
        · rw [if_neg (by rw [Int.mul_comm]; exact big b a c1 ha c2 ha0)]
      · rw [show ((a == -9223372036854775808 && b != 1) || (b == -9223372036854775808 && a != 1)) = false by simpa using d]
        simp only [Bool.or_eq_true, Bool.and_eq_true, beq_iff_eq, bne_iff_ne] at d
        exact r4 a b ha hb hb0 ha0 (fun h => d (.inl h)) (fun h => d (.inr h)) _
  by_cases c1 : a = 0
  · rw [if_pos c1, e2, if_pos rfl]
    unfold mulS
    rw [c1, Int.zero_mul, if_pos (by unfold I64; omega)]
  · rw [if_neg c1]
    by_cases c2 : b = 0
    · rw [show (b == 0) = true by simpa using c2, e2, if_pos rfl]
      unfold mulS
      rw [c2, Int.mul_zero, if_pos (by unfold I64; omega)]
    · rw [show (b == 0) = false by simpa using c2]; exact main c1 c2

/-! quotients -/
theorem r8_div (w : ByteArray) (hw : w.toList = [47]) (a b : Int) (x : Bool) (h0 : b ≠ 0) (k : Nat) : sacristanref01_ints.j8 (k + 1) w a b x 0 0 ⟨#[]⟩ = some (if x then er 3 else okv (wrap64 (Int.tdiv a b))) := by
  simp only [sacristanref01_ints.j8]
  cases x
  · rw [if_neg (by decide), if_pos hw, if_neg h0]; rfl
  · rfl
theorem r8_mod (w : ByteArray) (hw : w.toList = [37]) (a b : Int) (x : Bool) (h0 : b ≠ 0) (k : Nat) : sacristanref01_ints.j8 (k + 1) w a b x 0 0 ⟨#[]⟩ = some (if x then er 3 else okv (wrap64 (a - wrap64 (wrap64 (Int.tdiv a b) * b)))) := by
  simp only [sacristanref01_ints.j8]
  cases x
  · rw [if_neg (by decide), if_neg (by rw [hw]; decide), if_neg h0]; rfl
  · rfl
theorem ref_div (w : ByteArray) (hw : w.toList = [47]) (a b : Int) (ha : I64 a) (k : Nat) : sacristanref01_ints.f (k + 9) w a b = some (divS a b) := by
  unfold sacristanref01_ints.f divS
  rw [if_neg (by rw [hw]; decide), if_neg (by rw [hw]; decide), if_neg (by rw [hw]; decide), if_pos hw]
  simp only [sacristanref01_ints.j6, hw, beq_self_eq_true, if_true]
  by_cases h0 : b = 0
  · rw [if_pos h0, if_pos h0]; rfl
  · rw [if_neg h0, if_neg h0, if_neg (by decide)]
    simp only [sacristanref01_ints.j7, Bool.false_eq_true, if_false]
    by_cases h1 : b = -1
    · rw [if_pos h1, r8_div w hw a b _ h0]
      by_cases h2 : a = -9223372036854775808
      · rw [if_pos (beq_iff_eq.2 h2), if_pos ⟨h2, h1⟩]
      · rw [if_neg (by simpa using h2), if_neg (fun h => h2 h.1), w64 (tdiv_I64 a b ha h0 (fun h => h2 h.1))]
    · rw [if_neg h1, r8_div w hw a b _ h0, if_neg (by decide), if_neg (fun h => h1 h.2), w64 (tdiv_I64 a b ha h0 (fun h => h1 h.2))]
theorem ref_mod (w : ByteArray) (hw : w.toList = [37]) (a b : Int) (ha : I64 a) (k : Nat) : sacristanref01_ints.f (k + 9) w a b = some (modS a b) := by
  unfold sacristanref01_ints.f modS
  rw [if_neg (by rw [hw]; decide), if_neg (by rw [hw]; decide), if_neg (by rw [hw]; decide), if_neg (by rw [hw]; decide)]
  simp only [sacristanref01_ints.j6, hw, beq_self_eq_true, if_true]
  by_cases h0 : b = 0
  · rw [if_pos h0, if_pos h0]; rfl
  · rw [if_neg h0, if_neg h0]
    simp only [sacristanref01_ints.j7]
    by_cases h1 : b = -1
    · rw [if_pos (beq_iff_eq.2 h1), h1]
      have : Int.tmod a (-1) = 0 := by rw [Int.tmod_neg]; exact Int.tmod_one a
      rw [this]; rfl
    · rw [if_neg (by simpa using h1), if_neg h1, r8_mod w hw a b _ h0, if_neg (by decide)]
      rw [w64 (tdiv_I64 a b ha h0 (fun h => h1 h.2))]
      have e : a - Int.tdiv a b * b = Int.tmod a b := by
        have := Int.mul_tdiv_add_tmod a b
        rw [Int.mul_comm] at this; omega
      have e2 : I64 (Int.tdiv a b * b) := by
        have hr : Int.tdiv a b * b = a - Int.tmod a b := by omega
        have h3 : (Int.tmod a b).natAbs = a.natAbs % b.natAbs := Int.natAbs_tmod a b
        have h4 : a.natAbs % b.natAbs ≤ a.natAbs := Nat.mod_le _ _
        obtain ⟨_, _⟩ := ha
        unfold I64
        by_cases h : 0 ≤ a
        · have := Int.tmod_nonneg b h
          omega
        · have := Int.tmod_nonneg b (show 0 ≤ -a by omega)
          rw [Int.neg_tmod] at this
          omega
      rw [w64 e2, e, w64 (tmod_I64 a b ha)]

/-! bits -/
theorem r10 (w : ByteArray) (a b x : Int) (k : Nat) (h : sacristanref01_bitwise.f k w a b = some x) : sacristanref01_ints.j10 (k + 1) w a b = some (okv x) := by
  simp only [sacristanref01_ints.j10, h]; rfl
theorem byteArray_of {w : ByteArray} {L : List UInt8} (h : w.toList = L) : w = ⟨L.toArray⟩ := by
  rw [ByteArray.toList_eq] at h
  cases w with
  | mk d => subst h; rfl
theorem ref_ints (w : ByteArray) (a b : Int) (ha : I64 a) (hb : I64 b) (hw : isInts w.toList = true) (k : Nat) : sacristanref01_ints.f (k + 200) w a b = some (intsR w.toList a b) := by
  unfold intsR
  by_cases h1 : w.toList = [43]
  · rw [if_pos h1]; exact ref_add w h1 a b ha hb _
  rw [if_neg h1]
  by_cases h2 : w.toList = [45]
  · rw [if_pos h2]; exact ref_sub w h2 a b ha hb _
  rw [if_neg h2]
  by_cases h3 : w.toList = [42]
  · rw [if_pos h3]; exact ref_mul w h3 a b ha hb _
  rw [if_neg h3]
  by_cases h4 : w.toList = [47]
  · rw [if_pos h4]; exact ref_div w h4 a b ha _
  rw [if_neg h4]
  by_cases h5 : w.toList = [37]
  · rw [if_pos h5]; exact ref_mod w h5 a b ha _
  rw [if_neg h5]
  have e6 : sacristanref01_ints.f (k + 200) w a b = sacristanref01_ints.j9 (k + 199) w a b (w.toList == [115, 104, 108] || w.toList == [115, 104, 114] || w.toList == [117, 115, 104, 114]) 0 0 ⟨#[]⟩ := by
    unfold sacristanref01_ints.f
    rw [if_neg h1, if_neg h2, if_neg h3, if_neg h4]
    simp only [sacristanref01_ints.j6]
    rw [if_neg (by simpa using h5)]
    by_cases c1 : w.toList = [115, 104, 108]
    · rw [if_pos c1, c1]; rfl
    · rw [if_neg c1, beq_eq_false_iff_ne.2 c1, Bool.false_or]
      by_cases c2 : w.toList = [115, 104, 114]
      · rw [if_pos c2, c2]; rfl
      · rw [if_neg c2, beq_eq_false_iff_ne.2 c2, Bool.false_or]
  rw [e6]
  simp only [sacristanref01_ints.j9]
  by_cases h6 : w.toList = [97, 110, 100]
  · rw [if_pos h6, h6, if_neg (by decide)]
    have := byteArray_of h6; subst this
    exact r10 _ a b _ _ (bw_and a b ha hb _ (by omega))
  rw [if_neg h6]
  by_cases h7 : w.toList = [111, 114]
  · rw [if_pos h7, h7, if_neg (by decide)]
    have := byteArray_of h7; subst this
    exact r10 _ a b _ _ (bw_or a b ha hb _ (by omega))
  rw [if_neg h7]
  by_cases h8 : w.toList = [120, 111, 114]
  · rw [if_pos h8, h8, if_neg (by decide)]
    have := byteArray_of h8; subst this
    exact r10 _ a b _ _ (bw_xor a b ha hb _ (by omega))
  rw [if_neg h8]
  by_cases h9 : w.toList = [115, 104, 108]
  · rw [if_pos h9, h9, if_pos (by decide)]
    unfold shlS
    by_cases c1 : b < 0
    · rw [if_pos c1, if_pos (.inl c1)]; rfl
    · rw [if_neg c1]
      by_cases c2 : b > 63
      · rw [if_pos c2, if_pos (.inr c2)]; rfl
      · rw [if_neg c2, if_neg (by omega)]
        have := byteArray_of h9; subst this
        exact r10 _ a b _ _ (bw_shl a b ha (by omega) (by omega) _ (by omega))
  rw [if_neg h9]
  by_cases h10 : w.toList = [115, 104, 114]
  · rw [if_pos h10, h10, if_pos (by decide)]
    unfold shrS
    by_cases c1 : b < 0
    · rw [if_pos c1, if_pos (.inl c1)]; rfl
    · rw [if_neg c1]
      by_cases c2 : b > 63
      · rw [if_pos c2, if_pos (.inr c2)]; rfl
      · rw [if_neg c2, if_neg (by omega)]
        have := byteArray_of h10; subst this
        exact r10 _ a b _ _ (bw_shr a b ha (by omega) (by omega) _ (by omega))
  rw [if_neg h10]
  have h11 : w.toList = [117, 115, 104, 114] := by
    unfold isInts at hw
    simp only [Bool.or_eq_true, beq_iff_eq] at hw
    rcases hw with (((((((((h | h) | h) | h) | h) | h) | h) | h) | h) | h) | h
    all_goals first | exact h | exact absurd h ‹_›
  rw [h11, if_pos (by decide)]
  unfold ushrS
  by_cases c1 : b < 0
  · rw [if_pos c1, if_pos (.inl c1)]; rfl
  · rw [if_neg c1]
    by_cases c2 : b > 63
    · rw [if_pos c2, if_pos (.inr c2)]; rfl
    · rw [if_neg c2, if_neg (by omega)]
      have := byteArray_of h11; subst this
      exact r10 _ a b _ _ (bw_ushr a b ha (by omega) (by omega) _ (by omega))

/-! ### Two, by the reference -/
theorem in_l0 (w : ByteArray) (l : List ByteArray) (hl : l.length ≤ 1000) (d : Nat) : ∀ (k j : Nat), j + d = l.length → d < k →
    sacristanref01_in.l0 k w l (l.length : Int) (j : Int) = some ((l.drop j).any fun x => x.toList == w.toList) := by
  induction d with
  | zero =>
    intro k j hj hk
    obtain ⟨k, rfl⟩ : ∃ n, k = n + 1 := ⟨k - 1, by omega⟩
    simp only [sacristanref01_in.l0]
    rw [if_neg (by omega), List.drop_eq_nil_of_le (by omega)]; rfl
  | succ d ih =>
    intro k j hj hk
    obtain ⟨k, rfl⟩ : ∃ n, k = n + 1 := ⟨k - 1, by omega⟩
    simp only [sacristanref01_in.l0]
    rw [if_pos (by omega), if_pos (by omega), if_pos (by omega)]
    have e : rdOf ByteArray.empty l (j : Int) = l[j]'(by omega) := by
      unfold rdOf; rw [Int.toNat_natCast, List.getD_eq_getElem?_getD, List.getElem?_eq_getElem (by omega)]; rfl
    have e2 : wrap64 ((j : Int) + 1) = ((j + 1 : Nat) : Int) := by rw [w64 (by unfold I64; omega)]; omega
    rw [e, e2, List.drop_eq_getElem_cons (by omega), List.any_cons]
    by_cases h : (l[j]'(by omega)).toList = w.toList
    · rw [if_pos h, beq_iff_eq.2 h]; rfl
    · rw [if_neg h, beq_eq_false_iff_ne.2 h, Bool.false_or]
      exact ih k (j + 1) (by omega) (by omega)
theorem in_f (w : ByteArray) (l : List ByteArray) (hl : l.length ≤ 1000) (k : Nat) (hk : l.length < k) : sacristanref01_in.f k w l = some (l.any fun x => x.toList == w.toList) := by
  unfold sacristanref01_in.f
  have := in_l0 w l hl l.length k 0 (by omega) hk
  simpa using this
theorem rtwo (w : ByteArray) (t1 a : Int) (s : ByteArray) (t2 b : Int) (t : ByteArray) (h1 : Fits t1 a s) (h2 : Fits t2 b t) (k : Nat) : sacristanref01_Two.f (k + 210) w t1 a s t2 b t = some (twoR w.toList t1 a s t2 b t) := by
  have e1 : sacristanref01_Two.f (k + 210) w t1 a s t2 b t = sacristanref01_Two.j0 (k + 210) w (decide (t1 = 1) && decide (t2 = 1)) t1 a s t2 b t 0 0 ⟨#[]⟩ := by
    unfold sacristanref01_Two.f
    by_cases c : t1 = 1
    · rw [if_pos c]; simp only [c, decide_true, Bool.true_and]; congr 1
    · rw [if_neg c]; simp only [c, decide_false, Bool.false_and]
  rw [e1]
  simp only [sacristanref01_Two.j0]
  rw [in_f w _ (by decide) _ (by simp only [List.length_cons, List.length_nil]; omega)]
  have e2 : ([(⟨#[43]⟩ : ByteArray), (⟨#[45]⟩ : ByteArray), (⟨#[42]⟩ : ByteArray), (⟨#[47]⟩ : ByteArray), (⟨#[37]⟩ : ByteArray), (⟨#[97, 110, 100]⟩ : ByteArray), (⟨#[111, 114]⟩ : ByteArray), (⟨#[120, 111, 114]⟩ : ByteArray), (⟨#[115, 104, 108]⟩ : ByteArray), (⟨#[115, 104, 114]⟩ : ByteArray), (⟨#[117, 115, 104, 114]⟩ : ByteArray)].any fun x => x.toList == w.toList) = isInts w.toList := by
    unfold isInts
    simp only [List.any_cons, List.any_nil, ByteArray.toList_eq, Bool.or_false, Bool.or_assoc]
    simp only [BEq.comm (b := w.data.toList)]
  rw [e2]
  simp only [Option.bind_some, bind_eta]
  unfold twoR
  by_cases c : isInts w.toList = true
  · rw [if_pos c, if_pos c]
    by_cases hb : t1 = 1 ∧ t2 = 1
    · rw [if_pos (by simp [hb]), if_pos hb]; exact ref_ints w a b h1.i64 h2.i64 c _
    · rw [if_neg (by simpa using fun x y => hb ⟨x, y⟩), if_neg hb]; rfl
  rw [if_neg c, if_neg c]
  by_cases cl : w.toList = [60]
  · rw [if_pos cl, if_pos cl]
    by_cases hb : t1 = 1 ∧ t2 = 1
    · rw [if_pos (by simp [hb]), if_pos hb, bool_f]; rfl
    · rw [if_neg (by simpa using fun x y => hb ⟨x, y⟩), if_neg hb]
      by_cases c3 : t1 = 3
      · rw [if_pos c3]
        by_cases c4 : t2 = 3
        · rw [if_pos c4, if_pos ⟨c3, c4⟩, bool_f]; rfl
        · rw [if_neg c4, if_neg (fun h => c4 h.2)]; rfl
      · rw [if_neg c3, if_neg (fun h => c3 h.1)]; rfl
  rw [if_neg cl, if_neg cl]
  by_cases ce : w.toList = [61]
  · rw [if_pos ce, if_pos ce]
    by_cases c3 : t1 = t2
    · rw [if_pos c3]
      by_cases c4 : t1 > 3
      · rw [if_pos c4, if_neg (fun h => by omega)]; rfl
      · rw [if_neg c4]
        by_cases c5 : a = b
        · rw [if_pos c5, if_pos ⟨c3, by omega⟩, bool_f, beq_iff_eq.2 c5, Bool.true_and]; rfl
        · rw [if_neg c5, if_pos ⟨c3, by omega⟩, bool_f, beq_eq_false_iff_ne.2 c5, Bool.false_and]; rfl
    · rw [if_neg c3, if_neg (fun h => c3 h.1)]; rfl
  rw [if_neg ce, if_neg ce]
  by_cases cc : w.toList = [99, 97, 116]
  · rw [if_pos cc, if_pos cc]
    by_cases c3 : t1 = 3
    · rw [if_pos c3]
      simp only [sacristanref01_Two.j1]
      by_cases c4 : t2 = 3
      · rw [if_neg (by simpa using c4), w64 (by have := h1.size; have := h2.size; unfold I64; omega)]
        by_cases c5 : (s.size : Int) + t.size > 65536
        · rw [if_pos c5, if_pos ⟨c3, c4⟩, if_pos c5]; rfl
        · rw [if_neg c5, if_pos (by have := h1.size; have := h2.size; omega), if_pos ⟨c3, c4⟩, if_neg c5]
      · rw [if_pos (by simpa using c4), if_neg (fun h => c4 h.2)]; rfl
    · rw [if_neg c3, if_neg (fun h => c3 h.1)]; rfl
  rw [if_neg cc, if_neg cc]
  by_cases ca : w.toList = [97, 116]
  · rw [if_pos ca, if_pos ca]
    by_cases c3 : t1 = 3
    · rw [if_pos c3]
      simp only [sacristanref01_Two.j2]
      by_cases c4 : t2 = 1
      · rw [if_neg (by simpa using c4)]
        by_cases c5 : b < 0
        · rw [if_pos c5, if_pos ⟨c3, c4⟩, if_pos (.inl c5)]; rfl
        · rw [if_neg c5]
          by_cases c6 : b ≥ (s.size : Int)
          · rw [if_pos c6, if_pos ⟨c3, c4⟩, if_pos (.inr c6)]; rfl
          · rw [if_neg c6, if_pos (by omega), if_pos (by omega), if_pos ⟨c3, c4⟩, if_neg (by omega), w64 (bt_I64 s b)]; rfl
      · rw [if_pos (by simpa using c4), if_neg (fun h => c4 h.2)]; rfl
    · rw [if_neg c3, if_neg (fun h => c3 h.1)]; rfl
  rw [if_neg ca, if_neg ca]; rfl
end Go.Proofs.Ytahcnpjgbhpbeaa.Pure
