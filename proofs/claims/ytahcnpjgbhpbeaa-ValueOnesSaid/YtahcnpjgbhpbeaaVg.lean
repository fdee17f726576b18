/- What the reference reckons with one value is the same. -/
import Derived.Test.YtahcnpjgbhpbeaaVf
import Derived.Test.YtahcnpjgbhpbeaaPVx5
import Derived.Test.YtahcnpjgbhpbeaaPVx17
import Derived.Test.YtahcnpjgbhpbeaaPVx18
namespace Go.Proofs.Ytahcnpjgbhpbeaa.Pure
open Go.RowKit Go.Proofs.Ytahcnpjgbhpbeaa.PV Go.Proofs.YtahcnpjgbhpbeaaW.PrintWords Go.Proofs.YtahcnpjgbhpbeaaW.PrintLast Go.Proofs.YtahcnpjgbhpbeaaW.PrintMore Go.Proofs.YtahcnpjgbhpbeaaW.Own
set_option linter.unusedVariables false
set_option linter.unusedSimpArgs false
/-! ### The reference's One -/
theorem low_f (a p : Int) (ha : I64 a) (hp : 0 < p) (hp1 : p ≤ 4294967296) : sacristanref01_low.f a p = some (a % p) := by
  obtain ⟨_, _⟩ := ha
  unfold sacristanref01_low.f
  rw [if_neg (by omega)]
  have e := Int.tmod_eq_emod (a := a) (b := p)
  have h0 := Int.emod_nonneg a (show p ≠ 0 by omega)
  have h1 := Int.emod_lt_of_pos a hp
  by_cases c : 0 ≤ a
  · rw [Int.tmod_eq_emod_of_nonneg c, if_neg (by omega)]
  · have hneg : Int.tmod a p = -((-a) % p) := by
      have : a = -(-a) := by omega
      rw [this, Int.neg_tmod, Int.tmod_eq_emod_of_nonneg (by omega), ← this]
    have h2 := Int.emod_nonneg (-a) (show p ≠ 0 by omega)
    have h3 := Int.emod_lt_of_pos (-a) hp
    have h4 : (-a) % p = if a % p = 0 then 0 else p - a % p := by
      by_cases z : a % p = 0
      · rw [if_pos z]
        exact Int.emod_eq_zero_of_dvd (Int.dvd_neg.2 (Int.dvd_of_emod_eq_zero z))
      · rw [if_neg z]
        have : -a = (p - a % p) + p * (-(a / p) - 1) := by
          have := Int.mul_ediv_add_emod a p
          rw [Int.mul_sub, Int.mul_neg, Int.mul_one]; omega
        rw [this, Int.add_mul_emod_self_left]
        exact Int.emod_eq_of_lt (by omega) (by omega)
    rw [hneg, h4]
    by_cases z : a % p = 0
    · rw [if_pos z, if_neg (by decide), z]; rfl
    · rw [if_neg z, if_pos (by omega), w64 (by unfold I64; omega)]
      congr 1; omega
theorem signed_f (a p : Int) (ha : I64 a) (hp : 2 ≤ p) (hp1 : p ≤ 4294967296) (hp2 : p % 2 = 0) : sacristanref01_signed.f a p = some ((a + p / 2) % p - p / 2) := by
  unfold sacristanref01_signed.f
  rw [low_f a p ha (by omega) hp1]
  simp only [Option.bind_some]
  rw [Int.tdiv_eq_ediv_of_nonneg (by omega), w64 (by unfold I64; omega)]
  have h0 := Int.emod_nonneg a (show p ≠ 0 by omega)
  have h1 := Int.emod_lt_of_pos a (show 0 < p by omega)
  have e : (a + p / 2) % p = (a % p + p / 2) % p := by rw [Int.emod_add_emod]
  rw [e]
  by_cases c : a % p ≥ p / 2
  · rw [if_pos c, w64 (by unfold I64; omega)]
    have : (a % p + p / 2) % p = a % p + p / 2 - p := by
      rw [← Int.sub_emod_right]
      exact Int.emod_eq_of_lt (by omega) (by omega)
    congr 1; omega
  · rw [if_neg c]
    have : (a % p + p / 2) % p = a % p + p / 2 := Int.emod_eq_of_lt (by omega) (by omega)
    congr 1; omega
abbrev onesL : List ByteArray := [(⟨#[110, 101, 103]⟩ : ByteArray), (⟨#[110, 111, 116]⟩ : ByteArray), (⟨#[108, 101, 110]⟩ : ByteArray), (⟨#[105, 56]⟩ : ByteArray), (⟨#[105, 49, 54]⟩ : ByteArray), (⟨#[105, 51, 50]⟩ : ByteArray), (⟨#[117, 56]⟩ : ByteArray), (⟨#[117, 49, 54]⟩ : ByteArray), (⟨#[117, 51, 50]⟩ : ByteArray)]
theorem one_loop (w : ByteArray) (want t a : Int) (s : ByteArray) (n1 n2 : Int) (n3 : ByteArray) (l : List ByteArray) (hl : l.length = 9) (d : Nat) : ∀ (k j : Nat) (x : Bool), j + d = 9 →
    sacristanref01_One.l0 (k + d) w want x l (l.length : Int) (j : Int) t a s n1 n2 n3 = sacristanref01_One.l0 k w want (x || (l.drop j).any fun y => y.toList == w.toList) l (l.length : Int) 9 t a s n1 n2 n3 := by
  induction d with
  | zero =>
    intro k j x hj
    obtain rfl : j = 9 := by omega
    rw [List.drop_eq_nil_of_le (by omega)]
    simp
  | succ d ih =>
    intro k j x hj
    have e : rdOf ByteArray.empty l (j : Int) = l[j]'(by omega) := by
      unfold rdOf; rw [Int.toNat_natCast, List.getD_eq_getElem?_getD, List.getElem?_eq_getElem (by omega)]; rfl
    have e2 : wrap64 ((j : Int) + 1) = ((j + 1 : Nat) : Int) := by rw [w64 (by unfold I64; omega)]; omega
    rw [← Nat.add_assoc]
    rw [sacristanref01_One.l0]
    rw [if_pos (by omega), e2, List.drop_eq_getElem_cons (by omega), List.any_cons]
    cases x
    · rw [if_neg (by decide), if_pos (by omega), if_pos (by omega), e, ih k (j + 1) _ (by omega), Bool.false_or]
    · rw [if_pos rfl, ih k (j + 1) _ (by omega)]; simp
theorem rone (w : ByteArray) (t a : Int) (s : ByteArray) (h : Fits t a s) (k : Nat) : sacristanref01_One.f (k + 20) w t a s = some (oneR w.toList t a s) := by
  have hi := h.i64
  obtain ⟨i1, i2⟩ := h.i64
  have hs := h.size
  have e1 : sacristanref01_One.f (k + 20) w t a s = sacristanref01_One.l0 (k + 9) w (if w.toList = [108, 101, 110] then 3 else if w.toList = [110, 111, 116] then 2 else 1) (onesL.any fun y => y.toList == w.toList) onesL 9 9 t a s 0 0 ⟨#[]⟩ := by
    have hl := fun want => one_loop w want t a s 0 0 ⟨#[]⟩ onesL rfl 9 (k + 9) 0 false rfl
    unfold sacristanref01_One.f
    by_cases c2 : w.toList = [110, 111, 116]
    · rw [if_pos c2]
      simp only [sacristanref01_One.j0]
      rw [if_neg (by rw [c2]; decide), if_neg (by rw [c2]; decide), if_pos c2]
      simp only [sacristanref01_One.j1, Option.bind_some]
      exact hl 2
    · rw [if_neg c2]
      simp only [sacristanref01_One.j0]
      by_cases c3 : w.toList = [108, 101, 110]
      · rw [if_pos c3, if_pos c3]
        simp only [sacristanref01_One.j1, Option.bind_some]
        exact hl 3
      · rw [if_neg c3, if_neg c3, if_neg c2]
        simp only [sacristanref01_One.j1, Option.bind_some]
        exact hl 1
  have e2 : (onesL.any fun y => y.toList == w.toList) = (w.toList == [110, 111, 116] || w.toList == [108, 101, 110] || isOnes w.toList) := by
    unfold isOnes
    simp only [List.any_cons, List.any_nil, ByteArray.toList_eq, Bool.or_false]
    simp only [BEq.comm (b := w.data.toList)]
    generalize w.data.toList = L
    generalize (L == [110, 101, 103]) = b1
    generalize (L == [110, 111, 116]) = b2
    generalize (L == [108, 101, 110]) = b3
    cases b1 <;> cases b2 <;> cases b3 <;> simp [Bool.or_assoc]
  rw [e1, e2]
  simp only [sacristanref01_One.l0]
  rw [if_neg (by decide)]
  by_cases c2 : w.toList = [110, 111, 116]
  · rw [oneR_not c2, if_pos (by rw [c2]; decide), if_neg (show ¬ w.toList = [108, 101, 110] by rw [c2]; decide), if_pos c2]
    by_cases ct : t = 2
    · rw [if_pos ct, if_pos ct, if_neg (by rw [c2]; decide), if_pos c2, bool_f]; rfl
    · rw [if_neg ct, if_neg ct]; rfl
  by_cases c3 : w.toList = [108, 101, 110]
  · rw [oneR_len c3, if_pos (by rw [c3]; decide), if_pos c3]
    by_cases ct : t = 3
    · rw [if_pos ct, if_pos ct, if_neg (by rw [c3]; decide), if_neg c2, if_pos c3]; rfl
    · rw [if_neg ct, if_neg ct]; rfl
  rw [beq_eq_false_iff_ne.2 c2, beq_eq_false_iff_ne.2 c3, Bool.false_or, Bool.false_or, if_neg c3, if_neg c2]
  by_cases c4 : isOnes w.toList = true
  · rw [if_pos c4]
    by_cases c1 : w.toList = [110, 101, 103]
    · rw [oneR_neg c1]
      by_cases ct : t = 1
      · rw [if_pos ct, if_pos ct, if_pos c1]
        by_cases cm : a = -9223372036854775808
        · rw [if_pos cm, if_pos cm]; rfl
        · rw [if_neg cm, if_neg cm, w64 (by unfold I64; omega)]; rfl
      · rw [if_neg ct, if_neg ct]; rfl
    rw [oneR_num c4 c1]
    by_cases ct : t = 1
    · rw [if_pos ct, if_pos ct, if_neg c1, if_neg c2, if_neg c3]
      unfold numS
      by_cases d1 : w.toList = [105, 56]
      · rw [if_pos d1, if_pos d1, signed_f a 256 hi (by omega) (by omega) (by omega)]; rfl
      rw [if_neg d1, if_neg d1]
      by_cases d2 : w.toList = [105, 49, 54]
      · rw [if_pos d2, if_pos d2, signed_f a 65536 hi (by omega) (by omega) (by omega)]; rfl
      rw [if_neg d2, if_neg d2]
      by_cases d3 : w.toList = [105, 51, 50]
      · rw [if_pos d3, if_pos d3, signed_f a 4294967296 hi (by omega) (by omega) (by omega)]; rfl
      rw [if_neg d3, if_neg d3]
      by_cases d4 : w.toList = [117, 56]
      · rw [if_pos d4, if_pos d4, low_f a 256 hi (by omega) (by omega)]; rfl
      rw [if_neg d4, if_neg d4]
      by_cases d5 : w.toList = [117, 49, 54]
      · rw [if_pos d5, if_pos d5, low_f a 65536 hi (by omega) (by omega)]; rfl
      rw [if_neg d5, if_neg d5, low_f a 4294967296 hi (by omega) (by omega)]; rfl
    · rw [if_neg ct, if_neg ct]; rfl
  · rw [if_neg c4, oneR_no c4 c2 c3]; rfl
end Go.Proofs.Ytahcnpjgbhpbeaa.Pure
