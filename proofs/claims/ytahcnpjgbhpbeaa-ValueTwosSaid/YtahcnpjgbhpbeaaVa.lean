/- Plain facts on numbers, sums, products, quotients and moves, as the program reckons them. -/
import Derived.Test.YtahcnpjgbhpbeaaPVx2
import Derived.Test.YtahcnpjgbhpbeaaPVx3
namespace Go.Proofs.Ytahcnpjgbhpbeaa.Pure
open Go.RowKit Go.Proofs.Ytahcnpjgbhpbeaa.PV Go.Proofs.YtahcnpjgbhpbeaaW.PrintWords Go.Proofs.YtahcnpjgbhpbeaaW.PrintLast Go.Proofs.YtahcnpjgbhpbeaaW.PrintMore Go.Proofs.YtahcnpjgbhpbeaaW.Own
set_option linter.unusedVariables false
set_option linter.unusedSimpArgs false
/-! ### Numbers and words -/
def I64 (a : Int) : Prop := -9223372036854775808 ≤ a ∧ a ≤ 9223372036854775807
instance (a : Int) : Decidable (I64 a) := by unfold I64; infer_instance
theorem I64.of_wf {a : Int} (h : (Lit.int .i64 a).wf = true) : I64 a := by
  simp [Lit.wf, IntKind.min, IntKind.max, IntKind.signed, IntKind.bits] at h
  exact ⟨by omega, by omega⟩
theorem u8_of_wf {a : Int} (h : (Lit.int .u8 a).wf = true) : 0 ≤ a ∧ a ≤ 255 := by
  simp [Lit.wf, IntKind.min, IntKind.max, IntKind.signed, IntKind.bits] at h
  exact ⟨by omega, by omega⟩
theorem w64 {a : Int} (h : I64 a) : wrap64 a = a := by
  obtain ⟨_, _⟩ := h
  unfold wrap64; omega
theorem w64_I64 (a : Int) : I64 (wrap64 a) := by unfold wrap64 I64; omega
theorem wrap_u64 (a : Int) : IntKind.u64.wrap a = a % 18446744073709551616 := by simp [IntKind.wrap, IntKind.bits, IntKind.signed]
theorem wrap_i8 (a : Int) : IntKind.i8.wrap a = (a + 128) % 256 - 128 := by
  simp [IntKind.wrap, IntKind.bits, IntKind.signed]; split <;> omega
theorem wrap_i16 (a : Int) : IntKind.i16.wrap a = (a + 32768) % 65536 - 32768 := by
  simp [IntKind.wrap, IntKind.bits, IntKind.signed]; split <;> omega
theorem wrap_u16 (a : Int) : IntKind.u16.wrap a = a % 65536 := by simp [IntKind.wrap, IntKind.bits, IntKind.signed]

/-- The empty text. -/
abbrev E : ByteArray := ⟨#[]⟩
def okv (n : Int) : Int × Int × ByteArray × Int := (1, n, ⟨#[]⟩, 0)
def okb (b : Bool) : Int × Int × ByteArray × Int := (2, if b then 1 else 0, ⟨#[]⟩, 0)
def er (c : Int) : Int × Int × ByteArray × Int := (0, 0, ⟨#[]⟩, c)

theorem over_f (n : Int) (b : Bool) : value_over.f n b = some (if b then okv n else er 3) := by
  cases b <;> rfl

/-! ### Sums -/
def addS (a b : Int) : Int × Int × ByteArray × Int := if I64 (a + b) then okv (a + b) else er 3
def subS (a b : Int) : Int × Int × ByteArray × Int := if I64 (a - b) then okv (a - b) else er 3

theorem add_v (a b : Int) (ha : I64 a) (hb : I64 b) :
    value_over.f (wrap64 (a + b)) ((decide (b ≥ 0)) == (decide ((wrap64 (a + b)) ≥ a))) = some (addS a b) := by
  rw [over_f]
  unfold addS
  obtain ⟨_, _⟩ := ha; obtain ⟨_, _⟩ := hb
  by_cases h : I64 (a + b)
  · rw [if_pos h, w64 h]
    have e : (decide (b ≥ 0) == decide (a + b ≥ a)) = true := by
      rw [beq_iff_eq]; exact decide_eq_decide.2 (by omega)
    rw [e]; rfl
  · rw [if_neg h]
    have e : (decide (b ≥ 0) == decide (wrap64 (a + b) ≥ a)) = false := by
      rw [beq_eq_false_iff_ne]
      intro e
      have e := decide_eq_decide.1 e
      unfold I64 at h
      unfold wrap64 at e
      omega
    rw [e]; rfl
theorem sub_v (a b : Int) (ha : I64 a) (hb : I64 b) :
    value_over.f (wrap64 (a - b)) ((decide (b ≤ 0)) == (decide ((wrap64 (a - b)) ≥ a))) = some (subS a b) := by
  rw [over_f]
  unfold subS
  obtain ⟨_, _⟩ := ha; obtain ⟨_, _⟩ := hb
  by_cases h : I64 (a - b)
  · rw [if_pos h, w64 h]
    have e : (decide (b ≤ 0) == decide (a - b ≥ a)) = true := by
      rw [beq_iff_eq]; exact decide_eq_decide.2 (by omega)
    rw [e]; rfl
  · rw [if_neg h]
    have e : (decide (b ≤ 0) == decide (wrap64 (a - b) ≥ a)) = false := by
      rw [beq_eq_false_iff_ne]
      intro e
      have e := decide_eq_decide.1 e
      unfold I64 at h
      unfold wrap64 at e
      omega
    rw [e]; rfl

/-! ### Products -/
def mulS (a b : Int) : Int × Int × ByteArray × Int := if I64 (a * b) then okv (a * b) else er 3
theorem and_mask (x : Int) (h0 : 0 ≤ x) (h1 : x < 18446744073709551616) : Go.bits .and .u64 x 4294967295 = x % 4294967296 := by
  have := bits_mask .u64 64 (by decide) (fun n a b => by rw [wrap_u64]; have : (2 : Int) ^ 64 = 18446744073709551616 := by decide
                                                         omega) 32 (by decide) x h0 (by simpa using h1)
  simpa using this
theorem mul64_f (x y : Int) (hx : 0 ≤ x) (hx1 : x < 18446744073709551616) (hy : 0 ≤ y) (hy1 : y < 18446744073709551616) :
    bits_Mul64.f x y = some (x * y / 18446744073709551616, x * y % 18446744073709551616) := by
  unfold bits_Mul64.f
  simp only [wrap_u64]
  rw [and_mask x hx hx1, and_mask y hy hy1]
  obtain ⟨xh, xl, hx2, hx3, hx4, rfl⟩ : ∃ xh xl : Int, 0 ≤ xh ∧ 0 ≤ xl ∧ xl < 4294967296 ∧ x = xh * 4294967296 + xl :=
    ⟨x / 4294967296, x % 4294967296, by omega, by omega, by omega, by omega⟩
  obtain ⟨yh, yl, hy2, hy3, hy4, rfl⟩ : ∃ yh yl : Int, 0 ≤ yh ∧ 0 ≤ yl ∧ yl < 4294967296 ∧ y = yh * 4294967296 + yl :=
    ⟨y / 4294967296, y % 4294967296, by omega, by omega, by omega, by omega⟩
  have hxh : xh < 4294967296 := by omega
  have hyh : yh < 4294967296 := by omega
  have e1 : (xh * 4294967296 + xl) / 4294967296 = xh := by omega
  have e2 : (xh * 4294967296 + xl) % 4294967296 = xl := by omega
  have e3 : (yh * 4294967296 + yl) / 4294967296 = yh := by omega
  have e4 : (yh * 4294967296 + yl) % 4294967296 = yl := by omega
  rw [e1, e2, e3, e4]
  have p : (xh * 4294967296 + xl) * (yh * 4294967296 + yl) = xh * yh * 18446744073709551616 + (xh * yl + xl * yh) * 4294967296 + xl * yl := by
    rw [Int.add_mul, Int.mul_add, Int.mul_add]
    have a1 : xh * 4294967296 * (yh * 4294967296) = xh * yh * 18446744073709551616 := by
      rw [Int.mul_assoc, Int.mul_left_comm 4294967296, ← Int.mul_assoc]
      omega
    have a2 : xh * 4294967296 * yl = xh * yl * 4294967296 := by rw [Int.mul_assoc, Int.mul_comm 4294967296, ← Int.mul_assoc]
    have a3 : xl * (yh * 4294967296) = xl * yh * 4294967296 := by rw [← Int.mul_assoc]
    rw [a1, a2, a3]
    omega
  rw [p]
  have b1 : 0 ≤ xh * yh ∧ xh * yh ≤ 4294967295 * 4294967295 := ⟨Int.mul_nonneg hx2 hy2, Int.mul_le_mul (by omega) (by omega) hy2 (by decide)⟩
  have b2 : 0 ≤ xh * yl ∧ xh * yl ≤ 4294967295 * 4294967295 := ⟨Int.mul_nonneg hx2 hy3, Int.mul_le_mul (by omega) (by omega) hy3 (by decide)⟩
  have b3 : 0 ≤ xl * yh ∧ xl * yh ≤ 4294967295 * 4294967295 := ⟨Int.mul_nonneg hx3 hy2, Int.mul_le_mul (by omega) (by omega) hy2 (by decide)⟩
  have b4 : 0 ≤ xl * yl ∧ xl * yl ≤ 4294967295 * 4294967295 := ⟨Int.mul_nonneg hx3 hy3, Int.mul_le_mul (by omega) (by omega) hy3 (by decide)⟩
  generalize xh * yh = A at *
  generalize xh * yl = B at *
  generalize xl * yh = C at *
  generalize xl * yl = D at *
  have f1 : A % 18446744073709551616 = A := by omega
  have f2 : B % 18446744073709551616 = B := by omega
  have f3 : C % 18446744073709551616 = C := by omega
  have f4 : D % 18446744073709551616 = D := by omega
  rw [f1, f2, f3, f4]
  have f5 : (B + D / 4294967296) % 18446744073709551616 = B + D / 4294967296 := by omega
  rw [f5]
  have h0 : 0 ≤ B + D / 4294967296 ∧ B + D / 4294967296 < 18446744073709551616 := by omega
  rw [and_mask _ h0.1 h0.2]
  congr 2
  omega

theorem times1_f (a : Int) (ha : I64 a) : value_times_1.f a = some (if a < 0 then -a else a) := by
  obtain ⟨_, _⟩ := ha
  unfold value_times_1.f
  simp only [wrap_u64]
  by_cases h : a < 0
  · rw [if_pos h, if_pos h]; congr 1; omega
  · rw [if_neg h, if_neg h]; congr 1; omega
theorem times_f (a b : Int) (ha : I64 a) (hb : I64 b) : value_times.f a b = some (mulS a b) := by
  have hA := ha; have hB := hb
  obtain ⟨_, _⟩ := ha; obtain ⟨_, _⟩ := hb
  unfold value_times.f
  rw [times1_f a hA, times1_f b hB]
  simp only [Option.bind_some]
  have pa : 0 ≤ (if a < 0 then -a else a) ∧ (if a < 0 then -a else a) ≤ 9223372036854775808 := by split <;> omega
  have pb : 0 ≤ (if b < 0 then -b else b) ∧ (if b < 0 then -b else b) ≤ 9223372036854775808 := by split <;> omega
  rw [mul64_f _ _ pa.1 (by omega) pb.1 (by omega)]
  simp only [Option.bind_some]
  have hp : (if a < 0 then -a else a) * (if b < 0 then -b else b) = if (decide (a < 0) != decide (b < 0)) = true then -(a * b) else a * b := by
    by_cases h1 : a < 0 <;> by_cases h2 : b < 0 <;> simp [h1, h2, Int.neg_mul, Int.mul_neg]
  have hq : 0 ≤ (if a < 0 then -a else a) * (if b < 0 then -b else b) ∧ (if a < 0 then -a else a) * (if b < 0 then -b else b) ≤ 9223372036854775808 * 9223372036854775808 :=
    ⟨Int.mul_nonneg pa.1 pb.1, Int.mul_le_mul pa.2 pb.2 pb.1 (by decide)⟩
  rw [hp] at hq ⊢
  unfold mulS
  generalize a * b = m at *
  by_cases c : (decide (a < 0) != decide (b < 0)) = true
  · rw [if_pos c] at hq
    simp only [c, if_true, over_f, wrap_u64, Option.bind_some, Bool.false_eq_true, if_false]
    by_cases h : -m / 18446744073709551616 = 0
    · rw [if_pos h]
      congr 1
      have : decide (-m % 18446744073709551616 ≤ 9223372036854775807 + 1) = decide (I64 m) := decide_eq_decide.2 (by unfold I64; omega)
      rw [this]
      by_cases h2 : I64 m
      · have : wrap64 (-(-m % 18446744073709551616) % 18446744073709551616) = m := by
          obtain ⟨_, _⟩ := h2
          unfold wrap64; omega
        simp [h2, this]
      · simp [h2]
    · rw [if_neg h, if_neg (by unfold I64; omega)]
  · rw [if_neg c] at hq
    simp only [c, if_false, over_f, wrap_u64, Option.bind_some, Bool.false_eq_true]
    by_cases h : m / 18446744073709551616 = 0
    · rw [if_pos h]
      congr 1
      have : decide (m % 18446744073709551616 ≤ 9223372036854775807) = decide (I64 m) := decide_eq_decide.2 (by unfold I64; omega)
      rw [this]
      by_cases h2 : I64 m
      · have : wrap64 (m % 18446744073709551616) = m := by
          obtain ⟨_, _⟩ := h2
          unfold wrap64; omega
        simp [h2, this]
      · simp [h2]
    · rw [if_neg h, if_neg (by unfold I64; omega)]

/-! ### Quotients -/
def divS (a b : Int) : Int × Int × ByteArray × Int := if b = 0 then er 4 else if a = -9223372036854775808 ∧ b = -1 then er 3 else okv (Int.tdiv a b)
def modS (a b : Int) : Int × Int × ByteArray × Int := if b = 0 then er 4 else okv (Int.tmod a b)
theorem tdiv_I64 (a b : Int) (ha : I64 a) (hb : b ≠ 0) (h : ¬ (a = -9223372036854775808 ∧ b = -1)) : I64 (Int.tdiv a b) := by
  obtain ⟨h1, h2⟩ := ha
  have hn : (Int.tdiv a b).natAbs = a.natAbs / b.natAbs := Int.natAbs_tdiv a b
  have hle : a.natAbs / b.natAbs ≤ a.natAbs := Nat.div_le_self _ _
  unfold I64
  by_cases hm : a = -9223372036854775808
  · by_cases hb1 : b = 1
    · subst hb1; simp [Int.tdiv_one]; omega
    · have : 2 ≤ b.natAbs := by omega
      have : a.natAbs / b.natAbs ≤ a.natAbs / 2 := Nat.div_le_div_left this (by decide)
      omega
  · omega
theorem tmod_I64 (a b : Int) (ha : I64 a) : I64 (Int.tmod a b) := by
  obtain ⟨h1, h2⟩ := ha
  have : (Int.tmod a b).natAbs = a.natAbs % b.natAbs := Int.natAbs_tmod a b
  have h3 : a.natAbs % b.natAbs ≤ a.natAbs := Nat.mod_le _ _
  unfold I64
  by_cases h : 0 ≤ a
  · have := Int.tmod_nonneg b h
    omega
  · have := Int.tmod_nonneg b (show 0 ≤ -a by omega)
    rw [Int.neg_tmod] at this
    omega
theorem toL (l : List UInt8) : (⟨l.toArray⟩ : ByteArray).toList = l := by rw [ByteArray.toList_eq]
theorem div_f (a b : Int) (ha : I64 a) : value_parts.f ⟨#[47]⟩ a b = some (divS a b) := by
  unfold value_parts.f divS
  by_cases h0 : b = 0
  · rw [if_pos h0, if_pos h0]; rfl
  · rw [if_neg h0, if_neg h0, if_neg (by rw [ByteArray.toList_eq]; decide)]
    by_cases h1 : a = -9223372036854775808
    · by_cases h2 : b = -1
      · rw [if_pos h1, if_pos h2, if_pos ⟨h1, h2⟩]; rfl
      · rw [if_pos h1, if_neg h2, if_neg (fun h => h2 h.2), w64 (tdiv_I64 a b ha h0 (fun h => h2 h.2))]; rfl
    · rw [if_neg h1, if_neg (fun h => h1 h.1), w64 (tdiv_I64 a b ha h0 (fun h => h1 h.1))]; rfl
theorem mod_f (a b : Int) : value_parts.f ⟨#[37]⟩ a b = some (modS a b) := by
  unfold value_parts.f modS
  by_cases h0 : b = 0
  · rw [if_pos h0, if_pos h0]; rfl
  · rw [if_neg h0, if_neg h0, if_pos (by rw [ByteArray.toList_eq])]
    by_cases h2 : b = -1
    · subst h2
      rw [if_pos rfl]
      have : Int.tmod a (-1) = 0 := by rw [Int.tmod_neg]; exact Int.tmod_one a
      rw [this]; rfl
    · rw [if_neg h2]; rfl

/-! ### Moves -/
def shlS (a b : Int) : Int × Int × ByteArray × Int := if b < 0 ∨ b > 63 then er 5 else okv (wrap64 (a * 2 ^ b.toNat))
def shrS (a b : Int) : Int × Int × ByteArray × Int := if b < 0 ∨ b > 63 then er 5 else okv (a / 2 ^ b.toNat)
def ushrS (a b : Int) : Int × Int × ByteArray × Int := if b < 0 ∨ b > 63 then er 5 else okv (wrap64 (a % 18446744073709551616 / 2 ^ b.toNat))
theorem wrap64_mod (x : Int) : wrap64 (x % 18446744073709551616) = wrap64 x := by unfold wrap64; omega
theorem moved_shl (k : Nat) (a b : Int) : value_moved.f (k + 1) ⟨#[115, 104, 108]⟩ a b = some (shlS a b) := by
  unfold value_moved.f shlS
  by_cases h : b < 0
  · rw [if_pos h, if_pos (.inl h)]; rfl
  · rw [if_neg h]
    simp only [value_moved.j0, ByteArray.toList_eq]
    by_cases h2 : b > 63
    · rw [if_pos (decide_eq_true h2), if_pos (.inr h2)]; rfl
    · rw [if_neg (by simpa using h2), if_pos trivial, if_pos (by omega), if_neg (by omega)]
      have : min b.toNat IntKind.u64.bits = b.toNat := by simp [IntKind.bits]; omega
      simp only [shl, this, wrap_u64]
      have e : wrap64 ((a % 18446744073709551616) * 2 ^ b.toNat % 18446744073709551616) = wrap64 (a * 2 ^ b.toNat) := by
        rw [Int.mul_emod, Int.emod_emod, ← Int.mul_emod, wrap64_mod]
      rw [e]; rfl
theorem moved_shr (k : Nat) (a b : Int) : value_moved.f (k + 1) ⟨#[115, 104, 114]⟩ a b = some (shrS a b) := by
  unfold value_moved.f shrS
  by_cases h : b < 0
  · rw [if_pos h, if_pos (.inl h)]; rfl
  · rw [if_neg h]
    simp only [value_moved.j0, ByteArray.toList_eq]
    by_cases h2 : b > 63
    · rw [if_pos (decide_eq_true h2), if_pos (.inr h2)]; rfl
    · rw [if_neg (by simpa using h2), if_neg (by decide), if_pos trivial, if_pos (by omega), if_neg (by omega)]
      have : min b.toNat IntKind.i64.bits = b.toNat := by simp [IntKind.bits]; omega
      simp only [shr, this]; rfl
theorem moved_ushr (k : Nat) (a b : Int) : value_moved.f (k + 1) ⟨#[117, 115, 104, 114]⟩ a b = some (ushrS a b) := by
  unfold value_moved.f ushrS
  by_cases h : b < 0
  · rw [if_pos h, if_pos (.inl h)]; rfl
  · rw [if_neg h]
    simp only [value_moved.j0, ByteArray.toList_eq]
    by_cases h2 : b > 63
    · rw [if_pos (decide_eq_true h2), if_pos (.inr h2)]; rfl
    · rw [if_neg (by simpa using h2), if_neg (by decide), if_neg (by decide), if_pos (by omega), if_neg (by omega)]
      have : min b.toNat IntKind.u64.bits = b.toNat := by simp [IntKind.bits]; omega
      simp only [shr, this, wrap_u64]; rfl
end Go.Proofs.Ytahcnpjgbhpbeaa.Pure
