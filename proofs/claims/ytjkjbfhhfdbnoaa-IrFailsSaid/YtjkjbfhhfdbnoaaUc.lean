/- The words of one and of two values, plainly. -/
import Derived.Test.YtjkjbfhhfdbnoaaPBx19
import Derived.Test.YtjkjbfhhfdbnoaaPBx20
import Derived.Test.YtjkjbfhhfdbnoaaPBx21
import Derived.Test.YtjkjbfhhfdbnoaaPBx22
import Derived.Test.YtjkjbfhhfdbnoaaPBx3
import Derived.Test.YtjkjbfhhfdbnoaaPBx4
import Derived.Test.YtjkjbfhhfdbnoaaPBx5
namespace Go.Proofs.Ytjkjbfhhfdbnoaa.PW
open Go.RowKit Go.Proofs.Ytjkjbfhhfdbnoaa.PB Go.Proofs.YtjkjbfhhfdbnoaaW.PrintWords Go.Proofs.YtjkjbfhhfdbnoaaW.PrintLast Go.Proofs.YtjkjbfhhfdbnoaaW.PrintMore
set_option linter.unusedVariables false
set_option linter.unusedSimpArgs false
theorem bt_range (s : ByteArray) (i : Int) : 0 ≤ bt s i ∧ bt s i ≤ 255 := by
  unfold bt
  split
  · rename_i h
    have := (s[i.toNat]'h).toNat_lt
    omega
  · omega

/-! ### Numbers and words -/
def I64 (a : Int) : Prop := -9223372036854775808 ≤ a ∧ a ≤ 9223372036854775807
instance (a : Int) : Decidable (I64 a) := by unfold I64; infer_instance
theorem I64.of_wf {a : Int} (h : (Lit.int .i64 a).wf = true) : I64 a := by
  simp [Lit.wf, IntKind.min, IntKind.max, IntKind.signed, IntKind.bits] at h
  exact ⟨by omega, by omega⟩
theorem u8_of_wf {a : Int} (h : (Lit.int .u8 a).wf = true) : 0 ≤ a ∧ a ≤ 255 := by
  simp [Lit.wf, IntKind.min, IntKind.max, IntKind.signed, IntKind.bits] at h
  exact ⟨by omega, by omega⟩
theorem w64 {a : Int} (h : I64 a) : wrap64 a = a := by
  obtain ⟨_, _⟩ := h
  unfold wrap64; omega
theorem w64_I64 (a : Int) : I64 (wrap64 a) := by unfold wrap64 I64; omega
theorem wrap_u64 (a : Int) : IntKind.u64.wrap a = a % 18446744073709551616 := by simp [IntKind.wrap, IntKind.bits, IntKind.signed]
theorem wrap_i8 (a : Int) : IntKind.i8.wrap a = (a + 128) % 256 - 128 := by
  simp [IntKind.wrap, IntKind.bits, IntKind.signed]; split <;> omega
theorem wrap_i16 (a : Int) : IntKind.i16.wrap a = (a + 32768) % 65536 - 32768 := by
  simp [IntKind.wrap, IntKind.bits, IntKind.signed]; split <;> omega
theorem wrap_u16 (a : Int) : IntKind.u16.wrap a = a % 65536 := by simp [IntKind.wrap, IntKind.bits, IntKind.signed]

/-- The empty text. -/
abbrev E : ByteArray := ⟨#[]⟩
def okv (n : Int) : Int × Int × ByteArray × Int := (1, n, ⟨#[]⟩, 0)
def okb (b : Bool) : Int × Int × ByteArray × Int := (2, if b then 1 else 0, ⟨#[]⟩, 0)
def er (c : Int) : Int × Int × ByteArray × Int := (0, 0, ⟨#[]⟩, c)

theorem over_f (n : Int) (b : Bool) : value_over.f n b = some (if b then okv n else er 3) := by
  cases b <;> rfl

/-! ### Sums -/
def addS (a b : Int) : Int × Int × ByteArray × Int := if I64 (a + b) then okv (a + b) else er 3
def subS (a b : Int) : Int × Int × ByteArray × Int := if I64 (a - b) then okv (a - b) else er 3

theorem add_v (a b : Int) (ha : I64 a) (hb : I64 b) :
    value_over.f (wrap64 (a + b)) ((decide (b ≥ 0)) == (decide ((wrap64 (a + b)) ≥ a))) = some (addS a b) := by
  rw [over_f]
  unfold addS
  obtain ⟨_, _⟩ := ha; obtain ⟨_, _⟩ := hb
  by_cases h : I64 (a + b)
  · rw [if_pos h, w64 h]
    have e : (decide (b ≥ 0) == decide (a + b ≥ a)) = true := by
      rw [beq_iff_eq]; exact decide_eq_decide.2 (by omega)
    rw [e]; rfl
  · rw [if_neg h]
    have e : (decide (b ≥ 0) == decide (wrap64 (a + b) ≥ a)) = false := by
      rw [beq_eq_false_iff_ne]
      intro e
      have e := decide_eq_decide.1 e
      unfold I64 at h
      unfold wrap64 at e
      omega
    rw [e]; rfl
theorem sub_v (a b : Int) (ha : I64 a) (hb : I64 b) :
    value_over.f (wrap64 (a - b)) ((decide (b ≤ 0)) == (decide ((wrap64 (a - b)) ≥ a))) = some (subS a b) := by
  rw [over_f]
  unfold subS
  obtain ⟨_, _⟩ := ha; obtain ⟨_, _⟩ := hb
  by_cases h : I64 (a - b)
  · rw [if_pos h, w64 h]
    have e : (decide (b ≤ 0) == decide (a - b ≥ a)) = true := by
      rw [beq_iff_eq]; exact decide_eq_decide.2 (by omega)
    rw [e]; rfl
  · rw [if_neg h]
    have e : (decide (b ≤ 0) == decide (wrap64 (a - b) ≥ a)) = false := by
      rw [beq_eq_false_iff_ne]
      intro e
      have e := decide_eq_decide.1 e
      unfold I64 at h
      unfold wrap64 at e
      omega
    rw [e]; rfl

/-! ### Products -/
def mulS (a b : Int) : Int × Int × ByteArray × Int := if I64 (a * b) then okv (a * b) else er 3
theorem and_mask (x : Int) (h0 : 0 ≤ x) (h1 : x < 18446744073709551616) : Go.bits .and .u64 x 4294967295 = x % 4294967296 := by
  have := bits_mask .u64 64 (by decide) (fun n a b => by rw [wrap_u64]; have : (2 : Int) ^ 64 = 18446744073709551616 := by decide
                                                         omega) 32 (by decide) x h0 (by simpa using h1)
  simpa using this
theorem mul64_f (x y : Int) (hx : 0 ≤ x) (hx1 : x < 18446744073709551616) (hy : 0 ≤ y) (hy1 : y < 18446744073709551616) :
    bits_Mul64.f x y = some (x * y / 18446744073709551616, x * y % 18446744073709551616) := by
  unfold bits_Mul64.f
  simp only [wrap_u64]
  rw [and_mask x hx hx1, and_mask y hy hy1]
  obtain ⟨xh, xl, hx2, hx3, hx4, rfl⟩ : ∃ xh xl : Int, 0 ≤ xh ∧ 0 ≤ xl ∧ xl < 4294967296 ∧ x = xh * 4294967296 + xl :=
    ⟨x / 4294967296, x % 4294967296, by omega, by omega, by omega, by omega⟩
  obtain ⟨yh, yl, hy2, hy3, hy4, rfl⟩ : ∃ yh yl : Int, 0 ≤ yh ∧ 0 ≤ yl ∧ yl < 4294967296 ∧ y = yh * 4294967296 + yl :=
    ⟨y / 4294967296, y % 4294967296, by omega, by omega, by omega, by omega⟩
  have hxh : xh < 4294967296 := by omega
  have hyh : yh < 4294967296 := by omega
  have e1 : (xh * 4294967296 + xl) / 4294967296 = xh := by omega
  have e2 : (xh * 4294967296 + xl) % 4294967296 = xl := by omega
  have e3 : (yh * 4294967296 + yl) / 4294967296 = yh := by omega
  have e4 : (yh * 4294967296 + yl) % 4294967296 = yl := by omega
  rw [e1, e2, e3, e4]
  have p : (xh * 4294967296 + xl) * (yh * 4294967296 + yl) = xh * yh * 18446744073709551616 + (xh * yl + xl * yh) * 4294967296 + xl * yl := by
    rw [Int.add_mul, Int.mul_add, Int.mul_add]
    have a1 : xh * 4294967296 * (yh * 4294967296) = xh * yh * 18446744073709551616 := by
      rw [Int.mul_assoc, Int.mul_left_comm 4294967296, ← Int.mul_assoc]
      omega
    have a2 : xh * 4294967296 * yl = xh * yl * 4294967296 := by rw [Int.mul_assoc, Int.mul_comm 4294967296, ← Int.mul_assoc]
    have a3 : xl * (yh * 4294967296) = xl * yh * 4294967296 := by rw [← Int.mul_assoc]
    rw [a1, a2, a3]
    omega
  rw [p]
  have b1 : 0 ≤ xh * yh ∧ xh * yh ≤ 4294967295 * 4294967295 := ⟨Int.mul_nonneg hx2 hy2, Int.mul_le_mul (by omega) (by omega) hy2 (by decide)⟩
  have b2 : 0 ≤ xh * yl ∧ xh * yl ≤ 4294967295 * 4294967295 := ⟨Int.mul_nonneg hx2 hy3, Int.mul_le_mul (by omega) (by omega) hy3 (by decide)⟩
  have b3 : 0 ≤ xl * yh ∧ xl * yh ≤ 4294967295 * 4294967295 := ⟨Int.mul_nonneg hx3 hy2, Int.mul_le_mul (by omega) (by omega) hy2 (by decide)⟩
  have b4 : 0 ≤ xl * yl ∧ xl * yl ≤ 4294967295 * 4294967295 := ⟨Int.mul_nonneg hx3 hy3, Int.mul_le_mul (by omega) (by omega) hy3 (by decide)⟩
  generalize xh * yh = A at *
  generalize xh * yl = B at *
  generalize xl * yh = C at *
  generalize xl * yl = D at *
  have f1 : A % 18446744073709551616 = A := by omega
  have f2 : B % 18446744073709551616 = B := by omega
  have f3 : C % 18446744073709551616 = C := by omega
  have f4 : D % 18446744073709551616 = D := by omega
  rw [f1, f2, f3, f4]
  have f5 : (B + D / 4294967296) % 18446744073709551616 = B + D / 4294967296 := by omega
  rw [f5]
  have h0 : 0 ≤ B + D / 4294967296 ∧ B + D / 4294967296 < 18446744073709551616 := by omega
  rw [and_mask _ h0.1 h0.2]
  congr 2
  omega

theorem times1_f (a : Int) (ha : I64 a) : value_times_1.f a = some (if a < 0 then -a else a) := by
  obtain ⟨_, _⟩ := ha
  unfold value_times_1.f
  simp only [wrap_u64]
  by_cases h : a < 0
  · rw [if_pos h, if_pos h]; congr 1; omega
  · rw [if_neg h, if_neg h]; congr 1; omega
theorem times_f (a b : Int) (ha : I64 a) (hb : I64 b) : value_times.f a b = some (mulS a b) := by
  have hA := ha; have hB := hb
  obtain ⟨_, _⟩ := ha; obtain ⟨_, _⟩ := hb
  unfold value_times.f
  rw [times1_f a hA, times1_f b hB]
  simp only [Option.bind_some]
  have pa : 0 ≤ (if a < 0 then -a else a) ∧ (if a < 0 then -a else a) ≤ 9223372036854775808 := by split <;> omega
  have pb : 0 ≤ (if b < 0 then -b else b) ∧ (if b < 0 then -b else b) ≤ 9223372036854775808 := by split <;> omega
  rw [mul64_f _ _ pa.1 (by omega) pb.1 (by omega)]
  simp only [Option.bind_some]
  have hp : (if a < 0 then -a else a) * (if b < 0 then -b else b) = if (decide (a < 0) != decide (b < 0)) = true then -(a * b) else a * b := by
    by_cases h1 : a < 0 <;> by_cases h2 : b < 0 <;> simp [h1, h2, Int.neg_mul, Int.mul_neg]
  have hq : 0 ≤ (if a < 0 then -a else a) * (if b < 0 then -b else b) ∧ (if a < 0 then -a else a) * (if b < 0 then -b else b) ≤ 9223372036854775808 * 9223372036854775808 :=
    ⟨Int.mul_nonneg pa.1 pb.1, Int.mul_le_mul pa.2 pb.2 pb.1 (by decide)⟩
  rw [hp] at hq ⊢
  unfold mulS
  generalize a * b = m at *
  by_cases c : (decide (a < 0) != decide (b < 0)) = true
  · rw [if_pos c] at hq
    simp only [c, if_true, over_f, wrap_u64, Option.bind_some, Bool.false_eq_true, if_false]
    by_cases h : -m / 18446744073709551616 = 0
    · rw [if_pos h]
      congr 1
      have : decide (-m % 18446744073709551616 ≤ 9223372036854775807 + 1) = decide (I64 m) := decide_eq_decide.2 (by unfold I64; omega)
      rw [this]
      by_cases h2 : I64 m
      · have : wrap64 (-(-m % 18446744073709551616) % 18446744073709551616) = m := by
          obtain ⟨_, _⟩ := h2
          unfold wrap64; omega
        simp [h2, this]
      · simp [h2]
    · rw [if_neg h, if_neg (by unfold I64; omega)]
  · rw [if_neg c] at hq
    simp only [c, if_false, over_f, wrap_u64, Option.bind_some, Bool.false_eq_true]
    by_cases h : m / 18446744073709551616 = 0
    · rw [if_pos h]
      congr 1
      have : decide (m % 18446744073709551616 ≤ 9223372036854775807) = decide (I64 m) := decide_eq_decide.2 (by unfold I64; omega)
      rw [this]
      by_cases h2 : I64 m
      · have : wrap64 (m % 18446744073709551616) = m := by
          obtain ⟨_, _⟩ := h2
          unfold wrap64; omega
        simp [h2, this]
      · simp [h2]
    · rw [if_neg h, if_neg (by unfold I64; omega)]

/-! ### Quotients -/
def divS (a b : Int) : Int × Int × ByteArray × Int := if b = 0 then er 4 else if a = -9223372036854775808 ∧ b = -1 then er 3 else okv (Int.tdiv a b)
def modS (a b : Int) : Int × Int × ByteArray × Int := if b = 0 then er 4 else okv (Int.tmod a b)
theorem tdiv_I64 (a b : Int) (ha : I64 a) (hb : b ≠ 0) (h : ¬ (a = -9223372036854775808 ∧ b = -1)) : I64 (Int.tdiv a b) := by
  obtain ⟨h1, h2⟩ := ha
  have hn : (Int.tdiv a b).natAbs = a.natAbs / b.natAbs := Int.natAbs_tdiv a b
  have hle : a.natAbs / b.natAbs ≤ a.natAbs := Nat.div_le_self _ _
  unfold I64
  by_cases hm : a = -9223372036854775808
  · by_cases hb1 : b = 1
    · subst hb1; simp [Int.tdiv_one]; omega
    · have : 2 ≤ b.natAbs := by omega
      have : a.natAbs / b.natAbs ≤ a.natAbs / 2 := Nat.div_le_div_left this (by decide)
      omega
  · omega
theorem tmod_I64 (a b : Int) (ha : I64 a) : I64 (Int.tmod a b) := by
  obtain ⟨h1, h2⟩ := ha
  have : (Int.tmod a b).natAbs = a.natAbs % b.natAbs := Int.natAbs_tmod a b
  have h3 : a.natAbs % b.natAbs ≤ a.natAbs := Nat.mod_le _ _
  unfold I64
  by_cases h : 0 ≤ a
  · have := Int.tmod_nonneg b h
    omega
  · have := Int.tmod_nonneg b (show 0 ≤ -a by omega)
    rw [Int.neg_tmod] at this
    omega
theorem toL (l : List UInt8) : (⟨l.toArray⟩ : ByteArray).toList = l := by rw [ByteArray.toList_eq]
theorem div_f (a b : Int) (ha : I64 a) : value_parts.f ⟨#[47]⟩ a b = some (divS a b) := by
  unfold value_parts.f divS
  by_cases h0 : b = 0
  · rw [if_pos h0, if_pos h0]; rfl
  · rw [if_neg h0, if_neg h0, if_neg (by rw [ByteArray.toList_eq]; decide)]
    by_cases h1 : a = -9223372036854775808
    · by_cases h2 : b = -1
      · rw [if_pos h1, if_pos h2, if_pos ⟨h1, h2⟩]; rfl
      · rw [if_pos h1, if_neg h2, if_neg (fun h => h2 h.2), w64 (tdiv_I64 a b ha h0 (fun h => h2 h.2))]; rfl
    · rw [if_neg h1, if_neg (fun h => h1 h.1), w64 (tdiv_I64 a b ha h0 (fun h => h1 h.1))]; rfl
theorem mod_f (a b : Int) : value_parts.f ⟨#[37]⟩ a b = some (modS a b) := by
  unfold value_parts.f modS
  by_cases h0 : b = 0
  · rw [if_pos h0, if_pos h0]; rfl
  · rw [if_neg h0, if_neg h0, if_pos (by rw [ByteArray.toList_eq])]
    by_cases h2 : b = -1
    · subst h2
      rw [if_pos rfl]
      have : Int.tmod a (-1) = 0 := by rw [Int.tmod_neg]; exact Int.tmod_one a
      rw [this]; rfl
    · rw [if_neg h2]; rfl

/-! ### Moves -/
def shlS (a b : Int) : Int × Int × ByteArray × Int := if b < 0 ∨ b > 63 then er 5 else okv (wrap64 (a * 2 ^ b.toNat))
def shrS (a b : Int) : Int × Int × ByteArray × Int := if b < 0 ∨ b > 63 then er 5 else okv (a / 2 ^ b.toNat)
def ushrS (a b : Int) : Int × Int × ByteArray × Int := if b < 0 ∨ b > 63 then er 5 else okv (wrap64 (a % 18446744073709551616 / 2 ^ b.toNat))
theorem wrap64_mod (x : Int) : wrap64 (x % 18446744073709551616) = wrap64 x := by unfold wrap64; omega
theorem moved_shl (k : Nat) (a b : Int) : value_moved.f (k + 1) ⟨#[115, 104, 108]⟩ a b = some (shlS a b) := by
  unfold value_moved.f shlS
  by_cases h : b < 0
  · rw [if_pos h, if_pos (.inl h)]; rfl
  · rw [if_neg h]
    simp only [value_moved.j0, ByteArray.toList_eq]
    by_cases h2 : b > 63
    · rw [if_pos (decide_eq_true h2), if_pos (.inr h2)]; rfl
    · rw [if_neg (by simpa using h2), if_pos trivial, if_pos (by omega), if_neg (by omega)]
      have : min b.toNat IntKind.u64.bits = b.toNat := by simp [IntKind.bits]; omega
      simp only [shl, this, wrap_u64]
      have e : wrap64 ((a % 18446744073709551616) * 2 ^ b.toNat % 18446744073709551616) = wrap64 (a * 2 ^ b.toNat) := by
        rw [Int.mul_emod, Int.emod_emod, ← Int.mul_emod, wrap64_mod]
      rw [e]; rfl
theorem moved_shr (k : Nat) (a b : Int) : value_moved.f (k + 1) ⟨#[115, 104, 114]⟩ a b = some (shrS a b) := by
  unfold value_moved.f shrS
  by_cases h : b < 0
  · rw [if_pos h, if_pos (.inl h)]; rfl
  · rw [if_neg h]
    simp only [value_moved.j0, ByteArray.toList_eq]
    by_cases h2 : b > 63
    · rw [if_pos (decide_eq_true h2), if_pos (.inr h2)]; rfl
    · rw [if_neg (by simpa using h2), if_neg (by decide), if_pos trivial, if_pos (by omega), if_neg (by omega)]
      have : min b.toNat IntKind.i64.bits = b.toNat := by simp [IntKind.bits]; omega
      simp only [shr, this]; rfl
theorem moved_ushr (k : Nat) (a b : Int) : value_moved.f (k + 1) ⟨#[117, 115, 104, 114]⟩ a b = some (ushrS a b) := by
  unfold value_moved.f ushrS
  by_cases h : b < 0
  · rw [if_pos h, if_pos (.inl h)]; rfl
  · rw [if_neg h]
    simp only [value_moved.j0, ByteArray.toList_eq]
    by_cases h2 : b > 63
    · rw [if_pos (decide_eq_true h2), if_pos (.inr h2)]; rfl
    · rw [if_neg (by simpa using h2), if_neg (by decide), if_neg (by decide), if_pos (by omega), if_neg (by omega)]
      have : min b.toNat IntKind.u64.bits = b.toNat := by simp [IntKind.bits]; omega
      simp only [shr, this, wrap_u64]; rfl


/-! ### Bits -/
def tb (x : Int) (i : Nat) : Bool := decide (x / 2 ^ i % 2 = 1)
theorem pow_pos' (i : Nat) : (0 : Int) < 2 ^ i := Int.pow_pos (by decide)
theorem two_split {i j : Nat} (h : i ≤ j) : (2 : Int) ^ j = 2 ^ i * 2 ^ (j - i) := by
  rw [← Int.pow_add]; congr 1; omega
/-- What is a multiple of 2^64 apart has the same lowest bits. -/
theorem tb_add (x c : Int) (i : Nat) (hi : i < 64) : tb (x + c * 18446744073709551616) i = tb x i := by
  unfold tb
  have e : (18446744073709551616 : Int) = 2 ^ i * (2 ^ (63 - i) * 2) := by
    have : (18446744073709551616 : Int) = 2 ^ 64 := by decide
    rw [this, two_split (show i ≤ 64 by omega)]
    have : (2 : Int) ^ (64 - i) = 2 ^ (63 - i) * 2 := by rw [← Int.pow_succ]; congr 1; omega
    rw [this]
  have : x + c * 18446744073709551616 = x + 2 ^ i * (c * 2 ^ (63 - i) * 2) := by
    rw [e, ← Int.mul_assoc, Int.mul_comm c, Int.mul_assoc, ← Int.mul_assoc c]
  rw [this, Int.add_mul_ediv_left _ _ (by have := pow_pos' i; omega)]
  generalize c * 2 ^ (63 - i) = d
  exact decide_eq_decide.2 (by omega)
theorem tb_wrap64 (y : Int) (i : Nat) (hi : i < 64) : tb (wrap64 y) i = tb y i := by
  have : wrap64 y = y + (-((y + 9223372036854775808) / 18446744073709551616)) * 18446744073709551616 := by unfold wrap64; omega
  rw [this, tb_add _ _ _ hi]
theorem tb_mod (y : Int) (i : Nat) (hi : i < 64) : tb (y % 18446744073709551616) i = tb y i := by
  have : y % 18446744073709551616 = y + (-(y / 18446744073709551616)) * 18446744073709551616 := by omega
  rw [this, tb_add _ _ _ hi]
theorem tb_sign (x : Int) (h : I64 x) : tb x 63 = decide (x < 0) := by
  obtain ⟨_, _⟩ := h
  unfold tb
  have : (2 : Int) ^ 63 = 9223372036854775808 := by decide
  rw [this]
  exact decide_eq_decide.2 (by omega)
theorem tb_shl (a : Int) (b i : Nat) : tb (a * 2 ^ b) i = (decide (b ≤ i) && tb a (i - b)) := by
  unfold tb
  by_cases h : b ≤ i
  · rw [two_split h, Int.mul_comm a, Int.mul_ediv_mul_of_pos _ _ (pow_pos' b)]
    simp [h]
  · have h' : i ≤ b := by omega
    rw [two_split h']
    have : a * (2 ^ i * 2 ^ (b - i)) = 2 ^ i * (a * 2 ^ (b - i)) := by rw [Int.mul_left_comm]
    rw [this, Int.mul_ediv_cancel_left _ (by have := pow_pos' i; omega)]
    have : (2 : Int) ^ (b - i) = 2 ^ (b - i - 1) * 2 := by rw [← Int.pow_succ]; congr 1; omega
    rw [this, ← Int.mul_assoc]
    generalize a * 2 ^ (b - i - 1) = d
    simp [h]
theorem tb_shr (a : Int) (b i : Nat) : tb (a / 2 ^ b) i = tb a (i + b) := by
  unfold tb
  rw [Int.ediv_ediv_of_nonneg (by have := pow_pos' b; omega), ← Int.pow_add, Nat.add_comm b i]
theorem tb_high (a : Int) (h : I64 a) (i : Nat) (hi : 63 ≤ i) : tb a i = tb a 63 := by
  rw [tb_sign a h]
  obtain ⟨_, _⟩ := h
  unfold tb
  have hp : (9223372036854775808 : Int) ≤ 2 ^ i := by
    have : (9223372036854775808 : Int) = 2 ^ 63 := by decide
    rw [this, two_split hi]
    have := pow_pos' (i - 63)
    have := pow_pos' 63
    have := Int.mul_le_mul_of_nonneg_left (show (1 : Int) ≤ 2 ^ (i - 63) by omega) (show (0 : Int) ≤ 2 ^ 63 by omega)
    omega
  by_cases h0 : a < 0
  · have : a / 2 ^ i = -1 := by
      rw [Int.ediv_eq_iff_of_pos (pow_pos' i)]
      omega
    rw [this]; simp [h0]
  · have : a / 2 ^ i = 0 := Int.ediv_eq_zero_of_lt (by omega) (by omega)
    rw [this]; simp [h0]

theorem tb_nat (n i : Nat) : tb (n : Int) i = n.testBit i := by
  unfold tb
  rw [Nat.testBit_eq_decide_div_mod_eq]
  have : ((n : Int) / 2 ^ i % 2) = ((n / 2 ^ i % 2 : Nat) : Int) := by simp
  rw [this]
  exact decide_eq_decide.2 (by omega)
theorem tb_bv (a : Int) (i : Nat) (hi : i < 64) : (BitVec.ofInt 64 a).toNat.testBit i = tb a i := by
  rw [← tb_nat, BitVec.toNat_ofInt]
  have : ((a % ((2 ^ 64 : Nat) : Int)).toNat : Int) = a % 18446744073709551616 := by
    have : ((2 ^ 64 : Nat) : Int) = 18446744073709551616 := by decide
    rw [this]; omega
  rw [this, tb_mod _ _ hi]
theorem wrap_i64 (n : Int) : IntKind.i64.wrap n = wrap64 n := by rw [IntKind.wrap_i64]; unfold wrap64; rfl
theorem bits_and_I64 (op : BinOp) (a b : Int) : I64 (Go.bits op .i64 a b) := by
  unfold Go.bits; simp only []; rw [wrap_i64]; exact w64_I64 _
theorem tb_and (a b : Int) (i : Nat) (hi : i < 64) : tb (Go.bits .and .i64 a b) i = (tb a i && tb b i) := by
  unfold Go.bits; simp only []
  rw [wrap_i64, tb_wrap64 _ _ hi, tb_nat, BitVec.toNat_and, Nat.testBit_and]
  rw [show IntKind.i64.bits = 64 from rfl, tb_bv _ _ hi, tb_bv _ _ hi]
theorem tb_or (a b : Int) (i : Nat) (hi : i < 64) : tb (Go.bits .or .i64 a b) i = (tb a i || tb b i) := by
  unfold Go.bits; simp only []
  rw [wrap_i64, tb_wrap64 _ _ hi, tb_nat, BitVec.toNat_or, Nat.testBit_or]
  rw [show IntKind.i64.bits = 64 from rfl, tb_bv _ _ hi, tb_bv _ _ hi]
theorem tb_xor (a b : Int) (i : Nat) (hi : i < 64) : tb (Go.bits .xor .i64 a b) i = (tb a i != tb b i) := by
  unfold Go.bits; simp only []
  rw [wrap_i64, tb_wrap64 _ _ hi, tb_nat, BitVec.toNat_xor, Nat.testBit_xor]
  rw [show IntKind.i64.bits = 64 from rfl, tb_bv _ _ hi, tb_bv _ _ hi]

/-! ### The reference's bits -/
theorem tb_top (n : Int) (i : Nat) (hi : i < 63) : tb (n + 9223372036854775808) i = tb n i := by
  unfold tb
  have e : (9223372036854775808 : Int) = 2 ^ i * (2 ^ (62 - i) * 2) := by
    have : (9223372036854775808 : Int) = 2 ^ 63 := by decide
    rw [this, two_split (show i ≤ 63 by omega)]
    have : (2 : Int) ^ (63 - i) = 2 ^ (62 - i) * 2 := by rw [← Int.pow_succ]; congr 1; omega
    rw [this]
  rw [e, Int.add_mul_ediv_left _ _ (by have := pow_pos' i; omega)]
  generalize (2 : Int) ^ (62 - i) = d
  exact decide_eq_decide.2 (by omega)
/-! ### A number out of its bits -/
/-! ### The reference's words, bit by bit -/
theorem succ64 (j : Nat) (hj : j < 64) : wrap64 ((j : Int) + 1) = ((j + 1 : Nat) : Int) := by rw [w64 (by unfold I64; omega)]; omega
theorem shr_range (a : Int) (ha : I64 a) (b : Nat) : I64 (a / 2 ^ b) := by
  obtain ⟨h1, h2⟩ := ha
  have hp := pow_pos' b
  generalize (2 : Int) ^ b = p at hp
  by_cases h : 0 ≤ a
  · have := Int.ediv_nonneg h (show (0 : Int) ≤ p by omega)
    have := Int.ediv_le_self p h
    exact ⟨by omega, by omega⟩
  · have h2 : a ≤ a / p := by
      rw [Int.le_ediv_iff_mul_le hp]
      have : a * p ≤ a * 1 := Int.mul_le_mul_of_nonpos_left (by omega) (by omega)
      omega
    have h3 : a / p < 0 := Int.ediv_neg_of_neg_of_pos (by omega) hp
    exact ⟨by omega, by omega⟩
theorem big_pow (i : Nat) (h : 64 ≤ i) : (18446744073709551616 : Int) ≤ 2 ^ i := by
  have e : (2 : Int) ^ i = 2 ^ 64 * 2 ^ (i - 64) := by
    rw [← Int.pow_add]; congr 1; omega
  have e2 : (2 : Int) ^ 64 = 18446744073709551616 := by decide
  rw [e, e2]
  have := pow_pos' (i - 64)
  generalize (2 : Int) ^ (i - 64) = q at *
  omega
theorem tb_min (a : Int) (b : Nat) (i : Nat) (ha : I64 a) : tb a (min 63 (i + b)) = tb (a / 2 ^ (b : Int).toNat) i := by
  rw [Int.toNat_natCast, tb_shr]
  by_cases h : i + b ≤ 63
  · rw [Nat.min_eq_right h]
  · rw [Nat.min_eq_left (by omega), tb_high a ha (i + b) (by omega)]
theorem mn63 (n : Nat) : mn 63 (n : Int) = ((min 63 n : Nat) : Int) := by unfold mn; split <;> omega
theorem add64 (j b : Nat) (hj : j < 64) (hb : b ≤ 63) : wrap64 ((j : Int) + b) = ((j + b : Nat) : Int) := by rw [w64 (by unfold I64; omega)]; omega
theorem tb_ushr (a : Int) (b i : Nat) (hi : i < 64) : (decide (i + b ≤ 63) && tb a (i + b)) = tb (wrap64 (a % 18446744073709551616 / 2 ^ b)) i := by
  rw [tb_wrap64 _ _ hi, tb_shr]
  by_cases h : i + b ≤ 63
  · rw [tb_mod _ _ (by omega)]; simp [h]
  · have : tb (a % 18446744073709551616) (i + b) = false := by
      unfold tb
      have hp := big_pow (i + b) (by omega)
      generalize (2 : Int) ^ (i + b) = q at *
      rw [Int.ediv_eq_zero_of_lt (by omega) (by omega)]; rfl
    rw [this]; simp [h]

theorem bind_eta (x : Option (Int × Int × ByteArray × Int)) : (x.bind fun b => some (b.1, b.2.1, b.2.2.1, b.2.2.2)) = x := by
  cases x <;> rfl

/-! ### Words of two Ints -/
abbrev Res := Int × Int × ByteArray × Int
def intsR (L : List UInt8) (a b : Int) : Res :=
  if L = [43] then addS a b else if L = [45] then subS a b else if L = [42] then mulS a b else if L = [47] then divS a b else if L = [37] then modS a b
  else if L = [97, 110, 100] then okv (Go.bits .and .i64 a b) else if L = [111, 114] then okv (Go.bits .or .i64 a b) else if L = [120, 111, 114] then okv (Go.bits .xor .i64 a b)
  else if L = [115, 104, 108] then shlS a b else if L = [115, 104, 114] then shrS a b else ushrS a b

theorem parts_div (w : ByteArray) (hw : w.toList = [47]) (a b : Int) (ha : I64 a) : value_parts.f w a b = some (divS a b) := by
  have := div_f a b ha
  unfold value_parts.f at this ⊢
  rw [hw]
  rw [ByteArray.toList_eq] at this
  exact this
theorem parts_mod (w : ByteArray) (hw : w.toList = [37]) (a b : Int) : value_parts.f w a b = some (modS a b) := by
  have := mod_f a b
  unfold value_parts.f at this ⊢
  rw [hw]
  rw [ByteArray.toList_eq] at this
  exact this
theorem moved_f (w : ByteArray) (k : Nat) (a b : Int) : value_moved.f (k + 1) w a b = some (if w.toList = [115, 104, 108] then shlS a b else if w.toList = [115, 104, 114] then shrS a b else ushrS a b) := by
  by_cases h1 : w.toList = [115, 104, 108]
  · have := moved_shl k a b
    unfold value_moved.f at this ⊢
    simp only [value_moved.j0, ByteArray.toList_eq] at this ⊢
    rw [ByteArray.toList_eq] at h1
    simp only [h1, if_true]
    exact this
  · by_cases h2 : w.toList = [115, 104, 114]
    · have := moved_shr k a b
      unfold value_moved.f at this ⊢
      simp only [value_moved.j0, ByteArray.toList_eq] at this ⊢
      rw [ByteArray.toList_eq] at h2
      simp only [h2]
      exact this
    · have := moved_ushr k a b
      have f1 : ¬ (⟨#[117, 115, 104, 114]⟩ : ByteArray).toList = [115, 104, 108] := by rw [ByteArray.toList_eq]; decide
      have f2 : ¬ (⟨#[117, 115, 104, 114]⟩ : ByteArray).toList = [115, 104, 114] := by rw [ByteArray.toList_eq]; decide
      unfold value_moved.f at this ⊢
      simp only [value_moved.j0, f1, f2, h1, h2, if_false] at this ⊢
      exact this
theorem vints (w : ByteArray) (k : Nat) (a b : Int) (ha : I64 a) (hb : I64 b) : value_ints.f (k + 2) w a b = some (intsR w.toList a b) := by
  unfold value_ints.f intsR
  by_cases h1 : w.toList = [43]
  · rw [if_pos h1, if_pos h1, bind_eta, add_v a b ha hb]
  rw [if_neg h1, if_neg h1]
  by_cases h2 : w.toList = [45]
  · rw [if_pos h2, if_pos h2, bind_eta, sub_v a b ha hb]
  rw [if_neg h2, if_neg h2]
  by_cases h3 : w.toList = [42]
  · rw [if_pos h3, if_pos h3, bind_eta, times_f a b ha hb]
  rw [if_neg h3, if_neg h3]
  simp only [value_ints.j0, bind_eta]
  by_cases h4 : w.toList = [47]
  · simp only [h4, if_true, beq_self_eq_true]
    exact parts_div w h4 a b ha
  rw [if_neg h4, if_neg h4]
  by_cases h5 : w.toList = [37]
  · simp only [h5, if_true, beq_self_eq_true]
    exact parts_mod w h5 a b
  rw [if_neg (by simpa using h5), if_neg h5]
  by_cases h6 : w.toList = [97, 110, 100]
  · rw [if_pos h6, if_pos h6]; rfl
  rw [if_neg h6, if_neg h6]
  by_cases h7 : w.toList = [111, 114]
  · rw [if_pos h7, if_pos h7]; rfl
  rw [if_neg h7, if_neg h7]
  by_cases h8 : w.toList = [120, 111, 114]
  · rw [if_pos h8, if_pos h8]; rfl
  rw [if_neg h8, if_neg h8, moved_f w k a b]

/-! ### Two, as the program reckons it -/
def isInts (L : List UInt8) : Bool := L == [43] || L == [45] || L == [42] || L == [47] || L == [37] || L == [97, 110, 100] || L == [111, 114] || L == [120, 111, 114] || L == [115, 104, 108] || L == [115, 104, 114] || L == [117, 115, 104, 114]
def twoR (L : List UInt8) (t1 a : Int) (s : ByteArray) (t2 b : Int) (t : ByteArray) : Res :=
  if isInts L = true then (if t1 = 1 ∧ t2 = 1 then intsR L a b else er 2)
  else if L = [60] then (if t1 = 1 ∧ t2 = 1 then okb (decide (a < b)) else if t1 = 3 ∧ t2 = 3 then okb (Op.bytesLess s.toList t.toList) else er 2)
  else if L = [61] then (if t1 = t2 ∧ t1 ≤ 3 then okb (a == b && s.toList == t.toList) else er 2)
  else if L = [99, 97, 116] then (if t1 = 3 ∧ t2 = 3 then (if (s.size : Int) + t.size > 65536 then er 3 else (3, 0, s ++ t, 0)) else er 2)
  else if L = [97, 116] then (if t1 = 3 ∧ t2 = 1 then (if b < 0 ∨ b ≥ s.size then er 5 else okv (bt s b)) else er 2)
  else er 1

theorem is_f (b : Bool) : value_Is.f b = some (2, if b then 1 else 0, ⟨#[]⟩) := by cases b <;> rfl
theorem less_irrefl : ∀ l : List UInt8, Op.bytesLess l l = false
  | [] => rfl
  | x :: xs => by
    have := less_irrefl xs
    have h : ¬ x < x := by rw [UInt8.lt_iff_toNat_lt]; omega
    simp [Op.bytesLess, this, h]
theorem cmp_i (a b : Int) : cmp_Compare_int64.f a b = some (if a < b then -1 else if a > b then 1 else 0) := by
  unfold cmp_Compare_int64.f cmp_isNaN_int64.f
  simp only [bne_self_eq_false, Option.bind_some, Bool.false_eq_true, if_false]
  split
  · rfl
  · split <;> rfl
theorem cmp_s (a b : ByteArray) : cmp_Compare_string.f a b = some (if Op.bytesLess a.toList b.toList = true then -1 else if Op.bytesLess b.toList a.toList = true then 1 else 0) := by
  unfold cmp_Compare_string.f cmp_isNaN_string.f
  simp only [bne_self_eq_false, Option.bind_some, Bool.false_eq_true, if_false]
  split
  · rfl
  · split <;> rfl
theorem or_f (x y : Int) (k : Nat) : cmp_Or_int.f (k + 3) [x, y] = some (if x = 0 then y else x) := by
  unfold cmp_Or_int.f
  simp only [cmp_Or_int.l0, List.length_cons, List.length_nil]
  rw [if_pos (by decide), if_pos (by decide), if_pos (by decide)]
  have e0 : rd [x, y] 0 = x := rfl
  have w1 : wrap64 ((0 : Int) + 1) = 1 := by rw [w64 (by unfold I64; omega)]; rfl
  rw [e0]
  by_cases h : x = 0
  · rw [if_pos h, if_pos h, w1, if_pos (by decide), if_pos (by decide), if_pos (by decide)]
    have e1 : rd [x, y] 1 = y := rfl
    have w2 : wrap64 ((1 : Int) + 1) = 2 := by rw [w64 (by unfold I64; omega)]; rfl
    rw [e1]
    by_cases h2 : y = 0
    · rw [if_pos h2, w2, if_neg (by decide), h2]
    · rw [if_neg h2]
  · rw [if_neg h, if_neg h]
theorem empty_of {s : ByteArray} (h : s.toList = []) : s = ⟨#[]⟩ := by
  rw [ByteArray.toList_eq] at h
  cases s with
  | mk d => congr 1; exact Array.toList_eq_nil_iff.1 h |>.trans rfl
/-- What may be of a value: an Int has no text, a Str no number. -/
structure Fits (t a : Int) (s : ByteArray) : Prop where
  i64 : I64 a
  size : s.size ≤ 140737488351232
  int : t = 1 → s.toList = []
  str : t = 3 → a = 0
theorem bt_I64 (s : ByteArray) (i : Int) : I64 (bt s i) := by have := bt_range s i; unfold I64; omega

theorem vtwo (w : ByteArray) (t1 a : Int) (s : ByteArray) (t2 b : Int) (t : ByteArray) (h1 : Fits t1 a s) (h2 : Fits t2 b t) (k : Nat) : value_Two.f (k + 9) w t1 a s t2 b t = some (twoR w.toList t1 a s t2 b t) := by
  have hI : ∀ m : Nat, value_ints.f (m + 2) w a b = some (intsR w.toList a b) := fun m => vints w m a b h1.i64 h2.i64
  have e1 : value_Two.f (k + 9) w t1 a s t2 b t = value_Two.j0 (k + 9) w (decide (t1 = 1) && decide (t2 = 1)) t1 a s t2 b t := by
    unfold value_Two.f
    by_cases c : t1 = 1
    · rw [if_pos c]; simp only [c, decide_true, Bool.true_and]; congr 1
    · rw [if_neg c]; simp only [c, decide_false, Bool.false_and]
  have e2 : value_Two.j0 (k + 9) w (decide (t1 = 1) && decide (t2 = 1)) t1 a s t2 b t = value_Two.j1 (k + 8) w (decide (t1 = 1) && decide (t2 = 1)) w (isInts w.toList) t1 a s t2 b t := by
    simp only [value_Two.j0]
    generalize w.toList = L
    unfold isInts
    by_cases c1 : L = [43]
    · subst c1; rfl
    rw [if_neg c1]
    by_cases c2 : L = [45]
    · subst c2; rfl
    rw [if_neg c2]
    by_cases c3 : L = [42]
    · subst c3; rfl
    rw [if_neg c3]
    by_cases c4 : L = [47]
    · subst c4; rfl
    rw [if_neg c4]
    by_cases c5 : L = [37]
    · subst c5; rfl
    rw [if_neg c5]
    by_cases c6 : L = [97, 110, 100]
    · subst c6; rfl
    rw [if_neg c6]
    by_cases c7 : L = [111, 114]
    · subst c7; rfl
    rw [if_neg c7]
    by_cases c8 : L = [120, 111, 114]
    · subst c8; rfl
    rw [if_neg c8]
    by_cases c9 : L = [115, 104, 108]
    · subst c9; rfl
    rw [if_neg c9]
    by_cases c10 : L = [115, 104, 114]
    · subst c10; rfl
    rw [if_neg c10]
    simp only [beq_eq_false_iff_ne.2 c1, beq_eq_false_iff_ne.2 c2, beq_eq_false_iff_ne.2 c3, beq_eq_false_iff_ne.2 c4, beq_eq_false_iff_ne.2 c5, beq_eq_false_iff_ne.2 c6, beq_eq_false_iff_ne.2 c7, beq_eq_false_iff_ne.2 c8, beq_eq_false_iff_ne.2 c9, beq_eq_false_iff_ne.2 c10, Bool.false_or]
  rw [e1, e2]
  simp only [value_Two.j1]
  unfold twoR
  by_cases c : isInts w.toList = true
  · rw [if_pos c, if_pos c]
    by_cases hb : t1 = 1 ∧ t2 = 1
    · rw [if_pos (by simp [hb]), if_pos hb, bind_eta]; exact hI _
    · rw [if_neg (by simpa using fun x y => hb ⟨x, y⟩), if_neg hb]; rfl
  rw [if_neg c, if_neg c]
  by_cases cl : w.toList = [60]
  · rw [if_pos cl, if_pos cl]
    have lt2 : ∀ m, value_Two.j2 (m + 4) true t1 a s t2 b t = some (okb (decide ((if (if a < b then -1 else if a > b then 1 else 0 : Int) = 0 then (if Op.bytesLess s.toList t.toList = true then -1 else if Op.bytesLess t.toList s.toList = true then 1 else 0) else (if a < b then -1 else if a > b then 1 else 0 : Int)) < 0))) := by
      intro m
      simp only [value_Two.j2, if_true, cmp_i, cmp_s, Option.bind_some, or_f, is_f]
      rfl
    by_cases hb : t1 = 1 ∧ t2 = 1
    · rw [if_pos (by simp [hb]), if_pos hb, lt2]
      have x1 := h1.int hb.1; have x2 := h2.int hb.2
      rw [x1, x2, less_irrefl]
      congr 2
      by_cases q : a < b
      · simp [q]
      · by_cases q2 : a > b
        · simp [q, q2]
        · simp [q, q2]
    · rw [if_neg (by simpa using fun x y => hb ⟨x, y⟩), if_neg hb]
      by_cases c3 : t1 = 3
      · rw [if_pos c3]
        by_cases c4 : t2 = 3
        · rw [if_pos ⟨c3, c4⟩]
          rw [show (t2 == 3) = true by simpa using c4, lt2]
          have x1 := h1.str c3; have x2 := h2.str c4
          subst x1 x2
          congr 2
          by_cases q : Op.bytesLess s.toList t.toList = true
          · simp [q]
          · by_cases q2 : Op.bytesLess t.toList s.toList = true
            · simp [q, q2]
            · simp [q, q2]
        · rw [if_neg (fun h => c4 h.2), show (t2 == 3) = false by simpa using c4]; rfl
      · rw [if_neg c3, if_neg (fun h => c3 h.1)]; rfl
  rw [if_neg cl, if_neg cl]
  by_cases ce : w.toList = [61]
  · rw [if_pos ce, if_pos ce]
    by_cases c3 : t1 = t2
    · rw [if_pos c3]
      by_cases c4 : t1 ≤ 3
      · rw [if_pos c4, if_pos ⟨c3, c4⟩, is_f]
        simp only [c3, beq_self_eq_true, Bool.true_and]; rfl
      · rw [if_neg c4, if_neg (fun h => c4 h.2)]; rfl
    · rw [if_neg c3, if_neg (fun h => c3 h.1)]; rfl
  rw [if_neg ce, if_neg ce]
  by_cases cc : w.toList = [99, 97, 116]
  · rw [if_pos cc, if_pos cc]
    have q : w.toList ≠ [97, 116] := by rw [cc]; decide
    simp only [value_Two.j3, cc, beq_self_eq_true, if_true]
    by_cases c3 : t1 = 3
    · rw [if_pos c3]
      by_cases c4 : t2 = 3
      · rw [if_pos c4, if_pos ⟨c3, c4⟩]
        simp only [value_Two.j4, if_true, bind_eta]
        unfold value_texts.f
        rw [if_pos cc, w64 (by have := h1.size; have := h2.size; unfold I64; omega)]
        by_cases c5 : (s.size : Int) + t.size > 65536
        · rw [if_pos c5, if_pos c5]; rfl
        · rw [if_neg c5, if_neg c5, if_pos (by have := h1.size; have := h2.size; omega)]; rfl
      · rw [if_neg c4, if_neg (by decide), if_neg (fun h => c4 h.2)]; simp only [value_Two.j4]; rfl
    · rw [if_neg c3, if_neg (fun h => c3 h.1)]; simp only [value_Two.j4]; rfl
  rw [if_neg cc, if_neg cc]
  by_cases ca : w.toList = [97, 116]
  · rw [if_pos ca]
    simp only [value_Two.j3, ca, beq_self_eq_true, if_true]
    by_cases c3 : t1 = 3
    · rw [if_pos c3, if_neg (by decide)]
      by_cases c4 : t2 = 1
      · rw [if_pos ⟨c3, c4⟩, show (t2 == 1) = true by simpa using c4]
        simp only [value_Two.j4, if_true, bind_eta]
        unfold value_texts.f
        rw [if_neg (by rw [ca]; decide)]
        by_cases c5 : b < 0
        · rw [if_pos c5, if_pos (.inl c5)]; rfl
        · rw [if_neg c5]
          by_cases c6 : b ≥ (s.size : Int)
          · rw [if_pos c6, if_pos (.inr c6)]; rfl
          · rw [if_neg c6, if_pos (by omega), if_pos (by omega), if_neg (by omega), w64 (bt_I64 s b)]; rfl
      · rw [if_neg (fun h => c4 h.2), show (t2 == 1) = false by simpa using c4]; simp only [value_Two.j4]; rfl
    · rw [if_neg c3, if_neg (fun h => c3 h.1)]; simp only [value_Two.j4]; rfl
  rw [if_neg ca]
  simp only [value_Two.j3]
  rw [if_neg (by simpa using ca)]; rfl


/-! ### Words of one value -/
def isOnes (L : List UInt8) : Bool := L == [110, 101, 103] || L == [105, 56] || L == [105, 49, 54] || L == [105, 51, 50] || L == [117, 56] || L == [117, 49, 54] || L == [117, 51, 50]
def numS (L : List UInt8) (a : Int) : Int :=
  if L = [105, 56] then (a + 128) % 256 - 128 else if L = [105, 49, 54] then (a + 32768) % 65536 - 32768 else if L = [105, 51, 50] then (a + 2147483648) % 4294967296 - 2147483648
  else if L = [117, 56] then a % 256 else if L = [117, 49, 54] then a % 65536 else a % 4294967296
def oneR (L : List UInt8) (t a : Int) (s : ByteArray) : Res :=
  if L = [110, 101, 103] then (if t = 1 then (if a = -9223372036854775808 then er 3 else okv (-a)) else er 2)
  else if L = [110, 111, 116] then (if t = 2 then okb (a == 0) else er 2)
  else if L = [108, 101, 110] then (if t = 3 then okv s.size else er 2)
  else if isOnes L = true then (if t = 1 then okv (numS L a) else er 2)
  else er 1
theorem tag_f (w : ByteArray) (k : Nat) : value_tag.f (k + 1) w = some (if isOnes w.toList = true then (1, true) else if w.toList = [110, 111, 116] then (2, true) else if w.toList = [108, 101, 110] then (3, true) else (0, false)) := by
  have e : value_tag.f (k + 1) w = value_tag.j0 (k + 1) w (isOnes w.toList) := by
    unfold value_tag.f isOnes
    generalize w.toList = L
    by_cases c1 : L = [110, 101, 103]
    · subst c1; rfl
    rw [if_neg c1]
    by_cases c2 : L = [105, 56]
    · subst c2; rfl
    rw [if_neg c2]
    by_cases c3 : L = [105, 49, 54]
    · subst c3; rfl
    rw [if_neg c3]
    by_cases c4 : L = [105, 51, 50]
    · subst c4; rfl
    rw [if_neg c4]
    by_cases c5 : L = [117, 56]
    · subst c5; rfl
    rw [if_neg c5]
    by_cases c6 : L = [117, 49, 54]
    · subst c6; rfl
    rw [if_neg c6]
    simp only [beq_eq_false_iff_ne.2 c1, beq_eq_false_iff_ne.2 c2, beq_eq_false_iff_ne.2 c3, beq_eq_false_iff_ne.2 c4, beq_eq_false_iff_ne.2 c5, beq_eq_false_iff_ne.2 c6, Bool.false_or]
  rw [e]
  simp only [value_tag.j0]
  split
  · rfl
  · split
    · rfl
    · split <;> rfl
theorem wrap32_I64 (a : Int) : wrap32 a = (a + 2147483648) % 4294967296 - 2147483648 := by unfold wrap32; rfl
theorem oneR_neg {L : List UInt8} (h : L = [110, 101, 103]) (t a : Int) (s : ByteArray) : oneR L t a s = if t = 1 then (if a = -9223372036854775808 then er 3 else okv (-a)) else er 2 := by unfold oneR; rw [if_pos h]
theorem oneR_not {L : List UInt8} (h : L = [110, 111, 116]) (t a : Int) (s : ByteArray) : oneR L t a s = if t = 2 then okb (a == 0) else er 2 := by unfold oneR; rw [if_neg (by rw [h]; decide), if_pos h]
theorem oneR_len {L : List UInt8} (h : L = [108, 101, 110]) (t a : Int) (s : ByteArray) : oneR L t a s = if t = 3 then okv s.size else er 2 := by unfold oneR; rw [if_neg (by rw [h]; decide), if_neg (by rw [h]; decide), if_pos h]
theorem oneR_num {L : List UInt8} (h : isOnes L = true) (h1 : L ≠ [110, 101, 103]) (t a : Int) (s : ByteArray) : oneR L t a s = if t = 1 then okv (numS L a) else er 2 := by
  unfold oneR; rw [if_neg h1, if_neg (by rintro rfl; exact absurd h (by decide)), if_neg (by rintro rfl; exact absurd h (by decide)), if_pos h]
theorem oneR_no {L : List UInt8} (h : ¬ isOnes L = true) (h2 : L ≠ [110, 111, 116]) (h3 : L ≠ [108, 101, 110]) (t a : Int) (s : ByteArray) : oneR L t a s = er 1 := by
  unfold oneR; rw [if_neg (by rintro rfl; exact h (by decide)), if_neg h2, if_neg h3, if_neg h]
theorem vone (w : ByteArray) (t a : Int) (s : ByteArray) (h : Fits t a s) (k : Nat) : value_One.f (k + 3) w t a s = some (oneR w.toList t a s) := by
  obtain ⟨i1, i2⟩ := h.i64
  have hs := h.size
  unfold value_One.f
  rw [tag_f w (k + 2)]
  simp only [Option.bind_some]
  by_cases c1 : w.toList = [110, 101, 103]
  · rw [oneR_neg c1, if_pos (show isOnes w.toList = true by rw [c1]; decide), if_pos rfl]
    by_cases ct : t = 1
    · rw [if_pos ct, if_pos ct, if_pos c1]
      by_cases cm : a = -9223372036854775808
      · rw [if_pos cm, if_pos cm]; rfl
      · rw [if_neg cm, if_neg cm]
        simp only [value_One.j0]
        rw [if_pos c1, w64 (by unfold I64; omega)]; rfl
    · rw [if_neg ct, if_neg ct]; rfl
  by_cases c2 : w.toList = [110, 111, 116]
  · rw [oneR_not c2, if_neg (show ¬ isOnes w.toList = true by rw [c2]; decide), if_pos c2, if_pos rfl]
    by_cases ct : t = 2
    · rw [if_pos ct, if_pos ct, if_neg c1]
      simp only [value_One.j0]
      rw [if_neg c1, if_pos c2, is_f]; rfl
    · rw [if_neg ct, if_neg ct]; rfl
  by_cases c3 : w.toList = [108, 101, 110]
  · rw [oneR_len c3, if_neg (show ¬ isOnes w.toList = true by rw [c3]; decide), if_neg c2, if_pos c3, if_pos rfl]
    by_cases ct : t = 3
    · rw [if_pos ct, if_pos ct, if_neg c1]
      simp only [value_One.j0]
      rw [if_neg c1, if_neg c2, if_pos c3]; rfl
    · rw [if_neg ct, if_neg ct]; rfl
  by_cases c4 : isOnes w.toList = true
  · rw [oneR_num c4 c1, if_pos c4, if_pos rfl]
    by_cases ct : t = 1
    · rw [if_pos ct, if_pos ct, if_neg c1]
      simp only [value_One.j0]
      rw [if_neg c1, if_neg c2, if_neg c3]
      unfold numS
      by_cases d1 : w.toList = [105, 56]
      · rw [if_pos d1, if_pos d1, wrap_i8, w64 (by unfold I64; omega)]; rfl
      rw [if_neg d1, if_neg d1]
      by_cases d2 : w.toList = [105, 49, 54]
      · rw [if_pos d2, if_pos d2, wrap_i16, w64 (by unfold I64; omega)]; rfl
      rw [if_neg d2, if_neg d2]
      by_cases d3 : w.toList = [105, 51, 50]
      · rw [if_pos d3, if_pos d3, wrap32_I64, w64 (by unfold I64; omega)]; rfl
      rw [if_neg d3, if_neg d3]
      by_cases d4 : w.toList = [117, 56]
      · rw [if_pos d4, if_pos d4]; rfl
      rw [if_neg d4, if_neg d4]
      by_cases d5 : w.toList = [117, 49, 54]
      · rw [if_pos d5, if_pos d5, wrap_u16, w64 (by unfold I64; omega)]; rfl
      rw [if_neg d5, if_neg d5]; rfl
    · rw [if_neg ct, if_neg ct]; rfl
  · rw [oneR_no c4 c2 c3, if_neg c4, if_neg c2, if_neg c3]; rfl

/-! ### The reference's One -/
abbrev onesL : List ByteArray := [(⟨#[110, 101, 103]⟩ : ByteArray), (⟨#[110, 111, 116]⟩ : ByteArray), (⟨#[108, 101, 110]⟩ : ByteArray), (⟨#[105, 56]⟩ : ByteArray), (⟨#[105, 49, 54]⟩ : ByteArray), (⟨#[105, 51, 50]⟩ : ByteArray), (⟨#[117, 56]⟩ : ByteArray), (⟨#[117, 49, 54]⟩ : ByteArray), (⟨#[117, 51, 50]⟩ : ByteArray)]
/-! ### What may be -/
def mayR (t a : Int) (s : ByteArray) : Bool := decide (t ≤ 7) && (decide (t = 3) || decide (s.toList = [])) && decide ((s.size : Int) ≤ 65536) && (if t = 0 ∨ t = 3 then decide (a = 0) else if t = 2 then decide (a = 0 ∨ a = 1) else decide (t = 1 ∨ 0 ≤ a))

end Go.Proofs.Ytjkjbfhhfdbnoaa.PW
