/- The reference's words of one and of two values, plainly. -/
import Derived.Test.YtjkjbfhhfdbnoaaPBx12
import Derived.Test.YtjkjbfhhfdbnoaaPBx9
import Derived.Test.YtjkjbfhhfdbnoaaPBx3
import Derived.Test.YtjkjbfhhfdbnoaaPBx4
import Derived.Test.YtjkjbfhhfdbnoaaPBx5
namespace Go.Proofs.Ytjkjbfhhfdbnoaa.PU
open Go.RowKit Go.Proofs.Ytjkjbfhhfdbnoaa.PB Go.Proofs.YtjkjbfhhfdbnoaaW.PrintWords Go.Proofs.YtjkjbfhhfdbnoaaW.PrintLast Go.Proofs.YtjkjbfhhfdbnoaaW.PrintMore
set_option linter.unusedVariables false
set_option linter.unusedSimpArgs false
theorem bt_range (s : ByteArray) (i : Int) : 0 ≤ bt s i ∧ bt s i ≤ 255 := by
  unfold bt
  split
  · rename_i h
    have := (s[i.toNat]'h).toNat_lt
    omega
  · omega

/-! ### Numbers and words -/
def I64 (a : Int) : Prop := -9223372036854775808 ≤ a ∧ a ≤ 9223372036854775807
instance (a : Int) : Decidable (I64 a) := by unfold I64; infer_instance
theorem I64.of_wf {a : Int} (h : (Lit.int .i64 a).wf = true) : I64 a := by
  simp [Lit.wf, IntKind.min, IntKind.max, IntKind.signed, IntKind.bits] at h
  exact ⟨by omega, by omega⟩
theorem u8_of_wf {a : Int} (h : (Lit.int .u8 a).wf = true) : 0 ≤ a ∧ a ≤ 255 := by
  simp [Lit.wf, IntKind.min, IntKind.max, IntKind.signed, IntKind.bits] at h
  exact ⟨by omega, by omega⟩
theorem w64 {a : Int} (h : I64 a) : wrap64 a = a := by
  obtain ⟨_, _⟩ := h
  unfold wrap64; omega
theorem w64_I64 (a : Int) : I64 (wrap64 a) := by unfold wrap64 I64; omega
theorem wrap_u64 (a : Int) : IntKind.u64.wrap a = a % 18446744073709551616 := by simp [IntKind.wrap, IntKind.bits, IntKind.signed]
theorem wrap_i8 (a : Int) : IntKind.i8.wrap a = (a + 128) % 256 - 128 := by
  simp [IntKind.wrap, IntKind.bits, IntKind.signed]; split <;> omega
theorem wrap_i16 (a : Int) : IntKind.i16.wrap a = (a + 32768) % 65536 - 32768 := by
  simp [IntKind.wrap, IntKind.bits, IntKind.signed]; split <;> omega
theorem wrap_u16 (a : Int) : IntKind.u16.wrap a = a % 65536 := by simp [IntKind.wrap, IntKind.bits, IntKind.signed]

/-- The empty text. -/
abbrev E : ByteArray := ⟨#[]⟩
def okv (n : Int) : Int × Int × ByteArray × Int := (1, n, ⟨#[]⟩, 0)
def okb (b : Bool) : Int × Int × ByteArray × Int := (2, if b then 1 else 0, ⟨#[]⟩, 0)
def er (c : Int) : Int × Int × ByteArray × Int := (0, 0, ⟨#[]⟩, c)

/-! ### Sums -/
def addS (a b : Int) : Int × Int × ByteArray × Int := if I64 (a + b) then okv (a + b) else er 3
def subS (a b : Int) : Int × Int × ByteArray × Int := if I64 (a - b) then okv (a - b) else er 3

/-! ### Products -/
def mulS (a b : Int) : Int × Int × ByteArray × Int := if I64 (a * b) then okv (a * b) else er 3
theorem and_mask (x : Int) (h0 : 0 ≤ x) (h1 : x < 18446744073709551616) : Go.bits .and .u64 x 4294967295 = x % 4294967296 := by
  have := bits_mask .u64 64 (by decide) (fun n a b => by rw [wrap_u64]; have : (2 : Int) ^ 64 = 18446744073709551616 := by decide
                                                         omega) 32 (by decide) x h0 (by simpa using h1)
  simpa using this
/-! ### Quotients -/
def divS (a b : Int) : Int × Int × ByteArray × Int := if b = 0 then er 4 else if a = -9223372036854775808 ∧ b = -1 then er 3 else okv (Int.tdiv a b)
def modS (a b : Int) : Int × Int × ByteArray × Int := if b = 0 then er 4 else okv (Int.tmod a b)
theorem tdiv_I64 (a b : Int) (ha : I64 a) (hb : b ≠ 0) (h : ¬ (a = -9223372036854775808 ∧ b = -1)) : I64 (Int.tdiv a b) := by
  obtain ⟨h1, h2⟩ := ha
  have hn : (Int.tdiv a b).natAbs = a.natAbs / b.natAbs := Int.natAbs_tdiv a b
  have hle : a.natAbs / b.natAbs ≤ a.natAbs := Nat.div_le_self _ _
  unfold I64
  by_cases hm : a = -9223372036854775808
  · by_cases hb1 : b = 1
    · subst hb1; simp [Int.tdiv_one]; omega
    · have : 2 ≤ b.natAbs := by omega
      have : a.natAbs / b.natAbs ≤ a.natAbs / 2 := Nat.div_le_div_left this (by decide)
      omega
  · omega
theorem tmod_I64 (a b : Int) (ha : I64 a) : I64 (Int.tmod a b) := by
  obtain ⟨h1, h2⟩ := ha
  have : (Int.tmod a b).natAbs = a.natAbs % b.natAbs := Int.natAbs_tmod a b
  have h3 : a.natAbs % b.natAbs ≤ a.natAbs := Nat.mod_le _ _
  unfold I64
  by_cases h : 0 ≤ a
  · have := Int.tmod_nonneg b h
    omega
  · have := Int.tmod_nonneg b (show 0 ≤ -a by omega)
    rw [Int.neg_tmod] at this
    omega
theorem toL (l : List UInt8) : (⟨l.toArray⟩ : ByteArray).toList = l := by rw [ByteArray.toList_eq]
/-! ### Moves -/
def shlS (a b : Int) : Int × Int × ByteArray × Int := if b < 0 ∨ b > 63 then er 5 else okv (wrap64 (a * 2 ^ b.toNat))
def shrS (a b : Int) : Int × Int × ByteArray × Int := if b < 0 ∨ b > 63 then er 5 else okv (a / 2 ^ b.toNat)
def ushrS (a b : Int) : Int × Int × ByteArray × Int := if b < 0 ∨ b > 63 then er 5 else okv (wrap64 (a % 18446744073709551616 / 2 ^ b.toNat))
theorem wrap64_mod (x : Int) : wrap64 (x % 18446744073709551616) = wrap64 x := by unfold wrap64; omega

/-! ### Bits -/
def tb (x : Int) (i : Nat) : Bool := decide (x / 2 ^ i % 2 = 1)
theorem pow_pos' (i : Nat) : (0 : Int) < 2 ^ i := Int.pow_pos (by decide)
theorem two_split {i j : Nat} (h : i ≤ j) : (2 : Int) ^ j = 2 ^ i * 2 ^ (j - i) := by
  rw [← Int.pow_add]; congr 1; omega
/-- What is a multiple of 2^64 apart has the same lowest bits. -/
theorem tb_add (x c : Int) (i : Nat) (hi : i < 64) : tb (x + c * 18446744073709551616) i = tb x i := by
  unfold tb
  have e : (18446744073709551616 : Int) = 2 ^ i * (2 ^ (63 - i) * 2) := by
    have : (18446744073709551616 : Int) = 2 ^ 64 := by decide
    rw [this, two_split (show i ≤ 64 by omega)]
    have : (2 : Int) ^ (64 - i) = 2 ^ (63 - i) * 2 := by rw [← Int.pow_succ]; congr 1; omega
    rw [this]
  have : x + c * 18446744073709551616 = x + 2 ^ i * (c * 2 ^ (63 - i) * 2) := by
    rw [e, ← Int.mul_assoc, Int.mul_comm c, Int.mul_assoc, ← Int.mul_assoc c]
  rw [this, Int.add_mul_ediv_left _ _ (by have := pow_pos' i; omega)]
  generalize c * 2 ^ (63 - i) = d
  exact decide_eq_decide.2 (by omega)
theorem tb_wrap64 (y : Int) (i : Nat) (hi : i < 64) : tb (wrap64 y) i = tb y i := by
  have : wrap64 y = y + (-((y + 9223372036854775808) / 18446744073709551616)) * 18446744073709551616 := by unfold wrap64; omega
  rw [this, tb_add _ _ _ hi]
theorem tb_mod (y : Int) (i : Nat) (hi : i < 64) : tb (y % 18446744073709551616) i = tb y i := by
  have : y % 18446744073709551616 = y + (-(y / 18446744073709551616)) * 18446744073709551616 := by omega
  rw [this, tb_add _ _ _ hi]
theorem tb_sign (x : Int) (h : I64 x) : tb x 63 = decide (x < 0) := by
  obtain ⟨_, _⟩ := h
  unfold tb
  have : (2 : Int) ^ 63 = 9223372036854775808 := by decide
  rw [this]
  exact decide_eq_decide.2 (by omega)
theorem tb_shl (a : Int) (b i : Nat) : tb (a * 2 ^ b) i = (decide (b ≤ i) && tb a (i - b)) := by
  unfold tb
  by_cases h : b ≤ i
  · rw [two_split h, Int.mul_comm a, Int.mul_ediv_mul_of_pos _ _ (pow_pos' b)]
    simp [h]
  · have h' : i ≤ b := by omega
    rw [two_split h']
    have : a * (2 ^ i * 2 ^ (b - i)) = 2 ^ i * (a * 2 ^ (b - i)) := by rw [Int.mul_left_comm]
    rw [this, Int.mul_ediv_cancel_left _ (by have := pow_pos' i; omega)]
    have : (2 : Int) ^ (b - i) = 2 ^ (b - i - 1) * 2 := by rw [← Int.pow_succ]; congr 1; omega
    rw [this, ← Int.mul_assoc]
    generalize a * 2 ^ (b - i - 1) = d
    simp [h]
theorem tb_shr (a : Int) (b i : Nat) : tb (a / 2 ^ b) i = tb a (i + b) := by
  unfold tb
  rw [Int.ediv_ediv_of_nonneg (by have := pow_pos' b; omega), ← Int.pow_add, Nat.add_comm b i]
theorem tb_high (a : Int) (h : I64 a) (i : Nat) (hi : 63 ≤ i) : tb a i = tb a 63 := by
  rw [tb_sign a h]
  obtain ⟨_, _⟩ := h
  unfold tb
  have hp : (9223372036854775808 : Int) ≤ 2 ^ i := by
    have : (9223372036854775808 : Int) = 2 ^ 63 := by decide
    rw [this, two_split hi]
    have := pow_pos' (i - 63)
    have := pow_pos' 63
    have := Int.mul_le_mul_of_nonneg_left (show (1 : Int) ≤ 2 ^ (i - 63) by omega) (show (0 : Int) ≤ 2 ^ 63 by omega)
    omega
  by_cases h0 : a < 0
  · have : a / 2 ^ i = -1 := by
      rw [Int.ediv_eq_iff_of_pos (pow_pos' i)]
      omega
    rw [this]; simp [h0]
  · have : a / 2 ^ i = 0 := Int.ediv_eq_zero_of_lt (by omega) (by omega)
    rw [this]; simp [h0]

theorem tb_nat (n i : Nat) : tb (n : Int) i = n.testBit i := by
  unfold tb
  rw [Nat.testBit_eq_decide_div_mod_eq]
  have : ((n : Int) / 2 ^ i % 2) = ((n / 2 ^ i % 2 : Nat) : Int) := by simp
  rw [this]
  exact decide_eq_decide.2 (by omega)
theorem tb_bv (a : Int) (i : Nat) (hi : i < 64) : (BitVec.ofInt 64 a).toNat.testBit i = tb a i := by
  rw [← tb_nat, BitVec.toNat_ofInt]
  have : ((a % ((2 ^ 64 : Nat) : Int)).toNat : Int) = a % 18446744073709551616 := by
    have : ((2 ^ 64 : Nat) : Int) = 18446744073709551616 := by decide
    rw [this]; omega
  rw [this, tb_mod _ _ hi]
theorem wrap_i64 (n : Int) : IntKind.i64.wrap n = wrap64 n := by rw [IntKind.wrap_i64]; unfold wrap64; rfl
theorem bits_and_I64 (op : BinOp) (a b : Int) : I64 (Go.bits op .i64 a b) := by
  unfold Go.bits; simp only []; rw [wrap_i64]; exact w64_I64 _
theorem tb_and (a b : Int) (i : Nat) (hi : i < 64) : tb (Go.bits .and .i64 a b) i = (tb a i && tb b i) := by
  unfold Go.bits; simp only []
  rw [wrap_i64, tb_wrap64 _ _ hi, tb_nat, BitVec.toNat_and, Nat.testBit_and]
  rw [show IntKind.i64.bits = 64 from rfl, tb_bv _ _ hi, tb_bv _ _ hi]
theorem tb_or (a b : Int) (i : Nat) (hi : i < 64) : tb (Go.bits .or .i64 a b) i = (tb a i || tb b i) := by
  unfold Go.bits; simp only []
  rw [wrap_i64, tb_wrap64 _ _ hi, tb_nat, BitVec.toNat_or, Nat.testBit_or]
  rw [show IntKind.i64.bits = 64 from rfl, tb_bv _ _ hi, tb_bv _ _ hi]
theorem tb_xor (a b : Int) (i : Nat) (hi : i < 64) : tb (Go.bits .xor .i64 a b) i = (tb a i != tb b i) := by
  unfold Go.bits; simp only []
  rw [wrap_i64, tb_wrap64 _ _ hi, tb_nat, BitVec.toNat_xor, Nat.testBit_xor]
  rw [show IntKind.i64.bits = 64 from rfl, tb_bv _ _ hi, tb_bv _ _ hi]

/-! ### The reference's bits -/
theorem bit_l0 (m : Int) (hm : 0 ≤ m) (hm1 : m ≤ 9223372036854775807) (i : Nat) (hi : i ≤ 63) (d : Nat) : ∀ (j k : Nat), j + d = i → d < k →
    sacristanref01_bit.l0 k i (m / 2 ^ j) j = some (tb m i) := by
  induction d with
  | zero =>
    intro j k hj hk
    obtain ⟨k, rfl⟩ : ∃ n, k = n + 1 := ⟨k - 1, by omega⟩
    obtain rfl : j = i := by omega
    simp only [sacristanref01_bit.l0]
    rw [if_neg (by omega)]
    unfold tb
    have h0 : 0 ≤ m / 2 ^ j := Int.ediv_nonneg hm (by have := pow_pos' j; omega)
    rw [Int.tmod_eq_emod_of_nonneg h0]
    rfl
  | succ d ih =>
    intro j k hj hk
    obtain ⟨k, rfl⟩ : ∃ n, k = n + 1 := ⟨k - 1, by omega⟩
    simp only [sacristanref01_bit.l0]
    rw [if_pos (by omega)]
    have h0 : 0 ≤ m / 2 ^ j := Int.ediv_nonneg hm (by have := pow_pos' j; omega)
    have h1 : m / 2 ^ j ≤ m := Int.ediv_le_self _ hm
    have e : wrap64 (Int.tdiv (m / 2 ^ j) 2) = m / 2 ^ (j + 1) := by
      rw [Int.tdiv_eq_ediv_of_nonneg h0, w64 (by unfold I64; omega), Int.ediv_ediv_of_nonneg (by have := pow_pos' j; omega), ← Int.pow_succ]
    have e2 : wrap64 ((j : Int) + 1) = ((j + 1 : Nat) : Int) := by rw [w64 (by unfold I64; omega)]; omega
    rw [e, e2]
    exact ih (j + 1) k (by omega) (by omega)
theorem tb_top (n : Int) (i : Nat) (hi : i < 63) : tb (n + 9223372036854775808) i = tb n i := by
  unfold tb
  have e : (9223372036854775808 : Int) = 2 ^ i * (2 ^ (62 - i) * 2) := by
    have : (9223372036854775808 : Int) = 2 ^ 63 := by decide
    rw [this, two_split (show i ≤ 63 by omega)]
    have : (2 : Int) ^ (63 - i) = 2 ^ (62 - i) * 2 := by rw [← Int.pow_succ]; congr 1; omega
    rw [this]
  rw [e, Int.add_mul_ediv_left _ _ (by have := pow_pos' i; omega)]
  generalize (2 : Int) ^ (62 - i) = d
  exact decide_eq_decide.2 (by omega)
theorem bit_f (n : Int) (hn : I64 n) (i : Nat) (hi : i ≤ 63) (k : Nat) (hk : 66 ≤ k) : sacristanref01_bit.f k n i = some (tb n i) := by
  have hn' := hn
  obtain ⟨_, _⟩ := hn
  unfold sacristanref01_bit.f
  obtain ⟨k, rfl⟩ : ∃ n, k = n + 1 := ⟨k - 1, by omega⟩
  by_cases h : i = 63
  · subst h
    rw [if_pos (by omega), tb_sign n hn']
  · rw [if_neg (by omega)]
    by_cases h0 : n < 0
    · rw [if_pos h0, w64 (show I64 (n + 9223372036854775807) by unfold I64; omega), w64 (by unfold I64; omega)]
      simp only [sacristanref01_bit.j0]
      have := bit_l0 (n + 9223372036854775808) (by omega) (by omega) i hi i 0 k (by omega) (by omega)
      simp only [Int.pow_zero, Int.ediv_one, tb_top n i (by omega)] at this
      rw [show n + 9223372036854775807 + 1 = n + 9223372036854775808 by omega]
      exact this
    · rw [if_neg h0]
      simp only [sacristanref01_bit.j0]
      have := bit_l0 n (by omega) (by omega) i hi i 0 k (by omega) (by omega)
      simp only [Int.pow_zero, Int.ediv_one] at this
      exact this

/-! ### A number out of its bits -/
theorem of_l0 (x : Int) (hx : I64 x) (l : List Bool) (hl : l.length = 64) (hb : ∀ i, i < 64 → l.getD i false = tb x i) (d : Nat) : ∀ (k : Nat), d ≤ 63 → d < k →
    sacristanref01_of.l0 k l (x % 9223372036854775808 / 2 ^ d) ((d : Int) - 1) = some x := by
  have hx' := hx
  obtain ⟨_, _⟩ := hx
  induction d with
  | zero =>
    intro k _ hk
    obtain ⟨k, rfl⟩ : ∃ n, k = n + 1 := ⟨k - 1, by omega⟩
    simp only [sacristanref01_of.l0, Int.pow_zero, Int.ediv_one]
    rw [if_neg (by omega), if_pos (by omega)]
    have : rdOf false l 63 = tb x 63 := hb 63 (by omega)
    rw [this, tb_sign x hx']
    by_cases h : x < 0
    · rw [if_pos (decide_eq_true h)]
      rw [w64 (show I64 (x % 9223372036854775808 - 9223372036854775807) by unfold I64; omega), w64 (by unfold I64; omega)]
      congr 1; omega
    · rw [if_neg (by simpa using h)]
      congr 1; omega
  | succ d ih =>
    intro k hd hk
    obtain ⟨k, rfl⟩ : ∃ n, k = n + 1 := ⟨k - 1, by omega⟩
    simp only [sacristanref01_of.l0]
    rw [if_pos (by omega), if_pos (by omega), if_pos (by omega)]
    have : rdOf false l (((d + 1 : Nat) : Int) - 1) = tb x d := by
      unfold rdOf
      rw [show (((d + 1 : Nat) : Int) - 1).toNat = d by omega]
      exact hb d (by omega)
    rw [this]
    have hp := pow_pos' d
    have e1 : x % 9223372036854775808 / 2 ^ (d + 1) = x % 9223372036854775808 / 2 ^ d / 2 := by
      rw [Int.ediv_ediv_of_nonneg (by omega), ← Int.pow_succ]
    have e2 : tb x d = decide (x % 9223372036854775808 / 2 ^ d % 2 = 1) := by
      have : x = x % 9223372036854775808 + (x / 9223372036854775808) * 9223372036854775808 := by omega
      have hs : x / 9223372036854775808 = 0 ∨ x / 9223372036854775808 = -1 := by omega
      have : tb x d = tb (x % 9223372036854775808) d := by
        rcases hs with hs | hs
        · congr 1; omega
        · rw [← tb_top x d (by omega)]; congr 1; omega
      rw [this]; rfl
    have hq0 : 0 ≤ x % 9223372036854775808 / 2 ^ d := Int.ediv_nonneg (by omega) (by omega)
    have hq1 : x % 9223372036854775808 / 2 ^ d ≤ x % 9223372036854775808 := Int.ediv_le_self _ (by omega)
    have ih' := ih k (by omega) (by omega)
    rw [e1, e2]
    generalize x % 9223372036854775808 / 2 ^ d = q at *
    have e3 : wrap64 (((d + 1 : Nat) : Int) - 1 - 1) = (d : Int) - 1 := by rw [w64 (by unfold I64; omega)]; omega
    rw [e3]
    by_cases h : q % 2 = 1
    · rw [if_pos (decide_eq_true h), w64 (show I64 (2 * (q / 2)) by unfold I64; omega), w64 (by unfold I64; omega)]
      rw [show 2 * (q / 2) + 1 = q by omega]; exact ih'
    · rw [if_neg (by simpa using h), w64 (show I64 (2 * (q / 2)) by unfold I64; omega)]
      rw [show 2 * (q / 2) = q by omega]; exact ih'
theorem of_f (x : Int) (hx : I64 x) (l : List Bool) (hl : l.length = 64) (hb : ∀ i, i < 64 → l.getD i false = tb x i) (k : Nat) (hk : 66 ≤ k) : sacristanref01_of.f k l = some x := by
  have := of_l0 x hx l hl hb 63 k (by omega) (by omega)
  unfold sacristanref01_of.f
  have e : x % 9223372036854775808 / 2 ^ 63 = 0 := by
    have : (2 : Int) ^ 63 = 9223372036854775808 := by decide
    rw [this]; omega
  rw [e] at this
  exact this

/-! ### The reference's words, bit by bit -/
theorem bw_loop (w : ByteArray) (a b x : Int) (F : Nat → Bool) (hx : I64 x) (hF : ∀ i, i < 64 → F i = tb x i)
    (hs : ∀ (k j : Nat) (l : List Bool), 66 ≤ k → j < 64 → l.length = 64 → sacristanref01_bitwise.l0 (k + 1) w a b l (j : Int) = sacristanref01_bitwise.l0 k w a b (l.set j (F j)) ((j + 1 : Nat) : Int))
    (d : Nat) : ∀ (k j : Nat) (l : List Bool), j + d = 64 → l.length = 64 → (∀ i, i < j → l.getD i false = F i) → d + 68 ≤ k → sacristanref01_bitwise.l0 k w a b l (j : Int) = some x := by
  induction d with
  | zero =>
    intro k j l hj hl hi hk
    obtain ⟨k, rfl⟩ : ∃ n, k = n + 1 := ⟨k - 1, by omega⟩
    simp only [sacristanref01_bitwise.l0]
    rw [if_neg (by omega), of_f x hx l hl (fun i h => by rw [hi i (by omega), hF i h]) k (by omega)]
    rfl
  | succ d ih =>
    intro k j l hj hl hi hk
    obtain ⟨k, rfl⟩ : ∃ n, k = n + 1 := ⟨k - 1, by omega⟩
    rw [hs k j l (by omega) (by omega) hl]
    refine ih k (j + 1) _ (by omega) (by simpa using hl) (fun i h => ?_) (by omega)
    by_cases e : i = j
    · subst e
      simp [List.getD_eq_getElem?_getD, hl, show i < 64 by omega]
    · have := hi i (by omega)
      simp only [List.getD_eq_getElem?_getD, List.getElem?_set] at this ⊢
      rw [if_neg (fun h => e h.symm)]
      exact this
theorem bw_f (w : ByteArray) (a b x : Int) (F : Nat → Bool) (hx : I64 x) (hF : ∀ i, i < 64 → F i = tb x i)
    (hs : ∀ (k j : Nat) (l : List Bool), 66 ≤ k → j < 64 → l.length = 64 → sacristanref01_bitwise.l0 (k + 1) w a b l (j : Int) = sacristanref01_bitwise.l0 k w a b (l.set j (F j)) ((j + 1 : Nat) : Int))
    (k : Nat) (hk : 140 ≤ k) : sacristanref01_bitwise.f k w a b = some x := by
  unfold sacristanref01_bitwise.f
  rw [if_pos (by decide)]
  exact bw_loop w a b x F hx hF hs 64 k 0 _ rfl (by simp) (fun i h => by omega) (by omega)
theorem succ64 (j : Nat) (hj : j < 64) : wrap64 ((j : Int) + 1) = ((j + 1 : Nat) : Int) := by rw [w64 (by unfold I64; omega)]; omega
theorem bw_and (a b : Int) (ha : I64 a) (hb : I64 b) (k : Nat) (hk : 140 ≤ k) : sacristanref01_bitwise.f k ⟨#[97, 110, 100]⟩ a b = some (Go.bits .and .i64 a b) := by
  refine bw_f _ a b _ (fun j => tb a j && tb b j) (bits_and_I64 _ _ _) (fun i hi => (tb_and a b i hi).symm) (fun k j l hk hj hl => ?_) k hk
  simp only [sacristanref01_bitwise.l0]
  rw [if_pos (by omega), bit_f a ha j (by omega) k (by omega), bit_f b hb j (by omega) k (by omega)]
  simp only [Option.bind_some, ByteArray.toList_eq, succ64 j hj, hl, Int.toNat_natCast]
  have h0 : (0 : Int) ≤ (j : Int) := by omega
  have h1 : (j : Int) < 64 := by omega
  cases tb a j <;> simp [h0, h1]
theorem bw_or (a b : Int) (ha : I64 a) (hb : I64 b) (k : Nat) (hk : 140 ≤ k) : sacristanref01_bitwise.f k ⟨#[111, 114]⟩ a b = some (Go.bits .or .i64 a b) := by
  refine bw_f _ a b _ (fun j => tb a j || tb b j) (bits_and_I64 _ _ _) (fun i hi => (tb_or a b i hi).symm) (fun k j l hk hj hl => ?_) k hk
  simp only [sacristanref01_bitwise.l0]
  rw [if_pos (by omega), bit_f a ha j (by omega) k (by omega), bit_f b hb j (by omega) k (by omega)]
  simp only [Option.bind_some, ByteArray.toList_eq, succ64 j hj, hl, Int.toNat_natCast]
  have h0 : (0 : Int) ≤ (j : Int) := by omega
  have h1 : (j : Int) < 64 := by omega
  cases tb a j <;> simp [h0, h1]
theorem bw_xor (a b : Int) (ha : I64 a) (hb : I64 b) (k : Nat) (hk : 140 ≤ k) : sacristanref01_bitwise.f k ⟨#[120, 111, 114]⟩ a b = some (Go.bits .xor .i64 a b) := by
  refine bw_f _ a b _ (fun j => tb a j != tb b j) (bits_and_I64 _ _ _) (fun i hi => (tb_xor a b i hi).symm) (fun k j l hk hj hl => ?_) k hk
  simp only [sacristanref01_bitwise.l0]
  rw [if_pos (by omega), bit_f a ha j (by omega) k (by omega), bit_f b hb j (by omega) k (by omega)]
  simp only [Option.bind_some, ByteArray.toList_eq, succ64 j hj, hl, Int.toNat_natCast]
  have h0 : (0 : Int) ≤ (j : Int) := by omega
  have h1 : (j : Int) < 64 := by omega
  cases tb a j <;> simp [h0, h1]
theorem bw_shl (a b : Int) (ha : I64 a) (h0 : 0 ≤ b) (h1 : b ≤ 63) (k : Nat) (hk : 140 ≤ k) : sacristanref01_bitwise.f k ⟨#[115, 104, 108]⟩ a b = some (wrap64 (a * 2 ^ b.toNat)) := by
  obtain ⟨b, rfl⟩ := Int.eq_ofNat_of_zero_le h0
  refine bw_f _ a b _ (fun j => decide (b ≤ j) && tb a (j - b)) (w64_I64 _) (fun i hi => ?_) (fun k j l hk hj hl => ?_) k hk
  · rw [tb_wrap64 _ _ hi, Int.toNat_natCast, tb_shl]
  simp only [sacristanref01_bitwise.l0]
  rw [if_pos (by omega), bit_f a ha j (by omega) k (by omega), bit_f b (by unfold I64; omega) j (by omega) k (by omega)]
  simp only [Option.bind_some, ByteArray.toList_eq, succ64 j hj, hl, Int.toNat_natCast]
  have h2 : (0 : Int) ≤ (j : Int) := by omega
  have h3 : (j : Int) < 64 := by omega
  by_cases h : b ≤ j
  · have e : mx 0 (wrap64 ((j : Int) - b)) = ((j - b : Nat) : Int) := by rw [w64 (by unfold I64; omega)]; unfold mx; split <;> omega
    rw [e, bit_f a ha (j - b) (by omega) k (by omega)]
    simp [h2, h3, h]
  · simp [h2, h3, h]
theorem shr_range (a : Int) (ha : I64 a) (b : Nat) : I64 (a / 2 ^ b) := by
  obtain ⟨h1, h2⟩ := ha
  have hp := pow_pos' b
  generalize (2 : Int) ^ b = p at hp
  by_cases h : 0 ≤ a
  · have := Int.ediv_nonneg h (show (0 : Int) ≤ p by omega)
    have := Int.ediv_le_self p h
    exact ⟨by omega, by omega⟩
  · have h2 : a ≤ a / p := by
      rw [Int.le_ediv_iff_mul_le hp]
      have : a * p ≤ a * 1 := Int.mul_le_mul_of_nonpos_left (by omega) (by omega)
      omega
    have h3 : a / p < 0 := Int.ediv_neg_of_neg_of_pos (by omega) hp
    exact ⟨by omega, by omega⟩
theorem big_pow (i : Nat) (h : 64 ≤ i) : (18446744073709551616 : Int) ≤ 2 ^ i := by
  have e : (2 : Int) ^ i = 2 ^ 64 * 2 ^ (i - 64) := by
    rw [← Int.pow_add]; congr 1; omega
  have e2 : (2 : Int) ^ 64 = 18446744073709551616 := by decide
  rw [e, e2]
  have := pow_pos' (i - 64)
  generalize (2 : Int) ^ (i - 64) = q at *
  omega
theorem tb_min (a : Int) (b : Nat) (i : Nat) (ha : I64 a) : tb a (min 63 (i + b)) = tb (a / 2 ^ (b : Int).toNat) i := by
  rw [Int.toNat_natCast, tb_shr]
  by_cases h : i + b ≤ 63
  · rw [Nat.min_eq_right h]
  · rw [Nat.min_eq_left (by omega), tb_high a ha (i + b) (by omega)]
theorem mn63 (n : Nat) : mn 63 (n : Int) = ((min 63 n : Nat) : Int) := by unfold mn; split <;> omega
theorem add64 (j b : Nat) (hj : j < 64) (hb : b ≤ 63) : wrap64 ((j : Int) + b) = ((j + b : Nat) : Int) := by rw [w64 (by unfold I64; omega)]; omega
theorem shr_step (a : Int) (b : Nat) (ha : I64 a) (h1 : b ≤ 63) (k j : Nat) (l : List Bool) (hk : 66 ≤ k) (hj : j < 64) (hl : l.length = 64) : sacristanref01_bitwise.l0 (k + 1) ⟨#[115, 104, 114]⟩ a b l (j : Int) = sacristanref01_bitwise.l0 k ⟨#[115, 104, 114]⟩ a b (l.set j (tb a (min 63 (j + b)))) ((j + 1 : Nat) : Int) := by
  have b1 := bit_f a ha j (by omega) k (by omega)
  have b2 := bit_f b (by unfold I64; omega) j (by omega) k (by omega)
  have b3 := bit_f a ha (min 63 (j + b)) (by omega) k (by omega)
  have h2 : (0 : Int) ≤ (j : Int) := by omega
  have h3 : (j : Int) < 64 := by omega
  have e1 := add64 j b hj h1
  have e2 := mn63 (j + b)
  have e3 := succ64 j hj
  generalize tb a (min 63 (j + b)) = q at *
  simp only [sacristanref01_bitwise.l0]
  rw [if_pos h3, b1, b2, e1, e2, b3, e3]
  simp only [Option.bind_some, ByteArray.toList_eq, hl, Int.toNat_natCast]
  rw [if_neg (by decide), if_neg (by decide), if_neg (by decide), if_neg (by decide), if_pos trivial, if_pos h2, if_pos (show (j : Int) < ((64 : Nat) : Int) by omega)]
theorem ushr_step_in (a : Int) (b : Nat) (ha : I64 a) (h1 : b ≤ 63) (k j : Nat) (l : List Bool) (hk : 66 ≤ k) (hj : j < 64) (hl : l.length = 64) (h : j + b ≤ 63) : sacristanref01_bitwise.l0 (k + 1) ⟨#[117, 115, 104, 114]⟩ a b l (j : Int) = sacristanref01_bitwise.l0 k ⟨#[117, 115, 104, 114]⟩ a b (l.set j (tb a (j + b))) ((j + 1 : Nat) : Int) := by
  have b1 := bit_f a ha j (by omega) k (by omega)
  have b2 := bit_f b (by unfold I64; omega) j (by omega) k (by omega)
  have b3 := bit_f a ha (j + b) (by omega) k (by omega)
  have h2 : (0 : Int) ≤ (j : Int) := by omega
  have h3 : (j : Int) < 64 := by omega
  have e1 := add64 j b hj h1
  have e2 : mn 63 ((j + b : Nat) : Int) = ((j + b : Nat) : Int) := by rw [mn63]; omega
  have h5 : ((j + b : Nat) : Int) ≤ 63 := by omega
  have e3 := succ64 j hj
  generalize tb a (j + b) = q at *
  simp only [sacristanref01_bitwise.l0]
  rw [if_pos h3, b1, b2, e1, e2, b3, e3]
  simp only [Option.bind_some, ByteArray.toList_eq, hl, Int.toNat_natCast]
  rw [if_neg (by decide), if_neg (by decide), if_neg (by decide), if_neg (by decide), if_neg (by decide), if_pos trivial, if_pos h5, if_pos h2, if_pos (show (j : Int) < ((64 : Nat) : Int) by omega)]
theorem ushr_step_out (a : Int) (b : Nat) (ha : I64 a) (h1 : b ≤ 63) (k j : Nat) (l : List Bool) (hk : 66 ≤ k) (hj : j < 64) (hl : l.length = 64) (h : ¬ j + b ≤ 63) : sacristanref01_bitwise.l0 (k + 1) ⟨#[117, 115, 104, 114]⟩ a b l (j : Int) = sacristanref01_bitwise.l0 k ⟨#[117, 115, 104, 114]⟩ a b (l.set j false) ((j + 1 : Nat) : Int) := by
  have b1 := bit_f a ha j (by omega) k (by omega)
  have b2 := bit_f b (by unfold I64; omega) j (by omega) k (by omega)
  have h2 : (0 : Int) ≤ (j : Int) := by omega
  have h3 : (j : Int) < 64 := by omega
  have e1 := add64 j b hj h1
  have h5 : ¬ ((j + b : Nat) : Int) ≤ 63 := by omega
  have e3 := succ64 j hj
  simp only [sacristanref01_bitwise.l0]
  rw [if_pos h3, b1, b2, e1, e3]
  simp only [Option.bind_some, ByteArray.toList_eq, hl, Int.toNat_natCast]
  rw [if_neg (by decide), if_neg (by decide), if_neg (by decide), if_neg (by decide), if_neg (by decide), if_pos trivial, if_neg h5, if_pos h2, if_pos (show (j : Int) < ((64 : Nat) : Int) by omega)]
theorem bw_shr (a b : Int) (ha : I64 a) (h0 : 0 ≤ b) (h1 : b ≤ 63) (k : Nat) (hk : 140 ≤ k) : sacristanref01_bitwise.f k ⟨#[115, 104, 114]⟩ a b = some (a / 2 ^ b.toNat) := by
  obtain ⟨b, rfl⟩ := Int.eq_ofNat_of_zero_le h0
  refine bw_f _ a b _ (fun j => tb a (min 63 (j + b))) (by rw [Int.toNat_natCast]; exact shr_range a ha b) (fun i hi => tb_min a b i ha) (fun k j l hk hj hl => shr_step a b ha (by omega) k j l hk hj hl) k hk
theorem tb_ushr (a : Int) (b i : Nat) (hi : i < 64) : (decide (i + b ≤ 63) && tb a (i + b)) = tb (wrap64 (a % 18446744073709551616 / 2 ^ b)) i := by
  rw [tb_wrap64 _ _ hi, tb_shr]
  by_cases h : i + b ≤ 63
  · rw [tb_mod _ _ (by omega)]; simp [h]
  · have : tb (a % 18446744073709551616) (i + b) = false := by
      unfold tb
      have hp := big_pow (i + b) (by omega)
      generalize (2 : Int) ^ (i + b) = q at *
      rw [Int.ediv_eq_zero_of_lt (by omega) (by omega)]; rfl
    rw [this]; simp [h]
theorem bw_ushr (a b : Int) (ha : I64 a) (h0 : 0 ≤ b) (h1 : b ≤ 63) (k : Nat) (hk : 140 ≤ k) : sacristanref01_bitwise.f k ⟨#[117, 115, 104, 114]⟩ a b = some (wrap64 (a % 18446744073709551616 / 2 ^ b.toNat)) := by
  obtain ⟨b, rfl⟩ := Int.eq_ofNat_of_zero_le h0
  refine bw_f _ a b _ (fun j => decide (j + b ≤ 63) && tb a (j + b)) (w64_I64 _) (fun i hi => by rw [Int.toNat_natCast]; exact tb_ushr a b i hi) (fun k j l hk hj hl => ?_) k hk
  by_cases h : j + b ≤ 63
  · rw [ushr_step_in a b ha (by omega) k j l hk hj hl h]; simp only [h, decide_true, Bool.true_and]
  · rw [ushr_step_out a b ha (by omega) k j l hk hj hl h]; simp only [h, decide_false, Bool.false_and]


theorem bind_eta (x : Option (Int × Int × ByteArray × Int)) : (x.bind fun b => some (b.1, b.2.1, b.2.2.1, b.2.2.2)) = x := by
  cases x <;> rfl

/-! ### Words of two Ints -/
abbrev Res := Int × Int × ByteArray × Int
def intsR (L : List UInt8) (a b : Int) : Res :=
  if L = [43] then addS a b else if L = [45] then subS a b else if L = [42] then mulS a b else if L = [47] then divS a b else if L = [37] then modS a b
  else if L = [97, 110, 100] then okv (Go.bits .and .i64 a b) else if L = [111, 114] then okv (Go.bits .or .i64 a b) else if L = [120, 111, 114] then okv (Go.bits .xor .i64 a b)
  else if L = [115, 104, 108] then shlS a b else if L = [115, 104, 114] then shrS a b else ushrS a b

/-! ### Two, as the program reckons it -/
def isInts (L : List UInt8) : Bool := L == [43] || L == [45] || L == [42] || L == [47] || L == [37] || L == [97, 110, 100] || L == [111, 114] || L == [120, 111, 114] || L == [115, 104, 108] || L == [115, 104, 114] || L == [117, 115, 104, 114]
def twoR (L : List UInt8) (t1 a : Int) (s : ByteArray) (t2 b : Int) (t : ByteArray) : Res :=
  if isInts L = true then (if t1 = 1 ∧ t2 = 1 then intsR L a b else er 2)
  else if L = [60] then (if t1 = 1 ∧ t2 = 1 then okb (decide (a < b)) else if t1 = 3 ∧ t2 = 3 then okb (Op.bytesLess s.toList t.toList) else er 2)
  else if L = [61] then (if t1 = t2 ∧ t1 ≤ 3 then okb (a == b && s.toList == t.toList) else er 2)
  else if L = [99, 97, 116] then (if t1 = 3 ∧ t2 = 3 then (if (s.size : Int) + t.size > 65536 then er 3 else (3, 0, s ++ t, 0)) else er 2)
  else if L = [97, 116] then (if t1 = 3 ∧ t2 = 1 then (if b < 0 ∨ b ≥ s.size then er 5 else okv (bt s b)) else er 2)
  else er 1

theorem bool_f (b : Bool) : sacristanref01_Bool.f b = some (2, if b then 1 else 0, ⟨#[]⟩) := by cases b <;> rfl
theorem less_irrefl : ∀ l : List UInt8, Op.bytesLess l l = false
  | [] => rfl
  | x :: xs => by
    have := less_irrefl xs
    have h : ¬ x < x := by rw [UInt8.lt_iff_toNat_lt]; omega
    simp [Op.bytesLess, this, h]
theorem empty_of {s : ByteArray} (h : s.toList = []) : s = ⟨#[]⟩ := by
  rw [ByteArray.toList_eq] at h
  cases s with
  | mk d => congr 1; exact Array.toList_eq_nil_iff.1 h |>.trans rfl
/-- What may be of a value: an Int has no text, a Str no number. -/
structure Fits (t a : Int) (s : ByteArray) : Prop where
  i64 : I64 a
  size : s.size ≤ 140737488351232
  int : t = 1 → s.toList = []
  str : t = 3 → a = 0
theorem bt_I64 (s : ByteArray) (i : Int) : I64 (bt s i) := by have := bt_range s i; unfold I64; omega


/-! ### The reference's ints -/
theorem rInt (n : Int) : sacristanref01_Int.f n = some (1, n, ⟨#[]⟩) := rfl
theorem r0 (a b : Int) (x : Bool) (k : Nat) : sacristanref01_ints.j0 (k + 1) a b x 0 0 ⟨#[]⟩ = some (if x then er 3 else okv (wrap64 (a + b))) := by
  cases x <;> rfl
theorem r1 (a b : Int) (x : Bool) (k : Nat) : sacristanref01_ints.j1 (k + 1) a b x 0 0 ⟨#[]⟩ = some (if x then er 3 else okv (wrap64 (a - b))) := by
  cases x <;> rfl
theorem ref_add (w : ByteArray) (hw : w.toList = [43]) (a b : Int) (ha : I64 a) (hb : I64 b) (k : Nat) : sacristanref01_ints.f (k + 1) w a b = some (addS a b) := by
  obtain ⟨_, _⟩ := ha; obtain ⟨_, _⟩ := hb
  unfold sacristanref01_ints.f addS
  rw [if_pos hw]
  by_cases h1 : b > 0
  · rw [if_pos h1, w64 (show I64 (9223372036854775807 - b) by unfold I64; omega)]
    by_cases h2 : a > 9223372036854775807 - b
    · rw [if_pos h2, r0, if_pos rfl, if_neg (by unfold I64; omega)]
    · rw [if_neg h2, if_neg (by omega), r0, if_neg (by decide), if_pos (by unfold I64; omega), w64 (by unfold I64; omega)]
  · rw [if_neg h1]
    by_cases h2 : b < 0
    · rw [if_pos h2, w64 (show I64 (-9223372036854775808 - b) by unfold I64; omega), r0]
      by_cases h3 : a < -9223372036854775808 - b
      · rw [if_pos (decide_eq_true h3), if_neg (by unfold I64; omega)]
      · rw [if_neg (by simpa using h3), if_pos (by unfold I64; omega), w64 (by unfold I64; omega)]
    · rw [if_neg h2, r0, if_neg (by decide), if_pos (by unfold I64; omega), w64 (by unfold I64; omega)]
theorem ref_sub (w : ByteArray) (hw : w.toList = [45]) (a b : Int) (ha : I64 a) (hb : I64 b) (k : Nat) : sacristanref01_ints.f (k + 1) w a b = some (subS a b) := by
  obtain ⟨_, _⟩ := ha; obtain ⟨_, _⟩ := hb
  unfold sacristanref01_ints.f subS
  rw [if_neg (by rw [hw]; decide), if_pos hw]
  by_cases h1 : b < 0
  · rw [if_pos h1, w64 (show I64 (9223372036854775807 + b) by unfold I64; omega)]
    by_cases h2 : a > 9223372036854775807 + b
    · rw [if_pos h2, r1, if_pos rfl, if_neg (by unfold I64; omega)]
    · rw [if_neg h2, if_neg (by omega), r1, if_neg (by decide), if_pos (by unfold I64; omega), w64 (by unfold I64; omega)]
  · rw [if_neg h1]
    by_cases h2 : b > 0
    · rw [if_pos h2, w64 (show I64 (-9223372036854775808 + b) by unfold I64; omega), r1]
      by_cases h3 : a < -9223372036854775808 + b
      · rw [if_pos (decide_eq_true h3), if_neg (by unfold I64; omega)]
      · rw [if_neg (by simpa using h3), if_pos (by unfold I64; omega), w64 (by unfold I64; omega)]
    · rw [if_neg h2, r1, if_neg (by decide), if_pos (by unfold I64; omega), w64 (by unfold I64; omega)]

/-! products -/
theorem r5 (a b : Int) (x : Bool) (k : Nat) : sacristanref01_ints.j5 (k + 1) a b x 0 0 ⟨#[]⟩ = some (if x then er 3 else okv (wrap64 (a * b))) := by
  cases x <;> rfl
/-- A product that is too great doesn't come back by a quotient. -/
theorem mul_back (a b : Int) (ha : I64 a) (hb : I64 b) (h0 : b ≠ 0) (hm : a ≠ -9223372036854775808) (hm2 : b ≠ -9223372036854775808) : wrap64 (Int.tdiv (wrap64 (a * b)) b) = a ↔ I64 (a * b) := by
  constructor
  · intro h
    obtain ⟨a1, a2⟩ := ha; obtain ⟨b1, b2⟩ := hb
    have hp := w64_I64 (a * b)
    generalize hq : wrap64 (a * b) = p at *
    have hne : ¬ (p = -9223372036854775808 ∧ b = -1) := by
      rintro ⟨rfl, rfl⟩
      have e1 : Int.tdiv (-9223372036854775808) (-1) = 9223372036854775808 := by decide
      rw [e1] at h
      unfold wrap64 at h
      omega
    rw [w64 (tdiv_I64 p b hp h0 hne)] at h
    -- p = b * a + rest, |rest| < |b|
    have e := Int.mul_tdiv_add_tmod p b
    rw [h] at e
    have e2 : ∃ c, p = a * b + c * 18446744073709551616 := by
      refine ⟨-((a * b + 9223372036854775808) / 18446744073709551616), ?_⟩
      rw [← hq]; unfold wrap64; omega
    obtain ⟨c, e2⟩ := e2
    have hr : (Int.tmod p b).natAbs < b.natAbs := by
      rw [Int.natAbs_tmod]; exact Nat.mod_lt _ (by omega)
    have hr2 : Int.tmod p b = c * 18446744073709551616 := by rw [Int.mul_comm b a] at e; omega
    have hc : c = 0 := by
      rw [hr2] at hr
      omega
    rw [hc] at e2
    rw [show a * b = p by omega]
    exact hp
  · intro h
    rw [w64 h, Int.mul_tdiv_cancel _ h0, w64 ha]
theorem r4 (a b : Int) (ha : I64 a) (hb : I64 b) (h0 : b ≠ 0) (ha0 : a ≠ 0) (h1 : ¬ (a = -9223372036854775808 ∧ b ≠ 1)) (h2 : ¬ (b = -9223372036854775808 ∧ a ≠ 1)) (k : Nat) :
    sacristanref01_ints.j4 (k + 2) a b false 0 0 ⟨#[]⟩ = some (mulS a b) := by
  simp only [sacristanref01_ints.j4, Bool.false_eq_true, if_false]
  unfold mulS
  by_cases c1 : a = -9223372036854775808
  · obtain rfl : b = 1 := by
      refine Classical.byContradiction fun h => h1 ⟨c1, h⟩
    rw [if_pos c1, r5, if_neg (by decide), Int.mul_one, if_pos ha, w64 ha]
  · rw [if_neg c1]
    by_cases c2 : b = -9223372036854775808
    · obtain rfl : a = 1 := by
        refine Classical.byContradiction fun h => h2 ⟨c2, h⟩
      rw [if_pos c2, r5, if_neg (by decide), Int.one_mul, if_pos hb, w64 hb]
    · rw [if_neg c2, if_neg h0, r5]
      have hm := mul_back a b ha hb h0 c1 c2
      by_cases c3 : I64 (a * b)
      · rw [if_pos c3, w64 c3]
        have := hm.2 c3
        rw [w64 c3] at this
        rw [if_neg (by simpa using this)]
      · rw [if_neg c3, if_pos (by simpa using fun h => c3 (hm.1 h))]
theorem ref_mul (w : ByteArray) (hw : w.toList = [42]) (a b : Int) (ha : I64 a) (hb : I64 b) (k : Nat) : sacristanref01_ints.f (k + 9) w a b = some (mulS a b) := by
  unfold sacristanref01_ints.f
  rw [if_neg (by rw [hw]; decide), if_neg (by rw [hw]; decide), if_pos hw]
  have e2 : ∀ x, sacristanref01_ints.j2 (k + 9) a b x 0 0 ⟨#[]⟩ = if x = true then some (okv 0) else sacristanref01_ints.j3 (k + 8) a b ((a == -1 && b == -9223372036854775808) || (b == -1 && a == -9223372036854775808)) 0 0 ⟨#[]⟩ := by
    intro x
    simp only [sacristanref01_ints.j2]
    cases x
    · simp only [Bool.false_eq_true, if_false]
      by_cases c1 : a = -1
      · have x1 : (a == -1) = true := beq_iff_eq.2 c1
        have x4 : (a == -9223372036854775808) = false := beq_eq_false_iff_ne.2 (by omega)
        rw [if_pos c1]
        by_cases c2 : b = -9223372036854775808
        · have x2 : (b == -9223372036854775808) = true := beq_iff_eq.2 c2
          rw [if_pos c2, x1, x2]; rfl
        · have x2 : (b == -9223372036854775808) = false := beq_eq_false_iff_ne.2 c2
          rw [if_neg c2, x1, x2, x4]
          by_cases c3 : b = -1
          · rw [if_pos c3, Bool.and_false, Bool.and_false]; rfl
          · rw [if_neg c3, Bool.and_false, Bool.and_false]; rfl
      · have x1 : (a == -1) = false := beq_eq_false_iff_ne.2 c1
        rw [if_neg c1, x1, Bool.false_and, Bool.false_or]
        by_cases c3 : b = -1
        · have x3 : (b == -1) = true := beq_iff_eq.2 c3
          rw [if_pos c3, x3, Bool.true_and]
        · have x3 : (b == -1) = false := beq_eq_false_iff_ne.2 c3
          rw [if_neg c3, x3, Bool.false_and]
    · rfl
  have e3 : ∀ x, sacristanref01_ints.j3 (k + 8) a b x 0 0 ⟨#[]⟩ = if x = true then some (er 3) else sacristanref01_ints.j4 (k + 7) a b ((a == -9223372036854775808 && b != 1) || (b == -9223372036854775808 && a != 1)) 0 0 ⟨#[]⟩ := by
    intro x
    simp only [sacristanref01_ints.j3]
    cases x
    · simp only [Bool.false_eq_true, if_false]
      by_cases c1 : a = -9223372036854775808
      · have x1 : (a == -9223372036854775808) = true := beq_iff_eq.2 c1
        rw [if_pos c1, x1, Bool.true_and]
        by_cases c2 : b = 1
        · have x2 : (b != 1) = false := by rw [c2]; rfl
          rw [if_pos c2, x2, Bool.false_or]
          by_cases c3 : b = -9223372036854775808
          · omega
          · have x3 : (b == -9223372036854775808) = false := beq_eq_false_iff_ne.2 c3
            rw [if_neg c3, x3, Bool.false_and]
        · have x2 : (b != 1) = true := bne_iff_ne.2 c2
          rw [if_neg c2, x2, Bool.true_or]
      · have x1 : (a == -9223372036854775808) = false := beq_eq_false_iff_ne.2 c1
        rw [if_neg c1, x1, Bool.false_and, Bool.false_or]
        by_cases c3 : b = -9223372036854775808
        · have x3 : (b == -9223372036854775808) = true := beq_iff_eq.2 c3
          rw [if_pos c3, x3, Bool.true_and]
        · have x3 : (b == -9223372036854775808) = false := beq_eq_false_iff_ne.2 c3
          rw [if_neg c3, x3, Bool.false_and]
    · rfl
  have e4 : ∀ x, x = true → sacristanref01_ints.j4 (k + 7) a b x 0 0 ⟨#[]⟩ = some (er 3) := by
    intro x hx; subst hx; rfl
  have big : ∀ x y : Int, x = -9223372036854775808 → I64 y → y ≠ 1 → y ≠ 0 → ¬ I64 (x * y) := by
    intro x y hx hy h1 h0 h
    obtain ⟨_, _⟩ := h; obtain ⟨_, _⟩ := hy
    subst hx
    omega
  have main : a ≠ 0 → b ≠ 0 → sacristanref01_ints.j2 (k + 9) a b false 0 0 ⟨#[]⟩ = some (mulS a b) := by
    intro ha0 hb0
    rw [e2, if_neg (by decide), e3]
    by_cases c : ((a == -1 && b == -9223372036854775808) || (b == -1 && a == -9223372036854775808)) = true
    · rw [if_pos c]
      unfold mulS
      simp only [Bool.or_eq_true, Bool.and_eq_true, beq_iff_eq] at c
      rcases c with ⟨c1, c2⟩ | ⟨c1, c2⟩
      · rw [if_neg (by rw [Int.mul_comm]; exact big b a c2 ha (by omega) ha0)]
      · rw [if_neg (big a b c2 hb (by omega) hb0)]
    · rw [if_neg c]
      by_cases d : ((a == -9223372036854775808 && b != 1) || (b == -9223372036854775808 && a != 1)) = true
      · rw [e4 _ d]
        unfold mulS
        simp only [Bool.or_eq_true, Bool.and_eq_true, beq_iff_eq, bne_iff_ne] at d
        rcases d with ⟨c1, c2⟩ | ⟨c1, c2⟩
        · rw [if_neg (big a b c1 hb c2 hb0)]
        · rw [if_neg (by rw [Int.mul_comm]; exact big b a c1 ha c2 ha0)]
      · rw [show ((a == -9223372036854775808 && b != 1) || (b == -9223372036854775808 && a != 1)) = false by simpa using d]
        simp only [Bool.or_eq_true, Bool.and_eq_true, beq_iff_eq, bne_iff_ne] at d
        exact r4 a b ha hb hb0 ha0 (fun h => d (.inl h)) (fun h => d (.inr h)) _
  by_cases c1 : a = 0
  · rw [if_pos c1, e2, if_pos rfl]
    unfold mulS
    rw [c1, Int.zero_mul, if_pos (by unfold I64; omega)]
  · rw [if_neg c1]
    by_cases c2 : b = 0
    · rw [show (b == 0) = true by simpa using c2, e2, if_pos rfl]
      unfold mulS
      rw [c2, Int.mul_zero, if_pos (by unfold I64; omega)]
    · rw [show (b == 0) = false by simpa using c2]; exact main c1 c2

/-! quotients -/
theorem r8_div (w : ByteArray) (hw : w.toList = [47]) (a b : Int) (x : Bool) (h0 : b ≠ 0) (k : Nat) : sacristanref01_ints.j8 (k + 1) w a b x 0 0 ⟨#[]⟩ = some (if x then er 3 else okv (wrap64 (Int.tdiv a b))) := by
  simp only [sacristanref01_ints.j8]
  cases x
  · rw [if_neg (by decide), if_pos hw, if_neg h0]; rfl
  · rfl
theorem r8_mod (w : ByteArray) (hw : w.toList = [37]) (a b : Int) (x : Bool) (h0 : b ≠ 0) (k : Nat) : sacristanref01_ints.j8 (k + 1) w a b x 0 0 ⟨#[]⟩ = some (if x then er 3 else okv (wrap64 (a - wrap64 (wrap64 (Int.tdiv a b) * b)))) := by
  simp only [sacristanref01_ints.j8]
  cases x
  · rw [if_neg (by decide), if_neg (by rw [hw]; decide), if_neg h0]; rfl
  · rfl
theorem ref_div (w : ByteArray) (hw : w.toList = [47]) (a b : Int) (ha : I64 a) (k : Nat) : sacristanref01_ints.f (k + 9) w a b = some (divS a b) := by
  unfold sacristanref01_ints.f divS
  rw [if_neg (by rw [hw]; decide), if_neg (by rw [hw]; decide), if_neg (by rw [hw]; decide), if_pos hw]
  simp only [sacristanref01_ints.j6, hw, beq_self_eq_true, if_true]
  by_cases h0 : b = 0
  · rw [if_pos h0, if_pos h0]; rfl
  · rw [if_neg h0, if_neg h0, if_neg (by decide)]
    simp only [sacristanref01_ints.j7, Bool.false_eq_true, if_false]
    by_cases h1 : b = -1
    · rw [if_pos h1, r8_div w hw a b _ h0]
      by_cases h2 : a = -9223372036854775808
      · rw [if_pos (beq_iff_eq.2 h2), if_pos ⟨h2, h1⟩]
      · rw [if_neg (by simpa using h2), if_neg (fun h => h2 h.1), w64 (tdiv_I64 a b ha h0 (fun h => h2 h.1))]
    · rw [if_neg h1, r8_div w hw a b _ h0, if_neg (by decide), if_neg (fun h => h1 h.2), w64 (tdiv_I64 a b ha h0 (fun h => h1 h.2))]
theorem ref_mod (w : ByteArray) (hw : w.toList = [37]) (a b : Int) (ha : I64 a) (k : Nat) : sacristanref01_ints.f (k + 9) w a b = some (modS a b) := by
  unfold sacristanref01_ints.f modS
  rw [if_neg (by rw [hw]; decide), if_neg (by rw [hw]; decide), if_neg (by rw [hw]; decide), if_neg (by rw [hw]; decide)]
  simp only [sacristanref01_ints.j6, hw, beq_self_eq_true, if_true]
  by_cases h0 : b = 0
  · rw [if_pos h0, if_pos h0]; rfl
  · rw [if_neg h0, if_neg h0]
    simp only [sacristanref01_ints.j7]
    by_cases h1 : b = -1
    · rw [if_pos (beq_iff_eq.2 h1), h1]
      have : Int.tmod a (-1) = 0 := by rw [Int.tmod_neg]; exact Int.tmod_one a
      rw [this]; rfl
    · rw [if_neg (by simpa using h1), if_neg h1, r8_mod w hw a b _ h0, if_neg (by decide)]
      rw [w64 (tdiv_I64 a b ha h0 (fun h => h1 h.2))]
      have e : a - Int.tdiv a b * b = Int.tmod a b := by
        have := Int.mul_tdiv_add_tmod a b
        rw [Int.mul_comm] at this; omega
      have e2 : I64 (Int.tdiv a b * b) := by
        have hr : Int.tdiv a b * b = a - Int.tmod a b := by omega
        have h3 : (Int.tmod a b).natAbs = a.natAbs % b.natAbs := Int.natAbs_tmod a b
        have h4 : a.natAbs % b.natAbs ≤ a.natAbs := Nat.mod_le _ _
        obtain ⟨_, _⟩ := ha
        unfold I64
        by_cases h : 0 ≤ a
        · have := Int.tmod_nonneg b h
          omega
        · have := Int.tmod_nonneg b (show 0 ≤ -a by omega)
          rw [Int.neg_tmod] at this
          omega
      rw [w64 e2, e, w64 (tmod_I64 a b ha)]

/-! bits -/
theorem r10 (w : ByteArray) (a b x : Int) (k : Nat) (h : sacristanref01_bitwise.f k w a b = some x) : sacristanref01_ints.j10 (k + 1) w a b = some (okv x) := by
  simp only [sacristanref01_ints.j10, h]; rfl
theorem byteArray_of {w : ByteArray} {L : List UInt8} (h : w.toList = L) : w = ⟨L.toArray⟩ := by
  rw [ByteArray.toList_eq] at h
  cases w with
  | mk d => subst h; rfl
theorem ref_ints (w : ByteArray) (a b : Int) (ha : I64 a) (hb : I64 b) (hw : isInts w.toList = true) (k : Nat) : sacristanref01_ints.f (k + 200) w a b = some (intsR w.toList a b) := by
  unfold intsR
  by_cases h1 : w.toList = [43]
  · rw [if_pos h1]; exact ref_add w h1 a b ha hb _
  rw [if_neg h1]
  by_cases h2 : w.toList = [45]
  · rw [if_pos h2]; exact ref_sub w h2 a b ha hb _
  rw [if_neg h2]
  by_cases h3 : w.toList = [42]
  · rw [if_pos h3]; exact ref_mul w h3 a b ha hb _
  rw [if_neg h3]
  by_cases h4 : w.toList = [47]
  · rw [if_pos h4]; exact ref_div w h4 a b ha _
  rw [if_neg h4]
  by_cases h5 : w.toList = [37]
  · rw [if_pos h5]; exact ref_mod w h5 a b ha _
  rw [if_neg h5]
  have e6 : sacristanref01_ints.f (k + 200) w a b = sacristanref01_ints.j9 (k + 199) w a b (w.toList == [115, 104, 108] || w.toList == [115, 104, 114] || w.toList == [117, 115, 104, 114]) 0 0 ⟨#[]⟩ := by
    unfold sacristanref01_ints.f
    rw [if_neg h1, if_neg h2, if_neg h3, if_neg h4]
    simp only [sacristanref01_ints.j6]
    rw [if_neg (by simpa using h5)]
    by_cases c1 : w.toList = [115, 104, 108]
    · rw [if_pos c1, c1]; rfl
    · rw [if_neg c1, beq_eq_false_iff_ne.2 c1, Bool.false_or]
      by_cases c2 : w.toList = [115, 104, 114]
      · rw [if_pos c2, c2]; rfl
      · rw [if_neg c2, beq_eq_false_iff_ne.2 c2, Bool.false_or]
  rw [e6]
  simp only [sacristanref01_ints.j9]
  by_cases h6 : w.toList = [97, 110, 100]
  · rw [if_pos h6, h6, if_neg (by decide)]
    have := byteArray_of h6; subst this
    exact r10 _ a b _ _ (bw_and a b ha hb _ (by omega))
  rw [if_neg h6]
  by_cases h7 : w.toList = [111, 114]
  · rw [if_pos h7, h7, if_neg (by decide)]
    have := byteArray_of h7; subst this
    exact r10 _ a b _ _ (bw_or a b ha hb _ (by omega))
  rw [if_neg h7]
  by_cases h8 : w.toList = [120, 111, 114]
  · rw [if_pos h8, h8, if_neg (by decide)]
    have := byteArray_of h8; subst this
    exact r10 _ a b _ _ (bw_xor a b ha hb _ (by omega))
  rw [if_neg h8]
  by_cases h9 : w.toList = [115, 104, 108]
  · rw [if_pos h9, h9, if_pos (by decide)]
    unfold shlS
    by_cases c1 : b < 0
    · rw [if_pos c1, if_pos (.inl c1)]; rfl
    · rw [if_neg c1]
      by_cases c2 : b > 63
      · rw [if_pos c2, if_pos (.inr c2)]; rfl
      · rw [if_neg c2, if_neg (by omega)]
        have := byteArray_of h9; subst this
        exact r10 _ a b _ _ (bw_shl a b ha (by omega) (by omega) _ (by omega))
  rw [if_neg h9]
  by_cases h10 : w.toList = [115, 104, 114]
  · rw [if_pos h10, h10, if_pos (by decide)]
    unfold shrS
    by_cases c1 : b < 0
    · rw [if_pos c1, if_pos (.inl c1)]; rfl
    · rw [if_neg c1]
      by_cases c2 : b > 63
      · rw [if_pos c2, if_pos (.inr c2)]; rfl
      · rw [if_neg c2, if_neg (by omega)]
        have := byteArray_of h10; subst this
        exact r10 _ a b _ _ (bw_shr a b ha (by omega) (by omega) _ (by omega))
  rw [if_neg h10]
  have h11 : w.toList = [117, 115, 104, 114] := by
    unfold isInts at hw
    simp only [Bool.or_eq_true, beq_iff_eq] at hw
    rcases hw with (((((((((h | h) | h) | h) | h) | h) | h) | h) | h) | h) | h
    all_goals first | exact h | exact absurd h ‹_›
  rw [h11, if_pos (by decide)]
  unfold ushrS
  by_cases c1 : b < 0
  · rw [if_pos c1, if_pos (.inl c1)]; rfl
  · rw [if_neg c1]
    by_cases c2 : b > 63
    · rw [if_pos c2, if_pos (.inr c2)]; rfl
    · rw [if_neg c2, if_neg (by omega)]
      have := byteArray_of h11; subst this
      exact r10 _ a b _ _ (bw_ushr a b ha (by omega) (by omega) _ (by omega))

/-! ### Two, by the reference -/
theorem in_l0 (w : ByteArray) (l : List ByteArray) (hl : l.length ≤ 1000) (d : Nat) : ∀ (k j : Nat), j + d = l.length → d < k →
    sacristanref01_in.l0 k w l (l.length : Int) (j : Int) = some ((l.drop j).any fun x => x.toList == w.toList) := by
  induction d with
  | zero =>
    intro k j hj hk
    obtain ⟨k, rfl⟩ : ∃ n, k = n + 1 := ⟨k - 1, by omega⟩
    simp only [sacristanref01_in.l0]
    rw [if_neg (by omega), List.drop_eq_nil_of_le (by omega)]; rfl
  | succ d ih =>
    intro k j hj hk
    obtain ⟨k, rfl⟩ : ∃ n, k = n + 1 := ⟨k - 1, by omega⟩
    simp only [sacristanref01_in.l0]
    rw [if_pos (by omega), if_pos (by omega), if_pos (by omega)]
    have e : rdOf ByteArray.empty l (j : Int) = l[j]'(by omega) := by
      unfold rdOf; rw [Int.toNat_natCast, List.getD_eq_getElem?_getD, List.getElem?_eq_getElem (by omega)]; rfl
    have e2 : wrap64 ((j : Int) + 1) = ((j + 1 : Nat) : Int) := by rw [w64 (by unfold I64; omega)]; omega
    rw [e, e2, List.drop_eq_getElem_cons (by omega), List.any_cons]
    by_cases h : (l[j]'(by omega)).toList = w.toList
    · rw [if_pos h, beq_iff_eq.2 h]; rfl
    · rw [if_neg h, beq_eq_false_iff_ne.2 h, Bool.false_or]
      exact ih k (j + 1) (by omega) (by omega)
theorem in_f (w : ByteArray) (l : List ByteArray) (hl : l.length ≤ 1000) (k : Nat) (hk : l.length < k) : sacristanref01_in.f k w l = some (l.any fun x => x.toList == w.toList) := by
  unfold sacristanref01_in.f
  have := in_l0 w l hl l.length k 0 (by omega) hk
  simpa using this
theorem rtwo (w : ByteArray) (t1 a : Int) (s : ByteArray) (t2 b : Int) (t : ByteArray) (h1 : Fits t1 a s) (h2 : Fits t2 b t) (k : Nat) : sacristanref01_Two.f (k + 210) w t1 a s t2 b t = some (twoR w.toList t1 a s t2 b t) := by
  have e1 : sacristanref01_Two.f (k + 210) w t1 a s t2 b t = sacristanref01_Two.j0 (k + 210) w (decide (t1 = 1) && decide (t2 = 1)) t1 a s t2 b t 0 0 ⟨#[]⟩ := by
    unfold sacristanref01_Two.f
    by_cases c : t1 = 1
    · rw [if_pos c]; simp only [c, decide_true, Bool.true_and]; congr 1
    · rw [if_neg c]; simp only [c, decide_false, Bool.false_and]
  rw [e1]
  simp only [sacristanref01_Two.j0]
  rw [in_f w _ (by decide) _ (by simp only [List.length_cons, List.length_nil]; omega)]
  have e2 : ([(⟨#[43]⟩ : ByteArray), (⟨#[45]⟩ : ByteArray), (⟨#[42]⟩ : ByteArray), (⟨#[47]⟩ : ByteArray), (⟨#[37]⟩ : ByteArray), (⟨#[97, 110, 100]⟩ : ByteArray), (⟨#[111, 114]⟩ : ByteArray), (⟨#[120, 111, 114]⟩ : ByteArray), (⟨#[115, 104, 108]⟩ : ByteArray), (⟨#[115, 104, 114]⟩ : ByteArray), (⟨#[117, 115, 104, 114]⟩ : ByteArray)].any fun x => x.toList == w.toList) = isInts w.toList := by
    unfold isInts
    simp only [List.any_cons, List.any_nil, ByteArray.toList_eq, Bool.or_false, Bool.or_assoc]
    simp only [BEq.comm (b := w.data.toList)]
  rw [e2]
  simp only [Option.bind_some, bind_eta]
  unfold twoR
  by_cases c : isInts w.toList = true
  · rw [if_pos c, if_pos c]
    by_cases hb : t1 = 1 ∧ t2 = 1
    · rw [if_pos (by simp [hb]), if_pos hb]; exact ref_ints w a b h1.i64 h2.i64 c _
    · rw [if_neg (by simpa using fun x y => hb ⟨x, y⟩), if_neg hb]; rfl
  rw [if_neg c, if_neg c]
  by_cases cl : w.toList = [60]
  · rw [if_pos cl, if_pos cl]
    by_cases hb : t1 = 1 ∧ t2 = 1
    · rw [if_pos (by simp [hb]), if_pos hb, bool_f]; rfl
    · rw [if_neg (by simpa using fun x y => hb ⟨x, y⟩), if_neg hb]
      by_cases c3 : t1 = 3
      · rw [if_pos c3]
        by_cases c4 : t2 = 3
        · rw [if_pos c4, if_pos ⟨c3, c4⟩, bool_f]; rfl
        · rw [if_neg c4, if_neg (fun h => c4 h.2)]; rfl
      · rw [if_neg c3, if_neg (fun h => c3 h.1)]; rfl
  rw [if_neg cl, if_neg cl]
  by_cases ce : w.toList = [61]
  · rw [if_pos ce, if_pos ce]
    by_cases c3 : t1 = t2
    · rw [if_pos c3]
      by_cases c4 : t1 > 3
      · rw [if_pos c4, if_neg (fun h => by omega)]; rfl
      · rw [if_neg c4]
        by_cases c5 : a = b
        · rw [if_pos c5, if_pos ⟨c3, by omega⟩, bool_f, beq_iff_eq.2 c5, Bool.true_and]; rfl
        · rw [if_neg c5, if_pos ⟨c3, by omega⟩, bool_f, beq_eq_false_iff_ne.2 c5, Bool.false_and]; rfl
    · rw [if_neg c3, if_neg (fun h => c3 h.1)]; rfl
  rw [if_neg ce, if_neg ce]
  by_cases cc : w.toList = [99, 97, 116]
  · rw [if_pos cc, if_pos cc]
    by_cases c3 : t1 = 3
    · rw [if_pos c3]
      simp only [sacristanref01_Two.j1]
      by_cases c4 : t2 = 3
      · rw [if_neg (by simpa using c4), w64 (by have := h1.size; have := h2.size; unfold I64; omega)]
        by_cases c5 : (s.size : Int) + t.size > 65536
        · rw [if_pos c5, if_pos ⟨c3, c4⟩, if_pos c5]; rfl
        · rw [if_neg c5, if_pos (by have := h1.size; have := h2.size; omega), if_pos ⟨c3, c4⟩, if_neg c5]
      · rw [if_pos (by simpa using c4), if_neg (fun h => c4 h.2)]; rfl
    · rw [if_neg c3, if_neg (fun h => c3 h.1)]; rfl
  rw [if_neg cc, if_neg cc]
  by_cases ca : w.toList = [97, 116]
  · rw [if_pos ca, if_pos ca]
    by_cases c3 : t1 = 3
    · rw [if_pos c3]
      simp only [sacristanref01_Two.j2]
      by_cases c4 : t2 = 1
      · rw [if_neg (by simpa using c4)]
        by_cases c5 : b < 0
        · rw [if_pos c5, if_pos ⟨c3, c4⟩, if_pos (.inl c5)]; rfl
        · rw [if_neg c5]
          by_cases c6 : b ≥ (s.size : Int)
          · rw [if_pos c6, if_pos ⟨c3, c4⟩, if_pos (.inr c6)]; rfl
          · rw [if_neg c6, if_pos (by omega), if_pos (by omega), if_pos ⟨c3, c4⟩, if_neg (by omega), w64 (bt_I64 s b)]; rfl
      · rw [if_pos (by simpa using c4), if_neg (fun h => c4 h.2)]; rfl
    · rw [if_neg c3, if_neg (fun h => c3 h.1)]; rfl
  rw [if_neg ca, if_neg ca]; rfl


theorem fits_int (n : Int) (h : I64 n) : Fits 1 n ⟨#[]⟩ := ⟨h, by decide, fun _ => by rw [ByteArray.toList_eq], fun h => by omega⟩
theorem fits_str (s : ByteArray) (h : s.size ≤ 140737488351232) : Fits 3 0 s := ⟨by unfold I64; omega, h, fun h => by omega, fun _ => rfl⟩
theorem two_int (w : ByteArray) (L : List UInt8) (hL : w = ⟨L.toArray⟩) (h : isInts L = true) (a b : Int) (s t : ByteArray) : twoR w.toList 1 a s 1 b t = intsR L a b := by
  rw [hL, toL]; unfold twoR; rw [if_pos h, if_pos ⟨rfl, rfl⟩]
theorem okv_s (n : Int) : (okv n).2.2.1 = ⟨#[]⟩ := rfl

/-! ### Words of one value -/
def isOnes (L : List UInt8) : Bool := L == [110, 101, 103] || L == [105, 56] || L == [105, 49, 54] || L == [105, 51, 50] || L == [117, 56] || L == [117, 49, 54] || L == [117, 51, 50]
def numS (L : List UInt8) (a : Int) : Int :=
  if L = [105, 56] then (a + 128) % 256 - 128 else if L = [105, 49, 54] then (a + 32768) % 65536 - 32768 else if L = [105, 51, 50] then (a + 2147483648) % 4294967296 - 2147483648
  else if L = [117, 56] then a % 256 else if L = [117, 49, 54] then a % 65536 else a % 4294967296
def oneR (L : List UInt8) (t a : Int) (s : ByteArray) : Res :=
  if L = [110, 101, 103] then (if t = 1 then (if a = -9223372036854775808 then er 3 else okv (-a)) else er 2)
  else if L = [110, 111, 116] then (if t = 2 then okb (a == 0) else er 2)
  else if L = [108, 101, 110] then (if t = 3 then okv s.size else er 2)
  else if isOnes L = true then (if t = 1 then okv (numS L a) else er 2)
  else er 1
theorem wrap32_I64 (a : Int) : wrap32 a = (a + 2147483648) % 4294967296 - 2147483648 := by unfold wrap32; rfl
theorem oneR_neg {L : List UInt8} (h : L = [110, 101, 103]) (t a : Int) (s : ByteArray) : oneR L t a s = if t = 1 then (if a = -9223372036854775808 then er 3 else okv (-a)) else er 2 := by unfold oneR; rw [if_pos h]
theorem oneR_not {L : List UInt8} (h : L = [110, 111, 116]) (t a : Int) (s : ByteArray) : oneR L t a s = if t = 2 then okb (a == 0) else er 2 := by unfold oneR; rw [if_neg (by rw [h]; decide), if_pos h]
theorem oneR_len {L : List UInt8} (h : L = [108, 101, 110]) (t a : Int) (s : ByteArray) : oneR L t a s = if t = 3 then okv s.size else er 2 := by unfold oneR; rw [if_neg (by rw [h]; decide), if_neg (by rw [h]; decide), if_pos h]
theorem oneR_num {L : List UInt8} (h : isOnes L = true) (h1 : L ≠ [110, 101, 103]) (t a : Int) (s : ByteArray) : oneR L t a s = if t = 1 then okv (numS L a) else er 2 := by
  unfold oneR; rw [if_neg h1, if_neg (by rintro rfl; exact absurd h (by decide)), if_neg (by rintro rfl; exact absurd h (by decide)), if_pos h]
theorem oneR_no {L : List UInt8} (h : ¬ isOnes L = true) (h2 : L ≠ [110, 111, 116]) (h3 : L ≠ [108, 101, 110]) (t a : Int) (s : ByteArray) : oneR L t a s = er 1 := by
  unfold oneR; rw [if_neg (by rintro rfl; exact h (by decide)), if_neg h2, if_neg h3, if_neg h]
/-! ### The reference's One -/
theorem low_f (a p : Int) (ha : I64 a) (hp : 0 < p) (hp1 : p ≤ 4294967296) : sacristanref01_low.f a p = some (a % p) := by
  obtain ⟨_, _⟩ := ha
  unfold sacristanref01_low.f
  rw [if_neg (by omega)]
  have e := Int.tmod_eq_emod (a := a) (b := p)
  have h0 := Int.emod_nonneg a (show p ≠ 0 by omega)
  have h1 := Int.emod_lt_of_pos a hp
  by_cases c : 0 ≤ a
  · rw [Int.tmod_eq_emod_of_nonneg c, if_neg (by omega)]
  · have hneg : Int.tmod a p = -((-a) % p) := by
      have : a = -(-a) := by omega
      rw [this, Int.neg_tmod, Int.tmod_eq_emod_of_nonneg (by omega), ← this]
    have h2 := Int.emod_nonneg (-a) (show p ≠ 0 by omega)
    have h3 := Int.emod_lt_of_pos (-a) hp
    have h4 : (-a) % p = if a % p = 0 then 0 else p - a % p := by
      by_cases z : a % p = 0
      · rw [if_pos z]
        exact Int.emod_eq_zero_of_dvd (Int.dvd_neg.2 (Int.dvd_of_emod_eq_zero z))
      · rw [if_neg z]
        have : -a = (p - a % p) + p * (-(a / p) - 1) := by
          have := Int.mul_ediv_add_emod a p
          rw [Int.mul_sub, Int.mul_neg, Int.mul_one]; omega
        rw [this, Int.add_mul_emod_self_left]
        exact Int.emod_eq_of_lt (by omega) (by omega)
    rw [hneg, h4]
    by_cases z : a % p = 0
    · rw [if_pos z, if_neg (by decide), z]; rfl
    · rw [if_neg z, if_pos (by omega), w64 (by unfold I64; omega)]
      congr 1; omega
theorem signed_f (a p : Int) (ha : I64 a) (hp : 2 ≤ p) (hp1 : p ≤ 4294967296) (hp2 : p % 2 = 0) : sacristanref01_signed.f a p = some ((a + p / 2) % p - p / 2) := by
  unfold sacristanref01_signed.f
  rw [low_f a p ha (by omega) hp1]
  simp only [Option.bind_some]
  rw [Int.tdiv_eq_ediv_of_nonneg (by omega), w64 (by unfold I64; omega)]
  have h0 := Int.emod_nonneg a (show p ≠ 0 by omega)
  have h1 := Int.emod_lt_of_pos a (show 0 < p by omega)
  have e : (a + p / 2) % p = (a % p + p / 2) % p := by rw [Int.emod_add_emod]
  rw [e]
  by_cases c : a % p ≥ p / 2
  · rw [if_pos c, w64 (by unfold I64; omega)]
    have : (a % p + p / 2) % p = a % p + p / 2 - p := by
      rw [← Int.sub_emod_right]
      exact Int.emod_eq_of_lt (by omega) (by omega)
    congr 1; omega
  · rw [if_neg c]
    have : (a % p + p / 2) % p = a % p + p / 2 := Int.emod_eq_of_lt (by omega) (by omega)
    congr 1; omega
abbrev onesL : List ByteArray := [(⟨#[110, 101, 103]⟩ : ByteArray), (⟨#[110, 111, 116]⟩ : ByteArray), (⟨#[108, 101, 110]⟩ : ByteArray), (⟨#[105, 56]⟩ : ByteArray), (⟨#[105, 49, 54]⟩ : ByteArray), (⟨#[105, 51, 50]⟩ : ByteArray), (⟨#[117, 56]⟩ : ByteArray), (⟨#[117, 49, 54]⟩ : ByteArray), (⟨#[117, 51, 50]⟩ : ByteArray)]
theorem one_loop (w : ByteArray) (want t a : Int) (s : ByteArray) (n1 n2 : Int) (n3 : ByteArray) (l : List ByteArray) (hl : l.length = 9) (d : Nat) : ∀ (k j : Nat) (x : Bool), j + d = 9 →
    sacristanref01_One.l0 (k + d) w want x l (l.length : Int) (j : Int) t a s n1 n2 n3 = sacristanref01_One.l0 k w want (x || (l.drop j).any fun y => y.toList == w.toList) l (l.length : Int) 9 t a s n1 n2 n3 := by
  induction d with
  | zero =>
    intro k j x hj
    obtain rfl : j = 9 := by omega
    rw [List.drop_eq_nil_of_le (by omega)]
    simp
  | succ d ih =>
    intro k j x hj
    have e : rdOf ByteArray.empty l (j : Int) = l[j]'(by omega) := by
      unfold rdOf; rw [Int.toNat_natCast, List.getD_eq_getElem?_getD, List.getElem?_eq_getElem (by omega)]; rfl
    have e2 : wrap64 ((j : Int) + 1) = ((j + 1 : Nat) : Int) := by rw [w64 (by unfold I64; omega)]; omega
    rw [← Nat.add_assoc]
    rw [sacristanref01_One.l0]
    rw [if_pos (by omega), e2, List.drop_eq_getElem_cons (by omega), List.any_cons]
    cases x
    · rw [if_neg (by decide), if_pos (by omega), if_pos (by omega), e, ih k (j + 1) _ (by omega), Bool.false_or]
    · rw [if_pos rfl, ih k (j + 1) _ (by omega)]; simp
theorem rone (w : ByteArray) (t a : Int) (s : ByteArray) (h : Fits t a s) (k : Nat) : sacristanref01_One.f (k + 20) w t a s = some (oneR w.toList t a s) := by
  have hi := h.i64
  obtain ⟨i1, i2⟩ := h.i64
  have hs := h.size
  have e1 : sacristanref01_One.f (k + 20) w t a s = sacristanref01_One.l0 (k + 9) w (if w.toList = [108, 101, 110] then 3 else if w.toList = [110, 111, 116] then 2 else 1) (onesL.any fun y => y.toList == w.toList) onesL 9 9 t a s 0 0 ⟨#[]⟩ := by
    have hl := fun want => one_loop w want t a s 0 0 ⟨#[]⟩ onesL rfl 9 (k + 9) 0 false rfl
    unfold sacristanref01_One.f
    by_cases c2 : w.toList = [110, 111, 116]
    · rw [if_pos c2]
      simp only [sacristanref01_One.j0]
      rw [if_neg (by rw [c2]; decide), if_neg (by rw [c2]; decide), if_pos c2]
      simp only [sacristanref01_One.j1, Option.bind_some]
      exact hl 2
    · rw [if_neg c2]
      simp only [sacristanref01_One.j0]
      by_cases c3 : w.toList = [108, 101, 110]
      · rw [if_pos c3, if_pos c3]
        simp only [sacristanref01_One.j1, Option.bind_some]
        exact hl 3
      · rw [if_neg c3, if_neg c3, if_neg c2]
        simp only [sacristanref01_One.j1, Option.bind_some]
        exact hl 1
  have e2 : (onesL.any fun y => y.toList == w.toList) = (w.toList == [110, 111, 116] || w.toList == [108, 101, 110] || isOnes w.toList) := by
    unfold isOnes
    simp only [List.any_cons, List.any_nil, ByteArray.toList_eq, Bool.or_false]
    simp only [BEq.comm (b := w.data.toList)]
    generalize w.data.toList = L
    generalize (L == [110, 101, 103]) = b1
    generalize (L == [110, 111, 116]) = b2
    generalize (L == [108, 101, 110]) = b3
    cases b1 <;> cases b2 <;> cases b3 <;> simp [Bool.or_assoc]
  rw [e1, e2]
  simp only [sacristanref01_One.l0]
  rw [if_neg (by decide)]
  by_cases c2 : w.toList = [110, 111, 116]
  · rw [oneR_not c2, if_pos (by rw [c2]; decide), if_neg (show ¬ w.toList = [108, 101, 110] by rw [c2]; decide), if_pos c2]
    by_cases ct : t = 2
    · rw [if_pos ct, if_pos ct, if_neg (by rw [c2]; decide), if_pos c2, bool_f]; rfl
    · rw [if_neg ct, if_neg ct]; rfl
  by_cases c3 : w.toList = [108, 101, 110]
  · rw [oneR_len c3, if_pos (by rw [c3]; decide), if_pos c3]
    by_cases ct : t = 3
    · rw [if_pos ct, if_pos ct, if_neg (by rw [c3]; decide), if_neg c2, if_pos c3]; rfl
    · rw [if_neg ct, if_neg ct]; rfl
  rw [beq_eq_false_iff_ne.2 c2, beq_eq_false_iff_ne.2 c3, Bool.false_or, Bool.false_or, if_neg c3, if_neg c2]
  by_cases c4 : isOnes w.toList = true
  · rw [if_pos c4]
    by_cases c1 : w.toList = [110, 101, 103]
    · rw [oneR_neg c1]
      by_cases ct : t = 1
      · rw [if_pos ct, if_pos ct, if_pos c1]
        by_cases cm : a = -9223372036854775808
        · rw [if_pos cm, if_pos cm]; rfl
        · rw [if_neg cm, if_neg cm, w64 (by unfold I64; omega)]; rfl
      · rw [if_neg ct, if_neg ct]; rfl
    rw [oneR_num c4 c1]
    by_cases ct : t = 1
    · rw [if_pos ct, if_pos ct, if_neg c1, if_neg c2, if_neg c3]
      unfold numS
      by_cases d1 : w.toList = [105, 56]
      · rw [if_pos d1, if_pos d1, signed_f a 256 hi (by omega) (by omega) (by omega)]; rfl
      rw [if_neg d1, if_neg d1]
      by_cases d2 : w.toList = [105, 49, 54]
      · rw [if_pos d2, if_pos d2, signed_f a 65536 hi (by omega) (by omega) (by omega)]; rfl
      rw [if_neg d2, if_neg d2]
      by_cases d3 : w.toList = [105, 51, 50]
      · rw [if_pos d3, if_pos d3, signed_f a 4294967296 hi (by omega) (by omega) (by omega)]; rfl
      rw [if_neg d3, if_neg d3]
      by_cases d4 : w.toList = [117, 56]
      · rw [if_pos d4, if_pos d4, low_f a 256 hi (by omega) (by omega)]; rfl
      rw [if_neg d4, if_neg d4]
      by_cases d5 : w.toList = [117, 49, 54]
      · rw [if_pos d5, if_pos d5, low_f a 65536 hi (by omega) (by omega)]; rfl
      rw [if_neg d5, if_neg d5, low_f a 4294967296 hi (by omega) (by omega)]; rfl
    · rw [if_neg ct, if_neg ct]; rfl
  · rw [if_neg c4, oneR_no c4 c2 c3]; rfl

/-! ### What may be -/
def mayR (t a : Int) (s : ByteArray) : Bool := decide (t ≤ 7) && (decide (t = 3) || decide (s.toList = [])) && decide ((s.size : Int) ≤ 65536) && (if t = 0 ∨ t = 3 then decide (a = 0) else if t = 2 then decide (a = 0 ∨ a = 1) else decide (t = 1 ∨ 0 ≤ a))

end Go.Proofs.Ytjkjbfhhfdbnoaa.PU
