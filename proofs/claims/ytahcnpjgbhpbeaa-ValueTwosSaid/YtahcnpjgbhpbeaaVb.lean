/- A number's bits; the reference's words on bits. -/
import Derived.Test.YtahcnpjgbhpbeaaVa
import Derived.Test.YtahcnpjgbhpbeaaPVx5
import Derived.Test.YtahcnpjgbhpbeaaPVx6
namespace Go.Proofs.Ytahcnpjgbhpbeaa.Pure
open Go.RowKit Go.Proofs.Ytahcnpjgbhpbeaa.PV Go.Proofs.YtahcnpjgbhpbeaaW.PrintWords Go.Proofs.YtahcnpjgbhpbeaaW.PrintLast Go.Proofs.YtahcnpjgbhpbeaaW.PrintMore Go.Proofs.YtahcnpjgbhpbeaaW.Own
set_option linter.unusedVariables false
set_option linter.unusedSimpArgs false
/-! ### Bits -/
def tb (x : Int) (i : Nat) : Bool := decide (x / 2 ^ i % 2 = 1)
theorem pow_pos' (i : Nat) : (0 : Int) < 2 ^ i := Int.pow_pos (by decide)
theorem two_split {i j : Nat} (h : i ≤ j) : (2 : Int) ^ j = 2 ^ i * 2 ^ (j - i) := by
  rw [← Int.pow_add]; congr 1; omega
/-- What is a multiple of 2^64 apart has the same lowest bits. -/
theorem tb_add (x c : Int) (i : Nat) (hi : i < 64) : tb (x + c * 18446744073709551616) i = tb x i := by
  unfold tb
  have e : (18446744073709551616 : Int) = 2 ^ i * (2 ^ (63 - i) * 2) := by
    have : (18446744073709551616 : Int) = 2 ^ 64 := by decide
    rw [this, two_split (show i ≤ 64 by omega)]
    have : (2 : Int) ^ (64 - i) = 2 ^ (63 - i) * 2 := by rw [← Int.pow_succ]; congr 1; omega
    rw [this]
  have : x + c * 18446744073709551616 = x + 2 ^ i * (c * 2 ^ (63 - i) * 2) := by
    rw [e, ← Int.mul_assoc, Int.mul_comm c, Int.mul_assoc, ← Int.mul_assoc c]
  rw [this, Int.add_mul_ediv_left _ _ (by have := pow_pos' i; omega)]
  generalize c * 2 ^ (63 - i) = d
  exact decide_eq_decide.2 (by omega)
theorem tb_wrap64 (y : Int) (i : Nat) (hi : i < 64) : tb (wrap64 y) i = tb y i := by
  have : wrap64 y = y + (-((y + 9223372036854775808) / 18446744073709551616)) * 18446744073709551616 := by unfold wrap64; omega
  rw [this, tb_add _ _ _ hi]
theorem tb_mod (y : Int) (i : Nat) (hi : i < 64) : tb (y % 18446744073709551616) i = tb y i := by
  have : y % 18446744073709551616 = y + (-(y / 18446744073709551616)) * 18446744073709551616 := by omega
  rw [this, tb_add _ _ _ hi]
theorem tb_sign (x : Int) (h : I64 x) : tb x 63 = decide (x < 0) := by
  obtain ⟨_, _⟩ := h
  unfold tb
  have : (2 : Int) ^ 63 = 9223372036854775808 := by decide
  rw [this]
  exact decide_eq_decide.2 (by omega)
theorem tb_shl (a : Int) (b i : Nat) : tb (a * 2 ^ b) i = (decide (b ≤ i) && tb a (i - b)) := by
  unfold tb
  by_cases h : b ≤ i
  · rw [two_split h, Int.mul_comm a, Int.mul_ediv_mul_of_pos _ _ (pow_pos' b)]
    simp [h]
  · have h' : i ≤ b := by omega
    rw [two_split h']
    have : a * (2 ^ i * 2 ^ (b - i)) = 2 ^ i * (a * 2 ^ (b - i)) := by rw [Int.mul_left_comm]
    rw [this, Int.mul_ediv_cancel_left _ (by have := pow_pos' i; omega)]
    have : (2 : Int) ^ (b - i) = 2 ^ (b - i - 1) * 2 := by rw [← Int.pow_succ]; congr 1; omega
    rw [this, ← Int.mul_assoc]
    generalize a * 2 ^ (b - i - 1) = d
    simp [h]
theorem tb_shr (a : Int) (b i : Nat) : tb (a / 2 ^ b) i = tb a (i + b) := by
  unfold tb
  rw [Int.ediv_ediv_of_nonneg (by have := pow_pos' b; omega), ← Int.pow_add, Nat.add_comm b i]
theorem tb_high (a : Int) (h : I64 a) (i : Nat) (hi : 63 ≤ i) : tb a i = tb a 63 := by
  rw [tb_sign a h]
  obtain ⟨_, _⟩ := h
  unfold tb
  have hp : (9223372036854775808 : Int) ≤ 2 ^ i := by
    have : (9223372036854775808 : Int) = 2 ^ 63 := by decide
    rw [this, two_split hi]
    have := pow_pos' (i - 63)
    have := pow_pos' 63
    have := Int.mul_le_mul_of_nonneg_left (show (1 : Int) ≤ 2 ^ (i - 63) by omega) (show (0 : Int) ≤ 2 ^ 63 by omega)
    omega
  by_cases h0 : a < 0
  · have : a / 2 ^ i = -1 := by
      rw [Int.ediv_eq_iff_of_pos (pow_pos' i)]
      omega
    rw [this]; simp [h0]
  · have : a / 2 ^ i = 0 := Int.ediv_eq_zero_of_lt (by omega) (by omega)
    rw [this]; simp [h0]

theorem tb_nat (n i : Nat) : tb (n : Int) i = n.testBit i := by
  unfold tb
  rw [Nat.testBit_eq_decide_div_mod_eq]
  have : ((n : Int) / 2 ^ i % 2) = ((n / 2 ^ i % 2 : Nat) : Int) := by simp
  rw [this]
  exact decide_eq_decide.2 (by omega)
theorem tb_bv (a : Int) (i : Nat) (hi : i < 64) : (BitVec.ofInt 64 a).toNat.testBit i = tb a i := by
  rw [← tb_nat, BitVec.toNat_ofInt]
  have : ((a % ((2 ^ 64 : Nat) : Int)).toNat : Int) = a % 18446744073709551616 := by
    have : ((2 ^ 64 : Nat) : Int) = 18446744073709551616 := by decide
    rw [this]; omega
  rw [this, tb_mod _ _ hi]
theorem wrap_i64 (n : Int) : IntKind.i64.wrap n = wrap64 n := by rw [IntKind.wrap_i64]; unfold wrap64; rfl
theorem bits_and_I64 (op : BinOp) (a b : Int) : I64 (Go.bits op .i64 a b) := by
  unfold Go.bits; simp only []; rw [wrap_i64]; exact w64_I64 _
theorem tb_and (a b : Int) (i : Nat) (hi : i < 64) : tb (Go.bits .and .i64 a b) i = (tb a i && tb b i) := by
  unfold Go.bits; simp only []
  rw [wrap_i64, tb_wrap64 _ _ hi, tb_nat, BitVec.toNat_and, Nat.testBit_and]
  rw [show IntKind.i64.bits = 64 from rfl, tb_bv _ _ hi, tb_bv _ _ hi]
theorem tb_or (a b : Int) (i : Nat) (hi : i < 64) : tb (Go.bits .or .i64 a b) i = (tb a i || tb b i) := by
  unfold Go.bits; simp only []
  rw [wrap_i64, tb_wrap64 _ _ hi, tb_nat, BitVec.toNat_or, Nat.testBit_or]
  rw [show IntKind.i64.bits = 64 from rfl, tb_bv _ _ hi, tb_bv _ _ hi]
theorem tb_xor (a b : Int) (i : Nat) (hi : i < 64) : tb (Go.bits .xor .i64 a b) i = (tb a i != tb b i) := by
  unfold Go.bits; simp only []
  rw [wrap_i64, tb_wrap64 _ _ hi, tb_nat, BitVec.toNat_xor, Nat.testBit_xor]
  rw [show IntKind.i64.bits = 64 from rfl, tb_bv _ _ hi, tb_bv _ _ hi]

/-! ### The reference's bits -/
theorem bit_l0 (m : Int) (hm : 0 ≤ m) (hm1 : m ≤ 9223372036854775807) (i : Nat) (hi : i ≤ 63) (d : Nat) : ∀ (j k : Nat), j + d = i → d < k →
    sacristanref01_bit.l0 k i (m / 2 ^ j) j = some (tb m i) := by
  induction d with
  | zero =>
    intro j k hj hk
    obtain ⟨k, rfl⟩ : ∃ n, k = n + 1 := ⟨k - 1, by omega⟩
    obtain rfl : j = i := by omega
    simp only [sacristanref01_bit.l0]
    rw [if_neg (by omega)]
    unfold tb
    have h0 : 0 ≤ m / 2 ^ j := Int.ediv_nonneg hm (by have := pow_pos' j; omega)
    rw [Int.tmod_eq_emod_of_nonneg h0]
    rfl
  | succ d ih =>
    intro j k hj hk
    obtain ⟨k, rfl⟩ : ∃ n, k = n + 1 := ⟨k - 1, by omega⟩
    simp only [sacristanref01_bit.l0]
    rw [if_pos (by omega)]
    have h0 : 0 ≤ m / 2 ^ j := Int.ediv_nonneg hm (by have := pow_pos' j; omega)
    have h1 : m / 2 ^ j ≤ m := Int.ediv_le_self _ hm
    have e : wrap64 (Int.tdiv (m / 2 ^ j) 2) = m / 2 ^ (j + 1) := by
      rw [Int.tdiv_eq_ediv_of_nonneg h0, w64 (by unfold I64; omega), Int.ediv_ediv_of_nonneg (by have := pow_pos' j; omega), ← Int.pow_succ]
    have e2 : wrap64 ((j : Int) + 1) = ((j + 1 : Nat) : Int) := by rw [w64 (by unfold I64; omega)]; omega
    rw [e, e2]
    exact ih (j + 1) k (by omega) (by omega)
theorem tb_top (n : Int) (i : Nat) (hi : i < 63) : tb (n + 9223372036854775808) i = tb n i := by
  unfold tb
  have e : (9223372036854775808 : Int) = 2 ^ i * (2 ^ (62 - i) * 2) := by
    have : (9223372036854775808 : Int) = 2 ^ 63 := by decide
    rw [this, two_split (show i ≤ 63 by omega)]
    have : (2 : Int) ^ (63 - i) = 2 ^ (62 - i) * 2 := by rw [← Int.pow_succ]; congr 1; omega
    rw [this]
  rw [e, Int.add_mul_ediv_left _ _ (by have := pow_pos' i; omega)]
  generalize (2 : Int) ^ (62 - i) = d
  exact decide_eq_decide.2 (by omega)
theorem bit_f (n : Int) (hn : I64 n) (i : Nat) (hi : i ≤ 63) (k : Nat) (hk : 66 ≤ k) : sacristanref01_bit.f k n i = some (tb n i) := by
  have hn' := hn
  obtain ⟨_, _⟩ := hn
  unfold sacristanref01_bit.f
  obtain ⟨k, rfl⟩ : ∃ n, k = n + 1 := ⟨k - 1, by omega⟩
  by_cases h : i = 63
  · subst h
    rw [if_pos (by omega), tb_sign n hn']
  · rw [if_neg (by omega)]
    by_cases h0 : n < 0
    · rw [if_pos h0, w64 (show I64 (n + 9223372036854775807) by unfold I64; omega), w64 (by unfold I64; omega)]
      simp only [sacristanref01_bit.j0]
      have := bit_l0 (n + 9223372036854775808) (by omega) (by omega) i hi i 0 k (by omega) (by omega)
      simp only [Int.pow_zero, Int.ediv_one, tb_top n i (by omega)] at this
      rw [show n + 9223372036854775807 + 1 = n + 9223372036854775808 by omega]
      exact this
    · rw [if_neg h0]
      simp only [sacristanref01_bit.j0]
      have := bit_l0 n (by omega) (by omega) i hi i 0 k (by omega) (by omega)
      simp only [Int.pow_zero, Int.ediv_one] at this
      exact this

/-! ### A number out of its bits -/
theorem of_l0 (x : Int) (hx : I64 x) (l : List Bool) (hl : l.length = 64) (hb : ∀ i, i < 64 → l.getD i false = tb x i) (d : Nat) : ∀ (k : Nat), d ≤ 63 → d < k →
    sacristanref01_of.l0 k l (x % 9223372036854775808 / 2 ^ d) ((d : Int) - 1) = some x := by
  have hx' := hx
  obtain ⟨_, _⟩ := hx
  induction d with
  | zero =>
    intro k _ hk
    obtain ⟨k, rfl⟩ : ∃ n, k = n + 1 := ⟨k - 1, by omega⟩
    simp only [sacristanref01_of.l0, Int.pow_zero, Int.ediv_one]
    rw [if_neg (by omega), if_pos (by omega)]
    have : rdOf false l 63 = tb x 63 := hb 63 (by omega)
    rw [this, tb_sign x hx']
    by_cases h : x < 0
    · rw [if_pos (decide_eq_true h)]
      rw [w64 (show I64 (x % 9223372036854775808 - 9223372036854775807) by unfold I64; omega), w64 (by unfold I64; omega)]
      congr 1; omega
    · rw [if_neg (by simpa using h)]
      congr 1; omega
  | succ d ih =>
    intro k hd hk
    obtain ⟨k, rfl⟩ : ∃ n, k = n + 1 := ⟨k - 1, by omega⟩
    simp only [sacristanref01_of.l0]
    rw [if_pos (by omega), if_pos (by omega), if_pos (by omega)]
    have : rdOf false l (((d + 1 : Nat) : Int) - 1) = tb x d := by
      unfold rdOf
      rw [show (((d + 1 : Nat) : Int) - 1).toNat = d by omega]
      exact hb d (by omega)
    rw [this]
    have hp := pow_pos' d
    have e1 : x % 9223372036854775808 / 2 ^ (d + 1) = x % 9223372036854775808 / 2 ^ d / 2 := by
      rw [Int.ediv_ediv_of_nonneg (by omega), ← Int.pow_succ]
    have e2 : tb x d = decide (x % 9223372036854775808 / 2 ^ d % 2 = 1) := by
      have : x = x % 9223372036854775808 + (x / 9223372036854775808) * 9223372036854775808 := by omega
      have hs : x / 9223372036854775808 = 0 ∨ x / 9223372036854775808 = -1 := by omega
      have : tb x d = tb (x % 9223372036854775808) d := by
        rcases hs with hs | hs
        · congr 1; omega
        · rw [← tb_top x d (by omega)]; congr 1; omega
      rw [this]; rfl
    have hq0 : 0 ≤ x % 9223372036854775808 / 2 ^ d := Int.ediv_nonneg (by omega) (by omega)
    have hq1 : x % 9223372036854775808 / 2 ^ d ≤ x % 9223372036854775808 := Int.ediv_le_self _ (by omega)
    have ih' := ih k (by omega) (by omega)
    rw [e1, e2]
    generalize x % 9223372036854775808 / 2 ^ d = q at *
    have e3 : wrap64 (((d + 1 : Nat) : Int) - 1 - 1) = (d : Int) - 1 := by rw [w64 (by unfold I64; omega)]; omega
    rw [e3]
    by_cases h : q % 2 = 1
    · rw [if_pos (decide_eq_true h), w64 (show I64 (2 * (q / 2)) by unfold I64; omega), w64 (by unfold I64; omega)]
      rw [show 2 * (q / 2) + 1 = q by omega]; exact ih'
    · rw [if_neg (by simpa using h), w64 (show I64 (2 * (q / 2)) by unfold I64; omega)]
      rw [show 2 * (q / 2) = q by omega]; exact ih'
theorem of_f (x : Int) (hx : I64 x) (l : List Bool) (hl : l.length = 64) (hb : ∀ i, i < 64 → l.getD i false = tb x i) (k : Nat) (hk : 66 ≤ k) : sacristanref01_of.f k l = some x := by
  have := of_l0 x hx l hl hb 63 k (by omega) (by omega)
  unfold sacristanref01_of.f
  have e : x % 9223372036854775808 / 2 ^ 63 = 0 := by
    have : (2 : Int) ^ 63 = 9223372036854775808 := by decide
    rw [this]; omega
  rw [e] at this
  exact this

/-! ### The reference's words, bit by bit -/
theorem bw_loop (w : ByteArray) (a b x : Int) (F : Nat → Bool) (hx : I64 x) (hF : ∀ i, i < 64 → F i = tb x i)
    (hs : ∀ (k j : Nat) (l : List Bool), 66 ≤ k → j < 64 → l.length = 64 → sacristanref01_bitwise.l0 (k + 1) w a b l (j : Int) = sacristanref01_bitwise.l0 k w a b (l.set j (F j)) ((j + 1 : Nat) : Int))
    (d : Nat) : ∀ (k j : Nat) (l : List Bool), j + d = 64 → l.length = 64 → (∀ i, i < j → l.getD i false = F i) → d + 68 ≤ k → sacristanref01_bitwise.l0 k w a b l (j : Int) = some x := by
  induction d with
  | zero =>
    intro k j l hj hl hi hk
    obtain ⟨k, rfl⟩ : ∃ n, k = n + 1 := ⟨k - 1, by omega⟩
    simp only [sacristanref01_bitwise.l0]
    rw [if_neg (by omega), of_f x hx l hl (fun i h => by rw [hi i (by omega), hF i h]) k (by omega)]
    rfl
  | succ d ih =>
    intro k j l hj hl hi hk
    obtain ⟨k, rfl⟩ : ∃ n, k = n + 1 := ⟨k - 1, by omega⟩
    rw [hs k j l (by omega) (by omega) hl]
    refine ih k (j + 1) _ (by omega) (by simpa using hl) (fun i h => ?_) (by omega)
    by_cases e : i = j
    · subst e
      simp [List.getD_eq_getElem?_getD, hl, show i < 64 by omega]
    · have := hi i (by omega)
      simp only [List.getD_eq_getElem?_getD, List.getElem?_set] at this ⊢
      rw [if_neg (fun h => e h.symm)]
      exact this
theorem bw_f (w : ByteArray) (a b x : Int) (F : Nat → Bool) (hx : I64 x) (hF : ∀ i, i < 64 → F i = tb x i)
    (hs : ∀ (k j : Nat) (l : List Bool), 66 ≤ k → j < 64 → l.length = 64 → sacristanref01_bitwise.l0 (k + 1) w a b l (j : Int) = sacristanref01_bitwise.l0 k w a b (l.set j (F j)) ((j + 1 : Nat) : Int))
    (k : Nat) (hk : 140 ≤ k) : sacristanref01_bitwise.f k w a b = some x := by
  unfold sacristanref01_bitwise.f
  rw [if_pos (by decide)]
  exact bw_loop w a b x F hx hF hs 64 k 0 _ rfl (by simp) (fun i h => by omega) (by omega)
theorem succ64 (j : Nat) (hj : j < 64) : wrap64 ((j : Int) + 1) = ((j + 1 : Nat) : Int) := by rw [w64 (by unfold I64; omega)]; omega
theorem bw_and (a b : Int) (ha : I64 a) (hb : I64 b) (k : Nat) (hk : 140 ≤ k) : sacristanref01_bitwise.f k ⟨#[97, 110, 100]⟩ a b = some (Go.bits .and .i64 a b) := by
  refine bw_f _ a b _ (fun j => tb a j && tb b j) (bits_and_I64 _ _ _) (fun i hi => (tb_and a b i hi).symm) (fun k j l hk hj hl => ?_) k hk
  simp only [sacristanref01_bitwise.l0]
  rw [if_pos (by omega), bit_f a ha j (by omega) k (by omega), bit_f b hb j (by omega) k (by omega)]
  simp only [Option.bind_some, ByteArray.toList_eq, succ64 j hj, hl, Int.toNat_natCast]
  have h0 : (0 : Int) ≤ (j : Int) := by omega
  have h1 : (j : Int) < 64 := by omega
  cases tb a j <;> simp [h0, h1]
theorem bw_or (a b : Int) (ha : I64 a) (hb : I64 b) (k : Nat) (hk : 140 ≤ k) : sacristanref01_bitwise.f k ⟨#[111, 114]⟩ a b = some (Go.bits .or .i64 a b) := by
  refine bw_f _ a b _ (fun j => tb a j || tb b j) (bits_and_I64 _ _ _) (fun i hi => (tb_or a b i hi).symm) (fun k j l hk hj hl => ?_) k hk
  simp only [sacristanref01_bitwise.l0]
  rw [if_pos (by omega), bit_f a ha j (by omega) k (by omega), bit_f b hb j (by omega) k (by omega)]
  simp only [Option.bind_some, ByteArray.toList_eq, succ64 j hj, hl, Int.toNat_natCast]
  have h0 : (0 : Int) ≤ (j : Int) := by omega
  have h1 : (j : Int) < 64 := by omega
  cases tb a j <;> simp [h0, h1]
theorem bw_xor (a b : Int) (ha : I64 a) (hb : I64 b) (k : Nat) (hk : 140 ≤ k) : sacristanref01_bitwise.f k ⟨#[120, 111, 114]⟩ a b = some (Go.bits .xor .i64 a b) := by
  refine bw_f _ a b _ (fun j => tb a j != tb b j) (bits_and_I64 _ _ _) (fun i hi => (tb_xor a b i hi).symm) (fun k j l hk hj hl => ?_) k hk
  simp only [sacristanref01_bitwise.l0]
  rw [if_pos (by omega), bit_f a ha j (by omega) k (by omega), bit_f b hb j (by omega) k (by omega)]
  simp only [Option.bind_some, ByteArray.toList_eq, succ64 j hj, hl, Int.toNat_natCast]
  have h0 : (0 : Int) ≤ (j : Int) := by omega
  have h1 : (j : Int) < 64 := by omega
  cases tb a j <;> simp [h0, h1]
theorem bw_shl (a b : Int) (ha : I64 a) (h0 : 0 ≤ b) (h1 : b ≤ 63) (k : Nat) (hk : 140 ≤ k) : sacristanref01_bitwise.f k ⟨#[115, 104, 108]⟩ a b = some (wrap64 (a * 2 ^ b.toNat)) := by
  obtain ⟨b, rfl⟩ := Int.eq_ofNat_of_zero_le h0
  refine bw_f _ a b _ (fun j => decide (b ≤ j) && tb a (j - b)) (w64_I64 _) (fun i hi => ?_) (fun k j l hk hj hl => ?_) k hk
  · rw [tb_wrap64 _ _ hi, Int.toNat_natCast, tb_shl]
  simp only [sacristanref01_bitwise.l0]
  rw [if_pos (by omega), bit_f a ha j (by omega) k (by omega), bit_f b (by unfold I64; omega) j (by omega) k (by omega)]
  simp only [Option.bind_some, ByteArray.toList_eq, succ64 j hj, hl, Int.toNat_natCast]
  have h2 : (0 : Int) ≤ (j : Int) := by omega
  have h3 : (j : Int) < 64 := by omega
  by_cases h : b ≤ j
  · have e : mx 0 (wrap64 ((j : Int) - b)) = ((j - b : Nat) : Int) := by rw [w64 (by unfold I64; omega)]; unfold mx; split <;> omega
    rw [e, bit_f a ha (j - b) (by omega) k (by omega)]
    simp [h2, h3, h]
  · simp [h2, h3, h]
theorem shr_range (a : Int) (ha : I64 a) (b : Nat) : I64 (a / 2 ^ b) := by
  obtain ⟨h1, h2⟩ := ha
  have hp := pow_pos' b
  generalize (2 : Int) ^ b = p at hp
  by_cases h : 0 ≤ a
  · have := Int.ediv_nonneg h (show (0 : Int) ≤ p by omega)
    have := Int.ediv_le_self p h
    exact ⟨by omega, by omega⟩
  · have h2 : a ≤ a / p := by
      rw [Int.le_ediv_iff_mul_le hp]
      have : a * p ≤ a * 1 := Int.mul_le_mul_of_nonpos_left (by omega) (by omega)
      omega
    have h3 : a / p < 0 := Int.ediv_neg_of_neg_of_pos (by omega) hp
    exact ⟨by omega, by omega⟩
theorem big_pow (i : Nat) (h : 64 ≤ i) : (18446744073709551616 : Int) ≤ 2 ^ i := by
  have e : (2 : Int) ^ i = 2 ^ 64 * 2 ^ (i - 64) := by
    rw [← Int.pow_add]; congr 1; omega
  have e2 : (2 : Int) ^ 64 = 18446744073709551616 := by decide
  rw [e, e2]
  have := pow_pos' (i - 64)
  generalize (2 : Int) ^ (i - 64) = q at *
  omega
theorem tb_min (a : Int) (b : Nat) (i : Nat) (ha : I64 a) : tb a (min 63 (i + b)) = tb (a / 2 ^ (b : Int).toNat) i := by
  rw [Int.toNat_natCast, tb_shr]
  by_cases h : i + b ≤ 63
  · rw [Nat.min_eq_right h]
  · rw [Nat.min_eq_left (by omega), tb_high a ha (i + b) (by omega)]
theorem mn63 (n : Nat) : mn 63 (n : Int) = ((min 63 n : Nat) : Int) := by unfold mn; split <;> omega
theorem add64 (j b : Nat) (hj : j < 64) (hb : b ≤ 63) : wrap64 ((j : Int) + b) = ((j + b : Nat) : Int) := by rw [w64 (by unfold I64; omega)]; omega
theorem shr_step (a : Int) (b : Nat) (ha : I64 a) (h1 : b ≤ 63) (k j : Nat) (l : List Bool) (hk : 66 ≤ k) (hj : j < 64) (hl : l.length = 64) : sacristanref01_bitwise.l0 (k + 1) ⟨#[115, 104, 114]⟩ a b l (j : Int) = sacristanref01_bitwise.l0 k ⟨#[115, 104, 114]⟩ a b (l.set j (tb a (min 63 (j + b)))) ((j + 1 : Nat) : Int) := by
  have b1 := bit_f a ha j (by omega) k (by omega)
  have b2 := bit_f b (by unfold I64; omega) j (by omega) k (by omega)
  have b3 := bit_f a ha (min 63 (j + b)) (by omega) k (by omega)
  have h2 : (0 : Int) ≤ (j : Int) := by omega
  have h3 : (j : Int) < 64 := by omega
  have e1 := add64 j b hj h1
  have e2 := mn63 (j + b)
  have e3 := succ64 j hj
  generalize tb a (min 63 (j + b)) = q at *
  simp only [sacristanref01_bitwise.l0]
  rw [if_pos h3, b1, b2, e1, e2, b3, e3]
  simp only [Option.bind_some, ByteArray.toList_eq, hl, Int.toNat_natCast]
  rw [if_neg (by decide), if_neg (by decide), if_neg (by decide), if_neg (by decide), if_pos trivial, if_pos h2, if_pos (show (j : Int) < ((64 : Nat) : Int) by omega)]
theorem ushr_step_in (a : Int) (b : Nat) (ha : I64 a) (h1 : b ≤ 63) (k j : Nat) (l : List Bool) (hk : 66 ≤ k) (hj : j < 64) (hl : l.length = 64) (h : j + b ≤ 63) : sacristanref01_bitwise.l0 (k + 1) ⟨#[117, 115, 104, 114]⟩ a b l (j : Int) = sacristanref01_bitwise.l0 k ⟨#[117, 115, 104, 114]⟩ a b (l.set j (tb a (j + b))) ((j + 1 : Nat) : Int) := by
  have b1 := bit_f a ha j (by omega) k (by omega)
  have b2 := bit_f b (by unfold I64; omega) j (by omega) k (by omega)
  have b3 := bit_f a ha (j + b) (by omega) k (by omega)
  have h2 : (0 : Int) ≤ (j : Int) := by omega
  have h3 : (j : Int) < 64 := by omega
  have e1 := add64 j b hj h1
  have e2 : mn 63 ((j + b : Nat) : Int) = ((j + b : Nat) : Int) := by rw [mn63]; omega
  have h5 : ((j + b : Nat) : Int) ≤ 63 := by omega
  have e3 := succ64 j hj
  generalize tb a (j + b) = q at *
  simp only [sacristanref01_bitwise.l0]
  rw [if_pos h3, b1, b2, e1, e2, b3, e3]
  simp only [Option.bind_some, ByteArray.toList_eq, hl, Int.toNat_natCast]
  rw [if_neg (by decide), if_neg (by decide), if_neg (by decide), if_neg (by decide), if_neg (by decide), if_pos trivial, if_pos h5, if_pos h2, if_pos (show (j : Int) < ((64 : Nat) : Int) by omega)]
theorem ushr_step_out (a : Int) (b : Nat) (ha : I64 a) (h1 : b ≤ 63) (k j : Nat) (l : List Bool) (hk : 66 ≤ k) (hj : j < 64) (hl : l.length = 64) (h : ¬ j + b ≤ 63) : sacristanref01_bitwise.l0 (k + 1) ⟨#[117, 115, 104, 114]⟩ a b l (j : Int) = sacristanref01_bitwise.l0 k ⟨#[117, 115, 104, 114]⟩ a b (l.set j false) ((j + 1 : Nat) : Int) := by
  have b1 := bit_f a ha j (by omega) k (by omega)
  have b2 := bit_f b (by unfold I64; omega) j (by omega) k (by omega)
  have h2 : (0 : Int) ≤ (j : Int) := by omega
  have h3 : (j : Int) < 64 := by omega
  have e1 := add64 j b hj h1
  have h5 : ¬ ((j + b : Nat) : Int) ≤ 63 := by omega
  have e3 := succ64 j hj
  simp only [sacristanref01_bitwise.l0]
  rw [if_pos h3, b1, b2, e1, e3]
  simp only [Option.bind_some, ByteArray.toList_eq, hl, Int.toNat_natCast]
  rw [if_neg (by decide), if_neg (by decide), if_neg (by decide), if_neg (by decide), if_neg (by decide), if_pos trivial, if_neg h5, if_pos h2, if_pos (show (j : Int) < ((64 : Nat) : Int) by omega)]
theorem bw_shr (a b : Int) (ha : I64 a) (h0 : 0 ≤ b) (h1 : b ≤ 63) (k : Nat) (hk : 140 ≤ k) : sacristanref01_bitwise.f k ⟨#[115, 104, 114]⟩ a b = some (a / 2 ^ b.toNat) := by
  obtain ⟨b, rfl⟩ := Int.eq_ofNat_of_zero_le h0
  refine bw_f _ a b _ (fun j => tb a (min 63 (j + b))) (by rw [Int.toNat_natCast]; exact shr_range a ha b) (fun i hi => tb_min a b i ha) (fun k j l hk hj hl => shr_step a b ha (by omega) k j l hk hj hl) k hk
theorem tb_ushr (a : Int) (b i : Nat) (hi : i < 64) : (decide (i + b ≤ 63) && tb a (i + b)) = tb (wrap64 (a % 18446744073709551616 / 2 ^ b)) i := by
  rw [tb_wrap64 _ _ hi, tb_shr]
  by_cases h : i + b ≤ 63
  · rw [tb_mod _ _ (by omega)]; simp [h]
  · have : tb (a % 18446744073709551616) (i + b) = false := by
      unfold tb
      have hp := big_pow (i + b) (by omega)
      generalize (2 : Int) ^ (i + b) = q at *
      rw [Int.ediv_eq_zero_of_lt (by omega) (by omega)]; rfl
    rw [this]; simp [h]
theorem bw_ushr (a b : Int) (ha : I64 a) (h0 : 0 ≤ b) (h1 : b ≤ 63) (k : Nat) (hk : 140 ≤ k) : sacristanref01_bitwise.f k ⟨#[117, 115, 104, 114]⟩ a b = some (wrap64 (a % 18446744073709551616 / 2 ^ b.toNat)) := by
  obtain ⟨b, rfl⟩ := Int.eq_ofNat_of_zero_le h0
  refine bw_f _ a b _ (fun j => decide (j + b ≤ 63) && tb a (j + b)) (w64_I64 _) (fun i hi => by rw [Int.toNat_natCast]; exact tb_ushr a b i hi) (fun k j l hk hj hl => ?_) k hk
  by_cases h : j + b ≤ 63
  · rw [ushr_step_in a b ha (by omega) k j l hk hj hl h]; simp only [h, decide_true, Bool.true_and]
  · rw [ushr_step_out a b ha (by omega) k j l hk hj hl h]; simp only [h, decide_false, Bool.false_and]
end Go.Proofs.Ytahcnpjgbhpbeaa.Pure
