/- What the program reckons with two values, word by word. -/
import Derived.Test.YtahcnpjgbhpbeaaVa
import Derived.Test.YtahcnpjgbhpbeaaPVx4
import Derived.Test.YtahcnpjgbhpbeaaPVx5
namespace Go.Proofs.Ytahcnpjgbhpbeaa.Pure
open Go.RowKit Go.Proofs.Ytahcnpjgbhpbeaa.PV Go.Proofs.YtahcnpjgbhpbeaaW.PrintWords Go.Proofs.YtahcnpjgbhpbeaaW.PrintLast Go.Proofs.YtahcnpjgbhpbeaaW.PrintMore Go.Proofs.YtahcnpjgbhpbeaaW.Own
set_option linter.unusedVariables false
set_option linter.unusedSimpArgs false
theorem bind_eta (x : Option (Int × Int × ByteArray × Int)) : (x.bind fun b => some (b.1, b.2.1, b.2.2.1, b.2.2.2)) = x := by
  cases x <;> rfl

/-! ### Words of two Ints -/
abbrev Res := Int × Int × ByteArray × Int
def intsR (L : List UInt8) (a b : Int) : Res :=
  if L = [43] then addS a b else if L = [45] then subS a b else if L = [42] then mulS a b else if L = [47] then divS a b else if L = [37] then modS a b
  else if L = [97, 110, 100] then okv (Go.bits .and .i64 a b) else if L = [111, 114] then okv (Go.bits .or .i64 a b) else if L = [120, 111, 114] then okv (Go.bits .xor .i64 a b)
  else if L = [115, 104, 108] then shlS a b else if L = [115, 104, 114] then shrS a b else ushrS a b

theorem parts_div (w : ByteArray) (hw : w.toList = [47]) (a b : Int) (ha : I64 a) : value_parts.f w a b = some (divS a b) := by
  have := div_f a b ha
  unfold value_parts.f at this ⊢
  rw [hw]
  rw [ByteArray.toList_eq] at this
  exact this
theorem parts_mod (w : ByteArray) (hw : w.toList = [37]) (a b : Int) : value_parts.f w a b = some (modS a b) := by
  have := mod_f a b
  unfold value_parts.f at this ⊢
  rw [hw]
  rw [ByteArray.toList_eq] at this
  exact this
theorem moved_f (w : ByteArray) (k : Nat) (a b : Int) : value_moved.f (k + 1) w a b = some (if w.toList = [115, 104, 108] then shlS a b else if w.toList = [115, 104, 114] then shrS a b else ushrS a b) := by
  by_cases h1 : w.toList = [115, 104, 108]
  · have := moved_shl k a b
    unfold value_moved.f at this ⊢
    simp only [value_moved.j0, ByteArray.toList_eq] at this ⊢
    rw [ByteArray.toList_eq] at h1
    simp only [h1, if_true]
    exact this
  · by_cases h2 : w.toList = [115, 104, 114]
    · have := moved_shr k a b
      unfold value_moved.f at this ⊢
      simp only [value_moved.j0, ByteArray.toList_eq] at this ⊢
      rw [ByteArray.toList_eq] at h2
      simp only [h2]
      exact this
    · have := moved_ushr k a b
      have f1 : ¬ (⟨#[117, 115, 104, 114]⟩ : ByteArray).toList = [115, 104, 108] := by rw [ByteArray.toList_eq]; decide
      have f2 : ¬ (⟨#[117, 115, 104, 114]⟩ : ByteArray).toList = [115, 104, 114] := by rw [ByteArray.toList_eq]; decide
      unfold value_moved.f at this ⊢
      simp only [value_moved.j0, f1, f2, h1, h2, if_false] at this ⊢
      exact this
theorem vints (w : ByteArray) (k : Nat) (a b : Int) (ha : I64 a) (hb : I64 b) : value_ints.f (k + 2) w a b = some (intsR w.toList a b) := by
  unfold value_ints.f intsR
  by_cases h1 : w.toList = [43]
  · rw [if_pos h1, if_pos h1, bind_eta, add_v a b ha hb]
  rw [if_neg h1, if_neg h1]
  by_cases h2 : w.toList = [45]
  · rw [if_pos h2, if_pos h2, bind_eta, sub_v a b ha hb]
  rw [if_neg h2, if_neg h2]
  by_cases h3 : w.toList = [42]
  · rw [if_pos h3, if_pos h3, bind_eta, times_f a b ha hb]
  rw [if_neg h3, if_neg h3]
  simp only [value_ints.j0, bind_eta]
  by_cases h4 : w.toList = [47]
  · simp only [h4, if_true, beq_self_eq_true]
    exact parts_div w h4 a b ha
  rw [if_neg h4, if_neg h4]
  by_cases h5 : w.toList = [37]
  · simp only [h5, if_true, beq_self_eq_true]
    exact parts_mod w h5 a b
  rw [if_neg (by simpa using h5), if_neg h5]
  by_cases h6 : w.toList = [97, 110, 100]
  · rw [if_pos h6, if_pos h6]; rfl
  rw [if_neg h6, if_neg h6]
  by_cases h7 : w.toList = [111, 114]
  · rw [if_pos h7, if_pos h7]; rfl
  rw [if_neg h7, if_neg h7]
  by_cases h8 : w.toList = [120, 111, 114]
  · rw [if_pos h8, if_pos h8]; rfl
  rw [if_neg h8, if_neg h8, moved_f w k a b]

/-! ### Two, as the program reckons it -/
def isInts (L : List UInt8) : Bool := L == [43] || L == [45] || L == [42] || L == [47] || L == [37] || L == [97, 110, 100] || L == [111, 114] || L == [120, 111, 114] || L == [115, 104, 108] || L == [115, 104, 114] || L == [117, 115, 104, 114]
def twoR (L : List UInt8) (t1 a : Int) (s : ByteArray) (t2 b : Int) (t : ByteArray) : Res :=
  if isInts L = true then (if t1 = 1 ∧ t2 = 1 then intsR L a b else er 2)
  else if L = [60] then (if t1 = 1 ∧ t2 = 1 then okb (decide (a < b)) else if t1 = 3 ∧ t2 = 3 then okb (Op.bytesLess s.toList t.toList) else er 2)
  else if L = [61] then (if t1 = t2 ∧ t1 ≤ 3 then okb (a == b && s.toList == t.toList) else er 2)
  else if L = [99, 97, 116] then (if t1 = 3 ∧ t2 = 3 then (if (s.size : Int) + t.size > 65536 then er 3 else (3, 0, s ++ t, 0)) else er 2)
  else if L = [97, 116] then (if t1 = 3 ∧ t2 = 1 then (if b < 0 ∨ b ≥ s.size then er 5 else okv (bt s b)) else er 2)
  else er 1

theorem is_f (b : Bool) : value_Is.f b = some (2, if b then 1 else 0, ⟨#[]⟩) := by cases b <;> rfl
theorem bool_f (b : Bool) : sacristanref01_Bool.f b = some (2, if b then 1 else 0, ⟨#[]⟩) := by cases b <;> rfl
theorem less_irrefl : ∀ l : List UInt8, Op.bytesLess l l = false
  | [] => rfl
  | x :: xs => by
    have := less_irrefl xs
    have h : ¬ x < x := by rw [UInt8.lt_iff_toNat_lt]; omega
    simp [Op.bytesLess, this, h]
theorem cmp_i (a b : Int) : cmp_Compare_int64.f a b = some (if a < b then -1 else if a > b then 1 else 0) := by
  unfold cmp_Compare_int64.f cmp_isNaN_int64.f
  simp only [bne_self_eq_false, Option.bind_some, Bool.false_eq_true, if_false]
  split
  · rfl
  · split <;> rfl
theorem cmp_s (a b : ByteArray) : cmp_Compare_string.f a b = some (if Op.bytesLess a.toList b.toList = true then -1 else if Op.bytesLess b.toList a.toList = true then 1 else 0) := by
  unfold cmp_Compare_string.f cmp_isNaN_string.f
  simp only [bne_self_eq_false, Option.bind_some, Bool.false_eq_true, if_false]
  split
  · rfl
  · split <;> rfl
theorem or_f (x y : Int) (k : Nat) : cmp_Or_int.f (k + 3) [x, y] = some (if x = 0 then y else x) := by
  unfold cmp_Or_int.f
  simp only [cmp_Or_int.l0, List.length_cons, List.length_nil]
  rw [if_pos (by decide), if_pos (by decide), if_pos (by decide)]
  have e0 : rd [x, y] 0 = x := rfl
  have w1 : wrap64 ((0 : Int) + 1) = 1 := by rw [w64 (by unfold I64; omega)]; rfl
  rw [e0]
  by_cases h : x = 0
  · rw [if_pos h, if_pos h, w1, if_pos (by decide), if_pos (by decide), if_pos (by decide)]
    have e1 : rd [x, y] 1 = y := rfl
    have w2 : wrap64 ((1 : Int) + 1) = 2 := by rw [w64 (by unfold I64; omega)]; rfl
    rw [e1]
    by_cases h2 : y = 0
    · rw [if_pos h2, w2, if_neg (by decide), h2]
    · rw [if_neg h2]
  · rw [if_neg h, if_neg h]
theorem empty_of {s : ByteArray} (h : s.toList = []) : s = ⟨#[]⟩ := by
  rw [ByteArray.toList_eq] at h
  cases s with
  | mk d => congr 1; exact Array.toList_eq_nil_iff.1 h |>.trans rfl
/-- What may be of a value: an Int has no text, a Str no number. -/
structure Fits (t a : Int) (s : ByteArray) : Prop where
  i64 : I64 a
  size : s.size ≤ 140737488351232
  int : t = 1 → s.toList = []
  str : t = 3 → a = 0
theorem bt_I64 (s : ByteArray) (i : Int) : I64 (bt s i) := by have := bt_range s i; unfold I64; omega

theorem vtwo (w : ByteArray) (t1 a : Int) (s : ByteArray) (t2 b : Int) (t : ByteArray) (h1 : Fits t1 a s) (h2 : Fits t2 b t) (k : Nat) : value_Two.f (k + 9) w t1 a s t2 b t = some (twoR w.toList t1 a s t2 b t) := by
  have hI : ∀ m : Nat, value_ints.f (m + 2) w a b = some (intsR w.toList a b) := fun m => vints w m a b h1.i64 h2.i64
  have e1 : value_Two.f (k + 9) w t1 a s t2 b t = value_Two.j0 (k + 9) w (decide (t1 = 1) && decide (t2 = 1)) t1 a s t2 b t := by
    unfold value_Two.f
    by_cases c : t1 = 1
    · rw [if_pos c]; simp only [c, decide_true, Bool.true_and]; congr 1
    · rw [if_neg c]; simp only [c, decide_false, Bool.false_and]
  have e2 : value_Two.j0 (k + 9) w (decide (t1 = 1) && decide (t2 = 1)) t1 a s t2 b t = value_Two.j1 (k + 8) w (decide (t1 = 1) && decide (t2 = 1)) w (isInts w.toList) t1 a s t2 b t := by
    simp only [value_Two.j0]
    generalize w.toList = L
    unfold isInts
    by_cases c1 : L = [43]
    · subst c1; rfl
    rw [if_neg c1]
    by_cases c2 : L = [45]
    · subst c2; rfl
    rw [if_neg c2]
    by_cases c3 : L = [42]
    · subst c3; rfl
    rw [if_neg c3]
    by_cases c4 : L = [47]
    · subst c4; rfl
    rw [if_neg c4]
    by_cases c5 : L = [37]
    · subst c5; rfl
    rw [if_neg c5]
    by_cases c6 : L = [97, 110, 100]
    · subst c6; rfl
    rw [if_neg c6]
    by_cases c7 : L = [111, 114]
    · subst c7; rfl
    rw [if_neg c7]
    by_cases c8 : L = [120, 111, 114]
    · subst c8; rfl
    rw [if_neg c8]
    by_cases c9 : L = [115, 104, 108]
    · subst c9; rfl
    rw [if_neg c9]
    by_cases c10 : L = [115, 104, 114]
    · subst c10; rfl
    rw [if_neg c10]
    simp only [beq_eq_false_iff_ne.2 c1, beq_eq_false_iff_ne.2 c2, beq_eq_false_iff_ne.2 c3, beq_eq_false_iff_ne.2 c4, beq_eq_false_iff_ne.2 c5, beq_eq_false_iff_ne.2 c6, beq_eq_false_iff_ne.2 c7, beq_eq_false_iff_ne.2 c8, beq_eq_false_iff_ne.2 c9, beq_eq_false_iff_ne.2 c10, Bool.false_or]
  rw [e1, e2]
  simp only [value_Two.j1]
  unfold twoR
  by_cases c : isInts w.toList = true
  · rw [if_pos c, if_pos c]
    by_cases hb : t1 = 1 ∧ t2 = 1
    · rw [if_pos (by simp [hb]), if_pos hb, bind_eta]; exact hI _
    · rw [if_neg (by simpa using fun x y => hb ⟨x, y⟩), if_neg hb]; rfl
  rw [if_neg c, if_neg c]
  by_cases cl : w.toList = [60]
  · rw [if_pos cl, if_pos cl]
    have lt2 : ∀ m, value_Two.j2 (m + 4) true t1 a s t2 b t = some (okb (decide ((if (if a < b then -1 else if a > b then 1 else 0 : Int) = 0 then (if Op.bytesLess s.toList t.toList = true then -1 else if Op.bytesLess t.toList s.toList = true then 1 else 0) else (if a < b then -1 else if a > b then 1 else 0 : Int)) < 0))) := by
      intro m
      simp only [value_Two.j2, if_true, cmp_i, cmp_s, Option.bind_some, or_f, is_f]
      rfl
    by_cases hb : t1 = 1 ∧ t2 = 1
    · rw [if_pos (by simp [hb]), if_pos hb, lt2]
      have x1 := h1.int hb.1; have x2 := h2.int hb.2
      rw [x1, x2, less_irrefl]
      congr 2
      by_cases q : a < b
      · simp [q]
      · by_cases q2 : a > b
        · simp [q, q2]
        · simp [q, q2]
    · rw [if_neg (by simpa using fun x y => hb ⟨x, y⟩), if_neg hb]
      by_cases c3 : t1 = 3
      · rw [if_pos c3]
        by_cases c4 : t2 = 3
        · rw [if_pos ⟨c3, c4⟩]
          rw [show (t2 == 3) = true by simpa using c4, lt2]
          have x1 := h1.str c3; have x2 := h2.str c4
          subst x1 x2
          congr 2
          by_cases q : Op.bytesLess s.toList t.toList = true
          · simp [q]
          · by_cases q2 : Op.bytesLess t.toList s.toList = true
            · simp [q, q2]
            · simp [q, q2]
        · rw [if_neg (fun h => c4 h.2), show (t2 == 3) = false by simpa using c4]; rfl
      · rw [if_neg c3, if_neg (fun h => c3 h.1)]; rfl
  rw [if_neg cl, if_neg cl]
  by_cases ce : w.toList = [61]
  · rw [if_pos ce, if_pos ce]
    by_cases c3 : t1 = t2
    · rw [if_pos c3]
      by_cases c4 : t1 ≤ 3
      · rw [if_pos c4, if_pos ⟨c3, c4⟩, is_f]
        simp only [c3, beq_self_eq_true, Bool.true_and]; rfl
      · rw [if_neg c4, if_neg (fun h => c4 h.2)]; rfl
    · rw [if_neg c3, if_neg (fun h => c3 h.1)]; rfl
  rw [if_neg ce, if_neg ce]
  by_cases cc : w.toList = [99, 97, 116]
  · rw [if_pos cc, if_pos cc]
    have q : w.toList ≠ [97, 116] := by rw [cc]; decide
    simp only [value_Two.j3, cc, beq_self_eq_true, if_true]
    by_cases c3 : t1 = 3
    · rw [if_pos c3]
      by_cases c4 : t2 = 3
      · rw [if_pos c4, if_pos ⟨c3, c4⟩]
        simp only [value_Two.j4, if_true, bind_eta]
        unfold value_texts.f
        rw [if_pos cc, w64 (by have := h1.size; have := h2.size; unfold I64; omega)]
        by_cases c5 : (s.size : Int) + t.size > 65536
        · rw [if_pos c5, if_pos c5]; rfl
        · rw [if_neg c5, if_neg c5, if_pos (by have := h1.size; have := h2.size; omega)]; rfl
      · rw [if_neg c4, if_neg (by decide), if_neg (fun h => c4 h.2)]; simp only [value_Two.j4]; rfl
    · rw [if_neg c3, if_neg (fun h => c3 h.1)]; simp only [value_Two.j4]; rfl
  rw [if_neg cc, if_neg cc]
  by_cases ca : w.toList = [97, 116]
  · rw [if_pos ca]
    simp only [value_Two.j3, ca, beq_self_eq_true, if_true]
    by_cases c3 : t1 = 3
    · rw [if_pos c3, if_neg (by decide)]
      by_cases c4 : t2 = 1
      · rw [if_pos ⟨c3, c4⟩, show (t2 == 1) = true by simpa using c4]
        simp only [value_Two.j4, if_true, bind_eta]
        unfold value_texts.f
        rw [if_neg (by rw [ca]; decide)]
        by_cases c5 : b < 0
        · rw [if_pos c5, if_pos (.inl c5)]; rfl
        · rw [if_neg c5]
          by_cases c6 : b ≥ (s.size : Int)
          · rw [if_pos c6, if_pos (.inr c6)]; rfl
          · rw [if_neg c6, if_pos (by omega), if_pos (by omega), if_neg (by omega), w64 (bt_I64 s b)]; rfl
      · rw [if_neg (fun h => c4 h.2), show (t2 == 1) = false by simpa using c4]; simp only [value_Two.j4]; rfl
    · rw [if_neg c3, if_neg (fun h => c3 h.1)]; simp only [value_Two.j4]; rfl
  rw [if_neg ca]
  simp only [value_Two.j3]
  rw [if_neg (by simpa using ca)]; rfl
end Go.Proofs.Ytahcnpjgbhpbeaa.Pure
