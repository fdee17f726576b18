/- What the program reckons with one value, word by word. -/
import Derived.Test.YtahcnpjgbhpbeaaVc
import Derived.Test.YtahcnpjgbhpbeaaPVx14
namespace Go.Proofs.Ytahcnpjgbhpbeaa.Pure
open Go.RowKit Go.Proofs.Ytahcnpjgbhpbeaa.PV Go.Proofs.YtahcnpjgbhpbeaaW.PrintWords Go.Proofs.YtahcnpjgbhpbeaaW.PrintLast Go.Proofs.YtahcnpjgbhpbeaaW.PrintMore Go.Proofs.YtahcnpjgbhpbeaaW.Own
set_option linter.unusedVariables false
set_option linter.unusedSimpArgs false
/-! ### Words of one value -/
def isOnes (L : List UInt8) : Bool := L == [110, 101, 103] || L == [105, 56] || L == [105, 49, 54] || L == [105, 51, 50] || L == [117, 56] || L == [117, 49, 54] || L == [117, 51, 50]
def numS (L : List UInt8) (a : Int) : Int :=
  if L = [105, 56] then (a + 128) % 256 - 128 else if L = [105, 49, 54] then (a + 32768) % 65536 - 32768 else if L = [105, 51, 50] then (a + 2147483648) % 4294967296 - 2147483648
  else if L = [117, 56] then a % 256 else if L = [117, 49, 54] then a % 65536 else a % 4294967296
def oneR (L : List UInt8) (t a : Int) (s : ByteArray) : Res :=
  if L = [110, 101, 103] then (if t = 1 then (if a = -9223372036854775808 then er 3 else okv (-a)) else er 2)
  else if L = [110, 111, 116] then (if t = 2 then okb (a == 0) else er 2)
  else if L = [108, 101, 110] then (if t = 3 then okv s.size else er 2)
  else if isOnes L = true then (if t = 1 then okv (numS L a) else er 2)
  else er 1
theorem tag_f (w : ByteArray) (k : Nat) : value_tag.f (k + 1) w = some (if isOnes w.toList = true then (1, true) else if w.toList = [110, 111, 116] then (2, true) else if w.toList = [108, 101, 110] then (3, true) else (0, false)) := by
  have e : value_tag.f (k + 1) w = value_tag.j0 (k + 1) w (isOnes w.toList) := by
    unfold value_tag.f isOnes
    generalize w.toList = L
    by_cases c1 : L = [110, 101, 103]
    · subst c1; rfl
    rw [if_neg c1]
    by_cases c2 : L = [105, 56]
    · subst c2; rfl
    rw [if_neg c2]
    by_cases c3 : L = [105, 49, 54]
    · subst c3; rfl
    rw [if_neg c3]
    by_cases c4 : L = [105, 51, 50]
    · subst c4; rfl
    rw [if_neg c4]
    by_cases c5 : L = [117, 56]
    · subst c5; rfl
    rw [if_neg c5]
    by_cases c6 : L = [117, 49, 54]
    · subst c6; rfl
    rw [if_neg c6]
    simp only [beq_eq_false_iff_ne.2 c1, beq_eq_false_iff_ne.2 c2, beq_eq_false_iff_ne.2 c3, beq_eq_false_iff_ne.2 c4, beq_eq_false_iff_ne.2 c5, beq_eq_false_iff_ne.2 c6, Bool.false_or]
  rw [e]
  simp only [value_tag.j0]
  split
  · rfl
  · split
    · rfl
    · split <;> rfl
theorem wrap32_I64 (a : Int) : wrap32 a = (a + 2147483648) % 4294967296 - 2147483648 := by unfold wrap32; rfl
theorem oneR_neg {L : List UInt8} (h : L = [110, 101, 103]) (t a : Int) (s : ByteArray) : oneR L t a s = if t = 1 then (if a = -9223372036854775808 then er 3 else okv (-a)) else er 2 := by unfold oneR; rw [if_pos h]
theorem oneR_not {L : List UInt8} (h : L = [110, 111, 116]) (t a : Int) (s : ByteArray) : oneR L t a s = if t = 2 then okb (a == 0) else er 2 := by unfold oneR; rw [if_neg (by rw [h]; decide), if_pos h]
theorem oneR_len {L : List UInt8} (h : L = [108, 101, 110]) (t a : Int) (s : ByteArray) : oneR L t a s = if t = 3 then okv s.size else er 2 := by unfold oneR; rw [if_neg (by rw [h]; decide), if_neg (by rw [h]; decide), if_pos h]
theorem oneR_num {L : List UInt8} (h : isOnes L = true) (h1 : L ≠ [110, 101, 103]) (t a : Int) (s : ByteArray) : oneR L t a s = if t = 1 then okv (numS L a) else er 2 := by
  unfold oneR; rw [if_neg h1, if_neg (by rintro rfl; exact absurd h (by decide)), if_neg (by rintro rfl; exact absurd h (by decide)), if_pos h]
theorem oneR_no {L : List UInt8} (h : ¬ isOnes L = true) (h2 : L ≠ [110, 111, 116]) (h3 : L ≠ [108, 101, 110]) (t a : Int) (s : ByteArray) : oneR L t a s = er 1 := by
  unfold oneR; rw [if_neg (by rintro rfl; exact h (by decide)), if_neg h2, if_neg h3, if_neg h]
theorem vone (w : ByteArray) (t a : Int) (s : ByteArray) (h : Fits t a s) (k : Nat) : value_One.f (k + 3) w t a s = some (oneR w.toList t a s) := by
  obtain ⟨i1, i2⟩ := h.i64
  have hs := h.size
  unfold value_One.f
  rw [tag_f w (k + 2)]
  simp only [Option.bind_some]
  by_cases c1 : w.toList = [110, 101, 103]
  · rw [oneR_neg c1, if_pos (show isOnes w.toList = true by rw [c1]; decide), if_pos rfl]
    by_cases ct : t = 1
    · rw [if_pos ct, if_pos ct, if_pos c1]
      by_cases cm : a = -9223372036854775808
      · rw [if_pos cm, if_pos cm]; rfl
      · rw [if_neg cm, if_neg cm]
        simp only [value_One.j0]
        rw [if_pos c1, w64 (by unfold I64; omega)]; rfl
    · rw [if_neg ct, if_neg ct]; rfl
  by_cases c2 : w.toList = [110, 111, 116]
  · rw [oneR_not c2, if_neg (show ¬ isOnes w.toList = true by rw [c2]; decide), if_pos c2, if_pos rfl]
    by_cases ct : t = 2
    · rw [if_pos ct, if_pos ct, if_neg c1]
      simp only [value_One.j0]
      rw [if_neg c1, if_pos c2, is_f]; rfl
    · rw [if_neg ct, if_neg ct]; rfl
  by_cases c3 : w.toList = [108, 101, 110]
  · rw [oneR_len c3, if_neg (show ¬ isOnes w.toList = true by rw [c3]; decide), if_neg c2, if_pos c3, if_pos rfl]
    by_cases ct : t = 3
    · rw [if_pos ct, if_pos ct, if_neg c1]
      simp only [value_One.j0]
      rw [if_neg c1, if_neg c2, if_pos c3]; rfl
    · rw [if_neg ct, if_neg ct]; rfl
  by_cases c4 : isOnes w.toList = true
  · rw [oneR_num c4 c1, if_pos c4, if_pos rfl]
    by_cases ct : t = 1
    · rw [if_pos ct, if_pos ct, if_neg c1]
      simp only [value_One.j0]
      rw [if_neg c1, if_neg c2, if_neg c3]
      unfold numS
      by_cases d1 : w.toList = [105, 56]
      · rw [if_pos d1, if_pos d1, wrap_i8, w64 (by unfold I64; omega)]; rfl
      rw [if_neg d1, if_neg d1]
      by_cases d2 : w.toList = [105, 49, 54]
      · rw [if_pos d2, if_pos d2, wrap_i16, w64 (by unfold I64; omega)]; rfl
      rw [if_neg d2, if_neg d2]
      by_cases d3 : w.toList = [105, 51, 50]
      · rw [if_pos d3, if_pos d3, wrap32_I64, w64 (by unfold I64; omega)]; rfl
      rw [if_neg d3, if_neg d3]
      by_cases d4 : w.toList = [117, 56]
      · rw [if_pos d4, if_pos d4]; rfl
      rw [if_neg d4, if_neg d4]
      by_cases d5 : w.toList = [117, 49, 54]
      · rw [if_pos d5, if_pos d5, wrap_u16, w64 (by unfold I64; omega)]; rfl
      rw [if_neg d5, if_neg d5]; rfl
    · rw [if_neg ct, if_neg ct]; rfl
  · rw [oneR_no c4 c2 c3, if_neg c4, if_neg c2, if_neg c3]; rfl
end Go.Proofs.Ytahcnpjgbhpbeaa.Pure
