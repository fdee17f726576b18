/- What was made narrow stays as it is when made so again, and with and without a sign it has the same lowest bits: for every input. -/
import Derived.Test.YtahcnpjgbhpbeaaVe
import Derived.Test.YtahcnpjgbhpbeaaVf
import Derived.Test.YtahcnpjgbhpbeaaPVx15
namespace Go.Proofs.Ytahcnpjgbhpbeaa.Pure
open Go.RowKit Go.Proofs.Ytahcnpjgbhpbeaa.PV Go.Proofs.YtahcnpjgbhpbeaaW.PrintWords Go.Proofs.YtahcnpjgbhpbeaaW.PrintLast Go.Proofs.YtahcnpjgbhpbeaaW.PrintMore Go.Proofs.YtahcnpjgbhpbeaaW.Own
set_option linter.unusedVariables false
set_option linter.unusedSimpArgs false
/-! ### Narrow -/
theorem one_num (L : List UInt8) (h : isOnes L = true) (h1 : L ≠ [110, 101, 103]) (w : ByteArray) (hw : w.toList = L) (a : Int) (s : ByteArray) : oneR w.toList 1 a s = okv (numS L a) := by
  rw [hw, oneR_num h h1, if_pos rfl]
theorem numS_I64 (L : List UInt8) (a : Int) : I64 (numS L a) := by
  unfold numS I64
  split
  · omega
  split
  · omega
  split
  · omega
  split
  · omega
  split
  · omega
  · omega
theorem narrow_go (x : ByteArray) (a : Int) (ha : I64 a) (Li Lu : List UInt8) (hi : ((⟨#[105]⟩ : ByteArray) ++ x).toList = Li) (hu : ((⟨#[117]⟩ : ByteArray) ++ x).toList = Lu)
    (oi : isOnes Li = true) (ou : isOnes Lu = true) (ni : Li ≠ [110, 101, 103]) (nu : Lu ≠ [110, 101, 103]) (hx : 1 + x.size ≤ 9223372036854775807)
    (p1 : numS Li (numS Li a) = numS Li a) (p2 : numS Lu (numS Lu a) = numS Lu a) (p3 : numS Lu (numS Li a) = numS Lu a) (p4 : numS Li (numS Lu a) = numS Li a) (p5 : numS Lu a ≥ 0) (k : Nat) :
    ((value_Of.f a).bind fun bt584 => ((value_One.f (k + 20) ((⟨#[105]⟩ : ByteArray) ++ x) bt584.1 bt584.2.1 bt584.2.2).bind fun bt587 => ((value_Of.f a).bind fun bt592 => ((value_One.f (k + 20) ((⟨#[117]⟩ : ByteArray) ++ x) bt592.1 bt592.2.1 bt592.2.2).bind fun bt595 => (if bt587.2.2.2 = 0 then (sacristanlaw01_ValueNarrow.j0 (k + 20) x (bt595.2.2.2 != 0) bt587.1 bt587.2.1 bt587.2.2.1 bt595.1 bt595.2.1 bt595.2.2.1) else (sacristanlaw01_ValueNarrow.j0 (k + 20) x true bt587.1 bt587.2.1 bt587.2.2.1 bt595.1 bt595.2.1 bt595.2.2.1)))))) = some true := by
  have fa := fits_int a ha
  have fi := fits_int (numS Li a) (numS_I64 _ _)
  have fu := fits_int (numS Lu a) (numS_I64 _ _)
  simp only [value_Of.f, Option.bind_some]
  rw [vone _ 1 a _ fa (k + 17), one_num Li oi ni _ hi]
  simp only [Option.bind_some, okv]
  rw [vone _ 1 a _ fa (k + 17), one_num Lu ou nu _ hu]
  simp only [Option.bind_some, okv, if_true, bne_self_eq_false]
  simp only [sacristanlaw01_ValueNarrow.j0, Bool.false_eq_true, if_false]
  rw [if_pos hx, vone _ 1 _ _ fi (k + 16), one_num Li oi ni _ hi, p1, vone _ 1 _ _ fu (k + 16), one_num Lu ou nu _ hu, p2, vone _ 1 _ _ fi (k + 16), one_num Lu ou nu _ hu, p3, vone _ 1 _ _ fu (k + 16), one_num Li oi ni _ hi, p4]
  simp only [Option.bind_some, okv, beq_self_eq_true, Bool.and_self, if_true]
  rw [if_pos p5, awake_f (k + 10)]; rfl
theorem ValueNarrow : sacristanlaw01_ValueNarrow.Pure := by
  intro a0 a1 h0 h1
  have u0 := u8_of_wf h0
  have i1 := I64.of_wf h1
  have hc := i1
  obtain ⟨_, _⟩ := hc
  refine ⟨100 + 20, ?_⟩
  unfold sacristanlaw01_ValueNarrow.f
  simp only [Option.bind_some]
  have m0 : 0 ≤ Int.tmod a0 3 := Int.tmod_nonneg _ u0.1
  have m1 : Int.tmod a0 3 < 3 := Int.tmod_lt_of_pos _ (by decide)
  rw [if_pos m0, if_pos (by simp only [List.length_cons, List.length_nil]; omega)]
  have hn : Int.tmod a0 3 = 0 ∨ Int.tmod a0 3 = 1 ∨ Int.tmod a0 3 = 2 := by omega
  rcases hn with hn | hn | hn
  · rw [hn]
    have e : rdOf ByteArray.empty [(⟨#[56]⟩ : ByteArray), (⟨#[49, 54]⟩ : ByteArray), (⟨#[51, 50]⟩ : ByteArray)] 0 = ⟨#[56]⟩ := rfl
    rw [e, if_pos (by decide)]
    exact narrow_go _ a1 i1 [105, 56] [117, 56] (by rw [ByteArray.toList_eq]; rfl) (by rw [ByteArray.toList_eq]; rfl) (by decide) (by decide) (by decide) (by decide) (by decide)
      (show ((a1 + 128) % 256 - 128 + 128) % 256 - 128 = (a1 + 128) % 256 - 128 by omega) (show a1 % 256 % 256 = a1 % 256 by omega) (show ((a1 + 128) % 256 - 128) % 256 = a1 % 256 by omega) (show (a1 % 256 + 128) % 256 - 128 = (a1 + 128) % 256 - 128 by omega) (show a1 % 256 ≥ 0 by omega) 100
  · rw [hn]
    have e : rdOf ByteArray.empty [(⟨#[56]⟩ : ByteArray), (⟨#[49, 54]⟩ : ByteArray), (⟨#[51, 50]⟩ : ByteArray)] 1 = ⟨#[49, 54]⟩ := rfl
    rw [e, if_pos (by decide)]
    exact narrow_go _ a1 i1 [105, 49, 54] [117, 49, 54] (by rw [ByteArray.toList_eq]; rfl) (by rw [ByteArray.toList_eq]; rfl) (by decide) (by decide) (by decide) (by decide) (by decide)
      (show ((a1 + 32768) % 65536 - 32768 + 32768) % 65536 - 32768 = (a1 + 32768) % 65536 - 32768 by omega) (show a1 % 65536 % 65536 = a1 % 65536 by omega) (show ((a1 + 32768) % 65536 - 32768) % 65536 = a1 % 65536 by omega) (show (a1 % 65536 + 32768) % 65536 - 32768 = (a1 + 32768) % 65536 - 32768 by omega) (show a1 % 65536 ≥ 0 by omega) 100
  · rw [hn]
    have e : rdOf ByteArray.empty [(⟨#[56]⟩ : ByteArray), (⟨#[49, 54]⟩ : ByteArray), (⟨#[51, 50]⟩ : ByteArray)] 2 = ⟨#[51, 50]⟩ := rfl
    rw [e, if_pos (by decide)]
    exact narrow_go _ a1 i1 [105, 51, 50] [117, 51, 50] (by rw [ByteArray.toList_eq]; rfl) (by rw [ByteArray.toList_eq]; rfl) (by decide) (by decide) (by decide) (by decide) (by decide)
      (show ((a1 + 2147483648) % 4294967296 - 2147483648 + 2147483648) % 4294967296 - 2147483648 = (a1 + 2147483648) % 4294967296 - 2147483648 by omega) (show a1 % 4294967296 % 4294967296 = a1 % 4294967296 by omega) (show ((a1 + 2147483648) % 4294967296 - 2147483648) % 4294967296 = a1 % 4294967296 by omega) (show (a1 % 4294967296 + 2147483648) % 4294967296 - 2147483648 = (a1 + 2147483648) % 4294967296 - 2147483648 by omega) (show a1 % 4294967296 ≥ 0 by omega) 100
end Go.Proofs.Ytahcnpjgbhpbeaa.Pure
