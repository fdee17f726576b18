/- The document's example; Ints and Strs that fit. -/
import Derived.Test.YtahcnpjgbhpbeaaVc
import Derived.Test.YtahcnpjgbhpbeaaPVx5
namespace Go.Proofs.Ytahcnpjgbhpbeaa.Pure
open Go.RowKit Go.Proofs.Ytahcnpjgbhpbeaa.PV Go.Proofs.YtahcnpjgbhpbeaaW.PrintWords Go.Proofs.YtahcnpjgbhpbeaaW.PrintLast Go.Proofs.YtahcnpjgbhpbeaaW.PrintMore Go.Proofs.YtahcnpjgbhpbeaaW.Own
set_option linter.unusedVariables false
set_option linter.unusedSimpArgs false
theorem fits_int (n : Int) (h : I64 n) : Fits 1 n ⟨#[]⟩ := ⟨h, by decide, fun _ => by rw [ByteArray.toList_eq], fun h => by omega⟩
theorem fits_str (s : ByteArray) (h : s.size ≤ 140737488351232) : Fits 3 0 s := ⟨by unfold I64; omega, h, fun h => by omega, fun _ => rfl⟩
theorem two_int (w : ByteArray) (L : List UInt8) (hL : w = ⟨L.toArray⟩) (h : isInts L = true) (a b : Int) (s t : ByteArray) : twoR w.toList 1 a s 1 b t = intsR L a b := by
  rw [hL, toL]; unfold twoR; rw [if_pos h, if_pos ⟨rfl, rfl⟩]
theorem awake_f (k : Nat) : sacristanlaw01_awake.f (k + 9) = some true := by
  unfold sacristanlaw01_awake.f
  have h := vtwo ⟨#[115, 104, 108]⟩ 1 1 ⟨#[]⟩ 1 63 ⟨#[]⟩ (fits_int 1 (by unfold I64; omega)) (fits_int 63 (by unfold I64; omega)) k
  simp only [value_Of.f, Option.bind_some]
  rw [h, two_int _ [115, 104, 108] rfl (by decide)]
  have e : intsR [115, 104, 108] 1 63 = okv (-9223372036854775808) := by
    unfold intsR shlS
    rw [if_neg (by decide), if_neg (by decide), if_neg (by decide), if_neg (by decide), if_neg (by decide), if_neg (by decide), if_neg (by decide), if_neg (by decide), if_pos rfl, if_neg (by decide)]
    have : (1 : Int) * 2 ^ (63 : Int).toNat = 9223372036854775808 := by decide
    rw [this, show wrap64 9223372036854775808 = -9223372036854775808 by (unfold wrap64; omega)]
  rw [e]; rfl
end Go.Proofs.Ytahcnpjgbhpbeaa.Pure
