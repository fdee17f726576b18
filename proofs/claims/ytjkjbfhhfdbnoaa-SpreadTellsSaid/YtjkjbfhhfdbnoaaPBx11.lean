-- Own text: made by this session's variant of the printer (wip/mkpp.py); Lean checks it.
import Derived.Test.YtjkjbfhhfdbnoaaPBx0
import Derived.Test.YtjkjbfhhfdbnoaaPBx9
import Derived.Test.YtjkjbfhhfdbnoaaPBx10
namespace Go.Proofs.Ytjkjbfhhfdbnoaa.PB
open Go.RowKit Go.Proofs.YtjkjbfhhfdbnoaaW.PrintWords Go.Proofs.YtjkjbfhhfdbnoaaW.PrintLast Go.Proofs.YtjkjbfhhfdbnoaaW.PrintMore Go.Proofs.YtjkjbfhhfdbnoaaW.Own
attribute [local go_sem high] own_gtr own_leq own_geq
attribute [local go_sem] max2_int min2_int max_two min_two max_three min_three max_four min_four   -- for this text's walks alone
set_option linter.unusedVariables false
set_option linter.unusedSimpArgs false

/-! ### sacristanref01_ints: function 92 -/
mutual
def sacristanref01_ints.j10 : Nat → ByteArray → Int → Int → Option (Int × Int × ByteArray × Int)
  | 0, _, _, _ => none
  | k + 1, x0, x1, x2 => (sacristanref01_bitwise.f k x0 x1 x2).bind fun t258 => ((sacristanref01_Int.f t258).bind fun bt259 => (some (bt259.1, bt259.2.1, bt259.2.2, 0)))
def sacristanref01_ints.j0 : Nat → Int → Int → Bool → Int → Int → ByteArray → Option (Int × Int × ByteArray × Int)
  | 0, _, _, _, _, _, _ => none
  | k + 1, x1, x2, x30, x237000, x237001, x237002 => if x30 = true then (some (x237000, x237001, x237002, 3)) else ((sacristanref01_Int.f (wrap64 (x1 + x2))).bind fun bt237 => (some (bt237.1, bt237.2.1, bt237.2.2, 0)))
def sacristanref01_ints.j1 : Nat → Int → Int → Bool → Int → Int → ByteArray → Option (Int × Int × ByteArray × Int)
  | 0, _, _, _, _, _, _ => none
  | k + 1, x1, x2, x55, x237000, x237001, x237002 => if x55 = true then (some (x237000, x237001, x237002, 3)) else ((sacristanref01_Int.f (wrap64 (x1 - x2))).bind fun bt240 => (some (bt240.1, bt240.2.1, bt240.2.2, 0)))
def sacristanref01_ints.j2 : Nat → Int → Int → Bool → Int → Int → ByteArray → Option (Int × Int × ByteArray × Int)
  | 0, _, _, _, _, _, _ => none
  | k + 1, x1, x2, x68, x237000, x237001, x237002 => if x68 = true then ((sacristanref01_Int.f 0).bind fun bt243 => (some (bt243.1, bt243.2.1, bt243.2.2, 0))) else (if x1 = (-1) then (if x2 = (-9223372036854775808) then (sacristanref01_ints.j3 k x1 x2 true x237000 x237001 x237002) else (if x2 = (-1) then (sacristanref01_ints.j3 k x1 x2 (x1 == (-9223372036854775808)) x237000 x237001 x237002) else (sacristanref01_ints.j3 k x1 x2 false x237000 x237001 x237002))) else (if x2 = (-1) then (sacristanref01_ints.j3 k x1 x2 (x1 == (-9223372036854775808)) x237000 x237001 x237002) else (sacristanref01_ints.j3 k x1 x2 false x237000 x237001 x237002)))
def sacristanref01_ints.j3 : Nat → Int → Int → Bool → Int → Int → ByteArray → Option (Int × Int × ByteArray × Int)
  | 0, _, _, _, _, _, _ => none
  | k + 1, x1, x2, x83, x237000, x237001, x237002 => if x83 = true then (some (x237000, x237001, x237002, 3)) else (if x1 = (-9223372036854775808) then (if x2 = 1 then (if x2 = (-9223372036854775808) then (sacristanref01_ints.j4 k x1 x2 (x1 != 1) x237000 x237001 x237002) else (sacristanref01_ints.j4 k x1 x2 false x237000 x237001 x237002)) else (sacristanref01_ints.j4 k x1 x2 true x237000 x237001 x237002)) else (if x2 = (-9223372036854775808) then (sacristanref01_ints.j4 k x1 x2 (x1 != 1) x237000 x237001 x237002) else (sacristanref01_ints.j4 k x1 x2 false x237000 x237001 x237002)))
def sacristanref01_ints.j4 : Nat → Int → Int → Bool → Int → Int → ByteArray → Option (Int × Int × ByteArray × Int)
  | 0, _, _, _, _, _, _ => none
  | k + 1, x1, x2, x98, x237000, x237001, x237002 => if x98 = true then (some (x237000, x237001, x237002, 3)) else (if x1 = (-9223372036854775808) then (sacristanref01_ints.j5 k x1 x2 false x237000 x237001 x237002) else (if x2 = (-9223372036854775808) then (sacristanref01_ints.j5 k x1 x2 false x237000 x237001 x237002) else (if x2 = 0 then (none) else (sacristanref01_ints.j5 k x1 x2 ((wrap64 (Int.tdiv (wrap64 (x1 * x2)) x2)) != x1) x237000 x237001 x237002))))
def sacristanref01_ints.j5 : Nat → Int → Int → Bool → Int → Int → ByteArray → Option (Int × Int × ByteArray × Int)
  | 0, _, _, _, _, _, _ => none
  | k + 1, x1, x2, x114, x237000, x237001, x237002 => if x114 = true then (some (x237000, x237001, x237002, 3)) else ((sacristanref01_Int.f (wrap64 (x1 * x2))).bind fun bt246 => (some (bt246.1, bt246.2.1, bt246.2.2, 0)))
def sacristanref01_ints.j6 : Nat → ByteArray → Int → Int → ByteArray → Bool → Int → Int → ByteArray → Option (Int × Int × ByteArray × Int)
  | 0, _, _, _, _, _, _, _, _ => none
  | k + 1, x0, x1, x2, x10, x120, x237000, x237001, x237002 => if x120 = true then (if x2 = 0 then (some (x237000, x237001, x237002, 4)) else (if x0.toList = ([37] : List UInt8) then (sacristanref01_ints.j7 k x0 x1 x2 (x2 == (-1)) x237000 x237001 x237002) else (sacristanref01_ints.j7 k x0 x1 x2 false x237000 x237001 x237002))) else (if x10.toList = ([115, 104, 108] : List UInt8) then (sacristanref01_ints.j9 k x0 x1 x2 (x10.toList == ([115, 104, 108] : List UInt8)) x237000 x237001 x237002) else (if x10.toList = ([115, 104, 114] : List UInt8) then (sacristanref01_ints.j9 k x0 x1 x2 (x10.toList == ([115, 104, 114] : List UInt8)) x237000 x237001 x237002) else (sacristanref01_ints.j9 k x0 x1 x2 (x10.toList == ([117, 115, 104, 114] : List UInt8)) x237000 x237001 x237002)))
def sacristanref01_ints.j7 : Nat → ByteArray → Int → Int → Bool → Int → Int → ByteArray → Option (Int × Int × ByteArray × Int)
  | 0, _, _, _, _, _, _, _ => none
  | k + 1, x0, x1, x2, x131, x237000, x237001, x237002 => if x131 = true then ((sacristanref01_Int.f 0).bind fun bt249 => (some (bt249.1, bt249.2.1, bt249.2.2, 0))) else (if x2 = (-1) then (sacristanref01_ints.j8 k x0 x1 x2 (x1 == (-9223372036854775808)) x237000 x237001 x237002) else (sacristanref01_ints.j8 k x0 x1 x2 false x237000 x237001 x237002))
def sacristanref01_ints.j8 : Nat → ByteArray → Int → Int → Bool → Int → Int → ByteArray → Option (Int × Int × ByteArray × Int)
  | 0, _, _, _, _, _, _, _ => none
  | k + 1, x0, x1, x2, x138, x237000, x237001, x237002 => if x138 = true then (some (x237000, x237001, x237002, 3)) else (if x0.toList = ([47] : List UInt8) then (if x2 = 0 then (none) else ((sacristanref01_Int.f (wrap64 (Int.tdiv x1 x2))).bind fun bt252 => (some (bt252.1, bt252.2.1, bt252.2.2, 0)))) else (if x2 = 0 then (none) else ((sacristanref01_Int.f (wrap64 (x1 - (wrap64 ((wrap64 (Int.tdiv x1 x2)) * x2))))).bind fun bt255 => (some (bt255.1, bt255.2.1, bt255.2.2, 0)))))
def sacristanref01_ints.j9 : Nat → ByteArray → Int → Int → Bool → Int → Int → ByteArray → Option (Int × Int × ByteArray × Int)
  | 0, _, _, _, _, _, _, _ => none
  | k + 1, x0, x1, x2, x154, x237000, x237001, x237002 => if x154 = true then (if x2 < 0 then (some (x237000, x237001, x237002, 5)) else (if x2 > 63 then (some (x237000, x237001, x237002, 5)) else (sacristanref01_ints.j10 k x0 x1 x2))) else (sacristanref01_ints.j10 k x0 x1 x2)
end
def sacristanref01_ints.f (k : Nat) (a0 : ByteArray) (a1 : Int) (a2 : Int) : Option (Int × Int × ByteArray × Int) := if a0.toList = ([43] : List UInt8) then (if a2 > 0 then (if a1 > (wrap64 (9223372036854775807 - a2)) then (sacristanref01_ints.j0 k a1 a2 true 0 0 (⟨#[]⟩ : ByteArray)) else (if a2 < 0 then (sacristanref01_ints.j0 k a1 a2 (decide (a1 < (wrap64 ((-9223372036854775808) - a2)))) 0 0 (⟨#[]⟩ : ByteArray)) else (sacristanref01_ints.j0 k a1 a2 false 0 0 (⟨#[]⟩ : ByteArray)))) else (if a2 < 0 then (sacristanref01_ints.j0 k a1 a2 (decide (a1 < (wrap64 ((-9223372036854775808) - a2)))) 0 0 (⟨#[]⟩ : ByteArray)) else (sacristanref01_ints.j0 k a1 a2 false 0 0 (⟨#[]⟩ : ByteArray)))) else (if a0.toList = ([45] : List UInt8) then (if a2 < 0 then (if a1 > (wrap64 (9223372036854775807 + a2)) then (sacristanref01_ints.j1 k a1 a2 true 0 0 (⟨#[]⟩ : ByteArray)) else (if a2 > 0 then (sacristanref01_ints.j1 k a1 a2 (decide (a1 < (wrap64 ((-9223372036854775808) + a2)))) 0 0 (⟨#[]⟩ : ByteArray)) else (sacristanref01_ints.j1 k a1 a2 false 0 0 (⟨#[]⟩ : ByteArray)))) else (if a2 > 0 then (sacristanref01_ints.j1 k a1 a2 (decide (a1 < (wrap64 ((-9223372036854775808) + a2)))) 0 0 (⟨#[]⟩ : ByteArray)) else (sacristanref01_ints.j1 k a1 a2 false 0 0 (⟨#[]⟩ : ByteArray)))) else (if a0.toList = ([42] : List UInt8) then (if a1 = 0 then (sacristanref01_ints.j2 k a1 a2 true 0 0 (⟨#[]⟩ : ByteArray)) else (sacristanref01_ints.j2 k a1 a2 (a2 == 0) 0 0 (⟨#[]⟩ : ByteArray))) else (if a0.toList = ([47] : List UInt8) then (sacristanref01_ints.j6 k a0 a1 a2 a0 (a0.toList == ([47] : List UInt8)) 0 0 (⟨#[]⟩ : ByteArray)) else (sacristanref01_ints.j6 k a0 a1 a2 a0 (a0.toList == ([37] : List UInt8)) 0 0 (⟨#[]⟩ : ByteArray)))))
theorem sacristanref01_ints.mono_l : ∀ k, (∀ y0 y1 y2, LeO (sacristanref01_ints.j10 k y0 y1 y2) (sacristanref01_ints.j10 (k + 1) y0 y1 y2)) ∧ (∀ y0 y1 y2 y3 y4 y5, LeO (sacristanref01_ints.j0 k y0 y1 y2 y3 y4 y5) (sacristanref01_ints.j0 (k + 1) y0 y1 y2 y3 y4 y5)) ∧ (∀ y0 y1 y2 y3 y4 y5, LeO (sacristanref01_ints.j1 k y0 y1 y2 y3 y4 y5) (sacristanref01_ints.j1 (k + 1) y0 y1 y2 y3 y4 y5)) ∧ (∀ y0 y1 y2 y3 y4 y5, LeO (sacristanref01_ints.j2 k y0 y1 y2 y3 y4 y5) (sacristanref01_ints.j2 (k + 1) y0 y1 y2 y3 y4 y5)) ∧ (∀ y0 y1 y2 y3 y4 y5, LeO (sacristanref01_ints.j3 k y0 y1 y2 y3 y4 y5) (sacristanref01_ints.j3 (k + 1) y0 y1 y2 y3 y4 y5)) ∧ (∀ y0 y1 y2 y3 y4 y5, LeO (sacristanref01_ints.j4 k y0 y1 y2 y3 y4 y5) (sacristanref01_ints.j4 (k + 1) y0 y1 y2 y3 y4 y5)) ∧ (∀ y0 y1 y2 y3 y4 y5, LeO (sacristanref01_ints.j5 k y0 y1 y2 y3 y4 y5) (sacristanref01_ints.j5 (k + 1) y0 y1 y2 y3 y4 y5)) ∧ (∀ y0 y1 y2 y3 y4 y5 y6 y7, LeO (sacristanref01_ints.j6 k y0 y1 y2 y3 y4 y5 y6 y7) (sacristanref01_ints.j6 (k + 1) y0 y1 y2 y3 y4 y5 y6 y7)) ∧ (∀ y0 y1 y2 y3 y4 y5 y6, LeO (sacristanref01_ints.j7 k y0 y1 y2 y3 y4 y5 y6) (sacristanref01_ints.j7 (k + 1) y0 y1 y2 y3 y4 y5 y6)) ∧ (∀ y0 y1 y2 y3 y4 y5 y6, LeO (sacristanref01_ints.j8 k y0 y1 y2 y3 y4 y5 y6) (sacristanref01_ints.j8 (k + 1) y0 y1 y2 y3 y4 y5 y6)) ∧ (∀ y0 y1 y2 y3 y4 y5 y6, LeO (sacristanref01_ints.j9 k y0 y1 y2 y3 y4 y5 y6) (sacristanref01_ints.j9 (k + 1) y0 y1 y2 y3 y4 y5 y6))
  | 0 => ⟨fun _ _ _ r h => by simp [sacristanref01_ints.j10] at h, fun _ _ _ _ _ _ r h => by simp [sacristanref01_ints.j0] at h, fun _ _ _ _ _ _ r h => by simp [sacristanref01_ints.j1] at h, fun _ _ _ _ _ _ r h => by simp [sacristanref01_ints.j2] at h, fun _ _ _ _ _ _ r h => by simp [sacristanref01_ints.j3] at h, fun _ _ _ _ _ _ r h => by simp [sacristanref01_ints.j4] at h, fun _ _ _ _ _ _ r h => by simp [sacristanref01_ints.j5] at h, fun _ _ _ _ _ _ _ _ r h => by simp [sacristanref01_ints.j6] at h, fun _ _ _ _ _ _ _ r h => by simp [sacristanref01_ints.j7] at h, fun _ _ _ _ _ _ _ r h => by simp [sacristanref01_ints.j8] at h, fun _ _ _ _ _ _ _ r h => by simp [sacristanref01_ints.j9] at h⟩
  | k + 1 => by
    obtain ⟨ih0, ih1, ih2, ih3, ih4, ih5, ih6, ih7, ih8, ih9, ih10⟩ := sacristanref01_ints.mono_l k
    refine ⟨?_, ?_, ?_, ?_, ?_, ?_, ?_, ?_, ?_, ?_, ?_⟩
    · intro y0 y1 y2
      unfold sacristanref01_ints.j10
      repeat' first | (with_reducible exact sacristanref01_bitwise.mono _ _ _ _) | (with_reducible exact LeO.refl _) | (with_reducible refine LeO.bind ?_ (fun _ => ?_))
    · intro y0 y1 y2 y3 y4 y5
      unfold sacristanref01_ints.j0
      repeat' (with_reducible exact LeO.refl _)
    · intro y0 y1 y2 y3 y4 y5
      unfold sacristanref01_ints.j1
      repeat' (with_reducible exact LeO.refl _)
    · intro y0 y1 y2 y3 y4 y5
      unfold sacristanref01_ints.j2
      repeat' first | (with_reducible exact ih4 _ _ _ _ _ _) | (with_reducible exact LeO.refl _) | (with_reducible refine LeO.ite ?_ ?_)
    · intro y0 y1 y2 y3 y4 y5
      unfold sacristanref01_ints.j3
      repeat' first | (with_reducible exact ih5 _ _ _ _ _ _) | (with_reducible exact LeO.refl _) | (with_reducible refine LeO.ite ?_ ?_)
    · intro y0 y1 y2 y3 y4 y5
      unfold sacristanref01_ints.j4
      repeat' first | (with_reducible exact ih6 _ _ _ _ _ _) | (with_reducible exact LeO.refl _) | (with_reducible refine LeO.ite ?_ ?_)
    · intro y0 y1 y2 y3 y4 y5
      unfold sacristanref01_ints.j5
      repeat' (with_reducible exact LeO.refl _)
    · intro y0 y1 y2 y3 y4 y5 y6 y7
      unfold sacristanref01_ints.j6
      repeat' first | (with_reducible exact ih8 _ _ _ _ _ _ _) | (with_reducible exact ih10 _ _ _ _ _ _ _) | (with_reducible exact LeO.refl _) | (with_reducible refine LeO.ite ?_ ?_)
    · intro y0 y1 y2 y3 y4 y5 y6
      unfold sacristanref01_ints.j7
      repeat' first | (with_reducible exact ih9 _ _ _ _ _ _ _) | (with_reducible exact LeO.refl _) | (with_reducible refine LeO.ite ?_ ?_)
    · intro y0 y1 y2 y3 y4 y5 y6
      unfold sacristanref01_ints.j8
      repeat' (with_reducible exact LeO.refl _)
    · intro y0 y1 y2 y3 y4 y5 y6
      unfold sacristanref01_ints.j9
      repeat' first | (with_reducible exact ih0 _ _ _) | (with_reducible exact LeO.refl _) | (with_reducible refine LeO.ite ?_ ?_)
theorem sacristanref01_ints.mono : ∀ a0 a1 a2 k, LeO (sacristanref01_ints.f k a0 a1 a2) (sacristanref01_ints.f (k + 1) a0 a1 a2) := by
  intro a0 a1 a2 k
  obtain ⟨ih0, ih1, ih2, ih3, ih4, ih5, ih6, ih7, ih8, ih9, ih10⟩ := sacristanref01_ints.mono_l k
  unfold sacristanref01_ints.f
  repeat' first | (with_reducible exact ih1 _ _ _ _ _ _) | (with_reducible exact ih2 _ _ _ _ _ _) | (with_reducible exact ih3 _ _ _ _ _ _) | (with_reducible exact ih7 _ _ _ _ _ _ _ _) | (with_reducible refine LeO.ite ?_ ?_)
set_option maxHeartbeats 8000000 in
set_option maxRecDepth 100000 in
theorem sacristanref01_ints.calls (k : Nat) (a0 : ByteArray) (a1 : Int) (a2 : Int) (r1 : Int) (r2 : Int) (r3 : ByteArray) (r4 : Int) (w : World) (h : sacristanref01_ints.f k a0 a1 a2 = some (r1, r2, r3, r4)) :
    Calls Try.prog 92 #[.string a0, .int .i64 a1, .int .i64 a2] w fun e w' => e = .returned (.tuple #[.agg #[.int .u8 r1, .int .i64 r2, .string r3], .int .i64 r4]) ∧ Below w.heap.size w w' := by
  have hu37 := Try.underlying37
  have HB := Aside0.mk (Below.refl w.heap.size w)
  have H : (if a0.toList = ([43] : List UInt8) then (if a2 > 0 then (if a1 > (wrap64 (9223372036854775807 - a2)) then (sacristanref01_ints.j0 k a1 a2 true 0 0 (⟨#[]⟩ : ByteArray)) else (if a2 < 0 then (sacristanref01_ints.j0 k a1 a2 (decide (a1 < (wrap64 ((-9223372036854775808) - a2)))) 0 0 (⟨#[]⟩ : ByteArray)) else (sacristanref01_ints.j0 k a1 a2 false 0 0 (⟨#[]⟩ : ByteArray)))) else (if a2 < 0 then (sacristanref01_ints.j0 k a1 a2 (decide (a1 < (wrap64 ((-9223372036854775808) - a2)))) 0 0 (⟨#[]⟩ : ByteArray)) else (sacristanref01_ints.j0 k a1 a2 false 0 0 (⟨#[]⟩ : ByteArray)))) else (if a0.toList = ([45] : List UInt8) then (if a2 < 0 then (if a1 > (wrap64 (9223372036854775807 + a2)) then (sacristanref01_ints.j1 k a1 a2 true 0 0 (⟨#[]⟩ : ByteArray)) else (if a2 > 0 then (sacristanref01_ints.j1 k a1 a2 (decide (a1 < (wrap64 ((-9223372036854775808) + a2)))) 0 0 (⟨#[]⟩ : ByteArray)) else (sacristanref01_ints.j1 k a1 a2 false 0 0 (⟨#[]⟩ : ByteArray)))) else (if a2 > 0 then (sacristanref01_ints.j1 k a1 a2 (decide (a1 < (wrap64 ((-9223372036854775808) + a2)))) 0 0 (⟨#[]⟩ : ByteArray)) else (sacristanref01_ints.j1 k a1 a2 false 0 0 (⟨#[]⟩ : ByteArray)))) else (if a0.toList = ([42] : List UInt8) then (if a1 = 0 then (sacristanref01_ints.j2 k a1 a2 true 0 0 (⟨#[]⟩ : ByteArray)) else (sacristanref01_ints.j2 k a1 a2 (a2 == 0) 0 0 (⟨#[]⟩ : ByteArray))) else (if a0.toList = ([47] : List UInt8) then (sacristanref01_ints.j6 k a0 a1 a2 a0 (a0.toList == ([47] : List UInt8)) 0 0 (⟨#[]⟩ : ByteArray)) else (sacristanref01_ints.j6 k a0 a1 a2 a0 (a0.toList == ([37] : List UInt8)) 0 0 (⟨#[]⟩ : ByteArray)))))) = some (r1, r2, r3, r4) := h
  clear h
  have HC4 := Aside0.mk H
  clear H
  go_enter Try.func92, Try.ntmps92
  go_upto_block 0 with (first | ((with_reducible refine gate_dst (N := 6) rfl ?_); refine box_event ?hg (N := 6) ?hd (cs := #[.int .u8 0, .int .i64 0, .string (⟨#[]⟩ : ByteArray)]) (t := 37) ?hr ?_; (case hd => rfl); (case hg => rfl); (case hr => ((go_simp; done))); intro gb235 hg w5 hbox hb; have n0_ := Aside0.mk (below_step (by repeat ((with_reducible exact HB.out))) hb); have n1_ := Aside0.mk (hbox); have n2_ := Aside0.mk ((by rw [hg]; exact (below_size (by repeat ((with_reducible exact HB.out)))) : w.heap.size ≤ gb235)); have n3_ := Aside0.mk ((by rw [hg]; exact (below_size (by repeat ((with_reducible exact HB.out)))) : w.heap.size ≤ gb235)); clear HB; have HB := n0_; have BK235 := n1_; have GW235 := n2_; have GE235 := n3_; clear n0_ n1_ n2_ n3_; clear hb hbox hg) | ((with_reducible refine gate_dst (N := 8) rfl ?_); refine box_event ?hg (N := 8) ?hd (cs := #[.int .u8 0, .int .i64 0, .string (⟨#[]⟩ : ByteArray)]) (t := 37) ?hr ?_; (case hd => rfl); (case hg => rfl); (case hr => ((go_simp; done))); intro gb236 hg w6 hbox hb; have n0_ := Aside0.mk (blk_below (g := gb235) (o := .cells #[.int .u8 0, .int .i64 0, .string (⟨#[]⟩ : ByteArray)] 37 (0, 0)) (by (with_reducible repeat (fail)); exact BK235.out) hb); have n1_ := Aside0.mk (below_step (by repeat ((with_reducible exact HB.out))) hb); have n2_ := Aside0.mk (hbox); have n3_ := Aside0.mk ((by rw [hg]; exact (below_size (by repeat ((with_reducible exact HB.out)))) : w.heap.size ≤ gb236)); have n4_ := Aside0.mk ((by rw [hg]; exact (below_size (by repeat ((with_reducible exact HB.out)))) : w.heap.size ≤ gb236)); have n5_ := Aside0.mk ((by rw [hg]; exact Nat.ne_of_lt (blk_lt (g := gb235) (o := .cells #[.int .u8 0, .int .i64 0, .string (⟨#[]⟩ : ByteArray)] 37 (0, 0)) (by (with_reducible repeat (fail)); exact BK235.out)) : gb235 ≠ gb236)); have n6_ := Aside0.mk ((by rw [hg]; exact Nat.ne_of_gt (blk_lt (g := gb235) (o := .cells #[.int .u8 0, .int .i64 0, .string (⟨#[]⟩ : ByteArray)] 37 (0, 0)) (by (with_reducible repeat (fail)); exact BK235.out)) : gb236 ≠ gb235)); clear BK235; clear HB; have BK235 := n0_; have HB := n1_; have BK236 := n2_; have GW236 := n3_; have GE236 := n4_; have NB235_236 := n5_; have NB236_235 := n6_; clear n0_ n1_ n2_ n3_ n4_ n5_ n6_; clear hb hbox hg; have hnb7 := NB236_235.out; have hnc7 := NB235_236.out; have hcz8_0 : w6.cell? ⟨gb236, 0, none⟩ = some (.int .u8 0) := (blk_cell BK236.out 0).trans rfl; have hcz8_1 : w6.cell? ⟨gb236, 1, none⟩ = some (.int .i64 0) := (blk_cell BK236.out 1).trans rfl; have hcz8_2 : w6.cell? ⟨gb236, 2, none⟩ = some (.string (⟨#[]⟩ : ByteArray)) := (blk_cell BK236.out 2).trans rfl; have hfz8_0 := blk_frozen BK236.out 0; have hfz8_1 := blk_frozen BK236.out 1; have hfz8_2 := blk_frozen BK236.out 2))
  go_cut [] (fun wc => ∃ (kq : Nat) (x236000_3 : Int) (x236001_3 : Int) (x236002_3 : ByteArray), Aside0 (sacristanref01_ints.j10 kq a0 a1 a2 = some (r1, r2, r3, r4)) ∧ Aside0 (kq ≤ k) ∧ Aside0 (wc.heap[gb235]? = some (.cells #[.int .u8 x236000_3, .int .i64 x236001_3, .string x236002_3] 37 (0, 0))) ∧ Aside0 (wc.heap[gb236]? = some (.cells #[.int .u8 0, .int .i64 0, .string (⟨#[]⟩ : ByteArray)] 37 (0, 0))) ∧ Aside0 (Below w.heap.size w wc))
  case first =>
    have H := HC4.out
    clear HC4
    by_cases c9 : a0.toList = ([43] : List UInt8)
    · as_aux_lemma =>
      rw [if_pos c9] at H
      have c9b0 : (a0.toList == ([43] : List UInt8)) = true := beq_iff_eq.mpr c9
      have c9b1 : (a0.toList != ([43] : List UInt8)) = false := bne_eq_false_iff_eq.mpr c9
      clear c9
      (skip)
      have HC10 := Aside0.mk H
      clear H
      go_upto_region 4 with (fail)
      go_cut [30] (fun v30 wc => ∃ (kq : Nat) (x30_9 : Bool), v30 = .bool x30_9 ∧ Aside0 (sacristanref01_ints.j0 kq a1 a2 x30_9 0 0 (⟨#[]⟩ : ByteArray) = some (r1, r2, r3, r4)) ∧ Aside0 (kq ≤ k) ∧ Aside0 (wc.heap[gb235]? = some (.cells #[.int .u8 0, .int .i64 0, .string (⟨#[]⟩ : ByteArray)] 37 (0, 0))) ∧ Aside0 (wc.heap[gb236]? = some (.cells #[.int .u8 0, .int .i64 0, .string (⟨#[]⟩ : ByteArray)] 37 (0, 0))) ∧ Aside0 (Below w.heap.size w wc))
      case first =>
        have H := HC10.out
        clear HC10
        by_cases c11 : a2 > 0
        · as_aux_lemma =>
          rw [if_pos c11] at H
          have c11b0 : decide (0 < a2) = true := decide_eq_true c11
          clear c11
          (skip)
          by_cases c12 : a1 > (wrap64 (9223372036854775807 - a2))
          · as_aux_lemma =>
            rw [if_pos c12] at H
            have c12b0 : decide ((wrap64 (9223372036854775807 - a2)) < a1) = true := decide_eq_true c12
            clear c12
            have H' := Aside0.mk H
            clear H
            go_wp2
            go_meet
            case rel => exact ⟨_, (true), (by rfl), H', ⟨by omega⟩, ⟨by (with_reducible repeat (fail)); refine blk_far ?_ NB235_236.out _; (with_reducible repeat (fail)); refine blk_far ?_ NB235_236.out _; (with_reducible repeat (fail)); refine blk_far ?_ NB235_236.out _; (with_reducible repeat (fail)); exact BK235.out⟩, ⟨by (with_reducible repeat (fail)); refine blk_put (cs := #[.int .u8 0, .int .i64 0, .string (⟨#[]⟩ : ByteArray)]) ?_ 2 _ rfl; (with_reducible repeat (fail)); refine blk_put (cs := #[.int .u8 0, .int .i64 0, .string (⟨#[]⟩ : ByteArray)]) ?_ 1 _ rfl; (with_reducible repeat (fail)); refine blk_put (cs := #[.int .u8 0, .int .i64 0, .string (⟨#[]⟩ : ByteArray)]) ?_ 0 _ rfl; (with_reducible repeat (fail)); exact BK236.out⟩, ⟨by repeat ((with_reducible first | exact HB.out | refine below_set ?_ GE236.out))⟩⟩
          · as_aux_lemma =>
            rw [if_neg c12] at H
            have c12b0 : decide ((wrap64 (9223372036854775807 - a2)) < a1) = false := decide_eq_false c12
            clear c12
            by_cases c13 : a2 < 0
            · as_aux_lemma =>
              rw [if_pos c13] at H
              have c13b0 : decide (a2 < 0) = true := decide_eq_true c13
              clear c13
              have H' := Aside0.mk H
              clear H
              go_wp2
              go_meet
              case rel => exact ⟨_, (decide (a1 < (wrap64 ((-9223372036854775808) - a2)))), (by rfl), H', ⟨by omega⟩, ⟨by (with_reducible repeat (fail)); refine blk_far ?_ NB235_236.out _; (with_reducible repeat (fail)); refine blk_far ?_ NB235_236.out _; (with_reducible repeat (fail)); refine blk_far ?_ NB235_236.out _; (with_reducible repeat (fail)); exact BK235.out⟩, ⟨by (with_reducible repeat (fail)); refine blk_put (cs := #[.int .u8 0, .int .i64 0, .string (⟨#[]⟩ : ByteArray)]) ?_ 2 _ rfl; (with_reducible repeat (fail)); refine blk_put (cs := #[.int .u8 0, .int .i64 0, .string (⟨#[]⟩ : ByteArray)]) ?_ 1 _ rfl; (with_reducible repeat (fail)); refine blk_put (cs := #[.int .u8 0, .int .i64 0, .string (⟨#[]⟩ : ByteArray)]) ?_ 0 _ rfl; (with_reducible repeat (fail)); exact BK236.out⟩, ⟨by repeat ((with_reducible first | exact HB.out | refine below_set ?_ GE236.out))⟩⟩
            · as_aux_lemma =>
              rw [if_neg c13] at H
              have c13b0 : decide (a2 < 0) = false := decide_eq_false c13
              clear c13
              have H' := Aside0.mk H
              clear H
              go_wp2
              go_meet
              case rel => exact ⟨_, (false), (by rfl), H', ⟨by omega⟩, ⟨by (with_reducible repeat (fail)); refine blk_far ?_ NB235_236.out _; (with_reducible repeat (fail)); refine blk_far ?_ NB235_236.out _; (with_reducible repeat (fail)); refine blk_far ?_ NB235_236.out _; (with_reducible repeat (fail)); exact BK235.out⟩, ⟨by (with_reducible repeat (fail)); refine blk_put (cs := #[.int .u8 0, .int .i64 0, .string (⟨#[]⟩ : ByteArray)]) ?_ 2 _ rfl; (with_reducible repeat (fail)); refine blk_put (cs := #[.int .u8 0, .int .i64 0, .string (⟨#[]⟩ : ByteArray)]) ?_ 1 _ rfl; (with_reducible repeat (fail)); refine blk_put (cs := #[.int .u8 0, .int .i64 0, .string (⟨#[]⟩ : ByteArray)]) ?_ 0 _ rfl; (with_reducible repeat (fail)); exact BK236.out⟩, ⟨by repeat ((with_reducible first | exact HB.out | refine below_set ?_ GE236.out))⟩⟩
        · as_aux_lemma =>
          rw [if_neg c11] at H
          have c11b0 : decide (0 < a2) = false := decide_eq_false c11
          clear c11
          (skip)
          by_cases c14 : a2 < 0
          · as_aux_lemma =>
            rw [if_pos c14] at H
            have c14b0 : decide (a2 < 0) = true := decide_eq_true c14
            clear c14
            have H' := Aside0.mk H
            clear H
            go_wp2
            go_meet
            case rel => exact ⟨_, (decide (a1 < (wrap64 ((-9223372036854775808) - a2)))), (by rfl), H', ⟨by omega⟩, ⟨by (with_reducible repeat (fail)); refine blk_far ?_ NB235_236.out _; (with_reducible repeat (fail)); refine blk_far ?_ NB235_236.out _; (with_reducible repeat (fail)); refine blk_far ?_ NB235_236.out _; (with_reducible repeat (fail)); exact BK235.out⟩, ⟨by (with_reducible repeat (fail)); refine blk_put (cs := #[.int .u8 0, .int .i64 0, .string (⟨#[]⟩ : ByteArray)]) ?_ 2 _ rfl; (with_reducible repeat (fail)); refine blk_put (cs := #[.int .u8 0, .int .i64 0, .string (⟨#[]⟩ : ByteArray)]) ?_ 1 _ rfl; (with_reducible repeat (fail)); refine blk_put (cs := #[.int .u8 0, .int .i64 0, .string (⟨#[]⟩ : ByteArray)]) ?_ 0 _ rfl; (with_reducible repeat (fail)); exact BK236.out⟩, ⟨by repeat ((with_reducible first | exact HB.out | refine below_set ?_ GE236.out))⟩⟩
          · as_aux_lemma =>
            rw [if_neg c14] at H
            have c14b0 : decide (a2 < 0) = false := decide_eq_false c14
            clear c14
            have H' := Aside0.mk H
            clear H
            go_wp2
            go_meet
            case rel => exact ⟨_, (false), (by rfl), H', ⟨by omega⟩, ⟨by (with_reducible repeat (fail)); refine blk_far ?_ NB235_236.out _; (with_reducible repeat (fail)); refine blk_far ?_ NB235_236.out _; (with_reducible repeat (fail)); refine blk_far ?_ NB235_236.out _; (with_reducible repeat (fail)); exact BK235.out⟩, ⟨by (with_reducible repeat (fail)); refine blk_put (cs := #[.int .u8 0, .int .i64 0, .string (⟨#[]⟩ : ByteArray)]) ?_ 2 _ rfl; (with_reducible repeat (fail)); refine blk_put (cs := #[.int .u8 0, .int .i64 0, .string (⟨#[]⟩ : ByteArray)]) ?_ 1 _ rfl; (with_reducible repeat (fail)); refine blk_put (cs := #[.int .u8 0, .int .i64 0, .string (⟨#[]⟩ : ByteArray)]) ?_ 0 _ rfl; (with_reducible repeat (fail)); exact BK236.out⟩, ⟨by repeat ((with_reducible first | exact HB.out | refine below_set ?_ GE236.out))⟩⟩
      case rest =>
        clear HC10 c9b0 c9b1 hcz8_0 hcz8_1 hcz8_2 hfz8_0 hfz8_1 hfz8_2
        obtain ⟨kq, x30_9, rfl, HA, HJ9, BK235, BK236, HB⟩ := hcut
        cases kq with
        | zero => exact absurd HA.out (by simp [sacristanref01_ints.j0])
        | succ kj9 =>
          have H := HA.out
          clear HA
          simp only [sacristanref01_ints.j0] at H
          by_cases c15 : x30_9 = true
          · subst c15
            have H1 : (some (0, 0, (⟨#[]⟩ : ByteArray), 3)) = some (r1, r2, r3, r4) := by rw [if_pos rfl] at H; exact H
            clear H
            have H := H1
            clear H1
            simp only [Option.some.injEq, Prod.mk.injEq] at H
            obtain ⟨rfl, rfl, rfl, rfl⟩ := H
            have hnb16 := NB236_235.out
            have hnc16 := NB235_236.out
            have hcz17_0 : wc.cell? ⟨gb236, 0, none⟩ = some (.int .u8 0) := (blk_cell BK236.out 0).trans rfl
            have hcz17_1 : wc.cell? ⟨gb236, 1, none⟩ = some (.int .i64 0) := (blk_cell BK236.out 1).trans rfl
            have hcz17_2 : wc.cell? ⟨gb236, 2, none⟩ = some (.string (⟨#[]⟩ : ByteArray)) := (blk_cell BK236.out 2).trans rfl
            have hfz17_0 := blk_frozen BK236.out 0
            have hfz17_1 := blk_frozen BK236.out 1
            have hfz17_2 := blk_frozen BK236.out 2
            have hcz18_0 : wc.cell? ⟨gb235, 0, none⟩ = some (.int .u8 0) := (blk_cell BK235.out 0).trans rfl
            have hcz18_1 : wc.cell? ⟨gb235, 1, none⟩ = some (.int .i64 0) := (blk_cell BK235.out 1).trans rfl
            have hcz18_2 : wc.cell? ⟨gb235, 2, none⟩ = some (.string (⟨#[]⟩ : ByteArray)) := (blk_cell BK235.out 2).trans rfl
            have hfz18_0 := blk_frozen BK235.out 0
            have hfz18_1 := blk_frozen BK235.out 1
            have hfz18_2 := blk_frozen BK235.out 2
            go_wp2
            refine bodyPost_ret (results_ct rfl _ _ gb235 37 #[.int .u8 0, .int .i64 0, .string (⟨#[]⟩ : ByteArray)] (0, 0) _ rfl (by (with_reducible repeat (fail)); refine blk_put (cs := #[.int .u8 0, .int .i64 0, .string (⟨#[]⟩ : ByteArray)]) ?_ 2 _ rfl; (with_reducible repeat (fail)); refine blk_put (cs := #[.int .u8 0, .int .i64 0, .string (⟨#[]⟩ : ByteArray)]) ?_ 1 _ rfl; (with_reducible repeat (fail)); refine blk_put (cs := #[.int .u8 0, .int .i64 0, .string (⟨#[]⟩ : ByteArray)]) ?_ 0 _ rfl; (with_reducible repeat (fail)); exact BK235.out) Try.underlying37 rfl (by kernel_rfl)) rfl ?_
            exact ⟨by rfl, by repeat ((with_reducible first | exact HB.out | refine below_set ?_ GE235.out))⟩
          replace c15 := Bool.eq_false_iff.mpr c15
          subst c15
          have H1 : ((sacristanref01_Int.f (wrap64 (a1 + a2))).bind fun bt237 => (some (bt237.1, bt237.2.1, bt237.2.2, 0))) = some (r1, r2, r3, r4) := by rw [if_neg (show ¬ (false = true) by decide)] at H; exact H
          clear H
          have H := H1
          clear H1
          replace H := Option.bind_eq_some_iff.mp H
          obtain ⟨⟨t237, t238, t239⟩, A190, H⟩ := H
          replace H : (some (t237, t238, t239, 0)) = some (r1, r2, r3, r4) := H
          have A19 := Aside0.mk A190
          clear A190
          simp only [Option.some.injEq, Prod.mk.injEq] at H
          obtain ⟨rfl, rfl, rfl, rfl⟩ := H
          go_wp2_with (((with_reducible refine gate_callee (f := 87) rfl ?_); refine goesL_ (some 35) rfl rfl Try.func87 (by kernel_rfl) rfl #[.int .i64 (wrap64 (a1 + a2))] rfl (by (try simp only [List.map_toArray, List.map_cons, List.map_nil]); rfl) ?_; (with_reducible refine (sacristanref01_Int.calls (wrap64 (a1 + a2)) t237 t238 t239 _ A19.out).mono ?_); rintro e w20 ⟨rfl, hb⟩; refine ⟨_, rfl, ?_⟩; have n0_ := Aside0.mk (blk_below (g := gb235) (o := .cells #[.int .u8 0, .int .i64 0, .string (⟨#[]⟩ : ByteArray)] 37 (0, 0)) (by (with_reducible repeat (fail)); exact BK235.out) hb); have n1_ := Aside0.mk (blk_below (g := gb236) (o := .cells #[.int .u8 0, .int .i64 0, .string (⟨#[]⟩ : ByteArray)] 37 (0, 0)) (by (with_reducible repeat (fail)); exact BK236.out) hb); have n2_ := Aside0.mk (below_step (by repeat ((with_reducible exact HB.out))) hb); clear BK235; clear BK236; clear HB; have BK235 := n0_; have BK236 := n1_; have HB := n2_; clear n0_ n1_ n2_; (try clear hb); have hnb21 := NB235_236.out; have hnc21 := NB236_235.out; have hcz22_0 : w20.cell? ⟨gb235, 0, none⟩ = some (.int .u8 0) := (blk_cell BK235.out 0).trans rfl; have hcz22_1 : w20.cell? ⟨gb235, 1, none⟩ = some (.int .i64 0) := (blk_cell BK235.out 1).trans rfl; have hcz22_2 : w20.cell? ⟨gb235, 2, none⟩ = some (.string (⟨#[]⟩ : ByteArray)) := (blk_cell BK235.out 2).trans rfl; have hfz22_0 := blk_frozen BK235.out 0; have hfz22_1 := blk_frozen BK235.out 1; have hfz22_2 := blk_frozen BK235.out 2))
          refine bodyPost_ret (results_ct rfl _ _ gb235 37 #[.int .u8 t237, .int .i64 t238, .string t239] (0, 0) _ rfl (by (with_reducible repeat (fail)); refine blk_put (cs := #[.int .u8 t237, .int .i64 t238, .string (⟨#[]⟩ : ByteArray)]) ?_ 2 _ rfl; (with_reducible repeat (fail)); refine blk_put (cs := #[.int .u8 t237, .int .i64 0, .string (⟨#[]⟩ : ByteArray)]) ?_ 1 _ rfl; (with_reducible repeat (fail)); refine blk_put (cs := #[.int .u8 0, .int .i64 0, .string (⟨#[]⟩ : ByteArray)]) ?_ 0 _ rfl; (with_reducible repeat (fail)); exact BK235.out) Try.underlying37 rfl (by kernel_rfl)) rfl ?_
          exact ⟨by rfl, by repeat ((with_reducible first | exact HB.out | refine below_set ?_ GE235.out))⟩
    · as_aux_lemma =>
      rw [if_neg c9] at H
      have c9b0 : (a0.toList == ([43] : List UInt8)) = false := beq_eq_false_iff_ne.mpr c9
      have c9b1 : (a0.toList != ([43] : List UInt8)) = true := bne_iff_ne.mpr c9
      (skip)
      by_cases c23 : a0.toList = ([45] : List UInt8)
      · as_aux_lemma =>
        rw [if_pos c23] at H
        have c23b0 : (a0.toList == ([45] : List UInt8)) = true := beq_iff_eq.mpr c23
        have c23b1 : (a0.toList != ([45] : List UInt8)) = false := bne_eq_false_iff_eq.mpr c23
        clear c23
        have HC24 := Aside0.mk H
        clear H
        go_upto_region 8 with (fail)
        go_cut [55] (fun v55 wc => ∃ (kq : Nat) (x55_23 : Bool), v55 = .bool x55_23 ∧ Aside0 (sacristanref01_ints.j1 kq a1 a2 x55_23 0 0 (⟨#[]⟩ : ByteArray) = some (r1, r2, r3, r4)) ∧ Aside0 (kq ≤ k) ∧ Aside0 (wc.heap[gb235]? = some (.cells #[.int .u8 0, .int .i64 0, .string (⟨#[]⟩ : ByteArray)] 37 (0, 0))) ∧ Aside0 (wc.heap[gb236]? = some (.cells #[.int .u8 0, .int .i64 0, .string (⟨#[]⟩ : ByteArray)] 37 (0, 0))) ∧ Aside0 (Below w.heap.size w wc))
        case first =>
          have H := HC24.out
          clear HC24
          by_cases c25 : a2 < 0
          · as_aux_lemma =>
            rw [if_pos c25] at H
            have c25b0 : decide (a2 < 0) = true := decide_eq_true c25
            clear c25
            (skip)
            by_cases c26 : a1 > (wrap64 (9223372036854775807 + a2))
            · as_aux_lemma =>
              rw [if_pos c26] at H
              have c26b0 : decide ((wrap64 (9223372036854775807 + a2)) < a1) = true := decide_eq_true c26
              clear c26
              have H' := Aside0.mk H
              clear H
              go_wp2
              go_meet
              case rel => exact ⟨_, (true), (by rfl), H', ⟨by omega⟩, ⟨by (with_reducible repeat (fail)); refine blk_far ?_ NB235_236.out _; (with_reducible repeat (fail)); refine blk_far ?_ NB235_236.out _; (with_reducible repeat (fail)); refine blk_far ?_ NB235_236.out _; (with_reducible repeat (fail)); exact BK235.out⟩, ⟨by (with_reducible repeat (fail)); refine blk_put (cs := #[.int .u8 0, .int .i64 0, .string (⟨#[]⟩ : ByteArray)]) ?_ 2 _ rfl; (with_reducible repeat (fail)); refine blk_put (cs := #[.int .u8 0, .int .i64 0, .string (⟨#[]⟩ : ByteArray)]) ?_ 1 _ rfl; (with_reducible repeat (fail)); refine blk_put (cs := #[.int .u8 0, .int .i64 0, .string (⟨#[]⟩ : ByteArray)]) ?_ 0 _ rfl; (with_reducible repeat (fail)); exact BK236.out⟩, ⟨by repeat ((with_reducible first | exact HB.out | refine below_set ?_ GE236.out))⟩⟩
            · as_aux_lemma =>
              rw [if_neg c26] at H
              have c26b0 : decide ((wrap64 (9223372036854775807 + a2)) < a1) = false := decide_eq_false c26
              clear c26
              by_cases c27 : a2 > 0
              · as_aux_lemma =>
                rw [if_pos c27] at H
                have c27b0 : decide (0 < a2) = true := decide_eq_true c27
                clear c27
                have H' := Aside0.mk H
                clear H
                go_wp2
                go_meet
                case rel => exact ⟨_, (decide (a1 < (wrap64 ((-9223372036854775808) + a2)))), (by rfl), H', ⟨by omega⟩, ⟨by (with_reducible repeat (fail)); refine blk_far ?_ NB235_236.out _; (with_reducible repeat (fail)); refine blk_far ?_ NB235_236.out _; (with_reducible repeat (fail)); refine blk_far ?_ NB235_236.out _; (with_reducible repeat (fail)); exact BK235.out⟩, ⟨by (with_reducible repeat (fail)); refine blk_put (cs := #[.int .u8 0, .int .i64 0, .string (⟨#[]⟩ : ByteArray)]) ?_ 2 _ rfl; (with_reducible repeat (fail)); refine blk_put (cs := #[.int .u8 0, .int .i64 0, .string (⟨#[]⟩ : ByteArray)]) ?_ 1 _ rfl; (with_reducible repeat (fail)); refine blk_put (cs := #[.int .u8 0, .int .i64 0, .string (⟨#[]⟩ : ByteArray)]) ?_ 0 _ rfl; (with_reducible repeat (fail)); exact BK236.out⟩, ⟨by repeat ((with_reducible first | exact HB.out | refine below_set ?_ GE236.out))⟩⟩
              · as_aux_lemma =>
                rw [if_neg c27] at H
                have c27b0 : decide (0 < a2) = false := decide_eq_false c27
                clear c27
                have H' := Aside0.mk H
                clear H
                go_wp2
                go_meet
                case rel => exact ⟨_, (false), (by rfl), H', ⟨by omega⟩, ⟨by (with_reducible repeat (fail)); refine blk_far ?_ NB235_236.out _; (with_reducible repeat (fail)); refine blk_far ?_ NB235_236.out _; (with_reducible repeat (fail)); refine blk_far ?_ NB235_236.out _; (with_reducible repeat (fail)); exact BK235.out⟩, ⟨by (with_reducible repeat (fail)); refine blk_put (cs := #[.int .u8 0, .int .i64 0, .string (⟨#[]⟩ : ByteArray)]) ?_ 2 _ rfl; (with_reducible repeat (fail)); refine blk_put (cs := #[.int .u8 0, .int .i64 0, .string (⟨#[]⟩ : ByteArray)]) ?_ 1 _ rfl; (with_reducible repeat (fail)); refine blk_put (cs := #[.int .u8 0, .int .i64 0, .string (⟨#[]⟩ : ByteArray)]) ?_ 0 _ rfl; (with_reducible repeat (fail)); exact BK236.out⟩, ⟨by repeat ((with_reducible first | exact HB.out | refine below_set ?_ GE236.out))⟩⟩
          · as_aux_lemma =>
            rw [if_neg c25] at H
            have c25b0 : decide (a2 < 0) = false := decide_eq_false c25
            clear c25
            (skip)
            by_cases c28 : a2 > 0
            · as_aux_lemma =>
              rw [if_pos c28] at H
              have c28b0 : decide (0 < a2) = true := decide_eq_true c28
              clear c28
              have H' := Aside0.mk H
              clear H
              go_wp2
              go_meet
              case rel => exact ⟨_, (decide (a1 < (wrap64 ((-9223372036854775808) + a2)))), (by rfl), H', ⟨by omega⟩, ⟨by (with_reducible repeat (fail)); refine blk_far ?_ NB235_236.out _; (with_reducible repeat (fail)); refine blk_far ?_ NB235_236.out _; (with_reducible repeat (fail)); refine blk_far ?_ NB235_236.out _; (with_reducible repeat (fail)); exact BK235.out⟩, ⟨by (with_reducible repeat (fail)); refine blk_put (cs := #[.int .u8 0, .int .i64 0, .string (⟨#[]⟩ : ByteArray)]) ?_ 2 _ rfl; (with_reducible repeat (fail)); refine blk_put (cs := #[.int .u8 0, .int .i64 0, .string (⟨#[]⟩ : ByteArray)]) ?_ 1 _ rfl; (with_reducible repeat (fail)); refine blk_put (cs := #[.int .u8 0, .int .i64 0, .string (⟨#[]⟩ : ByteArray)]) ?_ 0 _ rfl; (with_reducible repeat (fail)); exact BK236.out⟩, ⟨by repeat ((with_reducible first | exact HB.out | refine below_set ?_ GE236.out))⟩⟩
            · as_aux_lemma =>
              rw [if_neg c28] at H
              have c28b0 : decide (0 < a2) = false := decide_eq_false c28
              clear c28
              have H' := Aside0.mk H
              clear H
              go_wp2
              go_meet
              case rel => exact ⟨_, (false), (by rfl), H', ⟨by omega⟩, ⟨by (with_reducible repeat (fail)); refine blk_far ?_ NB235_236.out _; (with_reducible repeat (fail)); refine blk_far ?_ NB235_236.out _; (with_reducible repeat (fail)); refine blk_far ?_ NB235_236.out _; (with_reducible repeat (fail)); exact BK235.out⟩, ⟨by (with_reducible repeat (fail)); refine blk_put (cs := #[.int .u8 0, .int .i64 0, .string (⟨#[]⟩ : ByteArray)]) ?_ 2 _ rfl; (with_reducible repeat (fail)); refine blk_put (cs := #[.int .u8 0, .int .i64 0, .string (⟨#[]⟩ : ByteArray)]) ?_ 1 _ rfl; (with_reducible repeat (fail)); refine blk_put (cs := #[.int .u8 0, .int .i64 0, .string (⟨#[]⟩ : ByteArray)]) ?_ 0 _ rfl; (with_reducible repeat (fail)); exact BK236.out⟩, ⟨by repeat ((with_reducible first | exact HB.out | refine below_set ?_ GE236.out))⟩⟩
        case rest =>
          clear HC24 c9 c9b0 c9b1 c23b0 c23b1 hcz8_0 hcz8_1 hcz8_2 hfz8_0 hfz8_1 hfz8_2
          obtain ⟨kq, x55_23, rfl, HA, HJ23, BK235, BK236, HB⟩ := hcut
          cases kq with
          | zero => exact absurd HA.out (by simp [sacristanref01_ints.j1])
          | succ kj23 =>
            have H := HA.out
            clear HA
            simp only [sacristanref01_ints.j1] at H
            by_cases c29 : x55_23 = true
            · subst c29
              have H1 : (some (0, 0, (⟨#[]⟩ : ByteArray), 3)) = some (r1, r2, r3, r4) := by rw [if_pos rfl] at H; exact H
              clear H
              have H := H1
              clear H1
              simp only [Option.some.injEq, Prod.mk.injEq] at H
              obtain ⟨rfl, rfl, rfl, rfl⟩ := H
              have hnb30 := NB236_235.out
              have hnc30 := NB235_236.out
              have hcz31_0 : wc.cell? ⟨gb236, 0, none⟩ = some (.int .u8 0) := (blk_cell BK236.out 0).trans rfl
              have hcz31_1 : wc.cell? ⟨gb236, 1, none⟩ = some (.int .i64 0) := (blk_cell BK236.out 1).trans rfl
              have hcz31_2 : wc.cell? ⟨gb236, 2, none⟩ = some (.string (⟨#[]⟩ : ByteArray)) := (blk_cell BK236.out 2).trans rfl
              have hfz31_0 := blk_frozen BK236.out 0
              have hfz31_1 := blk_frozen BK236.out 1
              have hfz31_2 := blk_frozen BK236.out 2
              have hcz32_0 : wc.cell? ⟨gb235, 0, none⟩ = some (.int .u8 0) := (blk_cell BK235.out 0).trans rfl
              have hcz32_1 : wc.cell? ⟨gb235, 1, none⟩ = some (.int .i64 0) := (blk_cell BK235.out 1).trans rfl
              have hcz32_2 : wc.cell? ⟨gb235, 2, none⟩ = some (.string (⟨#[]⟩ : ByteArray)) := (blk_cell BK235.out 2).trans rfl
              have hfz32_0 := blk_frozen BK235.out 0
              have hfz32_1 := blk_frozen BK235.out 1
              have hfz32_2 := blk_frozen BK235.out 2
              go_wp2
              refine bodyPost_ret (results_ct rfl _ _ gb235 37 #[.int .u8 0, .int .i64 0, .string (⟨#[]⟩ : ByteArray)] (0, 0) _ rfl (by (with_reducible repeat (fail)); refine blk_put (cs := #[.int .u8 0, .int .i64 0, .string (⟨#[]⟩ : ByteArray)]) ?_ 2 _ rfl; (with_reducible repeat (fail)); refine blk_put (cs := #[.int .u8 0, .int .i64 0, .string (⟨#[]⟩ : ByteArray)]) ?_ 1 _ rfl; (with_reducible repeat (fail)); refine blk_put (cs := #[.int .u8 0, .int .i64 0, .string (⟨#[]⟩ : ByteArray)]) ?_ 0 _ rfl; (with_reducible repeat (fail)); exact BK235.out) Try.underlying37 rfl (by kernel_rfl)) rfl ?_
              exact ⟨by rfl, by repeat ((with_reducible first | exact HB.out | refine below_set ?_ GE235.out))⟩
            replace c29 := Bool.eq_false_iff.mpr c29
            subst c29
            have H1 : ((sacristanref01_Int.f (wrap64 (a1 - a2))).bind fun bt240 => (some (bt240.1, bt240.2.1, bt240.2.2, 0))) = some (r1, r2, r3, r4) := by rw [if_neg (show ¬ (false = true) by decide)] at H; exact H
            clear H
            have H := H1
            clear H1
            replace H := Option.bind_eq_some_iff.mp H
            obtain ⟨⟨t240, t241, t242⟩, A330, H⟩ := H
            replace H : (some (t240, t241, t242, 0)) = some (r1, r2, r3, r4) := H
            have A33 := Aside0.mk A330
            clear A330
            simp only [Option.some.injEq, Prod.mk.injEq] at H
            obtain ⟨rfl, rfl, rfl, rfl⟩ := H
            go_wp2_with (((with_reducible refine gate_callee (f := 87) rfl ?_); refine goesL_ (some 60) rfl rfl Try.func87 (by kernel_rfl) rfl #[.int .i64 (wrap64 (a1 - a2))] rfl (by (try simp only [List.map_toArray, List.map_cons, List.map_nil]); rfl) ?_; (with_reducible refine (sacristanref01_Int.calls (wrap64 (a1 - a2)) t240 t241 t242 _ A33.out).mono ?_); rintro e w34 ⟨rfl, hb⟩; refine ⟨_, rfl, ?_⟩; have n0_ := Aside0.mk (blk_below (g := gb235) (o := .cells #[.int .u8 0, .int .i64 0, .string (⟨#[]⟩ : ByteArray)] 37 (0, 0)) (by (with_reducible repeat (fail)); exact BK235.out) hb); have n1_ := Aside0.mk (blk_below (g := gb236) (o := .cells #[.int .u8 0, .int .i64 0, .string (⟨#[]⟩ : ByteArray)] 37 (0, 0)) (by (with_reducible repeat (fail)); exact BK236.out) hb); have n2_ := Aside0.mk (below_step (by repeat ((with_reducible exact HB.out))) hb); clear BK235; clear BK236; clear HB; have BK235 := n0_; have BK236 := n1_; have HB := n2_; clear n0_ n1_ n2_; (try clear hb); have hnb35 := NB235_236.out; have hnc35 := NB236_235.out; have hcz36_0 : w34.cell? ⟨gb235, 0, none⟩ = some (.int .u8 0) := (blk_cell BK235.out 0).trans rfl; have hcz36_1 : w34.cell? ⟨gb235, 1, none⟩ = some (.int .i64 0) := (blk_cell BK235.out 1).trans rfl; have hcz36_2 : w34.cell? ⟨gb235, 2, none⟩ = some (.string (⟨#[]⟩ : ByteArray)) := (blk_cell BK235.out 2).trans rfl; have hfz36_0 := blk_frozen BK235.out 0; have hfz36_1 := blk_frozen BK235.out 1; have hfz36_2 := blk_frozen BK235.out 2))
            refine bodyPost_ret (results_ct rfl _ _ gb235 37 #[.int .u8 t240, .int .i64 t241, .string t242] (0, 0) _ rfl (by (with_reducible repeat (fail)); refine blk_put (cs := #[.int .u8 t240, .int .i64 t241, .string (⟨#[]⟩ : ByteArray)]) ?_ 2 _ rfl; (with_reducible repeat (fail)); refine blk_put (cs := #[.int .u8 t240, .int .i64 0, .string (⟨#[]⟩ : ByteArray)]) ?_ 1 _ rfl; (with_reducible repeat (fail)); refine blk_put (cs := #[.int .u8 0, .int .i64 0, .string (⟨#[]⟩ : ByteArray)]) ?_ 0 _ rfl; (with_reducible repeat (fail)); exact BK235.out) Try.underlying37 rfl (by kernel_rfl)) rfl ?_
            exact ⟨by rfl, by repeat ((with_reducible first | exact HB.out | refine below_set ?_ GE235.out))⟩
      · as_aux_lemma =>
        rw [if_neg c23] at H
        have c23b0 : (a0.toList == ([45] : List UInt8)) = false := beq_eq_false_iff_ne.mpr c23
        have c23b1 : (a0.toList != ([45] : List UInt8)) = true := bne_iff_ne.mpr c23
        by_cases c37 : a0.toList = ([42] : List UInt8)
        · as_aux_lemma =>
          rw [if_pos c37] at H
          have c37b0 : (a0.toList == ([42] : List UInt8)) = true := beq_iff_eq.mpr c37
          have c37b1 : (a0.toList != ([42] : List UInt8)) = false := bne_eq_false_iff_eq.mpr c37
          clear c37
          have HC38 := Aside0.mk H
          clear H
          go_upto_region 12 with (fail)
          go_cut [68] (fun v68 wc => ∃ (kq : Nat) (x68_37 : Bool), v68 = .bool x68_37 ∧ Aside0 (sacristanref01_ints.j2 kq a1 a2 x68_37 0 0 (⟨#[]⟩ : ByteArray) = some (r1, r2, r3, r4)) ∧ Aside0 (kq ≤ k) ∧ Aside0 (wc.heap[gb235]? = some (.cells #[.int .u8 0, .int .i64 0, .string (⟨#[]⟩ : ByteArray)] 37 (0, 0))) ∧ Aside0 (wc.heap[gb236]? = some (.cells #[.int .u8 0, .int .i64 0, .string (⟨#[]⟩ : ByteArray)] 37 (0, 0))) ∧ Aside0 (Below w.heap.size w wc))
          case first =>
            have H := HC38.out
            clear HC38
            by_cases c39 : a1 = 0
            · as_aux_lemma =>
              rw [if_pos c39] at H
              have c39b0 : (a1 == 0) = true := beq_iff_eq.mpr c39
              have c39b1 : (a1 != 0) = false := bne_eq_false_iff_eq.mpr c39
              clear c39
              (skip)
              have H' := Aside0.mk H
              clear H
              go_wp2
              go_meet
              case rel => exact ⟨_, (true), (by rfl), H', ⟨by omega⟩, ⟨by (with_reducible repeat (fail)); refine blk_far ?_ NB235_236.out _; (with_reducible repeat (fail)); refine blk_far ?_ NB235_236.out _; (with_reducible repeat (fail)); refine blk_far ?_ NB235_236.out _; (with_reducible repeat (fail)); exact BK235.out⟩, ⟨by (with_reducible repeat (fail)); refine blk_put (cs := #[.int .u8 0, .int .i64 0, .string (⟨#[]⟩ : ByteArray)]) ?_ 2 _ rfl; (with_reducible repeat (fail)); refine blk_put (cs := #[.int .u8 0, .int .i64 0, .string (⟨#[]⟩ : ByteArray)]) ?_ 1 _ rfl; (with_reducible repeat (fail)); refine blk_put (cs := #[.int .u8 0, .int .i64 0, .string (⟨#[]⟩ : ByteArray)]) ?_ 0 _ rfl; (with_reducible repeat (fail)); exact BK236.out⟩, ⟨by repeat ((with_reducible first | exact HB.out | refine below_set ?_ GE236.out))⟩⟩
            · as_aux_lemma =>
              rw [if_neg c39] at H
              have c39b0 : (a1 == 0) = false := beq_eq_false_iff_ne.mpr c39
              have c39b1 : (a1 != 0) = true := bne_iff_ne.mpr c39
              (skip)
              have H' := Aside0.mk H
              clear H
              go_wp2
              go_meet
              case rel => exact ⟨_, ((a2 == 0)), (by rfl), H', ⟨by omega⟩, ⟨by (with_reducible repeat (fail)); refine blk_far ?_ NB235_236.out _; (with_reducible repeat (fail)); refine blk_far ?_ NB235_236.out _; (with_reducible repeat (fail)); refine blk_far ?_ NB235_236.out _; (with_reducible repeat (fail)); exact BK235.out⟩, ⟨by (with_reducible repeat (fail)); refine blk_put (cs := #[.int .u8 0, .int .i64 0, .string (⟨#[]⟩ : ByteArray)]) ?_ 2 _ rfl; (with_reducible repeat (fail)); refine blk_put (cs := #[.int .u8 0, .int .i64 0, .string (⟨#[]⟩ : ByteArray)]) ?_ 1 _ rfl; (with_reducible repeat (fail)); refine blk_put (cs := #[.int .u8 0, .int .i64 0, .string (⟨#[]⟩ : ByteArray)]) ?_ 0 _ rfl; (with_reducible repeat (fail)); exact BK236.out⟩, ⟨by repeat ((with_reducible first | exact HB.out | refine below_set ?_ GE236.out))⟩⟩
          case rest =>
            clear HC38 c9 c9b0 c9b1 c23 c23b0 c23b1 c37b0 c37b1 hcz8_0 hcz8_1 hcz8_2 hfz8_0 hfz8_1 hfz8_2
            obtain ⟨kq, x68_37, rfl, HA, HJ37, BK235, BK236, HB⟩ := hcut
            cases kq with
            | zero => exact absurd HA.out (by simp [sacristanref01_ints.j2])
            | succ kj37 =>
              have H := HA.out
              clear HA
              simp only [sacristanref01_ints.j2] at H
              by_cases c40 : x68_37 = true
              · subst c40
                have H1 : ((sacristanref01_Int.f 0).bind fun bt243 => (some (bt243.1, bt243.2.1, bt243.2.2, 0))) = some (r1, r2, r3, r4) := by rw [if_pos rfl] at H; exact H
                clear H
                have H := H1
                clear H1
                replace H := Option.bind_eq_some_iff.mp H
                obtain ⟨⟨t243, t244, t245⟩, A410, H⟩ := H
                replace H : (some (t243, t244, t245, 0)) = some (r1, r2, r3, r4) := H
                have A41 := Aside0.mk A410
                clear A410
                simp only [Option.some.injEq, Prod.mk.injEq] at H
                obtain ⟨rfl, rfl, rfl, rfl⟩ := H
                go_wp2_with (((with_reducible refine gate_callee (f := 87) rfl ?_); refine goesL_ (some 69) rfl rfl Try.func87 (by kernel_rfl) rfl #[.int .i64 0] rfl (by (try simp only [List.map_toArray, List.map_cons, List.map_nil]); rfl) ?_; (with_reducible refine (sacristanref01_Int.calls 0 t243 t244 t245 _ A41.out).mono ?_); rintro e w42 ⟨rfl, hb⟩; refine ⟨_, rfl, ?_⟩; have n0_ := Aside0.mk (blk_below (g := gb235) (o := .cells #[.int .u8 0, .int .i64 0, .string (⟨#[]⟩ : ByteArray)] 37 (0, 0)) (by (with_reducible repeat (fail)); exact BK235.out) hb); have n1_ := Aside0.mk (blk_below (g := gb236) (o := .cells #[.int .u8 0, .int .i64 0, .string (⟨#[]⟩ : ByteArray)] 37 (0, 0)) (by (with_reducible repeat (fail)); exact BK236.out) hb); have n2_ := Aside0.mk (below_step (by repeat ((with_reducible exact HB.out))) hb); clear BK235; clear BK236; clear HB; have BK235 := n0_; have BK236 := n1_; have HB := n2_; clear n0_ n1_ n2_; (try clear hb); have hnb43 := NB235_236.out; have hnc43 := NB236_235.out; have hcz44_0 : w42.cell? ⟨gb235, 0, none⟩ = some (.int .u8 0) := (blk_cell BK235.out 0).trans rfl; have hcz44_1 : w42.cell? ⟨gb235, 1, none⟩ = some (.int .i64 0) := (blk_cell BK235.out 1).trans rfl; have hcz44_2 : w42.cell? ⟨gb235, 2, none⟩ = some (.string (⟨#[]⟩ : ByteArray)) := (blk_cell BK235.out 2).trans rfl; have hfz44_0 := blk_frozen BK235.out 0; have hfz44_1 := blk_frozen BK235.out 1; have hfz44_2 := blk_frozen BK235.out 2))
                refine bodyPost_ret (results_ct rfl _ _ gb235 37 #[.int .u8 t243, .int .i64 t244, .string t245] (0, 0) _ rfl (by (with_reducible repeat (fail)); refine blk_put (cs := #[.int .u8 t243, .int .i64 t244, .string (⟨#[]⟩ : ByteArray)]) ?_ 2 _ rfl; (with_reducible repeat (fail)); refine blk_put (cs := #[.int .u8 t243, .int .i64 0, .string (⟨#[]⟩ : ByteArray)]) ?_ 1 _ rfl; (with_reducible repeat (fail)); refine blk_put (cs := #[.int .u8 0, .int .i64 0, .string (⟨#[]⟩ : ByteArray)]) ?_ 0 _ rfl; (with_reducible repeat (fail)); exact BK235.out) Try.underlying37 rfl (by kernel_rfl)) rfl ?_
                exact ⟨by rfl, by repeat ((with_reducible first | exact HB.out | refine below_set ?_ GE235.out))⟩
              replace c40 := Bool.eq_false_iff.mpr c40
              subst c40
              have H1 : (if a1 = (-1) then (if a2 = (-9223372036854775808) then (sacristanref01_ints.j3 kj37 a1 a2 true 0 0 (⟨#[]⟩ : ByteArray)) else (if a2 = (-1) then (sacristanref01_ints.j3 kj37 a1 a2 (a1 == (-9223372036854775808)) 0 0 (⟨#[]⟩ : ByteArray)) else (sacristanref01_ints.j3 kj37 a1 a2 false 0 0 (⟨#[]⟩ : ByteArray)))) else (if a2 = (-1) then (sacristanref01_ints.j3 kj37 a1 a2 (a1 == (-9223372036854775808)) 0 0 (⟨#[]⟩ : ByteArray)) else (sacristanref01_ints.j3 kj37 a1 a2 false 0 0 (⟨#[]⟩ : ByteArray)))) = some (r1, r2, r3, r4) := by rw [if_neg (show ¬ (false = true) by decide)] at H; exact H
              clear H
              have H := H1
              clear H1
              have HC45 := Aside0.mk H
              clear H
              go_upto_region 14 with (fail)
              go_cut [83] (fun v83 wc => ∃ (kq : Nat) (x83_44 : Bool), v83 = .bool x83_44 ∧ Aside0 (sacristanref01_ints.j3 kq a1 a2 x83_44 0 0 (⟨#[]⟩ : ByteArray) = some (r1, r2, r3, r4)) ∧ Aside0 (kq ≤ kj37) ∧ Aside0 (wc.heap[gb235]? = some (.cells #[.int .u8 0, .int .i64 0, .string (⟨#[]⟩ : ByteArray)] 37 (0, 0))) ∧ Aside0 (wc.heap[gb236]? = some (.cells #[.int .u8 0, .int .i64 0, .string (⟨#[]⟩ : ByteArray)] 37 (0, 0))) ∧ Aside0 (Below w.heap.size w wc))
              case first =>
                have H := HC45.out
                clear HC45
                by_cases c46 : a1 = (-1)
                · as_aux_lemma =>
                  rw [if_pos c46] at H
                  have c46b0 : (a1 == (-1)) = true := beq_iff_eq.mpr c46
                  have c46b1 : (a1 != (-1)) = false := bne_eq_false_iff_eq.mpr c46
                  clear c46
                  (skip)
                  by_cases c47 : a2 = (-9223372036854775808)
                  · as_aux_lemma =>
                    rw [if_pos c47] at H
                    have c47b0 : (a2 == (-9223372036854775808)) = true := beq_iff_eq.mpr c47
                    have c47b1 : (a2 != (-9223372036854775808)) = false := bne_eq_false_iff_eq.mpr c47
                    clear c47
                    have H' := Aside0.mk H
                    clear H
                    go_wp2
                    go_meet
                    case rel => exact ⟨_, (true), (by rfl), H', ⟨by have := HJ37.out; omega⟩, ⟨by (with_reducible repeat (fail)); exact BK235.out⟩, ⟨by (with_reducible repeat (fail)); exact BK236.out⟩, ⟨by repeat ((with_reducible exact HB.out))⟩⟩
                  · as_aux_lemma =>
                    rw [if_neg c47] at H
                    have c47b0 : (a2 == (-9223372036854775808)) = false := beq_eq_false_iff_ne.mpr c47
                    have c47b1 : (a2 != (-9223372036854775808)) = true := bne_iff_ne.mpr c47
                    by_cases c48 : a2 = (-1)
                    · as_aux_lemma =>
                      rw [if_pos c48] at H
                      have c48b0 : (a2 == (-1)) = true := beq_iff_eq.mpr c48
                      have c48b1 : (a2 != (-1)) = false := bne_eq_false_iff_eq.mpr c48
                      clear c48
                      have H' := Aside0.mk H
                      clear H
                      go_wp2
                      go_meet
                      case rel => exact ⟨_, ((a1 == (-9223372036854775808))), (by rfl), H', ⟨by have := HJ37.out; omega⟩, ⟨by (with_reducible repeat (fail)); exact BK235.out⟩, ⟨by (with_reducible repeat (fail)); exact BK236.out⟩, ⟨by repeat ((with_reducible exact HB.out))⟩⟩
                    · as_aux_lemma =>
                      rw [if_neg c48] at H
                      have c48b0 : (a2 == (-1)) = false := beq_eq_false_iff_ne.mpr c48
                      have c48b1 : (a2 != (-1)) = true := bne_iff_ne.mpr c48
                      have H' := Aside0.mk H
                      clear H
                      go_wp2
                      go_meet
                      case rel => exact ⟨_, (false), (by rfl), H', ⟨by have := HJ37.out; omega⟩, ⟨by (with_reducible repeat (fail)); exact BK235.out⟩, ⟨by (with_reducible repeat (fail)); exact BK236.out⟩, ⟨by repeat ((with_reducible exact HB.out))⟩⟩
                · as_aux_lemma =>
                  rw [if_neg c46] at H
                  have c46b0 : (a1 == (-1)) = false := beq_eq_false_iff_ne.mpr c46
                  have c46b1 : (a1 != (-1)) = true := bne_iff_ne.mpr c46
                  (skip)
                  by_cases c49 : a2 = (-1)
                  · as_aux_lemma =>
                    rw [if_pos c49] at H
                    have c49b0 : (a2 == (-1)) = true := beq_iff_eq.mpr c49
                    have c49b1 : (a2 != (-1)) = false := bne_eq_false_iff_eq.mpr c49
                    clear c49
                    have H' := Aside0.mk H
                    clear H
                    go_wp2
                    go_meet
                    case rel => exact ⟨_, ((a1 == (-9223372036854775808))), (by rfl), H', ⟨by have := HJ37.out; omega⟩, ⟨by (with_reducible repeat (fail)); exact BK235.out⟩, ⟨by (with_reducible repeat (fail)); exact BK236.out⟩, ⟨by repeat ((with_reducible exact HB.out))⟩⟩
                  · as_aux_lemma =>
                    rw [if_neg c49] at H
                    have c49b0 : (a2 == (-1)) = false := beq_eq_false_iff_ne.mpr c49
                    have c49b1 : (a2 != (-1)) = true := bne_iff_ne.mpr c49
                    have H' := Aside0.mk H
                    clear H
                    go_wp2
                    go_meet
                    case rel => exact ⟨_, (false), (by rfl), H', ⟨by have := HJ37.out; omega⟩, ⟨by (with_reducible repeat (fail)); exact BK235.out⟩, ⟨by (with_reducible repeat (fail)); exact BK236.out⟩, ⟨by repeat ((with_reducible exact HB.out))⟩⟩
              case rest =>
                clear HC45
                obtain ⟨kq, x83_44, rfl, HA, HJ44, BK235, BK236, HB⟩ := hcut
                cases kq with
                | zero => exact absurd HA.out (by simp [sacristanref01_ints.j3])
                | succ kj44 =>
                  have H := HA.out
                  clear HA
                  simp only [sacristanref01_ints.j3] at H
                  by_cases c50 : x83_44 = true
                  · subst c50
                    have H1 : (some (0, 0, (⟨#[]⟩ : ByteArray), 3)) = some (r1, r2, r3, r4) := by rw [if_pos rfl] at H; exact H
                    clear H
                    have H := H1
                    clear H1
                    simp only [Option.some.injEq, Prod.mk.injEq] at H
                    obtain ⟨rfl, rfl, rfl, rfl⟩ := H
                    have hnb51 := NB236_235.out
                    have hnc51 := NB235_236.out
                    have hcz52_0 : wc.cell? ⟨gb236, 0, none⟩ = some (.int .u8 0) := (blk_cell BK236.out 0).trans rfl
                    have hcz52_1 : wc.cell? ⟨gb236, 1, none⟩ = some (.int .i64 0) := (blk_cell BK236.out 1).trans rfl
                    have hcz52_2 : wc.cell? ⟨gb236, 2, none⟩ = some (.string (⟨#[]⟩ : ByteArray)) := (blk_cell BK236.out 2).trans rfl
                    have hfz52_0 := blk_frozen BK236.out 0
                    have hfz52_1 := blk_frozen BK236.out 1
                    have hfz52_2 := blk_frozen BK236.out 2
                    have hcz53_0 : wc.cell? ⟨gb235, 0, none⟩ = some (.int .u8 0) := (blk_cell BK235.out 0).trans rfl
                    have hcz53_1 : wc.cell? ⟨gb235, 1, none⟩ = some (.int .i64 0) := (blk_cell BK235.out 1).trans rfl
                    have hcz53_2 : wc.cell? ⟨gb235, 2, none⟩ = some (.string (⟨#[]⟩ : ByteArray)) := (blk_cell BK235.out 2).trans rfl
                    have hfz53_0 := blk_frozen BK235.out 0
                    have hfz53_1 := blk_frozen BK235.out 1
                    have hfz53_2 := blk_frozen BK235.out 2
                    go_wp2
                    refine bodyPost_ret (results_ct rfl _ _ gb235 37 #[.int .u8 0, .int .i64 0, .string (⟨#[]⟩ : ByteArray)] (0, 0) _ rfl (by (with_reducible repeat (fail)); refine blk_put (cs := #[.int .u8 0, .int .i64 0, .string (⟨#[]⟩ : ByteArray)]) ?_ 2 _ rfl; (with_reducible repeat (fail)); refine blk_put (cs := #[.int .u8 0, .int .i64 0, .string (⟨#[]⟩ : ByteArray)]) ?_ 1 _ rfl; (with_reducible repeat (fail)); refine blk_put (cs := #[.int .u8 0, .int .i64 0, .string (⟨#[]⟩ : ByteArray)]) ?_ 0 _ rfl; (with_reducible repeat (fail)); exact BK235.out) Try.underlying37 rfl (by kernel_rfl)) rfl ?_
                    exact ⟨by rfl, by repeat ((with_reducible first | exact HB.out | refine below_set ?_ GE235.out))⟩
                  replace c50 := Bool.eq_false_iff.mpr c50
                  subst c50
                  have H1 : (if a1 = (-9223372036854775808) then (if a2 = 1 then (if a2 = (-9223372036854775808) then (sacristanref01_ints.j4 kj44 a1 a2 (a1 != 1) 0 0 (⟨#[]⟩ : ByteArray)) else (sacristanref01_ints.j4 kj44 a1 a2 false 0 0 (⟨#[]⟩ : ByteArray))) else (sacristanref01_ints.j4 kj44 a1 a2 true 0 0 (⟨#[]⟩ : ByteArray))) else (if a2 = (-9223372036854775808) then (sacristanref01_ints.j4 kj44 a1 a2 (a1 != 1) 0 0 (⟨#[]⟩ : ByteArray)) else (sacristanref01_ints.j4 kj44 a1 a2 false 0 0 (⟨#[]⟩ : ByteArray)))) = some (r1, r2, r3, r4) := by rw [if_neg (show ¬ (false = true) by decide)] at H; exact H
                  clear H
                  have H := H1
                  clear H1
                  have HC54 := Aside0.mk H
                  clear H
                  go_upto_region 16 with (fail)
                  go_cut [98] (fun v98 wc => ∃ (kq : Nat) (x98_53 : Bool), v98 = .bool x98_53 ∧ Aside0 (sacristanref01_ints.j4 kq a1 a2 x98_53 0 0 (⟨#[]⟩ : ByteArray) = some (r1, r2, r3, r4)) ∧ Aside0 (kq ≤ kj44) ∧ Aside0 (wc.heap[gb235]? = some (.cells #[.int .u8 0, .int .i64 0, .string (⟨#[]⟩ : ByteArray)] 37 (0, 0))) ∧ Aside0 (wc.heap[gb236]? = some (.cells #[.int .u8 0, .int .i64 0, .string (⟨#[]⟩ : ByteArray)] 37 (0, 0))) ∧ Aside0 (Below w.heap.size w wc))
                  case first =>
                    have H := HC54.out
                    clear HC54
                    by_cases c55 : a1 = (-9223372036854775808)
                    · as_aux_lemma =>
                      rw [if_pos c55] at H
                      have c55b0 : (a1 == (-9223372036854775808)) = true := beq_iff_eq.mpr c55
                      have c55b1 : (a1 != (-9223372036854775808)) = false := bne_eq_false_iff_eq.mpr c55
                      clear c55
                      (skip)
                      by_cases c56 : a2 = 1
                      · as_aux_lemma =>
                        rw [if_pos c56] at H
                        have c56b0 : (a2 == 1) = true := beq_iff_eq.mpr c56
                        have c56b1 : (a2 != 1) = false := bne_eq_false_iff_eq.mpr c56
                        clear c56
                        by_cases c57 : a2 = (-9223372036854775808)
                        · as_aux_lemma =>
                          rw [if_pos c57] at H
                          have c57b0 : (a2 == (-9223372036854775808)) = true := beq_iff_eq.mpr c57
                          have c57b1 : (a2 != (-9223372036854775808)) = false := bne_eq_false_iff_eq.mpr c57
                          clear c57
                          have H' := Aside0.mk H
                          clear H
                          go_wp2
                          go_meet
                          case rel => exact ⟨_, ((a1 != 1)), (by rfl), H', ⟨by have := HJ37.out; have := HJ44.out; omega⟩, ⟨by (with_reducible repeat (fail)); exact BK235.out⟩, ⟨by (with_reducible repeat (fail)); exact BK236.out⟩, ⟨by repeat ((with_reducible exact HB.out))⟩⟩
                        · as_aux_lemma =>
                          rw [if_neg c57] at H
                          have c57b0 : (a2 == (-9223372036854775808)) = false := beq_eq_false_iff_ne.mpr c57
                          have c57b1 : (a2 != (-9223372036854775808)) = true := bne_iff_ne.mpr c57
                          have H' := Aside0.mk H
                          clear H
                          go_wp2
                          go_meet
                          case rel => exact ⟨_, (false), (by rfl), H', ⟨by have := HJ37.out; have := HJ44.out; omega⟩, ⟨by (with_reducible repeat (fail)); exact BK235.out⟩, ⟨by (with_reducible repeat (fail)); exact BK236.out⟩, ⟨by repeat ((with_reducible exact HB.out))⟩⟩
                      · as_aux_lemma =>
                        rw [if_neg c56] at H
                        have c56b0 : (a2 == 1) = false := beq_eq_false_iff_ne.mpr c56
                        have c56b1 : (a2 != 1) = true := bne_iff_ne.mpr c56
                        have H' := Aside0.mk H
                        clear H
                        go_wp2
                        go_meet
                        case rel => exact ⟨_, (true), (by rfl), H', ⟨by have := HJ37.out; have := HJ44.out; omega⟩, ⟨by (with_reducible repeat (fail)); exact BK235.out⟩, ⟨by (with_reducible repeat (fail)); exact BK236.out⟩, ⟨by repeat ((with_reducible exact HB.out))⟩⟩
                    · as_aux_lemma =>
                      rw [if_neg c55] at H
                      have c55b0 : (a1 == (-9223372036854775808)) = false := beq_eq_false_iff_ne.mpr c55
                      have c55b1 : (a1 != (-9223372036854775808)) = true := bne_iff_ne.mpr c55
                      (skip)
                      by_cases c58 : a2 = (-9223372036854775808)
                      · as_aux_lemma =>
                        rw [if_pos c58] at H
                        have c58b0 : (a2 == (-9223372036854775808)) = true := beq_iff_eq.mpr c58
                        have c58b1 : (a2 != (-9223372036854775808)) = false := bne_eq_false_iff_eq.mpr c58
                        clear c58
                        have H' := Aside0.mk H
                        clear H
                        go_wp2
                        go_meet
                        case rel => exact ⟨_, ((a1 != 1)), (by rfl), H', ⟨by have := HJ37.out; have := HJ44.out; omega⟩, ⟨by (with_reducible repeat (fail)); exact BK235.out⟩, ⟨by (with_reducible repeat (fail)); exact BK236.out⟩, ⟨by repeat ((with_reducible exact HB.out))⟩⟩
                      · as_aux_lemma =>
                        rw [if_neg c58] at H
                        have c58b0 : (a2 == (-9223372036854775808)) = false := beq_eq_false_iff_ne.mpr c58
                        have c58b1 : (a2 != (-9223372036854775808)) = true := bne_iff_ne.mpr c58
                        have H' := Aside0.mk H
                        clear H
                        go_wp2
                        go_meet
                        case rel => exact ⟨_, (false), (by rfl), H', ⟨by have := HJ37.out; have := HJ44.out; omega⟩, ⟨by (with_reducible repeat (fail)); exact BK235.out⟩, ⟨by (with_reducible repeat (fail)); exact BK236.out⟩, ⟨by repeat ((with_reducible exact HB.out))⟩⟩
                  case rest =>
                    clear HC54
                    obtain ⟨kq, x98_53, rfl, HA, HJ53, BK235, BK236, HB⟩ := hcut
                    cases kq with
                    | zero => exact absurd HA.out (by simp [sacristanref01_ints.j4])
                    | succ kj53 =>
                      have H := HA.out
                      clear HA
                      simp only [sacristanref01_ints.j4] at H
                      by_cases c59 : x98_53 = true
                      · subst c59
                        have H1 : (some (0, 0, (⟨#[]⟩ : ByteArray), 3)) = some (r1, r2, r3, r4) := by rw [if_pos rfl] at H; exact H
                        clear H
                        have H := H1
                        clear H1
                        simp only [Option.some.injEq, Prod.mk.injEq] at H
                        obtain ⟨rfl, rfl, rfl, rfl⟩ := H
                        have hnb60 := NB236_235.out
                        have hnc60 := NB235_236.out
                        have hcz61_0 : wc.cell? ⟨gb236, 0, none⟩ = some (.int .u8 0) := (blk_cell BK236.out 0).trans rfl
                        have hcz61_1 : wc.cell? ⟨gb236, 1, none⟩ = some (.int .i64 0) := (blk_cell BK236.out 1).trans rfl
                        have hcz61_2 : wc.cell? ⟨gb236, 2, none⟩ = some (.string (⟨#[]⟩ : ByteArray)) := (blk_cell BK236.out 2).trans rfl
                        have hfz61_0 := blk_frozen BK236.out 0
                        have hfz61_1 := blk_frozen BK236.out 1
                        have hfz61_2 := blk_frozen BK236.out 2
                        have hcz62_0 : wc.cell? ⟨gb235, 0, none⟩ = some (.int .u8 0) := (blk_cell BK235.out 0).trans rfl
                        have hcz62_1 : wc.cell? ⟨gb235, 1, none⟩ = some (.int .i64 0) := (blk_cell BK235.out 1).trans rfl
                        have hcz62_2 : wc.cell? ⟨gb235, 2, none⟩ = some (.string (⟨#[]⟩ : ByteArray)) := (blk_cell BK235.out 2).trans rfl
                        have hfz62_0 := blk_frozen BK235.out 0
                        have hfz62_1 := blk_frozen BK235.out 1
                        have hfz62_2 := blk_frozen BK235.out 2
                        go_wp2
                        refine bodyPost_ret (results_ct rfl _ _ gb235 37 #[.int .u8 0, .int .i64 0, .string (⟨#[]⟩ : ByteArray)] (0, 0) _ rfl (by (with_reducible repeat (fail)); refine blk_put (cs := #[.int .u8 0, .int .i64 0, .string (⟨#[]⟩ : ByteArray)]) ?_ 2 _ rfl; (with_reducible repeat (fail)); refine blk_put (cs := #[.int .u8 0, .int .i64 0, .string (⟨#[]⟩ : ByteArray)]) ?_ 1 _ rfl; (with_reducible repeat (fail)); refine blk_put (cs := #[.int .u8 0, .int .i64 0, .string (⟨#[]⟩ : ByteArray)]) ?_ 0 _ rfl; (with_reducible repeat (fail)); exact BK235.out) Try.underlying37 rfl (by kernel_rfl)) rfl ?_
                        exact ⟨by rfl, by repeat ((with_reducible first | exact HB.out | refine below_set ?_ GE235.out))⟩
                      replace c59 := Bool.eq_false_iff.mpr c59
                      subst c59
                      have H1 : (if a1 = (-9223372036854775808) then (sacristanref01_ints.j5 kj53 a1 a2 false 0 0 (⟨#[]⟩ : ByteArray)) else (if a2 = (-9223372036854775808) then (sacristanref01_ints.j5 kj53 a1 a2 false 0 0 (⟨#[]⟩ : ByteArray)) else (if a2 = 0 then (none) else (sacristanref01_ints.j5 kj53 a1 a2 ((wrap64 (Int.tdiv (wrap64 (a1 * a2)) a2)) != a1) 0 0 (⟨#[]⟩ : ByteArray))))) = some (r1, r2, r3, r4) := by rw [if_neg (show ¬ (false = true) by decide)] at H; exact H
                      clear H
                      have H := H1
                      clear H1
                      have HC63 := Aside0.mk H
                      clear H
                      go_upto_region 18 with (fail)
                      go_cut [114] (fun v114 wc => ∃ (kq : Nat) (x114_62 : Bool), v114 = .bool x114_62 ∧ Aside0 (sacristanref01_ints.j5 kq a1 a2 x114_62 0 0 (⟨#[]⟩ : ByteArray) = some (r1, r2, r3, r4)) ∧ Aside0 (kq ≤ kj53) ∧ Aside0 (wc.heap[gb235]? = some (.cells #[.int .u8 0, .int .i64 0, .string (⟨#[]⟩ : ByteArray)] 37 (0, 0))) ∧ Aside0 (wc.heap[gb236]? = some (.cells #[.int .u8 0, .int .i64 0, .string (⟨#[]⟩ : ByteArray)] 37 (0, 0))) ∧ Aside0 (Below w.heap.size w wc))
                      case first =>
                        have H := HC63.out
                        clear HC63
                        by_cases c64 : a1 = (-9223372036854775808)
                        · as_aux_lemma =>
                          rw [if_pos c64] at H
                          have c64b0 : (a1 == (-9223372036854775808)) = true := beq_iff_eq.mpr c64
                          have c64b1 : (a1 != (-9223372036854775808)) = false := bne_eq_false_iff_eq.mpr c64
                          clear c64
                          (skip)
                          have H' := Aside0.mk H
                          clear H
                          go_wp2
                          go_meet
                          case rel => exact ⟨_, (false), (by rfl), H', ⟨by have := HJ37.out; have := HJ44.out; have := HJ53.out; omega⟩, ⟨by (with_reducible repeat (fail)); exact BK235.out⟩, ⟨by (with_reducible repeat (fail)); exact BK236.out⟩, ⟨by repeat ((with_reducible exact HB.out))⟩⟩
                        · as_aux_lemma =>
                          rw [if_neg c64] at H
                          have c64b0 : (a1 == (-9223372036854775808)) = false := beq_eq_false_iff_ne.mpr c64
                          have c64b1 : (a1 != (-9223372036854775808)) = true := bne_iff_ne.mpr c64
                          (skip)
                          by_cases c65 : a2 = (-9223372036854775808)
                          · as_aux_lemma =>
                            rw [if_pos c65] at H
                            have c65b0 : (a2 == (-9223372036854775808)) = true := beq_iff_eq.mpr c65
                            have c65b1 : (a2 != (-9223372036854775808)) = false := bne_eq_false_iff_eq.mpr c65
                            clear c65
                            have H' := Aside0.mk H
                            clear H
                            go_wp2
                            go_meet
                            case rel => exact ⟨_, (false), (by rfl), H', ⟨by have := HJ37.out; have := HJ44.out; have := HJ53.out; omega⟩, ⟨by (with_reducible repeat (fail)); exact BK235.out⟩, ⟨by (with_reducible repeat (fail)); exact BK236.out⟩, ⟨by repeat ((with_reducible exact HB.out))⟩⟩
                          · as_aux_lemma =>
                            rw [if_neg c65] at H
                            have c65b0 : (a2 == (-9223372036854775808)) = false := beq_eq_false_iff_ne.mpr c65
                            have c65b1 : (a2 != (-9223372036854775808)) = true := bne_iff_ne.mpr c65
                            by_cases c66 : a2 = 0
                            · as_aux_lemma =>
                              rw [if_pos c66] at H
                              exact absurd H (by simp)
                            · as_aux_lemma =>
                              rw [if_neg c66] at H
                              have c66b0 : (a2 == 0) = false := beq_eq_false_iff_ne.mpr c66
                              have c66b1 : (a2 != 0) = true := bne_iff_ne.mpr c66
                              have H' := Aside0.mk H
                              clear H
                              go_wp2
                              go_meet
                              case rel => exact ⟨_, (((wrap64 (Int.tdiv (wrap64 (a1 * a2)) a2)) != a1)), (by rfl), H', ⟨by have := HJ37.out; have := HJ44.out; have := HJ53.out; omega⟩, ⟨by (with_reducible repeat (fail)); exact BK235.out⟩, ⟨by (with_reducible repeat (fail)); exact BK236.out⟩, ⟨by repeat ((with_reducible exact HB.out))⟩⟩
                      case rest =>
                        clear HC63
                        obtain ⟨kq, x114_62, rfl, HA, HJ62, BK235, BK236, HB⟩ := hcut
                        cases kq with
                        | zero => exact absurd HA.out (by simp [sacristanref01_ints.j5])
                        | succ kj62 =>
                          have H := HA.out
                          clear HA
                          simp only [sacristanref01_ints.j5] at H
                          by_cases c67 : x114_62 = true
                          · subst c67
                            have H1 : (some (0, 0, (⟨#[]⟩ : ByteArray), 3)) = some (r1, r2, r3, r4) := by rw [if_pos rfl] at H; exact H
                            clear H
                            have H := H1
                            clear H1
                            simp only [Option.some.injEq, Prod.mk.injEq] at H
                            obtain ⟨rfl, rfl, rfl, rfl⟩ := H
                            have hnb68 := NB236_235.out
                            have hnc68 := NB235_236.out
                            have hcz69_0 : wc.cell? ⟨gb236, 0, none⟩ = some (.int .u8 0) := (blk_cell BK236.out 0).trans rfl
                            have hcz69_1 : wc.cell? ⟨gb236, 1, none⟩ = some (.int .i64 0) := (blk_cell BK236.out 1).trans rfl
                            have hcz69_2 : wc.cell? ⟨gb236, 2, none⟩ = some (.string (⟨#[]⟩ : ByteArray)) := (blk_cell BK236.out 2).trans rfl
                            have hfz69_0 := blk_frozen BK236.out 0
                            have hfz69_1 := blk_frozen BK236.out 1
                            have hfz69_2 := blk_frozen BK236.out 2
                            have hcz70_0 : wc.cell? ⟨gb235, 0, none⟩ = some (.int .u8 0) := (blk_cell BK235.out 0).trans rfl
                            have hcz70_1 : wc.cell? ⟨gb235, 1, none⟩ = some (.int .i64 0) := (blk_cell BK235.out 1).trans rfl
                            have hcz70_2 : wc.cell? ⟨gb235, 2, none⟩ = some (.string (⟨#[]⟩ : ByteArray)) := (blk_cell BK235.out 2).trans rfl
                            have hfz70_0 := blk_frozen BK235.out 0
                            have hfz70_1 := blk_frozen BK235.out 1
                            have hfz70_2 := blk_frozen BK235.out 2
                            go_wp2
                            refine bodyPost_ret (results_ct rfl _ _ gb235 37 #[.int .u8 0, .int .i64 0, .string (⟨#[]⟩ : ByteArray)] (0, 0) _ rfl (by (with_reducible repeat (fail)); refine blk_put (cs := #[.int .u8 0, .int .i64 0, .string (⟨#[]⟩ : ByteArray)]) ?_ 2 _ rfl; (with_reducible repeat (fail)); refine blk_put (cs := #[.int .u8 0, .int .i64 0, .string (⟨#[]⟩ : ByteArray)]) ?_ 1 _ rfl; (with_reducible repeat (fail)); refine blk_put (cs := #[.int .u8 0, .int .i64 0, .string (⟨#[]⟩ : ByteArray)]) ?_ 0 _ rfl; (with_reducible repeat (fail)); exact BK235.out) Try.underlying37 rfl (by kernel_rfl)) rfl ?_
                            exact ⟨by rfl, by repeat ((with_reducible first | exact HB.out | refine below_set ?_ GE235.out))⟩
                          replace c67 := Bool.eq_false_iff.mpr c67
                          subst c67
                          have H1 : ((sacristanref01_Int.f (wrap64 (a1 * a2))).bind fun bt246 => (some (bt246.1, bt246.2.1, bt246.2.2, 0))) = some (r1, r2, r3, r4) := by rw [if_neg (show ¬ (false = true) by decide)] at H; exact H
                          clear H
                          have H := H1
                          clear H1
                          replace H := Option.bind_eq_some_iff.mp H
                          obtain ⟨⟨t246, t247, t248⟩, A710, H⟩ := H
                          replace H : (some (t246, t247, t248, 0)) = some (r1, r2, r3, r4) := H
                          have A71 := Aside0.mk A710
                          clear A710
                          simp only [Option.some.injEq, Prod.mk.injEq] at H
                          obtain ⟨rfl, rfl, rfl, rfl⟩ := H
                          go_wp2_with (((with_reducible refine gate_callee (f := 87) rfl ?_); refine goesL_ (some 119) rfl rfl Try.func87 (by kernel_rfl) rfl #[.int .i64 (wrap64 (a1 * a2))] rfl (by (try simp only [List.map_toArray, List.map_cons, List.map_nil]); rfl) ?_; (with_reducible refine (sacristanref01_Int.calls (wrap64 (a1 * a2)) t246 t247 t248 _ A71.out).mono ?_); rintro e w72 ⟨rfl, hb⟩; refine ⟨_, rfl, ?_⟩; have n0_ := Aside0.mk (blk_below (g := gb235) (o := .cells #[.int .u8 0, .int .i64 0, .string (⟨#[]⟩ : ByteArray)] 37 (0, 0)) (by (with_reducible repeat (fail)); exact BK235.out) hb); have n1_ := Aside0.mk (blk_below (g := gb236) (o := .cells #[.int .u8 0, .int .i64 0, .string (⟨#[]⟩ : ByteArray)] 37 (0, 0)) (by (with_reducible repeat (fail)); exact BK236.out) hb); have n2_ := Aside0.mk (below_step (by repeat ((with_reducible exact HB.out))) hb); clear BK235; clear BK236; clear HB; have BK235 := n0_; have BK236 := n1_; have HB := n2_; clear n0_ n1_ n2_; (try clear hb); have hnb73 := NB235_236.out; have hnc73 := NB236_235.out; have hcz74_0 : w72.cell? ⟨gb235, 0, none⟩ = some (.int .u8 0) := (blk_cell BK235.out 0).trans rfl; have hcz74_1 : w72.cell? ⟨gb235, 1, none⟩ = some (.int .i64 0) := (blk_cell BK235.out 1).trans rfl; have hcz74_2 : w72.cell? ⟨gb235, 2, none⟩ = some (.string (⟨#[]⟩ : ByteArray)) := (blk_cell BK235.out 2).trans rfl; have hfz74_0 := blk_frozen BK235.out 0; have hfz74_1 := blk_frozen BK235.out 1; have hfz74_2 := blk_frozen BK235.out 2))
                          refine bodyPost_ret (results_ct rfl _ _ gb235 37 #[.int .u8 t246, .int .i64 t247, .string t248] (0, 0) _ rfl (by (with_reducible repeat (fail)); refine blk_put (cs := #[.int .u8 t246, .int .i64 t247, .string (⟨#[]⟩ : ByteArray)]) ?_ 2 _ rfl; (with_reducible repeat (fail)); refine blk_put (cs := #[.int .u8 t246, .int .i64 0, .string (⟨#[]⟩ : ByteArray)]) ?_ 1 _ rfl; (with_reducible repeat (fail)); refine blk_put (cs := #[.int .u8 0, .int .i64 0, .string (⟨#[]⟩ : ByteArray)]) ?_ 0 _ rfl; (with_reducible repeat (fail)); exact BK235.out) Try.underlying37 rfl (by kernel_rfl)) rfl ?_
                          exact ⟨by rfl, by repeat ((with_reducible first | exact HB.out | refine below_set ?_ GE235.out))⟩
        · as_aux_lemma =>
          rw [if_neg c37] at H
          have c37b0 : (a0.toList == ([42] : List UInt8)) = false := beq_eq_false_iff_ne.mpr c37
          have c37b1 : (a0.toList != ([42] : List UInt8)) = true := bne_iff_ne.mpr c37
          have HC75 := Aside0.mk H
          clear H
          go_upto_if 120 with (fail)
          go_cut [120] (fun v120 wc => ∃ (kq : Nat) (x120_74 : Bool), v120 = .bool x120_74 ∧ Aside0 (sacristanref01_ints.j6 kq a0 a1 a2 a0 x120_74 0 0 (⟨#[]⟩ : ByteArray) = some (r1, r2, r3, r4)) ∧ Aside0 (kq ≤ k) ∧ Aside0 (wc.heap[gb235]? = some (.cells #[.int .u8 0, .int .i64 0, .string (⟨#[]⟩ : ByteArray)] 37 (0, 0))) ∧ Aside0 (wc.heap[gb236]? = some (.cells #[.int .u8 0, .int .i64 0, .string (⟨#[]⟩ : ByteArray)] 37 (0, 0))) ∧ Aside0 (Below w.heap.size w wc))
          case first =>
            have H := HC75.out
            clear HC75
            by_cases c76 : a0.toList = ([47] : List UInt8)
            · as_aux_lemma =>
              rw [if_pos c76] at H
              have c76b0 : (a0.toList == ([47] : List UInt8)) = true := beq_iff_eq.mpr c76
              have c76b1 : (a0.toList != ([47] : List UInt8)) = false := bne_eq_false_iff_eq.mpr c76
              clear c76
              (rw [c76b0])
              have H' := Aside0.mk H
              clear H
              go_wp2
              go_meet
              case rel => exact ⟨_, ((a0.toList == ([47] : List UInt8))), (by ((simp [*]; done))), H', ⟨by omega⟩, ⟨by (with_reducible repeat (fail)); refine blk_far ?_ NB235_236.out _; (with_reducible repeat (fail)); refine blk_far ?_ NB235_236.out _; (with_reducible repeat (fail)); refine blk_far ?_ NB235_236.out _; (with_reducible repeat (fail)); exact BK235.out⟩, ⟨by (with_reducible repeat (fail)); refine blk_put (cs := #[.int .u8 0, .int .i64 0, .string (⟨#[]⟩ : ByteArray)]) ?_ 2 _ rfl; (with_reducible repeat (fail)); refine blk_put (cs := #[.int .u8 0, .int .i64 0, .string (⟨#[]⟩ : ByteArray)]) ?_ 1 _ rfl; (with_reducible repeat (fail)); refine blk_put (cs := #[.int .u8 0, .int .i64 0, .string (⟨#[]⟩ : ByteArray)]) ?_ 0 _ rfl; (with_reducible repeat (fail)); exact BK236.out⟩, ⟨by repeat ((with_reducible first | exact HB.out | refine below_set ?_ GE236.out))⟩⟩
            · as_aux_lemma =>
              rw [if_neg c76] at H
              have c76b0 : (a0.toList == ([47] : List UInt8)) = false := beq_eq_false_iff_ne.mpr c76
              have c76b1 : (a0.toList != ([47] : List UInt8)) = true := bne_iff_ne.mpr c76
              (rw [c76b0])
              have H' := Aside0.mk H
              clear H
              go_wp2
              go_meet
              case rel => exact ⟨_, ((a0.toList == ([37] : List UInt8))), (by rfl), H', ⟨by omega⟩, ⟨by (with_reducible repeat (fail)); refine blk_far ?_ NB235_236.out _; (with_reducible repeat (fail)); refine blk_far ?_ NB235_236.out _; (with_reducible repeat (fail)); refine blk_far ?_ NB235_236.out _; (with_reducible repeat (fail)); exact BK235.out⟩, ⟨by (with_reducible repeat (fail)); refine blk_put (cs := #[.int .u8 0, .int .i64 0, .string (⟨#[]⟩ : ByteArray)]) ?_ 2 _ rfl; (with_reducible repeat (fail)); refine blk_put (cs := #[.int .u8 0, .int .i64 0, .string (⟨#[]⟩ : ByteArray)]) ?_ 1 _ rfl; (with_reducible repeat (fail)); refine blk_put (cs := #[.int .u8 0, .int .i64 0, .string (⟨#[]⟩ : ByteArray)]) ?_ 0 _ rfl; (with_reducible repeat (fail)); exact BK236.out⟩, ⟨by repeat ((with_reducible first | exact HB.out | refine below_set ?_ GE236.out))⟩⟩
          case rest =>
            clear HC75 c9 c9b0 c9b1 c23 c23b0 c23b1 c37 c37b0 c37b1 hcz8_0 hcz8_1 hcz8_2 hfz8_0 hfz8_1 hfz8_2
            obtain ⟨kq, x120_74, rfl, HA, HJ74, BK235, BK236, HB⟩ := hcut
            cases kq with
            | zero => exact absurd HA.out (by simp [sacristanref01_ints.j6])
            | succ kj74 =>
              have H := HA.out
              clear HA
              simp only [sacristanref01_ints.j6] at H
              by_cases c77 : x120_74 = true
              · subst c77
                have H1 : (if a2 = 0 then (some (0, 0, (⟨#[]⟩ : ByteArray), 4)) else (if a0.toList = ([37] : List UInt8) then (sacristanref01_ints.j7 kj74 a0 a1 a2 (a2 == (-1)) 0 0 (⟨#[]⟩ : ByteArray)) else (sacristanref01_ints.j7 kj74 a0 a1 a2 false 0 0 (⟨#[]⟩ : ByteArray)))) = some (r1, r2, r3, r4) := by rw [if_pos rfl] at H; exact H
                clear H
                have H := H1
                clear H1
                by_cases c78 : a2 = 0
                · as_aux_lemma =>
                  rw [if_pos c78] at H
                  have c78b0 : (a2 == 0) = true := beq_iff_eq.mpr c78
                  have c78b1 : (a2 != 0) = false := bne_eq_false_iff_eq.mpr c78
                  clear c78
                  simp only [Option.some.injEq, Prod.mk.injEq] at H
                  obtain ⟨rfl, rfl, rfl, rfl⟩ := H
                  have hnb79 := NB236_235.out
                  have hnc79 := NB235_236.out
                  have hcz80_0 : wc.cell? ⟨gb236, 0, none⟩ = some (.int .u8 0) := (blk_cell BK236.out 0).trans rfl
                  have hcz80_1 : wc.cell? ⟨gb236, 1, none⟩ = some (.int .i64 0) := (blk_cell BK236.out 1).trans rfl
                  have hcz80_2 : wc.cell? ⟨gb236, 2, none⟩ = some (.string (⟨#[]⟩ : ByteArray)) := (blk_cell BK236.out 2).trans rfl
                  have hfz80_0 := blk_frozen BK236.out 0
                  have hfz80_1 := blk_frozen BK236.out 1
                  have hfz80_2 := blk_frozen BK236.out 2
                  have hcz81_0 : wc.cell? ⟨gb235, 0, none⟩ = some (.int .u8 0) := (blk_cell BK235.out 0).trans rfl
                  have hcz81_1 : wc.cell? ⟨gb235, 1, none⟩ = some (.int .i64 0) := (blk_cell BK235.out 1).trans rfl
                  have hcz81_2 : wc.cell? ⟨gb235, 2, none⟩ = some (.string (⟨#[]⟩ : ByteArray)) := (blk_cell BK235.out 2).trans rfl
                  have hfz81_0 := blk_frozen BK235.out 0
                  have hfz81_1 := blk_frozen BK235.out 1
                  have hfz81_2 := blk_frozen BK235.out 2
                  go_wp2
                  refine bodyPost_ret (results_ct rfl _ _ gb235 37 #[.int .u8 0, .int .i64 0, .string (⟨#[]⟩ : ByteArray)] (0, 0) _ rfl (by (with_reducible repeat (fail)); refine blk_put (cs := #[.int .u8 0, .int .i64 0, .string (⟨#[]⟩ : ByteArray)]) ?_ 2 _ rfl; (with_reducible repeat (fail)); refine blk_put (cs := #[.int .u8 0, .int .i64 0, .string (⟨#[]⟩ : ByteArray)]) ?_ 1 _ rfl; (with_reducible repeat (fail)); refine blk_put (cs := #[.int .u8 0, .int .i64 0, .string (⟨#[]⟩ : ByteArray)]) ?_ 0 _ rfl; (with_reducible repeat (fail)); exact BK235.out) Try.underlying37 rfl (by kernel_rfl)) rfl ?_
                  exact ⟨by rfl, by repeat ((with_reducible first | exact HB.out | refine below_set ?_ GE235.out))⟩
                · as_aux_lemma =>
                  rw [if_neg c78] at H
                  have c78b0 : (a2 == 0) = false := beq_eq_false_iff_ne.mpr c78
                  have c78b1 : (a2 != 0) = true := bne_iff_ne.mpr c78
                  have HC82 := Aside0.mk H
                  clear H
                  go_upto_region 25 with (fail)
                  go_cut [131] (fun v131 wc => ∃ (kq : Nat) (x131_81 : Bool), v131 = .bool x131_81 ∧ Aside0 (sacristanref01_ints.j7 kq a0 a1 a2 x131_81 0 0 (⟨#[]⟩ : ByteArray) = some (r1, r2, r3, r4)) ∧ Aside0 (kq ≤ kj74) ∧ Aside0 (wc.heap[gb235]? = some (.cells #[.int .u8 0, .int .i64 0, .string (⟨#[]⟩ : ByteArray)] 37 (0, 0))) ∧ Aside0 (wc.heap[gb236]? = some (.cells #[.int .u8 0, .int .i64 0, .string (⟨#[]⟩ : ByteArray)] 37 (0, 0))) ∧ Aside0 (Below w.heap.size w wc))
                  case first =>
                    have H := HC82.out
                    clear HC82
                    by_cases c83 : a0.toList = ([37] : List UInt8)
                    · as_aux_lemma =>
                      rw [if_pos c83] at H
                      have c83b0 : (a0.toList == ([37] : List UInt8)) = true := beq_iff_eq.mpr c83
                      have c83b1 : (a0.toList != ([37] : List UInt8)) = false := bne_eq_false_iff_eq.mpr c83
                      clear c83
                      (skip)
                      have H' := Aside0.mk H
                      clear H
                      go_wp2
                      go_meet
                      case rel => exact ⟨_, ((a2 == (-1))), (by rfl), H', ⟨by have := HJ74.out; omega⟩, ⟨by (with_reducible repeat (fail)); exact BK235.out⟩, ⟨by (with_reducible repeat (fail)); exact BK236.out⟩, ⟨by repeat ((with_reducible exact HB.out))⟩⟩
                    · as_aux_lemma =>
                      rw [if_neg c83] at H
                      have c83b0 : (a0.toList == ([37] : List UInt8)) = false := beq_eq_false_iff_ne.mpr c83
                      have c83b1 : (a0.toList != ([37] : List UInt8)) = true := bne_iff_ne.mpr c83
                      (skip)
                      have H' := Aside0.mk H
                      clear H
                      go_wp2
                      go_meet
                      case rel => exact ⟨_, (false), (by rfl), H', ⟨by have := HJ74.out; omega⟩, ⟨by (with_reducible repeat (fail)); exact BK235.out⟩, ⟨by (with_reducible repeat (fail)); exact BK236.out⟩, ⟨by repeat ((with_reducible exact HB.out))⟩⟩
                  case rest =>
                    clear HC82 c78 c78b0 c78b1
                    obtain ⟨kq, x131_81, rfl, HA, HJ81, BK235, BK236, HB⟩ := hcut
                    cases kq with
                    | zero => exact absurd HA.out (by simp [sacristanref01_ints.j7])
                    | succ kj81 =>
                      have H := HA.out
                      clear HA
                      simp only [sacristanref01_ints.j7] at H
                      by_cases c84 : x131_81 = true
                      · subst c84
                        have H1 : ((sacristanref01_Int.f 0).bind fun bt249 => (some (bt249.1, bt249.2.1, bt249.2.2, 0))) = some (r1, r2, r3, r4) := by rw [if_pos rfl] at H; exact H
                        clear H
                        have H := H1
                        clear H1
                        replace H := Option.bind_eq_some_iff.mp H
                        obtain ⟨⟨t249, t250, t251⟩, A850, H⟩ := H
                        replace H : (some (t249, t250, t251, 0)) = some (r1, r2, r3, r4) := H
                        have A85 := Aside0.mk A850
                        clear A850
                        simp only [Option.some.injEq, Prod.mk.injEq] at H
                        obtain ⟨rfl, rfl, rfl, rfl⟩ := H
                        go_wp2_with (((with_reducible refine gate_callee (f := 87) rfl ?_); refine goesL_ (some 132) rfl rfl Try.func87 (by kernel_rfl) rfl #[.int .i64 0] rfl (by (try simp only [List.map_toArray, List.map_cons, List.map_nil]); rfl) ?_; (with_reducible refine (sacristanref01_Int.calls 0 t249 t250 t251 _ A85.out).mono ?_); rintro e w86 ⟨rfl, hb⟩; refine ⟨_, rfl, ?_⟩; have n0_ := Aside0.mk (blk_below (g := gb235) (o := .cells #[.int .u8 0, .int .i64 0, .string (⟨#[]⟩ : ByteArray)] 37 (0, 0)) (by (with_reducible repeat (fail)); exact BK235.out) hb); have n1_ := Aside0.mk (blk_below (g := gb236) (o := .cells #[.int .u8 0, .int .i64 0, .string (⟨#[]⟩ : ByteArray)] 37 (0, 0)) (by (with_reducible repeat (fail)); exact BK236.out) hb); have n2_ := Aside0.mk (below_step (by repeat ((with_reducible exact HB.out))) hb); clear BK235; clear BK236; clear HB; have BK235 := n0_; have BK236 := n1_; have HB := n2_; clear n0_ n1_ n2_; (try clear hb); have hnb87 := NB235_236.out; have hnc87 := NB236_235.out; have hcz88_0 : w86.cell? ⟨gb235, 0, none⟩ = some (.int .u8 0) := (blk_cell BK235.out 0).trans rfl; have hcz88_1 : w86.cell? ⟨gb235, 1, none⟩ = some (.int .i64 0) := (blk_cell BK235.out 1).trans rfl; have hcz88_2 : w86.cell? ⟨gb235, 2, none⟩ = some (.string (⟨#[]⟩ : ByteArray)) := (blk_cell BK235.out 2).trans rfl; have hfz88_0 := blk_frozen BK235.out 0; have hfz88_1 := blk_frozen BK235.out 1; have hfz88_2 := blk_frozen BK235.out 2))
                        refine bodyPost_ret (results_ct rfl _ _ gb235 37 #[.int .u8 t249, .int .i64 t250, .string t251] (0, 0) _ rfl (by (with_reducible repeat (fail)); refine blk_put (cs := #[.int .u8 t249, .int .i64 t250, .string (⟨#[]⟩ : ByteArray)]) ?_ 2 _ rfl; (with_reducible repeat (fail)); refine blk_put (cs := #[.int .u8 t249, .int .i64 0, .string (⟨#[]⟩ : ByteArray)]) ?_ 1 _ rfl; (with_reducible repeat (fail)); refine blk_put (cs := #[.int .u8 0, .int .i64 0, .string (⟨#[]⟩ : ByteArray)]) ?_ 0 _ rfl; (with_reducible repeat (fail)); exact BK235.out) Try.underlying37 rfl (by kernel_rfl)) rfl ?_
                        exact ⟨by rfl, by repeat ((with_reducible first | exact HB.out | refine below_set ?_ GE235.out))⟩
                      replace c84 := Bool.eq_false_iff.mpr c84
                      subst c84
                      have H1 : (if a2 = (-1) then (sacristanref01_ints.j8 kj81 a0 a1 a2 (a1 == (-9223372036854775808)) 0 0 (⟨#[]⟩ : ByteArray)) else (sacristanref01_ints.j8 kj81 a0 a1 a2 false 0 0 (⟨#[]⟩ : ByteArray))) = some (r1, r2, r3, r4) := by rw [if_neg (show ¬ (false = true) by decide)] at H; exact H
                      clear H
                      have H := H1
                      clear H1
                      have HC89 := Aside0.mk H
                      clear H
                      go_upto_region 27 with (fail)
                      go_cut [138] (fun v138 wc => ∃ (kq : Nat) (x138_88 : Bool), v138 = .bool x138_88 ∧ Aside0 (sacristanref01_ints.j8 kq a0 a1 a2 x138_88 0 0 (⟨#[]⟩ : ByteArray) = some (r1, r2, r3, r4)) ∧ Aside0 (kq ≤ kj81) ∧ Aside0 (wc.heap[gb235]? = some (.cells #[.int .u8 0, .int .i64 0, .string (⟨#[]⟩ : ByteArray)] 37 (0, 0))) ∧ Aside0 (wc.heap[gb236]? = some (.cells #[.int .u8 0, .int .i64 0, .string (⟨#[]⟩ : ByteArray)] 37 (0, 0))) ∧ Aside0 (Below w.heap.size w wc))
                      case first =>
                        have H := HC89.out
                        clear HC89
                        by_cases c90 : a2 = (-1)
                        · as_aux_lemma =>
                          rw [if_pos c90] at H
                          have c90b0 : (a2 == (-1)) = true := beq_iff_eq.mpr c90
                          have c90b1 : (a2 != (-1)) = false := bne_eq_false_iff_eq.mpr c90
                          clear c90
                          (skip)
                          have H' := Aside0.mk H
                          clear H
                          go_wp2
                          go_meet
                          case rel => exact ⟨_, ((a1 == (-9223372036854775808))), (by rfl), H', ⟨by have := HJ74.out; have := HJ81.out; omega⟩, ⟨by (with_reducible repeat (fail)); exact BK235.out⟩, ⟨by (with_reducible repeat (fail)); exact BK236.out⟩, ⟨by repeat ((with_reducible exact HB.out))⟩⟩
                        · as_aux_lemma =>
                          rw [if_neg c90] at H
                          have c90b0 : (a2 == (-1)) = false := beq_eq_false_iff_ne.mpr c90
                          have c90b1 : (a2 != (-1)) = true := bne_iff_ne.mpr c90
                          (skip)
                          have H' := Aside0.mk H
                          clear H
                          go_wp2
                          go_meet
                          case rel => exact ⟨_, (false), (by rfl), H', ⟨by have := HJ74.out; have := HJ81.out; omega⟩, ⟨by (with_reducible repeat (fail)); exact BK235.out⟩, ⟨by (with_reducible repeat (fail)); exact BK236.out⟩, ⟨by repeat ((with_reducible exact HB.out))⟩⟩
                      case rest =>
                        clear HC89
                        obtain ⟨kq, x138_88, rfl, HA, HJ88, BK235, BK236, HB⟩ := hcut
                        cases kq with
                        | zero => exact absurd HA.out (by simp [sacristanref01_ints.j8])
                        | succ kj88 =>
                          have H := HA.out
                          clear HA
                          simp only [sacristanref01_ints.j8] at H
                          by_cases c91 : x138_88 = true
                          · subst c91
                            have H1 : (some (0, 0, (⟨#[]⟩ : ByteArray), 3)) = some (r1, r2, r3, r4) := by rw [if_pos rfl] at H; exact H
                            clear H
                            have H := H1
                            clear H1
                            simp only [Option.some.injEq, Prod.mk.injEq] at H
                            obtain ⟨rfl, rfl, rfl, rfl⟩ := H
                            have hnb92 := NB236_235.out
                            have hnc92 := NB235_236.out
                            have hcz93_0 : wc.cell? ⟨gb236, 0, none⟩ = some (.int .u8 0) := (blk_cell BK236.out 0).trans rfl
                            have hcz93_1 : wc.cell? ⟨gb236, 1, none⟩ = some (.int .i64 0) := (blk_cell BK236.out 1).trans rfl
                            have hcz93_2 : wc.cell? ⟨gb236, 2, none⟩ = some (.string (⟨#[]⟩ : ByteArray)) := (blk_cell BK236.out 2).trans rfl
                            have hfz93_0 := blk_frozen BK236.out 0
                            have hfz93_1 := blk_frozen BK236.out 1
                            have hfz93_2 := blk_frozen BK236.out 2
                            have hcz94_0 : wc.cell? ⟨gb235, 0, none⟩ = some (.int .u8 0) := (blk_cell BK235.out 0).trans rfl
                            have hcz94_1 : wc.cell? ⟨gb235, 1, none⟩ = some (.int .i64 0) := (blk_cell BK235.out 1).trans rfl
                            have hcz94_2 : wc.cell? ⟨gb235, 2, none⟩ = some (.string (⟨#[]⟩ : ByteArray)) := (blk_cell BK235.out 2).trans rfl
                            have hfz94_0 := blk_frozen BK235.out 0
                            have hfz94_1 := blk_frozen BK235.out 1
                            have hfz94_2 := blk_frozen BK235.out 2
                            go_wp2
                            refine bodyPost_ret (results_ct rfl _ _ gb235 37 #[.int .u8 0, .int .i64 0, .string (⟨#[]⟩ : ByteArray)] (0, 0) _ rfl (by (with_reducible repeat (fail)); refine blk_put (cs := #[.int .u8 0, .int .i64 0, .string (⟨#[]⟩ : ByteArray)]) ?_ 2 _ rfl; (with_reducible repeat (fail)); refine blk_put (cs := #[.int .u8 0, .int .i64 0, .string (⟨#[]⟩ : ByteArray)]) ?_ 1 _ rfl; (with_reducible repeat (fail)); refine blk_put (cs := #[.int .u8 0, .int .i64 0, .string (⟨#[]⟩ : ByteArray)]) ?_ 0 _ rfl; (with_reducible repeat (fail)); exact BK235.out) Try.underlying37 rfl (by kernel_rfl)) rfl ?_
                            exact ⟨by rfl, by repeat ((with_reducible first | exact HB.out | refine below_set ?_ GE235.out))⟩
                          replace c91 := Bool.eq_false_iff.mpr c91
                          subst c91
                          have H1 : (if a0.toList = ([47] : List UInt8) then (if a2 = 0 then (none) else ((sacristanref01_Int.f (wrap64 (Int.tdiv a1 a2))).bind fun bt252 => (some (bt252.1, bt252.2.1, bt252.2.2, 0)))) else (if a2 = 0 then (none) else ((sacristanref01_Int.f (wrap64 (a1 - (wrap64 ((wrap64 (Int.tdiv a1 a2)) * a2))))).bind fun bt255 => (some (bt255.1, bt255.2.1, bt255.2.2, 0))))) = some (r1, r2, r3, r4) := by rw [if_neg (show ¬ (false = true) by decide)] at H; exact H
                          clear H
                          have H := H1
                          clear H1
                          by_cases c95 : a0.toList = ([47] : List UInt8)
                          · as_aux_lemma =>
                            rw [if_pos c95] at H
                            have c95b0 : (a0.toList == ([47] : List UInt8)) = true := beq_iff_eq.mpr c95
                            have c95b1 : (a0.toList != ([47] : List UInt8)) = false := bne_eq_false_iff_eq.mpr c95
                            clear c95
                            by_cases c96 : a2 = 0
                            · as_aux_lemma =>
                              rw [if_pos c96] at H
                              exact absurd H (by simp)
                            · as_aux_lemma =>
                              rw [if_neg c96] at H
                              have c96b0 : (a2 == 0) = false := beq_eq_false_iff_ne.mpr c96
                              have c96b1 : (a2 != 0) = true := bne_iff_ne.mpr c96
                              replace H := Option.bind_eq_some_iff.mp H
                              obtain ⟨⟨t252, t253, t254⟩, A970, H⟩ := H
                              replace H : (some (t252, t253, t254, 0)) = some (r1, r2, r3, r4) := H
                              have A97 := Aside0.mk A970
                              clear A970
                              simp only [Option.some.injEq, Prod.mk.injEq] at H
                              obtain ⟨rfl, rfl, rfl, rfl⟩ := H
                              go_wp2_with (((with_reducible refine gate_callee (f := 87) rfl ?_); refine goesL_ (some 145) rfl rfl Try.func87 (by kernel_rfl) rfl #[.int .i64 (wrap64 (Int.tdiv a1 a2))] rfl (by (try simp only [List.map_toArray, List.map_cons, List.map_nil]); rfl) ?_; (with_reducible refine (sacristanref01_Int.calls (wrap64 (Int.tdiv a1 a2)) t252 t253 t254 _ A97.out).mono ?_); rintro e w98 ⟨rfl, hb⟩; refine ⟨_, rfl, ?_⟩; have n0_ := Aside0.mk (blk_below (g := gb235) (o := .cells #[.int .u8 0, .int .i64 0, .string (⟨#[]⟩ : ByteArray)] 37 (0, 0)) (by (with_reducible repeat (fail)); exact BK235.out) hb); have n1_ := Aside0.mk (blk_below (g := gb236) (o := .cells #[.int .u8 0, .int .i64 0, .string (⟨#[]⟩ : ByteArray)] 37 (0, 0)) (by (with_reducible repeat (fail)); exact BK236.out) hb); have n2_ := Aside0.mk (below_step (by repeat ((with_reducible exact HB.out))) hb); clear BK235; clear BK236; clear HB; have BK235 := n0_; have BK236 := n1_; have HB := n2_; clear n0_ n1_ n2_; (try clear hb); have hnb99 := NB235_236.out; have hnc99 := NB236_235.out; have hcz100_0 : w98.cell? ⟨gb235, 0, none⟩ = some (.int .u8 0) := (blk_cell BK235.out 0).trans rfl; have hcz100_1 : w98.cell? ⟨gb235, 1, none⟩ = some (.int .i64 0) := (blk_cell BK235.out 1).trans rfl; have hcz100_2 : w98.cell? ⟨gb235, 2, none⟩ = some (.string (⟨#[]⟩ : ByteArray)) := (blk_cell BK235.out 2).trans rfl; have hfz100_0 := blk_frozen BK235.out 0; have hfz100_1 := blk_frozen BK235.out 1; have hfz100_2 := blk_frozen BK235.out 2))
                              refine bodyPost_ret (results_ct rfl _ _ gb235 37 #[.int .u8 t252, .int .i64 t253, .string t254] (0, 0) _ rfl (by (with_reducible repeat (fail)); refine blk_put (cs := #[.int .u8 t252, .int .i64 t253, .string (⟨#[]⟩ : ByteArray)]) ?_ 2 _ rfl; (with_reducible repeat (fail)); refine blk_put (cs := #[.int .u8 t252, .int .i64 0, .string (⟨#[]⟩ : ByteArray)]) ?_ 1 _ rfl; (with_reducible repeat (fail)); refine blk_put (cs := #[.int .u8 0, .int .i64 0, .string (⟨#[]⟩ : ByteArray)]) ?_ 0 _ rfl; (with_reducible repeat (fail)); exact BK235.out) Try.underlying37 rfl (by kernel_rfl)) rfl ?_
                              exact ⟨by rfl, by repeat ((with_reducible first | exact HB.out | refine below_set ?_ GE235.out))⟩
                          · as_aux_lemma =>
                            rw [if_neg c95] at H
                            have c95b0 : (a0.toList == ([47] : List UInt8)) = false := beq_eq_false_iff_ne.mpr c95
                            have c95b1 : (a0.toList != ([47] : List UInt8)) = true := bne_iff_ne.mpr c95
                            by_cases c101 : a2 = 0
                            · as_aux_lemma =>
                              rw [if_pos c101] at H
                              exact absurd H (by simp)
                            · as_aux_lemma =>
                              rw [if_neg c101] at H
                              have c101b0 : (a2 == 0) = false := beq_eq_false_iff_ne.mpr c101
                              have c101b1 : (a2 != 0) = true := bne_iff_ne.mpr c101
                              replace H := Option.bind_eq_some_iff.mp H
                              obtain ⟨⟨t255, t256, t257⟩, A1020, H⟩ := H
                              replace H : (some (t255, t256, t257, 0)) = some (r1, r2, r3, r4) := H
                              have A102 := Aside0.mk A1020
                              clear A1020
                              simp only [Option.some.injEq, Prod.mk.injEq] at H
                              obtain ⟨rfl, rfl, rfl, rfl⟩ := H
                              go_wp2_with (((with_reducible refine gate_callee (f := 87) rfl ?_); refine goesL_ (some 153) rfl rfl Try.func87 (by kernel_rfl) rfl #[.int .i64 (wrap64 (a1 - (wrap64 ((wrap64 (Int.tdiv a1 a2)) * a2))))] rfl (by (try simp only [List.map_toArray, List.map_cons, List.map_nil]); rfl) ?_; (with_reducible refine (sacristanref01_Int.calls (wrap64 (a1 - (wrap64 ((wrap64 (Int.tdiv a1 a2)) * a2)))) t255 t256 t257 _ A102.out).mono ?_); rintro e w103 ⟨rfl, hb⟩; refine ⟨_, rfl, ?_⟩; have n0_ := Aside0.mk (blk_below (g := gb235) (o := .cells #[.int .u8 0, .int .i64 0, .string (⟨#[]⟩ : ByteArray)] 37 (0, 0)) (by (with_reducible repeat (fail)); exact BK235.out) hb); have n1_ := Aside0.mk (blk_below (g := gb236) (o := .cells #[.int .u8 0, .int .i64 0, .string (⟨#[]⟩ : ByteArray)] 37 (0, 0)) (by (with_reducible repeat (fail)); exact BK236.out) hb); have n2_ := Aside0.mk (below_step (by repeat ((with_reducible exact HB.out))) hb); clear BK235; clear BK236; clear HB; have BK235 := n0_; have BK236 := n1_; have HB := n2_; clear n0_ n1_ n2_; (try clear hb); have hnb104 := NB235_236.out; have hnc104 := NB236_235.out; have hcz105_0 : w103.cell? ⟨gb235, 0, none⟩ = some (.int .u8 0) := (blk_cell BK235.out 0).trans rfl; have hcz105_1 : w103.cell? ⟨gb235, 1, none⟩ = some (.int .i64 0) := (blk_cell BK235.out 1).trans rfl; have hcz105_2 : w103.cell? ⟨gb235, 2, none⟩ = some (.string (⟨#[]⟩ : ByteArray)) := (blk_cell BK235.out 2).trans rfl; have hfz105_0 := blk_frozen BK235.out 0; have hfz105_1 := blk_frozen BK235.out 1; have hfz105_2 := blk_frozen BK235.out 2))
                              refine bodyPost_ret (results_ct rfl _ _ gb235 37 #[.int .u8 t255, .int .i64 t256, .string t257] (0, 0) _ rfl (by (with_reducible repeat (fail)); refine blk_put (cs := #[.int .u8 t255, .int .i64 t256, .string (⟨#[]⟩ : ByteArray)]) ?_ 2 _ rfl; (with_reducible repeat (fail)); refine blk_put (cs := #[.int .u8 t255, .int .i64 0, .string (⟨#[]⟩ : ByteArray)]) ?_ 1 _ rfl; (with_reducible repeat (fail)); refine blk_put (cs := #[.int .u8 0, .int .i64 0, .string (⟨#[]⟩ : ByteArray)]) ?_ 0 _ rfl; (with_reducible repeat (fail)); exact BK235.out) Try.underlying37 rfl (by kernel_rfl)) rfl ?_
                              exact ⟨by rfl, by repeat ((with_reducible first | exact HB.out | refine below_set ?_ GE235.out))⟩
              replace c77 := Bool.eq_false_iff.mpr c77
              subst c77
              have H1 : (if a0.toList = ([115, 104, 108] : List UInt8) then (sacristanref01_ints.j9 kj74 a0 a1 a2 (a0.toList == ([115, 104, 108] : List UInt8)) 0 0 (⟨#[]⟩ : ByteArray)) else (if a0.toList = ([115, 104, 114] : List UInt8) then (sacristanref01_ints.j9 kj74 a0 a1 a2 (a0.toList == ([115, 104, 114] : List UInt8)) 0 0 (⟨#[]⟩ : ByteArray)) else (sacristanref01_ints.j9 kj74 a0 a1 a2 (a0.toList == ([117, 115, 104, 114] : List UInt8)) 0 0 (⟨#[]⟩ : ByteArray)))) = some (r1, r2, r3, r4) := by rw [if_neg (show ¬ (false = true) by decide)] at H; exact H
              clear H
              have H := H1
              clear H1
              have HC106 := Aside0.mk H
              clear H
              go_upto_if 154 with (fail)
              go_cut [154] (fun v154 wc => ∃ (kq : Nat) (x154_105 : Bool), v154 = .bool x154_105 ∧ Aside0 (sacristanref01_ints.j9 kq a0 a1 a2 x154_105 0 0 (⟨#[]⟩ : ByteArray) = some (r1, r2, r3, r4)) ∧ Aside0 (kq ≤ kj74) ∧ Aside0 (wc.heap[gb235]? = some (.cells #[.int .u8 0, .int .i64 0, .string (⟨#[]⟩ : ByteArray)] 37 (0, 0))) ∧ Aside0 (wc.heap[gb236]? = some (.cells #[.int .u8 0, .int .i64 0, .string (⟨#[]⟩ : ByteArray)] 37 (0, 0))) ∧ Aside0 (Below w.heap.size w wc))
              case first =>
                have H := HC106.out
                clear HC106
                by_cases c107 : a0.toList = ([115, 104, 108] : List UInt8)
                · as_aux_lemma =>
                  rw [if_pos c107] at H
                  have c107b0 : (a0.toList == ([115, 104, 108] : List UInt8)) = true := beq_iff_eq.mpr c107
                  have c107b1 : (a0.toList != ([115, 104, 108] : List UInt8)) = false := bne_eq_false_iff_eq.mpr c107
                  clear c107
                  (rw [c107b0])
                  have H' := Aside0.mk H
                  clear H
                  go_wp2
                  go_meet
                  case rel => exact ⟨_, ((a0.toList == ([115, 104, 108] : List UInt8))), (by ((simp [*]; done))), H', ⟨by have := HJ74.out; omega⟩, ⟨by (with_reducible repeat (fail)); exact BK235.out⟩, ⟨by (with_reducible repeat (fail)); exact BK236.out⟩, ⟨by repeat ((with_reducible exact HB.out))⟩⟩
                · as_aux_lemma =>
                  rw [if_neg c107] at H
                  have c107b0 : (a0.toList == ([115, 104, 108] : List UInt8)) = false := beq_eq_false_iff_ne.mpr c107
                  have c107b1 : (a0.toList != ([115, 104, 108] : List UInt8)) = true := bne_iff_ne.mpr c107
                  (rw [c107b0])
                  by_cases c108 : a0.toList = ([115, 104, 114] : List UInt8)
                  · as_aux_lemma =>
                    rw [if_pos c108] at H
                    have c108b0 : (a0.toList == ([115, 104, 114] : List UInt8)) = true := beq_iff_eq.mpr c108
                    have c108b1 : (a0.toList != ([115, 104, 114] : List UInt8)) = false := bne_eq_false_iff_eq.mpr c108
                    clear c108
                    have H' := Aside0.mk H
                    clear H
                    go_wp2
                    go_meet
                    case rel => exact ⟨_, ((a0.toList == ([115, 104, 114] : List UInt8))), (by ((simp [*]; done))), H', ⟨by have := HJ74.out; omega⟩, ⟨by (with_reducible repeat (fail)); exact BK235.out⟩, ⟨by (with_reducible repeat (fail)); exact BK236.out⟩, ⟨by repeat ((with_reducible exact HB.out))⟩⟩
                  · as_aux_lemma =>
                    rw [if_neg c108] at H
                    have c108b0 : (a0.toList == ([115, 104, 114] : List UInt8)) = false := beq_eq_false_iff_ne.mpr c108
                    have c108b1 : (a0.toList != ([115, 104, 114] : List UInt8)) = true := bne_iff_ne.mpr c108
                    have H' := Aside0.mk H
                    clear H
                    go_wp2
                    go_meet
                    case rel => exact ⟨_, ((a0.toList == ([117, 115, 104, 114] : List UInt8))), (by rfl), H', ⟨by have := HJ74.out; omega⟩, ⟨by (with_reducible repeat (fail)); exact BK235.out⟩, ⟨by (with_reducible repeat (fail)); exact BK236.out⟩, ⟨by repeat ((with_reducible exact HB.out))⟩⟩
              case rest =>
                clear HC106
                obtain ⟨kq, x154_105, rfl, HA, HJ105, BK235, BK236, HB⟩ := hcut
                cases kq with
                | zero => exact absurd HA.out (by simp [sacristanref01_ints.j9])
                | succ kj105 =>
                  have H := HA.out
                  clear HA
                  simp only [sacristanref01_ints.j9] at H
                  by_cases c109 : x154_105 = true
                  · subst c109
                    have H1 : (if a2 < 0 then (some (0, 0, (⟨#[]⟩ : ByteArray), 5)) else (if a2 > 63 then (some (0, 0, (⟨#[]⟩ : ByteArray), 5)) else (sacristanref01_ints.j10 kj105 a0 a1 a2))) = some (r1, r2, r3, r4) := by rw [if_pos rfl] at H; exact H
                    clear H
                    have H := H1
                    clear H1
                    by_cases c110 : a2 < 0
                    · as_aux_lemma =>
                      rw [if_pos c110] at H
                      have c110b0 : decide (a2 < 0) = true := decide_eq_true c110
                      clear c110
                      simp only [Option.some.injEq, Prod.mk.injEq] at H
                      obtain ⟨rfl, rfl, rfl, rfl⟩ := H
                      have hnb111 := NB236_235.out
                      have hnc111 := NB235_236.out
                      have hcz112_0 : wc.cell? ⟨gb236, 0, none⟩ = some (.int .u8 0) := (blk_cell BK236.out 0).trans rfl
                      have hcz112_1 : wc.cell? ⟨gb236, 1, none⟩ = some (.int .i64 0) := (blk_cell BK236.out 1).trans rfl
                      have hcz112_2 : wc.cell? ⟨gb236, 2, none⟩ = some (.string (⟨#[]⟩ : ByteArray)) := (blk_cell BK236.out 2).trans rfl
                      have hfz112_0 := blk_frozen BK236.out 0
                      have hfz112_1 := blk_frozen BK236.out 1
                      have hfz112_2 := blk_frozen BK236.out 2
                      have hcz113_0 : wc.cell? ⟨gb235, 0, none⟩ = some (.int .u8 0) := (blk_cell BK235.out 0).trans rfl
                      have hcz113_1 : wc.cell? ⟨gb235, 1, none⟩ = some (.int .i64 0) := (blk_cell BK235.out 1).trans rfl
                      have hcz113_2 : wc.cell? ⟨gb235, 2, none⟩ = some (.string (⟨#[]⟩ : ByteArray)) := (blk_cell BK235.out 2).trans rfl
                      have hfz113_0 := blk_frozen BK235.out 0
                      have hfz113_1 := blk_frozen BK235.out 1
                      have hfz113_2 := blk_frozen BK235.out 2
                      go_wp2
                      refine bodyPost_ret (results_ct rfl _ _ gb235 37 #[.int .u8 0, .int .i64 0, .string (⟨#[]⟩ : ByteArray)] (0, 0) _ rfl (by (with_reducible repeat (fail)); refine blk_put (cs := #[.int .u8 0, .int .i64 0, .string (⟨#[]⟩ : ByteArray)]) ?_ 2 _ rfl; (with_reducible repeat (fail)); refine blk_put (cs := #[.int .u8 0, .int .i64 0, .string (⟨#[]⟩ : ByteArray)]) ?_ 1 _ rfl; (with_reducible repeat (fail)); refine blk_put (cs := #[.int .u8 0, .int .i64 0, .string (⟨#[]⟩ : ByteArray)]) ?_ 0 _ rfl; (with_reducible repeat (fail)); exact BK235.out) Try.underlying37 rfl (by kernel_rfl)) rfl ?_
                      exact ⟨by rfl, by repeat ((with_reducible first | exact HB.out | refine below_set ?_ GE235.out))⟩
                    · as_aux_lemma =>
                      rw [if_neg c110] at H
                      have c110b0 : decide (a2 < 0) = false := decide_eq_false c110
                      clear c110
                      by_cases c114 : a2 > 63
                      · as_aux_lemma =>
                        rw [if_pos c114] at H
                        have c114b0 : decide (63 < a2) = true := decide_eq_true c114
                        clear c114
                        simp only [Option.some.injEq, Prod.mk.injEq] at H
                        obtain ⟨rfl, rfl, rfl, rfl⟩ := H
                        have hnb115 := NB236_235.out
                        have hnc115 := NB235_236.out
                        have hcz116_0 : wc.cell? ⟨gb236, 0, none⟩ = some (.int .u8 0) := (blk_cell BK236.out 0).trans rfl
                        have hcz116_1 : wc.cell? ⟨gb236, 1, none⟩ = some (.int .i64 0) := (blk_cell BK236.out 1).trans rfl
                        have hcz116_2 : wc.cell? ⟨gb236, 2, none⟩ = some (.string (⟨#[]⟩ : ByteArray)) := (blk_cell BK236.out 2).trans rfl
                        have hfz116_0 := blk_frozen BK236.out 0
                        have hfz116_1 := blk_frozen BK236.out 1
                        have hfz116_2 := blk_frozen BK236.out 2
                        have hcz117_0 : wc.cell? ⟨gb235, 0, none⟩ = some (.int .u8 0) := (blk_cell BK235.out 0).trans rfl
                        have hcz117_1 : wc.cell? ⟨gb235, 1, none⟩ = some (.int .i64 0) := (blk_cell BK235.out 1).trans rfl
                        have hcz117_2 : wc.cell? ⟨gb235, 2, none⟩ = some (.string (⟨#[]⟩ : ByteArray)) := (blk_cell BK235.out 2).trans rfl
                        have hfz117_0 := blk_frozen BK235.out 0
                        have hfz117_1 := blk_frozen BK235.out 1
                        have hfz117_2 := blk_frozen BK235.out 2
                        go_wp2
                        refine bodyPost_ret (results_ct rfl _ _ gb235 37 #[.int .u8 0, .int .i64 0, .string (⟨#[]⟩ : ByteArray)] (0, 0) _ rfl (by (with_reducible repeat (fail)); refine blk_put (cs := #[.int .u8 0, .int .i64 0, .string (⟨#[]⟩ : ByteArray)]) ?_ 2 _ rfl; (with_reducible repeat (fail)); refine blk_put (cs := #[.int .u8 0, .int .i64 0, .string (⟨#[]⟩ : ByteArray)]) ?_ 1 _ rfl; (with_reducible repeat (fail)); refine blk_put (cs := #[.int .u8 0, .int .i64 0, .string (⟨#[]⟩ : ByteArray)]) ?_ 0 _ rfl; (with_reducible repeat (fail)); exact BK235.out) Try.underlying37 rfl (by kernel_rfl)) rfl ?_
                        exact ⟨by rfl, by repeat ((with_reducible first | exact HB.out | refine below_set ?_ GE235.out))⟩
                      · as_aux_lemma =>
                        rw [if_neg c114] at H
                        have c114b0 : decide (63 < a2) = false := decide_eq_false c114
                        clear c114
                        have H' := Aside0.mk H
                        clear H
                        go_wp2
                        go_meet
                        case rel => exact ⟨_, (0), (0), ((⟨#[]⟩ : ByteArray)), H', ⟨by have := HJ74.out; have := HJ105.out; omega⟩, ⟨by (with_reducible repeat (fail)); exact BK235.out⟩, ⟨by (with_reducible repeat (fail)); exact BK236.out⟩, ⟨by repeat ((with_reducible exact HB.out))⟩⟩
                  replace c109 := Bool.eq_false_iff.mpr c109
                  subst c109
                  have H1 : (sacristanref01_ints.j10 kj105 a0 a1 a2) = some (r1, r2, r3, r4) := by rw [if_neg (show ¬ (false = true) by decide)] at H; exact H
                  clear H
                  have H := H1
                  clear H1
                  have H' := Aside0.mk H
                  clear H
                  go_wp2
                  go_meet
                  case rel => exact ⟨_, (0), (0), ((⟨#[]⟩ : ByteArray)), H', ⟨by have := HJ74.out; have := HJ105.out; omega⟩, ⟨by (with_reducible repeat (fail)); exact BK235.out⟩, ⟨by (with_reducible repeat (fail)); exact BK236.out⟩, ⟨by repeat ((with_reducible exact HB.out))⟩⟩
  case rest =>
    clear HC4 hcz8_0 hcz8_1 hcz8_2 hfz8_0 hfz8_1 hfz8_2
    obtain ⟨kq, x236000_3, x236001_3, x236002_3, HA, HJ3, BK235, BK236, HB⟩ := hcut
    cases kq with
    | zero => exact absurd HA.out (by simp [sacristanref01_ints.j10])
    | succ kj3 =>
      have H := HA.out
      clear HA
      simp only [sacristanref01_ints.j10] at H
      replace H := Option.bind_eq_some_iff.mp H
      obtain ⟨t258, A1180, H⟩ := H
      replace H : ((sacristanref01_Int.f t258).bind fun bt259 => (some (bt259.1, bt259.2.1, bt259.2.2, 0))) = some (r1, r2, r3, r4) := H
      have A118 := Aside0.mk A1180
      clear A1180
      replace H := Option.bind_eq_some_iff.mp H
      obtain ⟨⟨t259, t260, t261⟩, A1190, H⟩ := H
      replace H : (some (t259, t260, t261, 0)) = some (r1, r2, r3, r4) := H
      have A119 := Aside0.mk A1190
      clear A1190
      simp only [Option.some.injEq, Prod.mk.injEq] at H
      obtain ⟨rfl, rfl, rfl, rfl⟩ := H
      go_wp2_with (first | ((with_reducible refine gate_callee (f := 102) rfl ?_); refine goesL_ (some 168) rfl rfl Try.func102 (by kernel_rfl) rfl #[.string a0, .int .i64 a1, .int .i64 a2] rfl (by (try simp only [List.map_toArray, List.map_cons, List.map_nil]); rfl) ?_; (with_reducible refine (sacristanref01_bitwise.calls kj3 a0 a1 a2 t258 _ A118.out).mono ?_); rintro e w120 ⟨rfl, hb⟩; refine ⟨_, rfl, ?_⟩; have n0_ := Aside0.mk (blk_below (g := gb235) (o := .cells #[.int .u8 x236000_3, .int .i64 x236001_3, .string x236002_3] 37 (0, 0)) (by (with_reducible repeat (fail)); exact BK235.out) hb); have n1_ := Aside0.mk (blk_below (g := gb236) (o := .cells #[.int .u8 0, .int .i64 0, .string (⟨#[]⟩ : ByteArray)] 37 (0, 0)) (by (with_reducible repeat (fail)); exact BK236.out) hb); have n2_ := Aside0.mk (below_step (by repeat ((with_reducible exact HB.out))) hb); clear BK235; clear BK236; clear HB; have BK235 := n0_; have BK236 := n1_; have HB := n2_; clear n0_ n1_ n2_; (try clear hb)) | ((with_reducible refine gate_callee (f := 87) rfl ?_); refine goesL_ (some 169) rfl rfl Try.func87 (by kernel_rfl) rfl #[.int .i64 t258] rfl (by (try simp only [List.map_toArray, List.map_cons, List.map_nil]); rfl) ?_; (with_reducible refine (sacristanref01_Int.calls t258 t259 t260 t261 _ A119.out).mono ?_); rintro e w121 ⟨rfl, hb⟩; refine ⟨_, rfl, ?_⟩; have n0_ := Aside0.mk (blk_below (g := gb235) (o := .cells #[.int .u8 x236000_3, .int .i64 x236001_3, .string x236002_3] 37 (0, 0)) (by (with_reducible repeat (fail)); exact BK235.out) hb); have n1_ := Aside0.mk (blk_below (g := gb236) (o := .cells #[.int .u8 0, .int .i64 0, .string (⟨#[]⟩ : ByteArray)] 37 (0, 0)) (by (with_reducible repeat (fail)); exact BK236.out) hb); have n2_ := Aside0.mk (below_step (by repeat ((with_reducible exact HB.out))) hb); clear BK235; clear BK236; clear HB; have BK235 := n0_; have BK236 := n1_; have HB := n2_; clear n0_ n1_ n2_; (try clear hb); have hnb122 := NB235_236.out; have hnc122 := NB236_235.out; have hcz123_0 : w121.cell? ⟨gb235, 0, none⟩ = some (.int .u8 x236000_3) := (blk_cell BK235.out 0).trans rfl; have hcz123_1 : w121.cell? ⟨gb235, 1, none⟩ = some (.int .i64 x236001_3) := (blk_cell BK235.out 1).trans rfl; have hcz123_2 : w121.cell? ⟨gb235, 2, none⟩ = some (.string x236002_3) := (blk_cell BK235.out 2).trans rfl; have hfz123_0 := blk_frozen BK235.out 0; have hfz123_1 := blk_frozen BK235.out 1; have hfz123_2 := blk_frozen BK235.out 2))
      refine bodyPost_ret (results_ct rfl _ _ gb235 37 #[.int .u8 t259, .int .i64 t260, .string t261] (0, 0) _ rfl (by (with_reducible repeat (fail)); refine blk_put (cs := #[.int .u8 t259, .int .i64 t260, .string x236002_3]) ?_ 2 _ rfl; (with_reducible repeat (fail)); refine blk_put (cs := #[.int .u8 t259, .int .i64 x236001_3, .string x236002_3]) ?_ 1 _ rfl; (with_reducible repeat (fail)); refine blk_put (cs := #[.int .u8 x236000_3, .int .i64 x236001_3, .string x236002_3]) ?_ 0 _ rfl; (with_reducible repeat (fail)); exact BK235.out) Try.underlying37 rfl (by kernel_rfl)) rfl ?_
      exact ⟨by rfl, by repeat ((with_reducible first | exact HB.out | refine below_set ?_ GE235.out))⟩

end Go.Proofs.Ytjkjbfhhfdbnoaa.PB
