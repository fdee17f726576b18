-- Own text: printed by this session's variant of the printer (wip/mkpp.py, adopt3.py); Lean checks it.
import Derived.Test.YtfncoldcjhkhiaaDoorPCx0
import Derived.Test.YtfncoldcjhkhiaaDoorPCx8
import Derived.Test.YtfncoldcjhkhiaaDoorPCx9
import Derived.Test.YtfncoldcjhkhiaaDoorQd
namespace Go.Proofs.YtfncoldcjhkhiaaDoor.PC
open Go.RowKit Go.Proofs.YtfncoldcjhkhiaaDoorW.PrintWords Go.Proofs.YtfncoldcjhkhiaaDoorW.PrintLast Go.Proofs.YtfncoldcjhkhiaaDoorW.PrintMore Go.Proofs.YtfncoldcjhkhiaaDoorW.Own
attribute [local go_sem high] own_gtr own_leq own_geq
attribute [local go_sem] max2_int min2_int max_two min_two max_three min_three max_four min_four   -- for this text's walks alone
set_option linter.unusedVariables false
set_option linter.unusedSimpArgs false

/-! ### sacristanref11_Depths: function 33 -/
mutual
def sacristanref11_Depths.l0 : Nat → List Int → Int → Int → List Int → List ByteArray → List (S44) → List (S41) → Int → Int → Int → List (S32) → Option (List Int × Bool)
  | 0, _, _, _, _, _, _, _, _, _, _, _ => none
  | k + 1, x7, x26, x27, x389000, x389001, x389002, x389003, x391000, x391001, x391002, x391003 => if x27 < x26 then (if x27 = 0 then (if x7.length < 17592186044416 then (sacristanref11_Depths.l0 k (x7 ++ [0]) x26 (wrap64 (x27 + 1)) x389000 x389001 x389002 x389003 x391000 x391001 x391002 x391003) else (none)) else (if x7.length < 17592186044416 then (sacristanref11_Depths.l0 k (x7 ++ [(-1)]) x26 (wrap64 (x27 + 1)) x389000 x389001 x389002 x389003 x391000 x391001 x391002 x391003) else (none))) else (sacristanref11_Depths.l1 k x7 x389000 x389001 x389002 x389003 x391000 x391001 x391002 x391003)
def sacristanref11_Depths.l1 : Nat → List Int → List Int → List ByteArray → List (S44) → List (S41) → Int → Int → Int → List (S32) → Option (List Int × Bool)
  | 0, _, _, _, _, _, _, _, _, _ => none
  | k + 1, x7, x389000, x389001, x389002, x389003, x391000, x391001, x391002, x391003 => sacristanref11_Depths.l2 k x7 false (x391003.length : Int) 0 x389000 x389001 x389002 x389003 x391000 x391001 x391002 x391003
def sacristanref11_Depths.l2 : Nat → List Int → Bool → Int → Int → List Int → List ByteArray → List (S44) → List (S41) → Int → Int → Int → List (S32) → Option (List Int × Bool)
  | 0, _, _, _, _, _, _, _, _, _, _, _, _ => none
  | k + 1, x7, x9, x41, x42, x389000, x389001, x389002, x389003, x391000, x391001, x391002, x391003 => if x42 < x41 then (if 0 ≤ x42 then (if x42 < (x7.length : Int) then (if (rd x7 x42) < 0 then (sacristanref11_Depths.l2 k x7 x9 x41 (wrap64 (x42 + 1)) x389000 x389001 x389002 x389003 x391000 x391001 x391002 x391003) else (if x42 < (x391003.length : Int) then ((sacristanref09_Effect.f k x389000 x389001 x389002 x389003 ((rd_T32 x391003 x42).f0) ((rd_T32 x391003 x42).f1)).bind fun bt403 => (if bt403.1 > (rd x7 x42) then (sacristanref11_Depths.j3 k x7 x9 x42 (wrap64 ((wrap64 ((rd x7 x42) - bt403.1)) + bt403.2.1)) x41 x42 true x389000 x389001 x389002 x389003 x391000 x391001 x391002 x391003 ((rd_T32 x391003 x42).f0) ((rd_T32 x391003 x42).f1)) else (sacristanref11_Depths.j3 k x7 x9 x42 (wrap64 ((wrap64 ((rd x7 x42) - bt403.1)) + bt403.2.1)) x41 x42 (decide ((wrap64 ((wrap64 ((rd x7 x42) - bt403.1)) + bt403.2.1)) > 256)) x389000 x389001 x389002 x389003 x391000 x391001 x391002 x391003 ((rd_T32 x391003 x42).f0) ((rd_T32 x391003 x42).f1)))) else (none))) else (none)) else (none)) else (if x9 = true then (sacristanref11_Depths.l1 k x7 x389000 x389001 x389002 x389003 x391000 x391001 x391002 x391003) else (some (x7, true)))
def sacristanref11_Depths.j3 : Nat → List Int → Bool → Int → Int → Int → Int → Bool → List Int → List ByteArray → List (S44) → List (S41) → Int → Int → Int → List (S32) → Int → Int → Option (List Int × Bool)
  | 0, _, _, _, _, _, _, _, _, _, _, _, _, _, _, _, _, _ => none
  | k + 1, x7, x9, x10, x15, x41, x42, x79, x389000, x389001, x389002, x389003, x391000, x391001, x391002, x391003, x403000, x403001 => if x79 = true then (some ((([] : List Int)), false)) else ((some (([] : List Int) : List Int)).bind fun y411 => ((sacristanref09_Ends.f x403000).bind fun t414 => (if t414 = true then (sacristanref11_Depths.j4 k x7 x9 x15 y411 x41 x42 x389000 x389001 x389002 x389003 x391000 x391001 x391002 x391003 x403000 x403001) else (if y411.length < 17592186044416 then (sacristanref11_Depths.j4 k x7 x9 x15 (y411 ++ [wrap64 (x10 + 1)]) x41 x42 x389000 x389001 x389002 x389003 x391000 x391001 x391002 x391003 x403000 x403001) else (none)))))
def sacristanref11_Depths.j4 : Nat → List Int → Bool → Int → List Int → Int → Int → List Int → List ByteArray → List (S44) → List (S41) → Int → Int → Int → List (S32) → Int → Int → Option (List Int × Bool)
  | 0, _, _, _, _, _, _, _, _, _, _, _, _, _, _, _, _ => none
  | k + 1, x7, x9, x15, x16, x41, x42, x389000, x389001, x389002, x389003, x391000, x391001, x391002, x391003, x403000, x403001 => if x403000 = 13 then (sacristanref11_Depths.j5 k x7 x9 x15 x16 x41 x42 true x389000 x389001 x389002 x389003 x391000 x391001 x391002 x391003 x403000 x403001) else (sacristanref11_Depths.j5 k x7 x9 x15 x16 x41 x42 (x403000 == 14) x389000 x389001 x389002 x389003 x391000 x391001 x391002 x391003 x403000 x403001)
def sacristanref11_Depths.j5 : Nat → List Int → Bool → Int → List Int → Int → Int → Bool → List Int → List ByteArray → List (S44) → List (S41) → Int → Int → Int → List (S32) → Int → Int → Option (List Int × Bool)
  | 0, _, _, _, _, _, _, _, _, _, _, _, _, _, _, _, _, _ => none
  | k + 1, x7, x9, x15, x16, x41, x42, x98, x389000, x389001, x389002, x389003, x391000, x391001, x391002, x391003, x403000, x403001 => if x98 = true then (if x16.length < 17592186044416 then (sacristanref11_Depths.j6 k x7 x9 x15 (x16 ++ [x403001]) x41 x42 x389000 x389001 x389002 x389003 x391000 x391001 x391002 x391003) else (none)) else (sacristanref11_Depths.j6 k x7 x9 x15 x16 x41 x42 x389000 x389001 x389002 x389003 x391000 x391001 x391002 x391003)
def sacristanref11_Depths.j6 : Nat → List Int → Bool → Int → List Int → Int → Int → List Int → List ByteArray → List (S44) → List (S41) → Int → Int → Int → List (S32) → Option (List Int × Bool)
  | 0, _, _, _, _, _, _, _, _, _, _, _, _, _, _ => none
  | k + 1, x7, x9, x15, x16, x41, x42, x389000, x389001, x389002, x389003, x391000, x391001, x391002, x391003 => sacristanref11_Depths.l3 k x7 x9 x15 x16 x41 x42 (x16.length : Int) 0 x389000 x389001 x389002 x389003 x391000 x391001 x391002 x391003
def sacristanref11_Depths.l3 : Nat → List Int → Bool → Int → List Int → Int → Int → Int → Int → List Int → List ByteArray → List (S44) → List (S41) → Int → Int → Int → List (S32) → Option (List Int × Bool)
  | 0, _, _, _, _, _, _, _, _, _, _, _, _, _, _, _, _ => none
  | k + 1, x7, x9, x15, x16, x41, x42, x105, x106, x389000, x389001, x389002, x389003, x391000, x391001, x391002, x391003 => if x106 < x105 then (if 0 ≤ x106 then (if x106 < (x16.length : Int) then (if (rd x16 x106) ≥ (x7.length : Int) then (sacristanref11_Depths.j8 k x7 x9 x15 x16 x106 x41 x42 x105 x106 true x389000 x389001 x389002 x389003 x391000 x391001 x391002 x391003) else (if 0 ≤ (rd x16 x106) then (if (rd x16 x106) < (x7.length : Int) then (if (rd x7 (rd x16 x106)) ≥ 0 then (sacristanref11_Depths.j8 k x7 x9 x15 x16 x106 x41 x42 x105 x106 ((rd x7 (rd x16 x106)) != x15) x389000 x389001 x389002 x389003 x391000 x391001 x391002 x391003) else (sacristanref11_Depths.j8 k x7 x9 x15 x16 x106 x41 x42 x105 x106 false x389000 x389001 x389002 x389003 x391000 x391001 x391002 x391003)) else (none)) else (none))) else (none)) else (none)) else (sacristanref11_Depths.l2 k x7 x9 x41 (wrap64 (x42 + 1)) x389000 x389001 x389002 x389003 x391000 x391001 x391002 x391003)
def sacristanref11_Depths.j8 : Nat → List Int → Bool → Int → List Int → Int → Int → Int → Int → Int → Bool → List Int → List ByteArray → List (S44) → List (S41) → Int → Int → Int → List (S32) → Option (List Int × Bool)
  | 0, _, _, _, _, _, _, _, _, _, _, _, _, _, _, _, _, _, _ => none
  | k + 1, x7, x9, x15, x16, x17, x41, x42, x105, x106, x136, x389000, x389001, x389002, x389003, x391000, x391001, x391002, x391003 => if x136 = true then (some ((([] : List Int)), false)) else (if 0 ≤ x17 then (if x17 < (x16.length : Int) then (if 0 ≤ (rd x16 x17) then (if (rd x16 x17) < (x7.length : Int) then (if (rd x7 (rd x16 x17)) < 0 then (sacristanref11_Depths.l3 k (x7.set ((rd x16 x17) : Int).toNat x15) true x15 x16 x41 x42 x105 (wrap64 (x106 + 1)) x389000 x389001 x389002 x389003 x391000 x391001 x391002 x391003) else (sacristanref11_Depths.l3 k x7 x9 x15 x16 x41 x42 x105 (wrap64 (x106 + 1)) x389000 x389001 x389002 x389003 x391000 x391001 x391002 x391003)) else (none)) else (none)) else (none)) else (none))
end
def sacristanref11_Depths.f (k : Nat) (l0_0 : List Int) (l0_1 : List ByteArray) (l0_2 : List (S44)) (l0_3 : List (S41)) (a1 : Int) : Option (List Int × Bool) := if 0 ≤ a1 then (if a1 < (l0_2.length : Int) then (sacristanref11_Depths.l0 k (([] : List Int)) (((rd_T44 l0_2 a1).f3).length : Int) 0 l0_0 l0_1 l0_2 l0_3 ((rd_T44 l0_2 a1).f0) ((rd_T44 l0_2 a1).f1) ((rd_T44 l0_2 a1).f2) ((rd_T44 l0_2 a1).f3)) else (none)) else (none)
theorem sacristanref11_Depths.mono_l : ∀ k, (∀ y0 y1 y2 y3 y4 y5 y6 y7 y8 y9 y10, LeO (sacristanref11_Depths.l0 k y0 y1 y2 y3 y4 y5 y6 y7 y8 y9 y10) (sacristanref11_Depths.l0 (k + 1) y0 y1 y2 y3 y4 y5 y6 y7 y8 y9 y10)) ∧ (∀ y0 y1 y2 y3 y4 y5 y6 y7 y8, LeO (sacristanref11_Depths.l1 k y0 y1 y2 y3 y4 y5 y6 y7 y8) (sacristanref11_Depths.l1 (k + 1) y0 y1 y2 y3 y4 y5 y6 y7 y8)) ∧ (∀ y0 y1 y2 y3 y4 y5 y6 y7 y8 y9 y10 y11, LeO (sacristanref11_Depths.l2 k y0 y1 y2 y3 y4 y5 y6 y7 y8 y9 y10 y11) (sacristanref11_Depths.l2 (k + 1) y0 y1 y2 y3 y4 y5 y6 y7 y8 y9 y10 y11)) ∧ (∀ y0 y1 y2 y3 y4 y5 y6 y7 y8 y9 y10 y11 y12 y13 y14 y15 y16, LeO (sacristanref11_Depths.j3 k y0 y1 y2 y3 y4 y5 y6 y7 y8 y9 y10 y11 y12 y13 y14 y15 y16) (sacristanref11_Depths.j3 (k + 1) y0 y1 y2 y3 y4 y5 y6 y7 y8 y9 y10 y11 y12 y13 y14 y15 y16)) ∧ (∀ y0 y1 y2 y3 y4 y5 y6 y7 y8 y9 y10 y11 y12 y13 y14 y15, LeO (sacristanref11_Depths.j4 k y0 y1 y2 y3 y4 y5 y6 y7 y8 y9 y10 y11 y12 y13 y14 y15) (sacristanref11_Depths.j4 (k + 1) y0 y1 y2 y3 y4 y5 y6 y7 y8 y9 y10 y11 y12 y13 y14 y15)) ∧ (∀ y0 y1 y2 y3 y4 y5 y6 y7 y8 y9 y10 y11 y12 y13 y14 y15 y16, LeO (sacristanref11_Depths.j5 k y0 y1 y2 y3 y4 y5 y6 y7 y8 y9 y10 y11 y12 y13 y14 y15 y16) (sacristanref11_Depths.j5 (k + 1) y0 y1 y2 y3 y4 y5 y6 y7 y8 y9 y10 y11 y12 y13 y14 y15 y16)) ∧ (∀ y0 y1 y2 y3 y4 y5 y6 y7 y8 y9 y10 y11 y12 y13, LeO (sacristanref11_Depths.j6 k y0 y1 y2 y3 y4 y5 y6 y7 y8 y9 y10 y11 y12 y13) (sacristanref11_Depths.j6 (k + 1) y0 y1 y2 y3 y4 y5 y6 y7 y8 y9 y10 y11 y12 y13)) ∧ (∀ y0 y1 y2 y3 y4 y5 y6 y7 y8 y9 y10 y11 y12 y13 y14 y15, LeO (sacristanref11_Depths.l3 k y0 y1 y2 y3 y4 y5 y6 y7 y8 y9 y10 y11 y12 y13 y14 y15) (sacristanref11_Depths.l3 (k + 1) y0 y1 y2 y3 y4 y5 y6 y7 y8 y9 y10 y11 y12 y13 y14 y15)) ∧ (∀ y0 y1 y2 y3 y4 y5 y6 y7 y8 y9 y10 y11 y12 y13 y14 y15 y16 y17, LeO (sacristanref11_Depths.j8 k y0 y1 y2 y3 y4 y5 y6 y7 y8 y9 y10 y11 y12 y13 y14 y15 y16 y17) (sacristanref11_Depths.j8 (k + 1) y0 y1 y2 y3 y4 y5 y6 y7 y8 y9 y10 y11 y12 y13 y14 y15 y16 y17))
  | 0 => ⟨fun _ _ _ _ _ _ _ _ _ _ _ r h => by simp [sacristanref11_Depths.l0] at h, fun _ _ _ _ _ _ _ _ _ r h => by simp [sacristanref11_Depths.l1] at h, fun _ _ _ _ _ _ _ _ _ _ _ _ r h => by simp [sacristanref11_Depths.l2] at h, fun _ _ _ _ _ _ _ _ _ _ _ _ _ _ _ _ _ r h => by simp [sacristanref11_Depths.j3] at h, fun _ _ _ _ _ _ _ _ _ _ _ _ _ _ _ _ r h => by simp [sacristanref11_Depths.j4] at h, fun _ _ _ _ _ _ _ _ _ _ _ _ _ _ _ _ _ r h => by simp [sacristanref11_Depths.j5] at h, fun _ _ _ _ _ _ _ _ _ _ _ _ _ _ r h => by simp [sacristanref11_Depths.j6] at h, fun _ _ _ _ _ _ _ _ _ _ _ _ _ _ _ _ r h => by simp [sacristanref11_Depths.l3] at h, fun _ _ _ _ _ _ _ _ _ _ _ _ _ _ _ _ _ _ r h => by simp [sacristanref11_Depths.j8] at h⟩
  | k + 1 => by
    obtain ⟨ih0, ih1, ih2, ih3, ih4, ih5, ih6, ih7, ih8⟩ := sacristanref11_Depths.mono_l k
    refine ⟨?_, ?_, ?_, ?_, ?_, ?_, ?_, ?_, ?_⟩
    · intro y0 y1 y2 y3 y4 y5 y6 y7 y8 y9 y10
      unfold sacristanref11_Depths.l0
      repeat' first | (with_reducible exact ih0 _ _ _ _ _ _ _ _ _ _ _) | (with_reducible exact ih1 _ _ _ _ _ _ _ _ _) | (with_reducible exact LeO.refl _) | (with_reducible refine LeO.ite ?_ ?_)
    · intro y0 y1 y2 y3 y4 y5 y6 y7 y8
      unfold sacristanref11_Depths.l1
      repeat' (with_reducible exact ih2 _ _ _ _ _ _ _ _ _ _ _ _)
    · intro y0 y1 y2 y3 y4 y5 y6 y7 y8 y9 y10 y11
      unfold sacristanref11_Depths.l2
      repeat' first | (with_reducible exact ih1 _ _ _ _ _ _ _ _ _) | (with_reducible exact ih2 _ _ _ _ _ _ _ _ _ _ _ _) | (with_reducible exact ih3 _ _ _ _ _ _ _ _ _ _ _ _ _ _ _ _ _) | (with_reducible exact sacristanref09_Effect.mono _ _ _ _ _ _ _) | (with_reducible exact LeO.refl _) | (with_reducible refine LeO.ite ?_ ?_) | (with_reducible refine LeO.bind ?_ (fun _ => ?_))
    · intro y0 y1 y2 y3 y4 y5 y6 y7 y8 y9 y10 y11 y12 y13 y14 y15 y16
      unfold sacristanref11_Depths.j3
      repeat' first | (with_reducible exact ih4 _ _ _ _ _ _ _ _ _ _ _ _ _ _ _ _) | (with_reducible exact LeO.refl _) | (with_reducible refine LeO.ite ?_ ?_) | (with_reducible refine LeO.bind ?_ (fun _ => ?_))
    · intro y0 y1 y2 y3 y4 y5 y6 y7 y8 y9 y10 y11 y12 y13 y14 y15
      unfold sacristanref11_Depths.j4
      repeat' first | (with_reducible exact ih5 _ _ _ _ _ _ _ _ _ _ _ _ _ _ _ _ _) | (with_reducible refine LeO.ite ?_ ?_)
    · intro y0 y1 y2 y3 y4 y5 y6 y7 y8 y9 y10 y11 y12 y13 y14 y15 y16
      unfold sacristanref11_Depths.j5
      repeat' first | (with_reducible exact ih6 _ _ _ _ _ _ _ _ _ _ _ _ _ _) | (with_reducible exact LeO.refl _) | (with_reducible refine LeO.ite ?_ ?_)
    · intro y0 y1 y2 y3 y4 y5 y6 y7 y8 y9 y10 y11 y12 y13
      unfold sacristanref11_Depths.j6
      repeat' (with_reducible exact ih7 _ _ _ _ _ _ _ _ _ _ _ _ _ _ _ _)
    · intro y0 y1 y2 y3 y4 y5 y6 y7 y8 y9 y10 y11 y12 y13 y14 y15
      unfold sacristanref11_Depths.l3
      repeat' first | (with_reducible exact ih2 _ _ _ _ _ _ _ _ _ _ _ _) | (with_reducible exact ih8 _ _ _ _ _ _ _ _ _ _ _ _ _ _ _ _ _ _) | (with_reducible exact LeO.refl _) | (with_reducible refine LeO.ite ?_ ?_)
    · intro y0 y1 y2 y3 y4 y5 y6 y7 y8 y9 y10 y11 y12 y13 y14 y15 y16 y17
      unfold sacristanref11_Depths.j8
      repeat' first | (with_reducible exact ih7 _ _ _ _ _ _ _ _ _ _ _ _ _ _ _ _) | (with_reducible exact LeO.refl _) | (with_reducible refine LeO.ite ?_ ?_)
theorem sacristanref11_Depths.mono : ∀ a0 a1 a2 a3 a4 k, LeO (sacristanref11_Depths.f k a0 a1 a2 a3 a4) (sacristanref11_Depths.f (k + 1) a0 a1 a2 a3 a4) := by
  intro a0 a1 a2 a3 a4 k
  obtain ⟨ih0, ih1, ih2, ih3, ih4, ih5, ih6, ih7, ih8⟩ := sacristanref11_Depths.mono_l k
  unfold sacristanref11_Depths.f
  repeat' first | (with_reducible exact ih0 _ _ _ _ _ _ _ _ _ _ _) | (with_reducible exact LeO.refl _) | (with_reducible refine LeO.ite ?_ ?_)
set_option maxHeartbeats 8000000 in
set_option maxRecDepth 100000 in
theorem sacristanref11_Depths.calls (k : Nat) (A0_0 : Option Addr) (c0_0 : Nat) (l0_0 : List Int) (A0_1 : Option Addr) (c0_1 : Nat) (l0_1 : List ByteArray) (A0_2 : Option Addr) (c0_2 : Nat) (l0_2 : List (S44)) (A0_3 : Option Addr) (c0_3 : Nat) (l0_3 : List (S41)) (a1 : Int) (r1 : List Int) (r2 : Bool) (w : World) (hr0_0 : Kd.C (Kd.int .i64) w A0_0 l0_0.length l0_0) (hc0_0 : l0_0.length ≤ c0_0) (hr0_1 : Kd.C Kd.string w A0_1 l0_1.length l0_1) (hc0_1 : l0_1.length ≤ c0_1) (hr0_2 : Kd.C k44 w A0_2 l0_2.length l0_2) (hc0_2 : l0_2.length ≤ c0_2) (hr0_3 : Kd.C k41 w A0_3 l0_3.length l0_3) (hc0_3 : l0_3.length ≤ c0_3) (h : sacristanref11_Depths.f k l0_0 l0_1 l0_2 l0_3 a1 = some (r1, r2)) :
    Calls Tryd.prog 33 #[.agg #[.slice A0_0 l0_0.length c0_0, .slice A0_1 l0_1.length c0_1, .slice A0_2 l0_2.length c0_2, .slice A0_3 l0_3.length c0_3], .int .i64 a1] w fun e w' => ∃ v0_ : Value, e = .returned (.tuple #[v0_, .bool r2]) ∧ Kd.R (Kd.int .i64) 3 w' w.heap.size (fun _ => True) v0_ r1 ∧ Below w.heap.size w w' := by
  have hu30 := Tryd.underlying30
  have hu44 := Tryd.underlying44
  have hu32 := Tryd.underlying32
  have HR0_0 := Aside0.mk hr0_0
  have HC0_0 := Aside0.mk hc0_0
  clear hr0_0 hc0_0
  have HR0_1 := Aside0.mk hr0_1
  have HC0_1 := Aside0.mk hc0_1
  clear hr0_1 hc0_1
  have HR0_2 := Aside0.mk hr0_2
  have HC0_2 := Aside0.mk hc0_2
  clear hr0_2 hc0_2
  have HR0_3 := Aside0.mk hr0_3
  have HC0_3 := Aside0.mk hc0_3
  clear hr0_3 hc0_3
  have HB := Aside0.mk (Below.refl w.heap.size w)
  have H : (if 0 ≤ a1 then (if a1 < (l0_2.length : Int) then (sacristanref11_Depths.l0 k (([] : List Int)) (((rd_T44 l0_2 a1).f3).length : Int) 0 l0_0 l0_1 l0_2 l0_3 ((rd_T44 l0_2 a1).f0) ((rd_T44 l0_2 a1).f1) ((rd_T44 l0_2 a1).f2) ((rd_T44 l0_2 a1).f3)) else (none)) else (none)) = some (r1, r2) := h
  clear h
  by_cases c3 : 0 ≤ a1
  · rw [if_pos c3] at H
    have c3b0 : decide (0 ≤ a1) = true := decide_eq_true c3
    clear c3
    by_cases c4 : a1 < (l0_2.length : Int)
    · rw [if_pos c4] at H
      have c4b0 : decide (a1 < (l0_2.length : Int)) = true := decide_eq_true c4
      clear c4
      obtain ⟨y391, hy391⟩ : ∃ y_ : List Int, y_ = (([] : List Int)) := ⟨_, rfl⟩
      replace H : (sacristanref11_Depths.l0 k y391 (((rd_T44 l0_2 a1).f3).length : Int) 0 l0_0 l0_1 l0_2 l0_3 ((rd_T44 l0_2 a1).f0) ((rd_T44 l0_2 a1).f1) ((rd_T44 l0_2 a1).f2) ((rd_T44 l0_2 a1).f3)) = some (r1, r2) := by ((rw [hy391]; with_reducible exact H))
      have Ny391 := Aside0.mk hy391
      clear hy391
      have H' := Aside0.mk H
      clear H
      go_enter Tryd.func33, Tryd.ntmps33
      go_wp2_with (first | ((with_reducible refine gate_dst (N := 2) rfl ?_); refine box_event ?hg (N := 2) ?hd (cs := #[.slice A0_0 l0_0.length c0_0, .slice A0_1 l0_1.length c0_1, .slice A0_2 l0_2.length c0_2, .slice A0_3 l0_3.length c0_3]) (t := 30) ?hr ?_; (case hd => rfl); (case hg => rfl); (case hr => ((go_simp; done))); intro gb388 hg w5 hbox hb; have n0_ := Aside0.mk (below_step (by repeat ((with_reducible exact HB.out))) hb); have n1_ := Aside0.mk (hbox); have n2_ := Aside0.mk ((by rw [hg]; exact (below_size (by repeat ((with_reducible exact HB.out)))) : w.heap.size ≤ gb388)); have n3_ := Aside0.mk ((by rw [hg]; exact (below_size (by repeat ((with_reducible exact HB.out)))) : w.heap.size ≤ gb388)); clear HB; have HB := n0_; have BK388 := n1_; have GW388 := n2_; have GE388 := n3_; clear n0_ n1_ n2_ n3_; clear hb hbox hg; have hcz6_0 : w5.cell? ⟨gb388, 0, none⟩ = some (.slice A0_0 l0_0.length c0_0) := (blk_cell BK388.out 0).trans rfl; have hcz6_1 : w5.cell? ⟨gb388, 1, none⟩ = some (.slice A0_1 l0_1.length c0_1) := (blk_cell BK388.out 1).trans rfl; have hcz6_2 : w5.cell? ⟨gb388, 2, none⟩ = some (.slice A0_2 l0_2.length c0_2) := (blk_cell BK388.out 2).trans rfl; have hcz6_3 : w5.cell? ⟨gb388, 3, none⟩ = some (.slice A0_3 l0_3.length c0_3) := (blk_cell BK388.out 3).trans rfl; have hfz6_0 := blk_frozen BK388.out 0; have hfz6_1 := blk_frozen BK388.out 1; have hfz6_2 := blk_frozen BK388.out 2; have hfz6_3 := blk_frozen BK388.out 3; have p389 : 0 ≤ (a1 : Int) := of_decide_eq_true (by (with_reducible assumption)); have q389 : a1 < (l0_2.length : Int) := of_decide_eq_true (by (with_reducible assumption)); obtain ⟨ad389, A389_3, c389_3, e389, hx389_0, hx389_1, hx389_2, hx389_3, hl389_3, hi389_3⟩ := at_T44 HR0_2.out a1 p389 q389; cases e389; replace hx389_0 := (HB.out.cell (World.block_lt_of_cell? w _ hx389_0)).trans hx389_0; replace hx389_1 := (HB.out.cell (World.block_lt_of_cell? w _ hx389_1)).trans hx389_1; replace hx389_2 := (HB.out.cell (World.block_lt_of_cell? w _ hx389_2)).trans hx389_2; replace hx389_3 := (HB.out.cell (World.block_lt_of_cell? w _ hx389_3)).trans hx389_3; have HR389_3 := Aside0.mk hi389_3; have HC389_3 := Aside0.mk hl389_3; clear hi389_3 hl389_3; replace p389 := eq_true p389; replace q389 := eq_true q389) | ((with_reducible refine gate_dst (N := 6) rfl ?_); refine box_event ?hg (N := 6) ?hd (cs := #[.int .i64 0, .int .i64 0, .int .i64 0, .slice none 0 0]) (t := 44) ?hr ?_; (case hd => rfl); (case hg => rfl); (case hr => ((go_simp; done))); intro gb390 hg w7 hbox hb; have n0_ := Aside0.mk (blk_below (g := gb388) (o := .cells #[.slice A0_0 l0_0.length c0_0, .slice A0_1 l0_1.length c0_1, .slice (some ad389) l0_2.length c0_2, .slice A0_3 l0_3.length c0_3] 30 (0, 0)) (by (with_reducible repeat (fail)); exact BK388.out) hb); have n1_ := Aside0.mk (below_step (by repeat ((with_reducible exact HB.out))) hb); have n2_ := Aside0.mk (hbox); have n3_ := Aside0.mk ((by rw [hg]; exact (below_size (by repeat ((with_reducible exact HB.out)))) : w.heap.size ≤ gb390)); have n4_ := Aside0.mk ((by rw [hg]; exact (below_size (by repeat ((with_reducible exact HB.out)))) : w.heap.size ≤ gb390)); have n5_ := Aside0.mk ((by rw [hg]; exact Nat.ne_of_lt (blk_lt (g := gb388) (o := .cells #[.slice A0_0 l0_0.length c0_0, .slice A0_1 l0_1.length c0_1, .slice (some ad389) l0_2.length c0_2, .slice A0_3 l0_3.length c0_3] 30 (0, 0)) (by (with_reducible repeat (fail)); exact BK388.out)) : gb388 ≠ gb390)); have n6_ := Aside0.mk ((by rw [hg]; exact Nat.ne_of_gt (blk_lt (g := gb388) (o := .cells #[.slice A0_0 l0_0.length c0_0, .slice A0_1 l0_1.length c0_1, .slice (some ad389) l0_2.length c0_2, .slice A0_3 l0_3.length c0_3] 30 (0, 0)) (by (with_reducible repeat (fail)); exact BK388.out)) : gb390 ≠ gb388)); clear BK388; clear HB; have BK388 := n0_; have HB := n1_; have BK390 := n2_; have GW390 := n3_; have GE390 := n4_; have NB388_390 := n5_; have NB390_388 := n6_; clear n0_ n1_ n2_ n3_ n4_ n5_ n6_; clear hb hbox hg; have hnb8 := NB390_388.out; have hnc8 := NB388_390.out; have hcz9_0 : w7.cell? ⟨gb390, 0, none⟩ = some (.int .i64 0) := (blk_cell BK390.out 0).trans rfl; have hcz9_1 : w7.cell? ⟨gb390, 1, none⟩ = some (.int .i64 0) := (blk_cell BK390.out 1).trans rfl; have hcz9_2 : w7.cell? ⟨gb390, 2, none⟩ = some (.int .i64 0) := (blk_cell BK390.out 2).trans rfl; have hcz9_3 : w7.cell? ⟨gb390, 3, none⟩ = some (.slice none 0 0) := (blk_cell BK390.out 3).trans rfl; have hfz9_0 := blk_frozen BK390.out 0; have hfz9_1 := blk_frozen BK390.out 1; have hfz9_2 := blk_frozen BK390.out 2; have hfz9_3 := blk_frozen BK390.out 3) | ((with_reducible refine gate_dst (N := 23) rfl ?_); refine Kd.R_lit (Kd.int .i64) _ 3 ?hg (N := 23) ?hd (xs := ([] : List Int)) (inner := []) (ok := fun _ => True) (okp := fun _ => True) ?hr ?hp (fun _ hk => hk) trivial (Below.refl _ _) (Nat.le_refl _) (by simp) ?_; (case hd => rfl); (case hg => rfl); (case hr => ((go_simp; done))); (case hp => exact (Reps.none _ _)); intro v392 w10 ho11 hb hg_ hnew_; clear hg_ hnew_; (rw [← Ny391.out] at ho11); have n0_ := Aside0.mk (Kd.R_lower ho11 (below_size (by repeat ((with_reducible first | exact HB.out | refine below_set ?_ GE390.out))))); have n1_ := Aside0.mk (blk_below (g := gb388) (o := .cells #[.slice A0_0 l0_0.length c0_0, .slice A0_1 l0_1.length c0_1, .slice (some ad389) l0_2.length c0_2, .slice A0_3 l0_3.length c0_3] 30 (0, 0)) (by (with_reducible repeat (fail)); refine blk_far ?_ NB388_390.out _; (with_reducible repeat (fail)); refine blk_far ?_ NB388_390.out _; (with_reducible repeat (fail)); refine blk_far ?_ NB388_390.out _; (with_reducible repeat (fail)); refine blk_far ?_ NB388_390.out _; (with_reducible repeat (fail)); exact BK388.out) hb); have n2_ := Aside0.mk (blk_below (g := gb390) (o := .cells #[.int .i64 ((rd_T44 l0_2 a1).f0), .int .i64 ((rd_T44 l0_2 a1).f1), .int .i64 ((rd_T44 l0_2 a1).f2), .slice A389_3 ((rd_T44 l0_2 a1).f3).length c389_3] 44 (0, 0)) (by (with_reducible repeat (fail)); refine blk_put (cs := #[.int .i64 ((rd_T44 l0_2 a1).f0), .int .i64 ((rd_T44 l0_2 a1).f1), .int .i64 ((rd_T44 l0_2 a1).f2), .slice none 0 0]) ?_ 3 _ rfl; (with_reducible repeat (fail)); refine blk_put (cs := #[.int .i64 ((rd_T44 l0_2 a1).f0), .int .i64 ((rd_T44 l0_2 a1).f1), .int .i64 0, .slice none 0 0]) ?_ 2 _ rfl; (with_reducible repeat (fail)); refine blk_put (cs := #[.int .i64 ((rd_T44 l0_2 a1).f0), .int .i64 0, .int .i64 0, .slice none 0 0]) ?_ 1 _ rfl; (with_reducible repeat (fail)); refine blk_put (cs := #[.int .i64 0, .int .i64 0, .int .i64 0, .slice none 0 0]) ?_ 0 _ rfl; (with_reducible repeat (fail)); exact BK390.out) hb); have n3_ := Aside0.mk (below_step (by repeat ((with_reducible first | exact HB.out | refine below_set ?_ GE390.out))) hb); clear BK388; clear BK390; clear HB; have HO393 := n0_; have BK388 := n1_; have BK390 := n2_; have HB := n3_; clear n0_ n1_ n2_ n3_; clear hb ho11; have hcz12_0 : w10.cell? ⟨gb390, 0, none⟩ = some (.int .i64 ((rd_T44 l0_2 a1).f0)) := (blk_cell BK390.out 0).trans rfl; have hcz12_1 : w10.cell? ⟨gb390, 1, none⟩ = some (.int .i64 ((rd_T44 l0_2 a1).f1)) := (blk_cell BK390.out 1).trans rfl; have hcz12_2 : w10.cell? ⟨gb390, 2, none⟩ = some (.int .i64 ((rd_T44 l0_2 a1).f2)) := (blk_cell BK390.out 2).trans rfl; have hcz12_3 : w10.cell? ⟨gb390, 3, none⟩ = some (.slice A389_3 ((rd_T44 l0_2 a1).f3).length c389_3) := (blk_cell BK390.out 3).trans rfl; have hfz12_0 := blk_frozen BK390.out 0; have hfz12_1 := blk_frozen BK390.out 1; have hfz12_2 := blk_frozen BK390.out 2; have hfz12_3 := blk_frozen BK390.out 3))
      go_loopg [7, 27] k (fun kq v7 v27 w' => ∃ (x7_1 : List Int) (x27_1 : Int), v27 = .int .i64 x27_1 ∧ Aside0 (sacristanref11_Depths.l0 kq x7_1 (((rd_T44 l0_2 a1).f3).length : Int) x27_1 l0_0 l0_1 l0_2 l0_3 ((rd_T44 l0_2 a1).f0) ((rd_T44 l0_2 a1).f1) ((rd_T44 l0_2 a1).f2) ((rd_T44 l0_2 a1).f3) = some (r1, r2)) ∧ Aside0 (kq ≤ k) ∧ Aside0 (Kd.R (Kd.int .i64) 3 w' w.heap.size (fun _ => True) v7 x7_1) ∧ Aside0 (w'.heap[gb388]? = some (.cells #[(.slice A0_0 l0_0.length c0_0), (.slice A0_1 l0_1.length c0_1), (.slice (some ad389) l0_2.length c0_2), (.slice A0_3 l0_3.length c0_3)] 30 (0, 0))) ∧ Aside0 (w'.heap[gb390]? = some (.cells #[.int .i64 ((rd_T44 l0_2 a1).f0), .int .i64 ((rd_T44 l0_2 a1).f1), .int .i64 ((rd_T44 l0_2 a1).f2), (.slice A389_3 ((rd_T44 l0_2 a1).f3).length c389_3)] 44 (0, 0))) ∧ Aside0 (Below w.heap.size w w'))
      case atStart => exact ⟨(y391), (0), (by rfl), H', ⟨Nat.le_refl _⟩, ⟨by (with_reducible repeat (fail)); exact HO393.out⟩, ⟨by (with_reducible repeat (fail)); exact BK388.out⟩, ⟨by (with_reducible repeat (fail)); exact BK390.out⟩, ⟨by repeat ((with_reducible exact HB.out))⟩⟩
      case round =>
        clear H' c3b0 c4b0 hcz12_0 hcz12_1 hcz12_2 hcz12_3 hcz6_0 hcz6_1 hcz6_2 hcz6_3 hcz9_0 hcz9_1 hcz9_2 hcz9_3 hfz12_0 hfz12_1 hfz12_2 hfz12_3 hfz6_0 hfz6_1 hfz6_2 hfz6_3 hfz9_0 hfz9_1 hfz9_2 hfz9_3 hx389_0 hx389_1 hx389_2 hx389_3 p389 q389
        obtain ⟨x7_1, x27_1, rfl, HA, HK1, HO_7, BK388, BK390, HB⟩ := hrel
        cases gk with
        | zero => exact absurd HA.out (by simp [sacristanref11_Depths.l0])
        | succ k1 =>
          have H := HA.out
          clear HA
          simp only [sacristanref11_Depths.l0] at H
          by_cases c13 : x27_1 < (((rd_T44 l0_2 a1).f3).length : Int)
          · rw [if_pos c13] at H
            have c13b0 : decide (x27_1 < (((rd_T44 l0_2 a1).f3).length : Int)) = true := decide_eq_true c13
            clear c13
            by_cases c14 : x27_1 = 0
            · rw [if_pos c14] at H
              have c14b0 : (x27_1 == 0) = true := beq_iff_eq.mpr c14
              have c14b1 : (x27_1 != 0) = false := bne_eq_false_iff_eq.mpr c14
              clear c14
              by_cases c15 : x7_1.length < 17592186044416
              · rw [if_pos c15] at H
                have LMc15 := Aside0.mk c15
                clear c15
                obtain ⟨y394, hy394⟩ : ∃ y_ : List Int, y_ = (x7_1 ++ [0]) := ⟨_, rfl⟩
                replace H : (sacristanref11_Depths.l0 k1 y394 (((rd_T44 l0_2 a1).f3).length : Int) (wrap64 (x27_1 + 1)) l0_0 l0_1 l0_2 l0_3 ((rd_T44 l0_2 a1).f0) ((rd_T44 l0_2 a1).f1) ((rd_T44 l0_2 a1).f2) ((rd_T44 l0_2 a1).f3)) = some (r1, r2) := by ((rw [hy394]; with_reducible exact H))
                have Ny394 := Aside0.mk hy394
                clear hy394
                have H' := Aside0.mk H
                clear H
                go_wp2_with (((with_reducible refine gate_builtin (b := .append) (xs := #[.tmp 32, .tmp 33]) rfl ?_); at_builtin; refine Kd.R_append (Kd.int .i64) (w0 := w) w.heap.size rfl (.tmp 32) (.tmp 33) 39 3 (.int .i64 0) 8 rfl Tryd.underlying39 info3 rfl (by decide) (by omega) u7 x7_1 0 [.int .i64 0] (fun _ => True) (fun _ => False) rfl rfl ?aP (fun _ hk => hk.elim) ?aF ?aO ?aB ?aS ?aL ?_; (case aP => exact rfl); (case aB => exact (by repeat ((with_reducible exact HB.out)))); (case aF => exact (fun _ _ => trivial)); (case aO => exact (by (with_reducible repeat (fail)); exact HO_7.out)); (case aS => exact (below_size (by repeat ((with_reducible exact HB.out))))); (case aL => have := LMc15.out; omega); intro v395 w16 ho hb hg hat; rw [← Ny394.out] at ho; have n0_ := Aside0.mk (blk_grown (g := gb388) (o := .cells #[.slice A0_0 l0_0.length c0_0, .slice A0_1 l0_1.length c0_1, .slice (some ad389) l0_2.length c0_2, .slice A0_3 l0_3.length c0_3] 30 (0, 0)) (by (with_reducible repeat (fail)); exact BK388.out) hg (Kd.R_ne HO_7.out BK388.out (by decide))); have n1_ := Aside0.mk (blk_grown (g := gb390) (o := .cells #[.int .i64 ((rd_T44 l0_2 a1).f0), .int .i64 ((rd_T44 l0_2 a1).f1), .int .i64 ((rd_T44 l0_2 a1).f2), .slice A389_3 ((rd_T44 l0_2 a1).f3).length c389_3] 44 (0, 0)) (by (with_reducible repeat (fail)); exact BK390.out) hg (Kd.R_ne HO_7.out BK390.out (by decide))); have n2_ := Aside0.mk (hb); have n3_ := Aside0.mk (ho); clear BK388; clear BK390; clear HB; clear HO_7; have BK388 := n0_; have BK390 := n1_; have HB := n2_; have HO396 := n3_; clear n0_ n1_ n2_ n3_; clear ho hb hg hat))
                go_roundg k1
                case measure => have := HK1.out; omega
                case rel => exact ⟨(y394), (wrap64 (x27_1 + 1)), (by rfl), H', ⟨by have := HK1.out; omega⟩, ⟨by (with_reducible repeat (fail)); exact HO396.out⟩, ⟨by (with_reducible repeat (fail)); exact BK388.out⟩, ⟨by (with_reducible repeat (fail)); exact BK390.out⟩, ⟨by repeat ((with_reducible exact HB.out))⟩⟩
              rw [if_neg c15] at H
              exact absurd H (by simp)
            rw [if_neg c14] at H
            have c14b0 : (x27_1 == 0) = false := beq_eq_false_iff_ne.mpr c14
            have c14b1 : (x27_1 != 0) = true := bne_iff_ne.mpr c14
            by_cases c17 : x7_1.length < 17592186044416
            · rw [if_pos c17] at H
              have LMc17 := Aside0.mk c17
              clear c17
              obtain ⟨y397, hy397⟩ : ∃ y_ : List Int, y_ = (x7_1 ++ [(-1)]) := ⟨_, rfl⟩
              replace H : (sacristanref11_Depths.l0 k1 y397 (((rd_T44 l0_2 a1).f3).length : Int) (wrap64 (x27_1 + 1)) l0_0 l0_1 l0_2 l0_3 ((rd_T44 l0_2 a1).f0) ((rd_T44 l0_2 a1).f1) ((rd_T44 l0_2 a1).f2) ((rd_T44 l0_2 a1).f3)) = some (r1, r2) := by ((rw [hy397]; with_reducible exact H))
              have Ny397 := Aside0.mk hy397
              clear hy397
              have H' := Aside0.mk H
              clear H
              go_wp2_with (((with_reducible refine gate_builtin (b := .append) (xs := #[.tmp 35, .tmp 36]) rfl ?_); at_builtin; refine Kd.R_append (Kd.int .i64) (w0 := w) w.heap.size rfl (.tmp 35) (.tmp 36) 39 3 (.int .i64 0) 8 rfl Tryd.underlying39 info3 rfl (by decide) (by omega) u7 x7_1 (-1) [.int .i64 (-1)] (fun _ => True) (fun _ => False) rfl rfl ?aP (fun _ hk => hk.elim) ?aF ?aO ?aB ?aS ?aL ?_; (case aP => exact rfl); (case aB => exact (by repeat ((with_reducible exact HB.out)))); (case aF => exact (fun _ _ => trivial)); (case aO => exact (by (with_reducible repeat (fail)); exact HO_7.out)); (case aS => exact (below_size (by repeat ((with_reducible exact HB.out))))); (case aL => have := LMc17.out; omega); intro v398 w18 ho hb hg hat; rw [← Ny397.out] at ho; have n0_ := Aside0.mk (blk_grown (g := gb388) (o := .cells #[.slice A0_0 l0_0.length c0_0, .slice A0_1 l0_1.length c0_1, .slice (some ad389) l0_2.length c0_2, .slice A0_3 l0_3.length c0_3] 30 (0, 0)) (by (with_reducible repeat (fail)); exact BK388.out) hg (Kd.R_ne HO_7.out BK388.out (by decide))); have n1_ := Aside0.mk (blk_grown (g := gb390) (o := .cells #[.int .i64 ((rd_T44 l0_2 a1).f0), .int .i64 ((rd_T44 l0_2 a1).f1), .int .i64 ((rd_T44 l0_2 a1).f2), .slice A389_3 ((rd_T44 l0_2 a1).f3).length c389_3] 44 (0, 0)) (by (with_reducible repeat (fail)); exact BK390.out) hg (Kd.R_ne HO_7.out BK390.out (by decide))); have n2_ := Aside0.mk (hb); have n3_ := Aside0.mk (ho); clear BK388; clear BK390; clear HB; clear HO_7; have BK388 := n0_; have BK390 := n1_; have HB := n2_; have HO399 := n3_; clear n0_ n1_ n2_ n3_; clear ho hb hg hat))
              go_roundg k1
              case measure => have := HK1.out; omega
              case rel => exact ⟨(y397), (wrap64 (x27_1 + 1)), (by rfl), H', ⟨by have := HK1.out; omega⟩, ⟨by (with_reducible repeat (fail)); exact HO399.out⟩, ⟨by (with_reducible repeat (fail)); exact BK388.out⟩, ⟨by (with_reducible repeat (fail)); exact BK390.out⟩, ⟨by repeat ((with_reducible exact HB.out))⟩⟩
            rw [if_neg c17] at H
            exact absurd H (by simp)
          rw [if_neg c13] at H
          have c13b0 : decide (x27_1 < (((rd_T44 l0_2 a1).f3).length : Int)) = false := decide_eq_false c13
          clear c13
          have H' := Aside0.mk H
          clear H
          go_wp2
          go_loopg [] k1 (fun kq w' => ∃ (x7_2 : List Int), Aside0 (sacristanref11_Depths.l1 kq x7_2 l0_0 l0_1 l0_2 l0_3 ((rd_T44 l0_2 a1).f0) ((rd_T44 l0_2 a1).f1) ((rd_T44 l0_2 a1).f2) ((rd_T44 l0_2 a1).f3) = some (r1, r2)) ∧ Aside0 (kq ≤ k1) ∧ Aside0 (Kd.R (Kd.int .i64) 3 w' w.heap.size (fun _ => True) u7 x7_2) ∧ Aside0 (w'.heap[gb388]? = some (.cells #[(.slice A0_0 l0_0.length c0_0), (.slice A0_1 l0_1.length c0_1), (.slice (some ad389) l0_2.length c0_2), (.slice A0_3 l0_3.length c0_3)] 30 (0, 0))) ∧ Aside0 (w'.heap[gb390]? = some (.cells #[.int .i64 ((rd_T44 l0_2 a1).f0), .int .i64 ((rd_T44 l0_2 a1).f1), .int .i64 ((rd_T44 l0_2 a1).f2), (.slice A389_3 ((rd_T44 l0_2 a1).f3).length c389_3)] 44 (0, 0))) ∧ Aside0 (Below w.heap.size w w'))
          case atStart => exact ⟨(x7_1), H', ⟨Nat.le_refl _⟩, ⟨by (with_reducible repeat (fail)); exact HO_7.out⟩, ⟨by (with_reducible repeat (fail)); exact BK388.out⟩, ⟨by (with_reducible repeat (fail)); exact BK390.out⟩, ⟨by repeat ((with_reducible exact HB.out))⟩⟩
          case round =>
            clear H' c13b0
            obtain ⟨x7_2, HA, HK2, HO_7, BK388, BK390, HB⟩ := hrel
            cases gk with
            | zero => exact absurd HA.out (by simp [sacristanref11_Depths.l1])
            | succ k2 =>
              have H := HA.out
              clear HA
              simp only [sacristanref11_Depths.l1] at H
              have H' := Aside0.mk H
              clear H
              have hnb19 := NB390_388.out
              have hnc19 := NB388_390.out
              have hcz20_0 : wr.cell? ⟨gb390, 0, none⟩ = some (.int .i64 ((rd_T44 l0_2 a1).f0)) := (blk_cell BK390.out 0).trans rfl
              have hcz20_1 : wr.cell? ⟨gb390, 1, none⟩ = some (.int .i64 ((rd_T44 l0_2 a1).f1)) := (blk_cell BK390.out 1).trans rfl
              have hcz20_2 : wr.cell? ⟨gb390, 2, none⟩ = some (.int .i64 ((rd_T44 l0_2 a1).f2)) := (blk_cell BK390.out 2).trans rfl
              have hcz20_3 : wr.cell? ⟨gb390, 3, none⟩ = some (.slice A389_3 ((rd_T44 l0_2 a1).f3).length c389_3) := (blk_cell BK390.out 3).trans rfl
              have hfz20_0 := blk_frozen BK390.out 0
              have hfz20_1 := blk_frozen BK390.out 1
              have hfz20_2 := blk_frozen BK390.out 2
              have hfz20_3 := blk_frozen BK390.out 3
              go_wp2
              go_loopg [9, 42] k2 (fun kq v9 v42 w' => ∃ (x7_3 : List Int) (x9_3 : Bool) (x42_3 : Int), v9 = .bool x9_3 ∧ v42 = .int .i64 x42_3 ∧ Aside0 (sacristanref11_Depths.l2 kq x7_3 x9_3 (((rd_T44 l0_2 a1).f3).length : Int) x42_3 l0_0 l0_1 l0_2 l0_3 ((rd_T44 l0_2 a1).f0) ((rd_T44 l0_2 a1).f1) ((rd_T44 l0_2 a1).f2) ((rd_T44 l0_2 a1).f3) = some (r1, r2)) ∧ Aside0 (kq ≤ k2) ∧ Aside0 (Kd.R (Kd.int .i64) 3 w' w.heap.size (fun _ => True) u7 x7_3) ∧ Aside0 (w'.heap[gb388]? = some (.cells #[(.slice A0_0 l0_0.length c0_0), (.slice A0_1 l0_1.length c0_1), (.slice (some ad389) l0_2.length c0_2), (.slice A0_3 l0_3.length c0_3)] 30 (0, 0))) ∧ Aside0 (w'.heap[gb390]? = some (.cells #[.int .i64 ((rd_T44 l0_2 a1).f0), .int .i64 ((rd_T44 l0_2 a1).f1), .int .i64 ((rd_T44 l0_2 a1).f2), (.slice A389_3 ((rd_T44 l0_2 a1).f3).length c389_3)] 44 (0, 0))) ∧ Aside0 (Below w.heap.size w w'))
              case atStart => exact ⟨(x7_2), (false), (0), (by rfl), (by rfl), H', ⟨Nat.le_refl _⟩, ⟨by (with_reducible repeat (fail)); exact HO_7.out⟩, ⟨by (with_reducible repeat (fail)); exact BK388.out⟩, ⟨by (with_reducible repeat (fail)); exact BK390.out⟩, ⟨by repeat ((with_reducible exact HB.out))⟩⟩
              case round =>
                clear H' hcz20_0 hcz20_1 hcz20_2 hcz20_3 hfz20_0 hfz20_1 hfz20_2 hfz20_3
                obtain ⟨x7_3, x9_3, x42_3, rfl, rfl, HA, HK3, HO_7, BK388, BK390, HB⟩ := hrel
                cases gk with
                | zero => exact absurd HA.out (by simp [sacristanref11_Depths.l2])
                | succ k3 =>
                  have H := HA.out
                  clear HA
                  simp only [sacristanref11_Depths.l2] at H
                  by_cases c21 : x42_3 < (((rd_T44 l0_2 a1).f3).length : Int)
                  · rw [if_pos c21] at H
                    have c21b0 : decide (x42_3 < (((rd_T44 l0_2 a1).f3).length : Int)) = true := decide_eq_true c21
                    clear c21
                    by_cases c22 : 0 ≤ x42_3
                    · rw [if_pos c22] at H
                      have c22b0 : decide (0 ≤ x42_3) = true := decide_eq_true c22
                      clear c22
                      by_cases c23 : x42_3 < (x7_3.length : Int)
                      · rw [if_pos c23] at H
                        have c23b0 : decide (x42_3 < (x7_3.length : Int)) = true := decide_eq_true c23
                        clear c23
                        by_cases c24 : (rd x7_3 x42_3) < 0
                        · rw [if_pos c24] at H
                          have c24b0 : decide ((rd x7_3 x42_3) < 0) = true := decide_eq_true c24
                          clear c24
                          have H' := Aside0.mk H
                          clear H
                          obtain ⟨Ao25, co25, eo25⟩ := Kd.R_slice HO_7.out
                          subst eo25
                          have p400 : 0 ≤ (x42_3 : Int) := of_decide_eq_true (by (with_reducible assumption))
                          have q400 : x42_3 < (x7_3.length : Int) := of_decide_eq_true (by (with_reducible assumption))
                          obtain ⟨ad400, e400, hx400_0⟩ := Kd.at_int (Kd.R_reads' HO_7.out).2.2 x42_3 p400 q400
                          cases e400
                          replace p400 := eq_true p400
                          replace q400 := eq_true q400
                          go_wp2
                          go_roundg k3
                          case measure => have := HK1.out; have := HK2.out; have := HK3.out; omega
                          case rel => exact ⟨(x7_3), (x9_3), (wrap64 (x42_3 + 1)), (by rfl), (by rfl), H', ⟨by have := HK1.out; have := HK2.out; have := HK3.out; omega⟩, ⟨by (with_reducible repeat (fail)); exact HO_7.out⟩, ⟨by (with_reducible repeat (fail)); exact BK388.out⟩, ⟨by (with_reducible repeat (fail)); exact BK390.out⟩, ⟨by repeat ((with_reducible exact HB.out))⟩⟩
                        rw [if_neg c24] at H
                        have c24b0 : decide ((rd x7_3 x42_3) < 0) = false := decide_eq_false c24
                        clear c24
                        by_cases c26 : x42_3 < (((rd_T44 l0_2 a1).f3).length : Int)
                        · rw [if_pos c26] at H
                          have c26b0 : decide (x42_3 < (((rd_T44 l0_2 a1).f3).length : Int)) = true := decide_eq_true c26
                          clear c26
                          replace H := Option.bind_eq_some_iff.mp H
                          obtain ⟨⟨t403, t404, t405⟩, A270, H⟩ := H
                          (try dsimp only at H)
                          have A27 := Aside0.mk A270
                          clear A270
                          have HC28 := Aside0.mk H
                          clear H
                          obtain ⟨Ao29, co29, eo29⟩ := Kd.R_slice HO_7.out
                          subst eo29
                          have p400 : 0 ≤ (x42_3 : Int) := of_decide_eq_true (by (with_reducible assumption))
                          have q400 : x42_3 < (x7_3.length : Int) := of_decide_eq_true (by (with_reducible assumption))
                          obtain ⟨ad400, e400, hx400_0⟩ := Kd.at_int (Kd.R_reads' HO_7.out).2.2 x42_3 p400 q400
                          cases e400
                          replace p400 := eq_true p400
                          replace q400 := eq_true q400
                          have hnb30 := NB390_388.out
                          have hnc30 := NB388_390.out
                          have hcz31_0 : wr.cell? ⟨gb390, 0, none⟩ = some (.int .i64 ((rd_T44 l0_2 a1).f0)) := (blk_cell BK390.out 0).trans rfl
                          have hcz31_1 : wr.cell? ⟨gb390, 1, none⟩ = some (.int .i64 ((rd_T44 l0_2 a1).f1)) := (blk_cell BK390.out 1).trans rfl
                          have hcz31_2 : wr.cell? ⟨gb390, 2, none⟩ = some (.int .i64 ((rd_T44 l0_2 a1).f2)) := (blk_cell BK390.out 2).trans rfl
                          have hcz31_3 : wr.cell? ⟨gb390, 3, none⟩ = some (.slice A389_3 ((rd_T44 l0_2 a1).f3).length c389_3) := (blk_cell BK390.out 3).trans rfl
                          have hfz31_0 := blk_frozen BK390.out 0
                          have hfz31_1 := blk_frozen BK390.out 1
                          have hfz31_2 := blk_frozen BK390.out 2
                          have hfz31_3 := blk_frozen BK390.out 3
                          have p401 : 0 ≤ (x42_3 : Int) := of_decide_eq_true (by (with_reducible assumption))
                          have q401 : x42_3 < (((rd_T44 l0_2 a1).f3).length : Int) := of_decide_eq_true (by (with_reducible assumption))
                          obtain ⟨ad401, e401, hx401_0, hx401_1⟩ := at_T32 HR389_3.out x42_3 p401 q401
                          cases e401
                          replace hx401_0 := (HB.out.cell (World.block_lt_of_cell? w _ hx401_0)).trans hx401_0
                          replace hx401_1 := (HB.out.cell (World.block_lt_of_cell? w _ hx401_1)).trans hx401_1
                          replace p401 := eq_true p401
                          replace q401 := eq_true q401
                          go_upto_region 18 with (first | ((with_reducible refine gate_dst (N := 11) rfl ?_); refine box_event ?hg (N := 11) ?hd (cs := #[.int .u8 0, .int .i64 0]) (t := 32) ?hr ?_; (case hd => rfl); (case hg => rfl); (case hr => ((go_simp; done))); intro gb402 hg w32 hbox hb; have n0_ := Aside0.mk (Kd.R_below (by (with_reducible repeat (fail)); exact HO_7.out) hb); have n1_ := Aside0.mk (blk_below (g := gb388) (o := .cells #[.slice A0_0 l0_0.length c0_0, .slice A0_1 l0_1.length c0_1, .slice (some ad389) l0_2.length c0_2, .slice A0_3 l0_3.length c0_3] 30 (0, 0)) (by (with_reducible repeat (fail)); exact BK388.out) hb); have n2_ := Aside0.mk (blk_below (g := gb390) (o := .cells #[.int .i64 ((rd_T44 l0_2 a1).f0), .int .i64 ((rd_T44 l0_2 a1).f1), .int .i64 ((rd_T44 l0_2 a1).f2), .slice (some ad401) ((rd_T44 l0_2 a1).f3).length c389_3] 44 (0, 0)) (by (with_reducible repeat (fail)); exact BK390.out) hb); have n3_ := Aside0.mk (below_step (by repeat ((with_reducible exact HB.out))) hb); have n4_ := Aside0.mk (hbox); have n5_ := Aside0.mk ((by rw [hg]; exact (below_size (by repeat ((with_reducible exact HB.out)))) : w.heap.size ≤ gb402)); have n6_ := Aside0.mk ((by rw [hg]; exact (below_size (by repeat ((with_reducible exact HB.out)))) : w.heap.size ≤ gb402)); have n7_ := Aside0.mk ((by rw [hg]; exact Nat.ne_of_lt (blk_lt (g := gb388) (o := .cells #[.slice A0_0 l0_0.length c0_0, .slice A0_1 l0_1.length c0_1, .slice (some ad389) l0_2.length c0_2, .slice A0_3 l0_3.length c0_3] 30 (0, 0)) (by (with_reducible repeat (fail)); exact BK388.out)) : gb388 ≠ gb402)); have n8_ := Aside0.mk ((by rw [hg]; exact Nat.ne_of_gt (blk_lt (g := gb388) (o := .cells #[.slice A0_0 l0_0.length c0_0, .slice A0_1 l0_1.length c0_1, .slice (some ad389) l0_2.length c0_2, .slice A0_3 l0_3.length c0_3] 30 (0, 0)) (by (with_reducible repeat (fail)); exact BK388.out)) : gb402 ≠ gb388)); have n9_ := Aside0.mk ((by rw [hg]; exact Nat.ne_of_lt (blk_lt (g := gb390) (o := .cells #[.int .i64 ((rd_T44 l0_2 a1).f0), .int .i64 ((rd_T44 l0_2 a1).f1), .int .i64 ((rd_T44 l0_2 a1).f2), .slice (some ad401) ((rd_T44 l0_2 a1).f3).length c389_3] 44 (0, 0)) (by (with_reducible repeat (fail)); exact BK390.out)) : gb390 ≠ gb402)); have n10_ := Aside0.mk ((by rw [hg]; exact Nat.ne_of_gt (blk_lt (g := gb390) (o := .cells #[.int .i64 ((rd_T44 l0_2 a1).f0), .int .i64 ((rd_T44 l0_2 a1).f1), .int .i64 ((rd_T44 l0_2 a1).f2), .slice (some ad401) ((rd_T44 l0_2 a1).f3).length c389_3] 44 (0, 0)) (by (with_reducible repeat (fail)); exact BK390.out)) : gb402 ≠ gb390)); clear HO_7; clear BK388; clear BK390; clear HB; have HO_7 := n0_; have BK388 := n1_; have BK390 := n2_; have HB := n3_; have BK402 := n4_; have GW402 := n5_; have GE402 := n6_; have NB388_402 := n7_; have NB402_388 := n8_; have NB390_402 := n9_; have NB402_390 := n10_; clear n0_ n1_ n2_ n3_ n4_ n5_ n6_ n7_ n8_ n9_ n10_; clear hb hbox hg; have hnb33 := NB402_388.out; have hnc33 := NB388_402.out; have hnb34 := NB402_390.out; have hnc34 := NB390_402.out; have hcz35_0 : w32.cell? ⟨gb402, 0, none⟩ = some (.int .u8 0) := (blk_cell BK402.out 0).trans rfl; have hcz35_1 : w32.cell? ⟨gb402, 1, none⟩ = some (.int .i64 0) := (blk_cell BK402.out 1).trans rfl; have hfz35_0 := blk_frozen BK402.out 0; have hfz35_1 := blk_frozen BK402.out 1; have hcz36_0 : w32.cell? ⟨gb388, 0, none⟩ = some (.slice A0_0 l0_0.length c0_0) := (blk_cell BK388.out 0).trans rfl; have hcz36_1 : w32.cell? ⟨gb388, 1, none⟩ = some (.slice A0_1 l0_1.length c0_1) := (blk_cell BK388.out 1).trans rfl; have hcz36_2 : w32.cell? ⟨gb388, 2, none⟩ = some (.slice (some ad389) l0_2.length c0_2) := (blk_cell BK388.out 2).trans rfl; have hcz36_3 : w32.cell? ⟨gb388, 3, none⟩ = some (.slice A0_3 l0_3.length c0_3) := (blk_cell BK388.out 3).trans rfl; have hfz36_0 := blk_frozen BK388.out 0; have hfz36_1 := blk_frozen BK388.out 1; have hfz36_2 := blk_frozen BK388.out 2; have hfz36_3 := blk_frozen BK388.out 3) | ((with_reducible refine gate_callee (f := 21) rfl ?_); refine goesL_ (some 58) rfl rfl Tryd.func21 (by kernel_rfl) rfl #[.agg #[.slice A0_0 l0_0.length c0_0, .slice A0_1 l0_1.length c0_1, .slice (some ad389) l0_2.length c0_2, .slice A0_3 l0_3.length c0_3], .agg #[.int .u8 ((rd_T32 ((rd_T44 l0_2 a1).f3) x42_3).f0), .int .i64 ((rd_T32 ((rd_T44 l0_2 a1).f3) x42_3).f1)]] rfl (by (try simp only [List.map_toArray, List.map_cons, List.map_nil]); rfl) ?_; (with_reducible refine (sacristanref09_Effect.calls k3 _ _ l0_0 _ _ l0_1 _ _ l0_2 _ _ l0_3 ((rd_T32 ((rd_T44 l0_2 a1).f3) x42_3).f0) ((rd_T32 ((rd_T44 l0_2 a1).f3) x42_3).f1) t403 t404 t405 _ ?side1 ?side2 ?side3 ?side4 ?side5 ?side6 ?side7 ?side8 A27.out).mono ?_); (case side1 => exact Kd.C_below HR0_0.out (by repeat ((with_reducible first | exact HB.out | refine below_set ?_ GE402.out)))); (case side2 => exact HC0_0.out); (case side3 => exact Kd.C_below HR0_1.out (by repeat ((with_reducible first | exact HB.out | refine below_set ?_ GE402.out)))); (case side4 => exact HC0_1.out); (case side5 => exact Kd.C_below HR0_2.out (by repeat ((with_reducible first | exact HB.out | refine below_set ?_ GE402.out)))); (case side6 => exact HC0_2.out); (case side7 => exact Kd.C_below HR0_3.out (by repeat ((with_reducible first | exact HB.out | refine below_set ?_ GE402.out)))); (case side8 => exact HC0_3.out); rintro e w37 ⟨rfl, hb⟩; refine ⟨_, rfl, ?_⟩; have n0_ := Aside0.mk (Kd.R_below (by (with_reducible repeat (fail)); exact (Kd.R_mono (Kd.R_far (p := ⟨gb402, 1, none⟩) (Kd.R_far (p := ⟨gb402, 0, none⟩) (Kd.R_types HO_7.out BK402.out (by decide)) (fun _ hk => hk.2) (.int .u8 ((rd_T32 ((rd_T44 l0_2 a1).f3) x42_3).f0))) (fun _ hk => hk.2) (.int .i64 ((rd_T32 ((rd_T44 l0_2 a1).f3) x42_3).f1))) (fun _ h_ => h_.1))) hb); have n1_ := Aside0.mk (blk_below (g := gb388) (o := .cells #[.slice A0_0 l0_0.length c0_0, .slice A0_1 l0_1.length c0_1, .slice (some ad389) l0_2.length c0_2, .slice A0_3 l0_3.length c0_3] 30 (0, 0)) (by (with_reducible repeat (fail)); refine blk_far ?_ NB388_402.out _; (with_reducible repeat (fail)); refine blk_far ?_ NB388_402.out _; (with_reducible repeat (fail)); exact BK388.out) hb); have n2_ := Aside0.mk (blk_below (g := gb390) (o := .cells #[.int .i64 ((rd_T44 l0_2 a1).f0), .int .i64 ((rd_T44 l0_2 a1).f1), .int .i64 ((rd_T44 l0_2 a1).f2), .slice (some ad401) ((rd_T44 l0_2 a1).f3).length c389_3] 44 (0, 0)) (by (with_reducible repeat (fail)); refine blk_far ?_ NB390_402.out _; (with_reducible repeat (fail)); refine blk_far ?_ NB390_402.out _; (with_reducible repeat (fail)); exact BK390.out) hb); have n3_ := Aside0.mk (blk_below (g := gb402) (o := .cells #[.int .u8 ((rd_T32 ((rd_T44 l0_2 a1).f3) x42_3).f0), .int .i64 ((rd_T32 ((rd_T44 l0_2 a1).f3) x42_3).f1)] 32 (0, 0)) (by (with_reducible repeat (fail)); refine blk_put (cs := #[.int .u8 ((rd_T32 ((rd_T44 l0_2 a1).f3) x42_3).f0), .int .i64 0]) ?_ 1 _ rfl; (with_reducible repeat (fail)); refine blk_put (cs := #[.int .u8 0, .int .i64 0]) ?_ 0 _ rfl; (with_reducible repeat (fail)); exact BK402.out) hb); have n4_ := Aside0.mk (below_step (by repeat ((with_reducible first | exact HB.out | refine below_set ?_ GE402.out))) hb); clear HO_7; clear BK388; clear BK390; clear BK402; clear HB; have HO_7 := n0_; have BK388 := n1_; have BK390 := n2_; have BK402 := n3_; have HB := n4_; clear n0_ n1_ n2_ n3_ n4_; (try clear hb); have p406 : 0 ≤ (x42_3 : Int) := of_decide_eq_true (by (with_reducible assumption)); have q406 : x42_3 < (x7_3.length : Int) := of_decide_eq_true (by (with_reducible assumption)); obtain ⟨ad406, e406, hx406_0⟩ := Kd.at_int (Kd.R_reads' HO_7.out).2.2 x42_3 p406 q406; obtain rfl : ad400 = ad406 := (by injection e406); replace p406 := eq_true p406; replace q406 := eq_true q406))
                          go_cut [79] (fun v79 wc => ∃ (kq : Nat) (x79_27 : Bool), v79 = .bool x79_27 ∧ Aside0 (sacristanref11_Depths.j3 kq x7_3 x9_3 x42_3 (wrap64 ((wrap64 ((rd x7_3 x42_3) - t403)) + t404)) (((rd_T44 l0_2 a1).f3).length : Int) x42_3 x79_27 l0_0 l0_1 l0_2 l0_3 ((rd_T44 l0_2 a1).f0) ((rd_T44 l0_2 a1).f1) ((rd_T44 l0_2 a1).f2) ((rd_T44 l0_2 a1).f3) ((rd_T32 ((rd_T44 l0_2 a1).f3) x42_3).f0) ((rd_T32 ((rd_T44 l0_2 a1).f3) x42_3).f1) = some (r1, r2)) ∧ Aside0 (kq ≤ k3) ∧ Aside0 (Kd.R (Kd.int .i64) 3 wc w.heap.size (fun _ => True) (.slice (some ad400) x7_3.length co29) x7_3) ∧ Aside0 (wc.heap[gb388]? = some (.cells #[(.slice A0_0 l0_0.length c0_0), (.slice A0_1 l0_1.length c0_1), (.slice (some ad389) l0_2.length c0_2), (.slice A0_3 l0_3.length c0_3)] 30 (0, 0))) ∧ Aside0 (wc.heap[gb390]? = some (.cells #[.int .i64 ((rd_T44 l0_2 a1).f0), .int .i64 ((rd_T44 l0_2 a1).f1), .int .i64 ((rd_T44 l0_2 a1).f2), (.slice (some ad401) ((rd_T44 l0_2 a1).f3).length c389_3)] 44 (0, 0))) ∧ Aside0 (wc.heap[gb402]? = some (.cells #[.int .u8 ((rd_T32 ((rd_T44 l0_2 a1).f3) x42_3).f0), .int .i64 ((rd_T32 ((rd_T44 l0_2 a1).f3) x42_3).f1)] 32 (0, 0))) ∧ Aside0 (Below w.heap.size w wc))
                          case first =>
                            have H := HC28.out
                            clear HC28
                            by_cases c38 : t403 > (rd x7_3 x42_3)
                            · rw [if_pos c38] at H
                              have c38b0 : decide ((rd x7_3 x42_3) < t403) = true := decide_eq_true c38
                              clear c38
                              (skip)
                              have H' := Aside0.mk H
                              clear H
                              have p407 : 0 ≤ (x42_3 : Int) := of_decide_eq_true (by (with_reducible assumption))
                              have q407 : x42_3 < (x7_3.length : Int) := of_decide_eq_true (by (with_reducible assumption))
                              obtain ⟨ad407, e407, hx407_0⟩ := Kd.at_int (Kd.R_reads' HO_7.out).2.2 x42_3 p407 q407
                              obtain rfl : ad400 = ad407 := (by injection e407)
                              replace p407 := eq_true p407
                              replace q407 := eq_true q407
                              go_wp2
                              go_meet
                              case rel => exact ⟨_, (true), (by rfl), H', ⟨by have := HK1.out; have := HK2.out; have := HK3.out; omega⟩, ⟨by (with_reducible repeat (fail)); exact HO_7.out⟩, ⟨by (with_reducible repeat (fail)); exact BK388.out⟩, ⟨by (with_reducible repeat (fail)); exact BK390.out⟩, ⟨by (with_reducible repeat (fail)); exact BK402.out⟩, ⟨by repeat ((with_reducible exact HB.out))⟩⟩
                            rw [if_neg c38] at H
                            have c38b0 : decide ((rd x7_3 x42_3) < t403) = false := decide_eq_false c38
                            clear c38
                            (skip)
                            have H' := Aside0.mk H
                            clear H
                            have p407 : 0 ≤ (x42_3 : Int) := of_decide_eq_true (by (with_reducible assumption))
                            have q407 : x42_3 < (x7_3.length : Int) := of_decide_eq_true (by (with_reducible assumption))
                            obtain ⟨ad407, e407, hx407_0⟩ := Kd.at_int (Kd.R_reads' HO_7.out).2.2 x42_3 p407 q407
                            obtain rfl : ad400 = ad407 := (by injection e407)
                            replace p407 := eq_true p407
                            replace q407 := eq_true q407
                            go_wp2
                            go_meet
                            case rel => exact ⟨_, (decide ((wrap64 ((wrap64 ((rd x7_3 x42_3) - t403)) + t404)) > 256)), (by rfl), H', ⟨by have := HK1.out; have := HK2.out; have := HK3.out; omega⟩, ⟨by (with_reducible repeat (fail)); exact HO_7.out⟩, ⟨by (with_reducible repeat (fail)); exact BK388.out⟩, ⟨by (with_reducible repeat (fail)); exact BK390.out⟩, ⟨by (with_reducible repeat (fail)); exact BK402.out⟩, ⟨by repeat ((with_reducible exact HB.out))⟩⟩
                          case rest =>
                            clear HC28 c21b0 c22b0 c23b0 c24b0 c26b0 hcz31_0 hcz31_1 hcz31_2 hcz31_3 hcz35_0 hcz35_1 hcz36_0 hcz36_1 hcz36_2 hcz36_3 hfz31_0 hfz31_1 hfz31_2 hfz31_3 hfz35_0 hfz35_1 hfz36_0 hfz36_1 hfz36_2 hfz36_3 hx400_0 hx401_0 hx401_1 hx406_0 p400 p401 p406 q400 q401 q406
                            obtain ⟨kq, x79_27, rfl, HA, HJ27, HO_7, BK388, BK390, BK402, HB⟩ := hcut
                            cases kq with
                            | zero => exact absurd HA.out (by simp [sacristanref11_Depths.j3])
                            | succ kj27 =>
                              have H := HA.out
                              clear HA
                              simp only [sacristanref11_Depths.j3] at H
                              by_cases c39 : x79_27 = true
                              · subst c39
                                have H1 : (some ((([] : List Int)), false)) = some (r1, r2) := by rw [if_pos rfl] at H; exact H
                                clear H
                                have H := H1
                                clear H1
                                obtain ⟨y408, hy408⟩ : ∃ y_ : List Int, y_ = (([] : List Int)) := ⟨_, rfl⟩
                                replace H : (some (y408, false)) = some (r1, r2) := by ((rw [hy408]; with_reducible exact H))
                                have Ny408 := Aside0.mk hy408
                                clear hy408
                                simp only [Option.some.injEq, Prod.mk.injEq] at H
                                obtain ⟨rfl, rfl⟩ := H
                                go_wp2_with (((with_reducible refine gate_dst (N := 80) rfl ?_); refine Kd.R_lit (Kd.int .i64) _ 3 ?hg (N := 80) ?hd (xs := ([] : List Int)) (inner := []) (ok := fun _ => True) (okp := fun _ => True) ?hr ?hp (fun _ hk => hk) trivial (Below.refl _ _) (Nat.le_refl _) (by simp) ?_; (case hd => rfl); (case hg => rfl); (case hr => ((go_simp; done))); (case hp => exact (Reps.none _ _)); intro v409 w40 ho41 hb hg_ hnew_; clear hg_ hnew_; (rw [← Ny408.out] at ho41); have n0_ := Aside0.mk (Kd.R_elder' (by (with_reducible repeat (fail)); exact HO_7.out) (Kd.R_base ho41) hb); have n1_ := Aside0.mk (Kd.R_lower (Kd.R_new' ho41 (Kd.R_lt (by (with_reducible repeat (fail)); exact HO_7.out))) (below_size (by repeat ((with_reducible exact HB.out))))); have n2_ := Aside0.mk (blk_below (g := gb388) (o := .cells #[.slice A0_0 l0_0.length c0_0, .slice A0_1 l0_1.length c0_1, .slice (some ad389) l0_2.length c0_2, .slice A0_3 l0_3.length c0_3] 30 (0, 0)) (by (with_reducible repeat (fail)); exact BK388.out) hb); have n3_ := Aside0.mk (blk_below (g := gb390) (o := .cells #[.int .i64 ((rd_T44 l0_2 a1).f0), .int .i64 ((rd_T44 l0_2 a1).f1), .int .i64 ((rd_T44 l0_2 a1).f2), .slice (some ad401) ((rd_T44 l0_2 a1).f3).length c389_3] 44 (0, 0)) (by (with_reducible repeat (fail)); exact BK390.out) hb); have n4_ := Aside0.mk (blk_below (g := gb402) (o := .cells #[.int .u8 ((rd_T32 ((rd_T44 l0_2 a1).f3) x42_3).f0), .int .i64 ((rd_T32 ((rd_T44 l0_2 a1).f3) x42_3).f1)] 32 (0, 0)) (by (with_reducible repeat (fail)); exact BK402.out) hb); have n5_ := Aside0.mk (below_step (by repeat ((with_reducible exact HB.out))) hb); clear HO_7; clear BK388; clear BK390; clear BK402; clear HB; have HO_7 := n0_; have HO410 := n1_; have BK388 := n2_; have BK390 := n3_; have BK402 := n4_; have HB := n5_; clear n0_ n1_ n2_ n3_ n4_ n5_; clear hb ho41))
                                go_ret2
                                exact ⟨_, by rfl, by (with_reducible repeat (fail)); exact Kd.R_mono HO410.out (fun _ hk => trivial), by repeat ((with_reducible exact HB.out))⟩
                              replace c39 := Bool.eq_false_iff.mpr c39
                              subst c39
                              have H1 : ((some (([] : List Int) : List Int)).bind fun y411 => ((sacristanref09_Ends.f ((rd_T32 ((rd_T44 l0_2 a1).f3) x42_3).f0)).bind fun t414 => (if t414 = true then (sacristanref11_Depths.j4 kj27 x7_3 x9_3 (wrap64 ((wrap64 ((rd x7_3 x42_3) - t403)) + t404)) y411 (((rd_T44 l0_2 a1).f3).length : Int) x42_3 l0_0 l0_1 l0_2 l0_3 ((rd_T44 l0_2 a1).f0) ((rd_T44 l0_2 a1).f1) ((rd_T44 l0_2 a1).f2) ((rd_T44 l0_2 a1).f3) ((rd_T32 ((rd_T44 l0_2 a1).f3) x42_3).f0) ((rd_T32 ((rd_T44 l0_2 a1).f3) x42_3).f1)) else (if y411.length < 17592186044416 then (sacristanref11_Depths.j4 kj27 x7_3 x9_3 (wrap64 ((wrap64 ((rd x7_3 x42_3) - t403)) + t404)) (y411 ++ [wrap64 (x42_3 + 1)]) (((rd_T44 l0_2 a1).f3).length : Int) x42_3 l0_0 l0_1 l0_2 l0_3 ((rd_T44 l0_2 a1).f0) ((rd_T44 l0_2 a1).f1) ((rd_T44 l0_2 a1).f2) ((rd_T44 l0_2 a1).f3) ((rd_T32 ((rd_T44 l0_2 a1).f3) x42_3).f0) ((rd_T32 ((rd_T44 l0_2 a1).f3) x42_3).f1)) else (none))))) = some (r1, r2) := by rw [if_neg (show ¬ (false = true) by decide)] at H; exact H
                              clear H
                              have H := H1
                              clear H1
                              obtain ⟨y411, hy411⟩ : ∃ y_ : List Int, y_ = (([] : List Int)) := ⟨_, rfl⟩
                              replace H : ((sacristanref09_Ends.f ((rd_T32 ((rd_T44 l0_2 a1).f3) x42_3).f0)).bind fun t414 => (if t414 = true then (sacristanref11_Depths.j4 kj27 x7_3 x9_3 (wrap64 ((wrap64 ((rd x7_3 x42_3) - t403)) + t404)) y411 (((rd_T44 l0_2 a1).f3).length : Int) x42_3 l0_0 l0_1 l0_2 l0_3 ((rd_T44 l0_2 a1).f0) ((rd_T44 l0_2 a1).f1) ((rd_T44 l0_2 a1).f2) ((rd_T44 l0_2 a1).f3) ((rd_T32 ((rd_T44 l0_2 a1).f3) x42_3).f0) ((rd_T32 ((rd_T44 l0_2 a1).f3) x42_3).f1)) else (if y411.length < 17592186044416 then (sacristanref11_Depths.j4 kj27 x7_3 x9_3 (wrap64 ((wrap64 ((rd x7_3 x42_3) - t403)) + t404)) (y411 ++ [wrap64 (x42_3 + 1)]) (((rd_T44 l0_2 a1).f3).length : Int) x42_3 l0_0 l0_1 l0_2 l0_3 ((rd_T44 l0_2 a1).f0) ((rd_T44 l0_2 a1).f1) ((rd_T44 l0_2 a1).f2) ((rd_T44 l0_2 a1).f3) ((rd_T32 ((rd_T44 l0_2 a1).f3) x42_3).f0) ((rd_T32 ((rd_T44 l0_2 a1).f3) x42_3).f1)) else (none)))) = some (r1, r2) := by ((have H2_ := (Option.bind_some _ _).symm.trans H; rw [hy411]; with_reducible exact H2_))
                              have Ny411 := Aside0.mk hy411
                              clear hy411
                              replace H := Option.bind_eq_some_iff.mp H
                              obtain ⟨t414, A420, H⟩ := H
                              have A42 := Aside0.mk A420
                              clear A420
                              have HC43 := Aside0.mk H
                              clear H
                              go_upto_if 85 with (first | ((with_reducible refine gate_dst (N := 81) rfl ?_); refine Kd.R_lit (Kd.int .i64) _ 3 ?hg (N := 81) ?hd (xs := ([] : List Int)) (inner := []) (ok := fun _ => True) (okp := fun _ => True) ?hr ?hp (fun _ hk => hk) trivial (Below.refl _ _) (Nat.le_refl _) (by simp) ?_; (case hd => rfl); (case hg => rfl); (case hr => ((go_simp; done))); (case hp => exact (Reps.none _ _)); intro v412 w44 ho45 hb hg_ hnew_; clear hg_ hnew_; (rw [← Ny411.out] at ho45); have n0_ := Aside0.mk (Kd.R_elder' (by (with_reducible repeat (fail)); exact HO_7.out) (Kd.R_base ho45) hb); have n1_ := Aside0.mk (Kd.R_lower (Kd.R_new' ho45 (Kd.R_lt (by (with_reducible repeat (fail)); exact HO_7.out))) (below_size (by repeat ((with_reducible exact HB.out))))); have n2_ := Aside0.mk (blk_below (g := gb388) (o := .cells #[.slice A0_0 l0_0.length c0_0, .slice A0_1 l0_1.length c0_1, .slice (some ad389) l0_2.length c0_2, .slice A0_3 l0_3.length c0_3] 30 (0, 0)) (by (with_reducible repeat (fail)); exact BK388.out) hb); have n3_ := Aside0.mk (blk_below (g := gb390) (o := .cells #[.int .i64 ((rd_T44 l0_2 a1).f0), .int .i64 ((rd_T44 l0_2 a1).f1), .int .i64 ((rd_T44 l0_2 a1).f2), .slice (some ad401) ((rd_T44 l0_2 a1).f3).length c389_3] 44 (0, 0)) (by (with_reducible repeat (fail)); exact BK390.out) hb); have n4_ := Aside0.mk (blk_below (g := gb402) (o := .cells #[.int .u8 ((rd_T32 ((rd_T44 l0_2 a1).f3) x42_3).f0), .int .i64 ((rd_T32 ((rd_T44 l0_2 a1).f3) x42_3).f1)] 32 (0, 0)) (by (with_reducible repeat (fail)); exact BK402.out) hb); have n5_ := Aside0.mk (below_step (by repeat ((with_reducible exact HB.out))) hb); clear HO_7; clear BK388; clear BK390; clear BK402; clear HB; have HO_7 := n0_; have HO413 := n1_; have BK388 := n2_; have BK390 := n3_; have BK402 := n4_; have HB := n5_; clear n0_ n1_ n2_ n3_ n4_ n5_; clear hb ho45; have hnb46 := NB402_388.out; have hnc46 := NB388_402.out; have hnb47 := NB402_390.out; have hnc47 := NB390_402.out; have hcz48_0 : w44.cell? ⟨gb402, 0, none⟩ = some (.int .u8 ((rd_T32 ((rd_T44 l0_2 a1).f3) x42_3).f0)) := (blk_cell BK402.out 0).trans rfl; have hcz48_1 : w44.cell? ⟨gb402, 1, none⟩ = some (.int .i64 ((rd_T32 ((rd_T44 l0_2 a1).f3) x42_3).f1)) := (blk_cell BK402.out 1).trans rfl; have hfz48_0 := blk_frozen BK402.out 0; have hfz48_1 := blk_frozen BK402.out 1) | ((with_reducible refine gate_callee (f := 23) rfl ?_); refine goesL_ (some 84) rfl rfl Tryd.func23 (by kernel_rfl) rfl #[.int .u8 ((rd_T32 ((rd_T44 l0_2 a1).f3) x42_3).f0)] rfl (by (try simp only [List.map_toArray, List.map_cons, List.map_nil]); rfl) ?_; (with_reducible refine (sacristanref09_Ends.calls ((rd_T32 ((rd_T44 l0_2 a1).f3) x42_3).f0) t414 _ A42.out).mono ?_); rintro e w' ⟨rfl, ⟨nd, rfl⟩⟩; refine ⟨_, rfl, ?_⟩))
                              go_cut [16] (fun v16 wc => ∃ (kq : Nat) (x16_42 : List Int), Aside0 (sacristanref11_Depths.j4 kq x7_3 x9_3 (wrap64 ((wrap64 ((rd x7_3 x42_3) - t403)) + t404)) x16_42 (((rd_T44 l0_2 a1).f3).length : Int) x42_3 l0_0 l0_1 l0_2 l0_3 ((rd_T44 l0_2 a1).f0) ((rd_T44 l0_2 a1).f1) ((rd_T44 l0_2 a1).f2) ((rd_T44 l0_2 a1).f3) ((rd_T32 ((rd_T44 l0_2 a1).f3) x42_3).f0) ((rd_T32 ((rd_T44 l0_2 a1).f3) x42_3).f1) = some (r1, r2)) ∧ Aside0 (kq ≤ kj27) ∧ Aside0 (Kd.R (Kd.int .i64) 3 wc w.heap.size (fun k_ => some k_ ≠ (v16 : Value).ownBlock) (.slice (some ad400) x7_3.length co29) x7_3) ∧ Aside0 (Kd.R (Kd.int .i64) 3 wc w.heap.size (fun k_ => some k_ ≠ ((.slice (some ad400) x7_3.length co29) : Value).ownBlock) v16 x16_42) ∧ Aside0 (wc.heap[gb388]? = some (.cells #[(.slice A0_0 l0_0.length c0_0), (.slice A0_1 l0_1.length c0_1), (.slice (some ad389) l0_2.length c0_2), (.slice A0_3 l0_3.length c0_3)] 30 (0, 0))) ∧ Aside0 (wc.heap[gb390]? = some (.cells #[.int .i64 ((rd_T44 l0_2 a1).f0), .int .i64 ((rd_T44 l0_2 a1).f1), .int .i64 ((rd_T44 l0_2 a1).f2), (.slice (some ad401) ((rd_T44 l0_2 a1).f3).length c389_3)] 44 (0, 0))) ∧ Aside0 (wc.heap[gb402]? = some (.cells #[.int .u8 ((rd_T32 ((rd_T44 l0_2 a1).f3) x42_3).f0), .int .i64 ((rd_T32 ((rd_T44 l0_2 a1).f3) x42_3).f1)] 32 (0, 0))) ∧ Aside0 (Below w.heap.size w wc))
                              case first =>
                                have H := HC43.out
                                clear HC43
                                by_cases c49 : t414 = true
                                · subst c49
                                  have H1 : (sacristanref11_Depths.j4 kj27 x7_3 x9_3 (wrap64 ((wrap64 ((rd x7_3 x42_3) - t403)) + t404)) y411 (((rd_T44 l0_2 a1).f3).length : Int) x42_3 l0_0 l0_1 l0_2 l0_3 ((rd_T44 l0_2 a1).f0) ((rd_T44 l0_2 a1).f1) ((rd_T44 l0_2 a1).f2) ((rd_T44 l0_2 a1).f3) ((rd_T32 ((rd_T44 l0_2 a1).f3) x42_3).f0) ((rd_T32 ((rd_T44 l0_2 a1).f3) x42_3).f1)) = some (r1, r2) := by rw [if_pos rfl] at H; exact H
                                  clear H
                                  have H := H1
                                  clear H1
                                  have H' := Aside0.mk H
                                  clear H
                                  go_wp2
                                  go_meet
                                  case rel => exact ⟨_, (y411), H', ⟨by have := HK1.out; have := HK2.out; have := HK3.out; have := HJ27.out; omega⟩, ⟨by (with_reducible repeat (apply Kd.R_drewN)); exact Kd.R_mono HO_7.out (fun _ hk => hk.2)⟩, ⟨by (with_reducible repeat (apply Kd.R_drewN)); exact Kd.R_mono HO413.out (fun _ hk => hk.2)⟩, ⟨by (with_reducible repeat (refine blk_drewN ?_ _)); exact BK388.out⟩, ⟨by (with_reducible repeat (refine blk_drewN ?_ _)); exact BK390.out⟩, ⟨by (with_reducible repeat (refine blk_drewN ?_ _)); exact BK402.out⟩, ⟨by repeat ((with_reducible first | exact HB.out | apply pw_below_drewN))⟩⟩
                                replace c49 := Bool.eq_false_iff.mpr c49
                                subst c49
                                have H1 : (if y411.length < 17592186044416 then (sacristanref11_Depths.j4 kj27 x7_3 x9_3 (wrap64 ((wrap64 ((rd x7_3 x42_3) - t403)) + t404)) (y411 ++ [wrap64 (x42_3 + 1)]) (((rd_T44 l0_2 a1).f3).length : Int) x42_3 l0_0 l0_1 l0_2 l0_3 ((rd_T44 l0_2 a1).f0) ((rd_T44 l0_2 a1).f1) ((rd_T44 l0_2 a1).f2) ((rd_T44 l0_2 a1).f3) ((rd_T32 ((rd_T44 l0_2 a1).f3) x42_3).f0) ((rd_T32 ((rd_T44 l0_2 a1).f3) x42_3).f1)) else (none)) = some (r1, r2) := by rw [if_neg (show ¬ (false = true) by decide)] at H; exact H
                                clear H
                                have H := H1
                                clear H1
                                by_cases c50 : y411.length < 17592186044416
                                · rw [if_pos c50] at H
                                  have LMc50 := Aside0.mk c50
                                  clear c50
                                  obtain ⟨y415, hy415⟩ : ∃ y_ : List Int, y_ = (y411 ++ [wrap64 (x42_3 + 1)]) := ⟨_, rfl⟩
                                  replace H : (sacristanref11_Depths.j4 kj27 x7_3 x9_3 (wrap64 ((wrap64 ((rd x7_3 x42_3) - t403)) + t404)) y415 (((rd_T44 l0_2 a1).f3).length : Int) x42_3 l0_0 l0_1 l0_2 l0_3 ((rd_T44 l0_2 a1).f0) ((rd_T44 l0_2 a1).f1) ((rd_T44 l0_2 a1).f2) ((rd_T44 l0_2 a1).f3) ((rd_T32 ((rd_T44 l0_2 a1).f3) x42_3).f0) ((rd_T32 ((rd_T44 l0_2 a1).f3) x42_3).f1)) = some (r1, r2) := by ((rw [hy415]; with_reducible exact H))
                                  have Ny415 := Aside0.mk hy415
                                  clear hy415
                                  have H' := Aside0.mk H
                                  clear H
                                  go_wp2_with (((with_reducible refine gate_builtin (b := .append) (xs := #[.tmp 86, .tmp 89]) rfl ?_); at_builtin; refine Kd.R_append (Kd.int .i64) (w0 := w) w.heap.size rfl (.tmp 86) (.tmp 89) 39 3 (.int .i64 0) 8 rfl Tryd.underlying39 info3 rfl (by decide) (by omega) v412 y411 (wrap64 (x42_3 + 1)) [.int .i64 (wrap64 (x42_3 + 1))] (fun k_ => some k_ ≠ (.slice (some ad400) x7_3.length co29 : Value).ownBlock) (fun _ => False) rfl rfl ?aP (fun _ hk => hk.elim) ?aF ?aO ?aB ?aS ?aL ?_; (case aP => exact rfl); (case aB => exact (by repeat ((with_reducible first | exact HB.out | apply pw_below_drewN)))); (case aF => exact (fun k_ hk => Kd.fresh' (Kd.R_lt (by (with_reducible repeat (apply Kd.R_drewN)); exact HO_7.out)) k_ hk)); (case aO => exact (by (with_reducible repeat (apply Kd.R_drewN)); exact Kd.R_mono HO413.out (fun _ hk => hk.2))); (case aS => exact (below_size (by repeat ((with_reducible first | exact HB.out | apply pw_below_drewN))))); (case aL => have := LMc50.out; omega); intro v416 w51 ho hb hg hat; rw [← Ny415.out] at ho; have n0_ := Aside0.mk (Kd.R_after (ok := (fun _ => True)) (by (with_reducible repeat (apply Kd.R_drewN)); exact HO_7.out) hg hat); have n1_ := Aside0.mk (blk_grown (g := gb388) (o := .cells #[.slice A0_0 l0_0.length c0_0, .slice A0_1 l0_1.length c0_1, .slice (some ad389) l0_2.length c0_2, .slice A0_3 l0_3.length c0_3] 30 (0, 0)) (by (with_reducible repeat (refine blk_drewN ?_ _)); exact BK388.out) hg (Kd.R_ne HO413.out BK388.out (by decide))); have n2_ := Aside0.mk (blk_grown (g := gb390) (o := .cells #[.int .i64 ((rd_T44 l0_2 a1).f0), .int .i64 ((rd_T44 l0_2 a1).f1), .int .i64 ((rd_T44 l0_2 a1).f2), .slice (some ad401) ((rd_T44 l0_2 a1).f3).length c389_3] 44 (0, 0)) (by (with_reducible repeat (refine blk_drewN ?_ _)); exact BK390.out) hg (Kd.R_ne HO413.out BK390.out (by decide))); have n3_ := Aside0.mk (blk_grown (g := gb402) (o := .cells #[.int .u8 ((rd_T32 ((rd_T44 l0_2 a1).f3) x42_3).f0), .int .i64 ((rd_T32 ((rd_T44 l0_2 a1).f3) x42_3).f1)] 32 (0, 0)) (by (with_reducible repeat (refine blk_drewN ?_ _)); exact BK402.out) hg (Kd.R_ne HO413.out BK402.out (by decide))); have n4_ := Aside0.mk (hb); have n5_ := Aside0.mk (ho); clear HO_7; clear BK388; clear BK390; clear BK402; clear HB; clear HO413; have HO_7 := n0_; have BK388 := n1_; have BK390 := n2_; have BK402 := n3_; have HB := n4_; have HO417 := n5_; clear n0_ n1_ n2_ n3_ n4_ n5_; clear ho hb hg hat))
                                  go_meet
                                  case rel => exact ⟨_, (y415), H', ⟨by have := HK1.out; have := HK2.out; have := HK3.out; have := HJ27.out; omega⟩, ⟨by (with_reducible repeat (fail)); exact Kd.R_mono HO_7.out (fun _ hk => hk.2)⟩, ⟨by (with_reducible repeat (fail)); exact HO417.out⟩, ⟨by (with_reducible repeat (fail)); exact BK388.out⟩, ⟨by (with_reducible repeat (fail)); exact BK390.out⟩, ⟨by (with_reducible repeat (fail)); exact BK402.out⟩, ⟨by repeat ((with_reducible exact HB.out))⟩⟩
                                rw [if_neg c50] at H
                                exact absurd H (by simp)
                              case rest =>
                                clear HC43 hcz48_0 hcz48_1 hfz48_0 hfz48_1
                                obtain ⟨kq, x16_42, HA, HJ42, HO_7, HO_16, BK388, BK390, BK402, HB⟩ := hcut
                                cases kq with
                                | zero => exact absurd HA.out (by simp [sacristanref11_Depths.j4])
                                | succ kj42 =>
                                  have H := HA.out
                                  clear HA
                                  simp only [sacristanref11_Depths.j4] at H
                                  have HC52 := Aside0.mk H
                                  clear H
                                  go_upto_region 23 with (fail)
                                  go_cut [98] (fun v98 wc => ∃ (kq : Nat) (x98_51 : Bool), v98 = .bool x98_51 ∧ Aside0 (sacristanref11_Depths.j5 kq x7_3 x9_3 (wrap64 ((wrap64 ((rd x7_3 x42_3) - t403)) + t404)) x16_42 (((rd_T44 l0_2 a1).f3).length : Int) x42_3 x98_51 l0_0 l0_1 l0_2 l0_3 ((rd_T44 l0_2 a1).f0) ((rd_T44 l0_2 a1).f1) ((rd_T44 l0_2 a1).f2) ((rd_T44 l0_2 a1).f3) ((rd_T32 ((rd_T44 l0_2 a1).f3) x42_3).f0) ((rd_T32 ((rd_T44 l0_2 a1).f3) x42_3).f1) = some (r1, r2)) ∧ Aside0 (kq ≤ kj42) ∧ Aside0 (Kd.R (Kd.int .i64) 3 wc w.heap.size (fun k_ => some k_ ≠ (u16 : Value).ownBlock) (.slice (some ad400) x7_3.length co29) x7_3) ∧ Aside0 (Kd.R (Kd.int .i64) 3 wc w.heap.size (fun k_ => some k_ ≠ ((.slice (some ad400) x7_3.length co29) : Value).ownBlock) u16 x16_42) ∧ Aside0 (wc.heap[gb388]? = some (.cells #[(.slice A0_0 l0_0.length c0_0), (.slice A0_1 l0_1.length c0_1), (.slice (some ad389) l0_2.length c0_2), (.slice A0_3 l0_3.length c0_3)] 30 (0, 0))) ∧ Aside0 (wc.heap[gb390]? = some (.cells #[.int .i64 ((rd_T44 l0_2 a1).f0), .int .i64 ((rd_T44 l0_2 a1).f1), .int .i64 ((rd_T44 l0_2 a1).f2), (.slice (some ad401) ((rd_T44 l0_2 a1).f3).length c389_3)] 44 (0, 0))) ∧ Aside0 (wc.heap[gb402]? = some (.cells #[.int .u8 ((rd_T32 ((rd_T44 l0_2 a1).f3) x42_3).f0), .int .i64 ((rd_T32 ((rd_T44 l0_2 a1).f3) x42_3).f1)] 32 (0, 0))) ∧ Aside0 (Below w.heap.size w wc))
                                  case first =>
                                    have H := HC52.out
                                    clear HC52
                                    by_cases c53 : ((rd_T32 ((rd_T44 l0_2 a1).f3) x42_3).f0) = 13
                                    · rw [if_pos c53] at H
                                      have c53b0 : (((rd_T32 ((rd_T44 l0_2 a1).f3) x42_3).f0) == 13) = true := beq_iff_eq.mpr c53
                                      have c53b1 : (((rd_T32 ((rd_T44 l0_2 a1).f3) x42_3).f0) != 13) = false := bne_eq_false_iff_eq.mpr c53
                                      clear c53
                                      (skip)
                                      have H' := Aside0.mk H
                                      clear H
                                      have hnb54 := NB402_388.out
                                      have hnc54 := NB388_402.out
                                      have hnb55 := NB402_390.out
                                      have hnc55 := NB390_402.out
                                      have hcz56_0 : wc.cell? ⟨gb402, 0, none⟩ = some (.int .u8 ((rd_T32 ((rd_T44 l0_2 a1).f3) x42_3).f0)) := (blk_cell BK402.out 0).trans rfl
                                      have hcz56_1 : wc.cell? ⟨gb402, 1, none⟩ = some (.int .i64 ((rd_T32 ((rd_T44 l0_2 a1).f3) x42_3).f1)) := (blk_cell BK402.out 1).trans rfl
                                      have hfz56_0 := blk_frozen BK402.out 0
                                      have hfz56_1 := blk_frozen BK402.out 1
                                      go_wp2
                                      go_meet
                                      case rel => exact ⟨_, (true), (by rfl), H', ⟨by have := HK1.out; have := HK2.out; have := HK3.out; have := HJ27.out; have := HJ42.out; omega⟩, ⟨by (with_reducible repeat (fail)); exact HO_7.out⟩, ⟨by (with_reducible repeat (fail)); exact HO_16.out⟩, ⟨by (with_reducible repeat (fail)); exact BK388.out⟩, ⟨by (with_reducible repeat (fail)); exact BK390.out⟩, ⟨by (with_reducible repeat (fail)); exact BK402.out⟩, ⟨by repeat ((with_reducible exact HB.out))⟩⟩
                                    rw [if_neg c53] at H
                                    have c53b0 : (((rd_T32 ((rd_T44 l0_2 a1).f3) x42_3).f0) == 13) = false := beq_eq_false_iff_ne.mpr c53
                                    have c53b1 : (((rd_T32 ((rd_T44 l0_2 a1).f3) x42_3).f0) != 13) = true := bne_iff_ne.mpr c53
                                    (skip)
                                    have H' := Aside0.mk H
                                    clear H
                                    have hnb57 := NB402_388.out
                                    have hnc57 := NB388_402.out
                                    have hnb58 := NB402_390.out
                                    have hnc58 := NB390_402.out
                                    have hcz59_0 : wc.cell? ⟨gb402, 0, none⟩ = some (.int .u8 ((rd_T32 ((rd_T44 l0_2 a1).f3) x42_3).f0)) := (blk_cell BK402.out 0).trans rfl
                                    have hcz59_1 : wc.cell? ⟨gb402, 1, none⟩ = some (.int .i64 ((rd_T32 ((rd_T44 l0_2 a1).f3) x42_3).f1)) := (blk_cell BK402.out 1).trans rfl
                                    have hfz59_0 := blk_frozen BK402.out 0
                                    have hfz59_1 := blk_frozen BK402.out 1
                                    go_wp2
                                    go_meet
                                    case rel => exact ⟨_, ((((rd_T32 ((rd_T44 l0_2 a1).f3) x42_3).f0) == 14)), (by rfl), H', ⟨by have := HK1.out; have := HK2.out; have := HK3.out; have := HJ27.out; have := HJ42.out; omega⟩, ⟨by (with_reducible repeat (fail)); exact HO_7.out⟩, ⟨by (with_reducible repeat (fail)); exact HO_16.out⟩, ⟨by (with_reducible repeat (fail)); exact BK388.out⟩, ⟨by (with_reducible repeat (fail)); exact BK390.out⟩, ⟨by (with_reducible repeat (fail)); exact BK402.out⟩, ⟨by repeat ((with_reducible exact HB.out))⟩⟩
                                  case rest =>
                                    clear HC52
                                    obtain ⟨kq, x98_51, rfl, HA, HJ51, HO_7, HO_16, BK388, BK390, BK402, HB⟩ := hcut
                                    cases kq with
                                    | zero => exact absurd HA.out (by simp [sacristanref11_Depths.j5])
                                    | succ kj51 =>
                                      have H := HA.out
                                      clear HA
                                      simp only [sacristanref11_Depths.j5] at H
                                      have HC60 := Aside0.mk H
                                      clear H
                                      go_upto_if 98 with (fail)
                                      go_cut [16] (fun v16 wc => ∃ (kq : Nat) (x16_59 : List Int), Aside0 (sacristanref11_Depths.j6 kq x7_3 x9_3 (wrap64 ((wrap64 ((rd x7_3 x42_3) - t403)) + t404)) x16_59 (((rd_T44 l0_2 a1).f3).length : Int) x42_3 l0_0 l0_1 l0_2 l0_3 ((rd_T44 l0_2 a1).f0) ((rd_T44 l0_2 a1).f1) ((rd_T44 l0_2 a1).f2) ((rd_T44 l0_2 a1).f3) = some (r1, r2)) ∧ Aside0 (kq ≤ kj51) ∧ Aside0 (Kd.R (Kd.int .i64) 3 wc w.heap.size (fun k_ => some k_ ≠ (v16 : Value).ownBlock) (.slice (some ad400) x7_3.length co29) x7_3) ∧ Aside0 (Kd.R (Kd.int .i64) 3 wc w.heap.size (fun k_ => some k_ ≠ ((.slice (some ad400) x7_3.length co29) : Value).ownBlock) v16 x16_59) ∧ Aside0 (wc.heap[gb388]? = some (.cells #[(.slice A0_0 l0_0.length c0_0), (.slice A0_1 l0_1.length c0_1), (.slice (some ad389) l0_2.length c0_2), (.slice A0_3 l0_3.length c0_3)] 30 (0, 0))) ∧ Aside0 (wc.heap[gb390]? = some (.cells #[.int .i64 ((rd_T44 l0_2 a1).f0), .int .i64 ((rd_T44 l0_2 a1).f1), .int .i64 ((rd_T44 l0_2 a1).f2), (.slice (some ad401) ((rd_T44 l0_2 a1).f3).length c389_3)] 44 (0, 0))) ∧ Aside0 (wc.heap[gb402]? = some (.cells #[.int .u8 ((rd_T32 ((rd_T44 l0_2 a1).f3) x42_3).f0), .int .i64 ((rd_T32 ((rd_T44 l0_2 a1).f3) x42_3).f1)] 32 (0, 0))) ∧ Aside0 (Below w.heap.size w wc))
                                      case first =>
                                        have H := HC60.out
                                        clear HC60
                                        by_cases c61 : x98_51 = true
                                        · subst c61
                                          have H1 : (if x16_42.length < 17592186044416 then (sacristanref11_Depths.j6 kj51 x7_3 x9_3 (wrap64 ((wrap64 ((rd x7_3 x42_3) - t403)) + t404)) (x16_42 ++ [((rd_T32 ((rd_T44 l0_2 a1).f3) x42_3).f1)]) (((rd_T44 l0_2 a1).f3).length : Int) x42_3 l0_0 l0_1 l0_2 l0_3 ((rd_T44 l0_2 a1).f0) ((rd_T44 l0_2 a1).f1) ((rd_T44 l0_2 a1).f2) ((rd_T44 l0_2 a1).f3)) else (none)) = some (r1, r2) := by rw [if_pos rfl] at H; exact H
                                          clear H
                                          have H := H1
                                          clear H1
                                          by_cases c62 : x16_42.length < 17592186044416
                                          · rw [if_pos c62] at H
                                            have LMc62 := Aside0.mk c62
                                            clear c62
                                            obtain ⟨y418, hy418⟩ : ∃ y_ : List Int, y_ = (x16_42 ++ [((rd_T32 ((rd_T44 l0_2 a1).f3) x42_3).f1)]) := ⟨_, rfl⟩
                                            replace H : (sacristanref11_Depths.j6 kj51 x7_3 x9_3 (wrap64 ((wrap64 ((rd x7_3 x42_3) - t403)) + t404)) y418 (((rd_T44 l0_2 a1).f3).length : Int) x42_3 l0_0 l0_1 l0_2 l0_3 ((rd_T44 l0_2 a1).f0) ((rd_T44 l0_2 a1).f1) ((rd_T44 l0_2 a1).f2) ((rd_T44 l0_2 a1).f3)) = some (r1, r2) := by ((rw [hy418]; with_reducible exact H))
                                            have Ny418 := Aside0.mk hy418
                                            clear hy418
                                            have H' := Aside0.mk H
                                            clear H
                                            have hnb63 := NB402_388.out
                                            have hnc63 := NB388_402.out
                                            have hnb64 := NB402_390.out
                                            have hnc64 := NB390_402.out
                                            have hcz65_0 : wc.cell? ⟨gb402, 0, none⟩ = some (.int .u8 ((rd_T32 ((rd_T44 l0_2 a1).f3) x42_3).f0)) := (blk_cell BK402.out 0).trans rfl
                                            have hcz65_1 : wc.cell? ⟨gb402, 1, none⟩ = some (.int .i64 ((rd_T32 ((rd_T44 l0_2 a1).f3) x42_3).f1)) := (blk_cell BK402.out 1).trans rfl
                                            have hfz65_0 := blk_frozen BK402.out 0
                                            have hfz65_1 := blk_frozen BK402.out 1
                                            go_wp2_with (((with_reducible refine gate_builtin (b := .append) (xs := #[.tmp 99, .tmp 102]) rfl ?_); at_builtin; refine Kd.R_append (Kd.int .i64) (w0 := w) w.heap.size rfl (.tmp 99) (.tmp 102) 39 3 (.int .i64 0) 8 rfl Tryd.underlying39 info3 rfl (by decide) (by omega) u16 x16_42 ((rd_T32 ((rd_T44 l0_2 a1).f3) x42_3).f1) [.int .i64 ((rd_T32 ((rd_T44 l0_2 a1).f3) x42_3).f1)] (fun k_ => some k_ ≠ (.slice (some ad400) x7_3.length co29 : Value).ownBlock) (fun _ => False) rfl rfl ?aP (fun _ hk => hk.elim) ?aF ?aO ?aB ?aS ?aL ?_; (case aP => exact rfl); (case aB => exact (by repeat ((with_reducible exact HB.out)))); (case aF => exact (fun k_ hk => Kd.fresh' (Kd.R_lt (by (with_reducible repeat (fail)); exact HO_7.out)) k_ hk)); (case aO => exact (by (with_reducible repeat (fail)); exact HO_16.out)); (case aS => exact (below_size (by repeat ((with_reducible exact HB.out))))); (case aL => have := LMc62.out; omega); intro v419 w66 ho hb hg hat; rw [← Ny418.out] at ho; have n0_ := Aside0.mk (Kd.R_after (ok := (fun _ => True)) (by (with_reducible repeat (fail)); exact Kd.R_mono HO_7.out (fun _ hk => ⟨trivial, hk⟩)) hg hat); have n1_ := Aside0.mk (blk_grown (g := gb388) (o := .cells #[.slice A0_0 l0_0.length c0_0, .slice A0_1 l0_1.length c0_1, .slice (some ad389) l0_2.length c0_2, .slice A0_3 l0_3.length c0_3] 30 (0, 0)) (by (with_reducible repeat (fail)); exact BK388.out) hg (Kd.R_ne HO_16.out BK388.out (by decide))); have n2_ := Aside0.mk (blk_grown (g := gb390) (o := .cells #[.int .i64 ((rd_T44 l0_2 a1).f0), .int .i64 ((rd_T44 l0_2 a1).f1), .int .i64 ((rd_T44 l0_2 a1).f2), .slice (some ad401) ((rd_T44 l0_2 a1).f3).length c389_3] 44 (0, 0)) (by (with_reducible repeat (fail)); exact BK390.out) hg (Kd.R_ne HO_16.out BK390.out (by decide))); have n3_ := Aside0.mk (blk_grown (g := gb402) (o := .cells #[.int .u8 ((rd_T32 ((rd_T44 l0_2 a1).f3) x42_3).f0), .int .i64 ((rd_T32 ((rd_T44 l0_2 a1).f3) x42_3).f1)] 32 (0, 0)) (by (with_reducible repeat (fail)); exact BK402.out) hg (Kd.R_ne HO_16.out BK402.out (by decide))); have n4_ := Aside0.mk (hb); have n5_ := Aside0.mk (ho); clear HO_7; clear BK388; clear BK390; clear BK402; clear HB; clear HO_16; have HO_7 := n0_; have BK388 := n1_; have BK390 := n2_; have BK402 := n3_; have HB := n4_; have HO420 := n5_; clear n0_ n1_ n2_ n3_ n4_ n5_; clear ho hb hg hat))
                                            go_meet
                                            case rel => exact ⟨_, (y418), H', ⟨by have := HK1.out; have := HK2.out; have := HK3.out; have := HJ27.out; have := HJ42.out; have := HJ51.out; omega⟩, ⟨by (with_reducible repeat (fail)); exact Kd.R_mono HO_7.out (fun _ hk => hk.2)⟩, ⟨by (with_reducible repeat (fail)); exact HO420.out⟩, ⟨by (with_reducible repeat (fail)); exact BK388.out⟩, ⟨by (with_reducible repeat (fail)); exact BK390.out⟩, ⟨by (with_reducible repeat (fail)); exact BK402.out⟩, ⟨by repeat ((with_reducible exact HB.out))⟩⟩
                                          rw [if_neg c62] at H
                                          exact absurd H (by simp)
                                        replace c61 := Bool.eq_false_iff.mpr c61
                                        subst c61
                                        have H1 : (sacristanref11_Depths.j6 kj51 x7_3 x9_3 (wrap64 ((wrap64 ((rd x7_3 x42_3) - t403)) + t404)) x16_42 (((rd_T44 l0_2 a1).f3).length : Int) x42_3 l0_0 l0_1 l0_2 l0_3 ((rd_T44 l0_2 a1).f0) ((rd_T44 l0_2 a1).f1) ((rd_T44 l0_2 a1).f2) ((rd_T44 l0_2 a1).f3)) = some (r1, r2) := by rw [if_neg (show ¬ (false = true) by decide)] at H; exact H
                                        clear H
                                        have H := H1
                                        clear H1
                                        have H' := Aside0.mk H
                                        clear H
                                        go_wp2
                                        go_meet
                                        case rel => exact ⟨_, (x16_42), H', ⟨by have := HK1.out; have := HK2.out; have := HK3.out; have := HJ27.out; have := HJ42.out; have := HJ51.out; omega⟩, ⟨by (with_reducible repeat (fail)); exact HO_7.out⟩, ⟨by (with_reducible repeat (fail)); exact HO_16.out⟩, ⟨by (with_reducible repeat (fail)); exact BK388.out⟩, ⟨by (with_reducible repeat (fail)); exact BK390.out⟩, ⟨by (with_reducible repeat (fail)); exact BK402.out⟩, ⟨by repeat ((with_reducible exact HB.out))⟩⟩
                                      case rest =>
                                        clear HC60
                                        obtain ⟨kq, x16_59, HA, HJ59, HO_7, HO_16, BK388, BK390, BK402, HB⟩ := hcut
                                        cases kq with
                                        | zero => exact absurd HA.out (by simp [sacristanref11_Depths.j6])
                                        | succ kj59 =>
                                          have H := HA.out
                                          clear HA
                                          simp only [sacristanref11_Depths.j6] at H
                                          have H' := Aside0.mk H
                                          clear H
                                          obtain ⟨Ao67, co67, eo67⟩ := Kd.R_slice HO_16.out
                                          subst eo67
                                          go_wp2
                                          go_loopg [9, 106] kj59 (fun kq v9 v106 w' => ∃ (x7_8 : List Int) (x9_8 : Bool) (x106_8 : Int), v9 = .bool x9_8 ∧ v106 = .int .i64 x106_8 ∧ Aside0 (sacristanref11_Depths.l3 kq x7_8 x9_8 (wrap64 ((wrap64 ((rd x7_3 x42_3) - t403)) + t404)) x16_59 (((rd_T44 l0_2 a1).f3).length : Int) x42_3 (x16_59.length : Int) x106_8 l0_0 l0_1 l0_2 l0_3 ((rd_T44 l0_2 a1).f0) ((rd_T44 l0_2 a1).f1) ((rd_T44 l0_2 a1).f2) ((rd_T44 l0_2 a1).f3) = some (r1, r2)) ∧ Aside0 (kq ≤ kj59) ∧ Aside0 (Kd.R (Kd.int .i64) 3 w' w.heap.size (fun k_ => some k_ ≠ ((.slice Ao67 x16_59.length co67) : Value).ownBlock) (.slice (some ad400) x7_3.length co29) x7_8) ∧ Aside0 (Kd.R (Kd.int .i64) 3 w' w.heap.size (fun k_ => some k_ ≠ ((.slice (some ad400) x7_3.length co29) : Value).ownBlock) (.slice Ao67 x16_59.length co67) x16_59) ∧ Aside0 (w'.heap[gb388]? = some (.cells #[(.slice A0_0 l0_0.length c0_0), (.slice A0_1 l0_1.length c0_1), (.slice (some ad389) l0_2.length c0_2), (.slice A0_3 l0_3.length c0_3)] 30 (0, 0))) ∧ Aside0 (w'.heap[gb390]? = some (.cells #[.int .i64 ((rd_T44 l0_2 a1).f0), .int .i64 ((rd_T44 l0_2 a1).f1), .int .i64 ((rd_T44 l0_2 a1).f2), (.slice (some ad401) ((rd_T44 l0_2 a1).f3).length c389_3)] 44 (0, 0))) ∧ Aside0 (w'.heap[gb402]? = some (.cells #[.int .u8 ((rd_T32 ((rd_T44 l0_2 a1).f3) x42_3).f0), .int .i64 ((rd_T32 ((rd_T44 l0_2 a1).f3) x42_3).f1)] 32 (0, 0))) ∧ Aside0 (Below w.heap.size w w'))
                                          case atStart => exact ⟨(x7_3), (x9_3), (0), (by rfl), (by rfl), H', ⟨Nat.le_refl _⟩, ⟨by (with_reducible repeat (fail)); exact HO_7.out⟩, ⟨by (with_reducible repeat (fail)); exact HO_16.out⟩, ⟨by (with_reducible repeat (fail)); exact BK388.out⟩, ⟨by (with_reducible repeat (fail)); exact BK390.out⟩, ⟨by (with_reducible repeat (fail)); exact BK402.out⟩, ⟨by repeat ((with_reducible exact HB.out))⟩⟩
                                          case round =>
                                            clear H'
                                            obtain ⟨x7_8, x9_8, x106_8, rfl, rfl, HA, HK8, HO_7, HO_16, BK388, BK390, BK402, HB⟩ := hrel
                                            have hl7_8 := (Kd.R_reads' HO_7.out).1
                                            rw [hl7_8] at HO_7
                                            (try simp only [hl7_8])
                                            (try simp only [hl7_8] at HO_16)
                                            cases gk with
                                            | zero => exact absurd HA.out (by simp [sacristanref11_Depths.l3])
                                            | succ k8 =>
                                              have H := HA.out
                                              clear HA
                                              simp only [sacristanref11_Depths.l3] at H
                                              by_cases c68 : x106_8 < (x16_59.length : Int)
                                              · rw [if_pos c68] at H
                                                have c68b0 : decide (x106_8 < (x16_59.length : Int)) = true := decide_eq_true c68
                                                clear c68
                                                have HC69 := Aside0.mk H
                                                clear H
                                                go_upto_region 28 with (fail)
                                                go_cut [136] (fun v136 wc => ∃ (kq : Nat) (x136_68 : Bool), v136 = .bool x136_68 ∧ Aside0 (sacristanref11_Depths.j8 kq x7_8 x9_8 (wrap64 ((wrap64 ((rd x7_3 x42_3) - t403)) + t404)) x16_59 x106_8 (((rd_T44 l0_2 a1).f3).length : Int) x42_3 (x16_59.length : Int) x106_8 x136_68 l0_0 l0_1 l0_2 l0_3 ((rd_T44 l0_2 a1).f0) ((rd_T44 l0_2 a1).f1) ((rd_T44 l0_2 a1).f2) ((rd_T44 l0_2 a1).f3) = some (r1, r2)) ∧ Aside0 (kq ≤ k8) ∧ Aside0 (Kd.R (Kd.int .i64) 3 wc w.heap.size (fun k_ => some k_ ≠ ((.slice Ao67 x16_59.length co67) : Value).ownBlock) (.slice (some ad400) x7_8.length co29) x7_8) ∧ Aside0 (Kd.R (Kd.int .i64) 3 wc w.heap.size (fun k_ => some k_ ≠ ((.slice (some ad400) x7_8.length co29) : Value).ownBlock) (.slice Ao67 x16_59.length co67) x16_59) ∧ Aside0 (wc.heap[gb388]? = some (.cells #[(.slice A0_0 l0_0.length c0_0), (.slice A0_1 l0_1.length c0_1), (.slice (some ad389) l0_2.length c0_2), (.slice A0_3 l0_3.length c0_3)] 30 (0, 0))) ∧ Aside0 (wc.heap[gb390]? = some (.cells #[.int .i64 ((rd_T44 l0_2 a1).f0), .int .i64 ((rd_T44 l0_2 a1).f1), .int .i64 ((rd_T44 l0_2 a1).f2), (.slice (some ad401) ((rd_T44 l0_2 a1).f3).length c389_3)] 44 (0, 0))) ∧ Aside0 (wc.heap[gb402]? = some (.cells #[.int .u8 ((rd_T32 ((rd_T44 l0_2 a1).f3) x42_3).f0), .int .i64 ((rd_T32 ((rd_T44 l0_2 a1).f3) x42_3).f1)] 32 (0, 0))) ∧ Aside0 (Below w.heap.size w wc))
                                                case first =>
                                                  have H := HC69.out
                                                  clear HC69
                                                  by_cases c70 : 0 ≤ x106_8
                                                  · rw [if_pos c70] at H
                                                    have c70b0 : decide (0 ≤ x106_8) = true := decide_eq_true c70
                                                    clear c70
                                                    (skip)
                                                    by_cases c71 : x106_8 < (x16_59.length : Int)
                                                    · rw [if_pos c71] at H
                                                      have c71b0 : decide (x106_8 < (x16_59.length : Int)) = true := decide_eq_true c71
                                                      clear c71
                                                      by_cases c72 : (rd x16_59 x106_8) ≥ (x7_8.length : Int)
                                                      · rw [if_pos c72] at H
                                                        have c72b0 : decide ((x7_8.length : Int) ≤ (rd x16_59 x106_8)) = true := decide_eq_true c72
                                                        clear c72
                                                        have H' := Aside0.mk H
                                                        clear H
                                                        have p421 : 0 ≤ (x106_8 : Int) := of_decide_eq_true (by (with_reducible assumption))
                                                        have q421 : x106_8 < (x16_59.length : Int) := of_decide_eq_true (by (with_reducible assumption))
                                                        obtain ⟨ad421, e421, hx421_0⟩ := Kd.at_int (Kd.R_reads' HO_16.out).2.2 x106_8 p421 q421
                                                        cases e421
                                                        replace p421 := eq_true p421
                                                        replace q421 := eq_true q421
                                                        go_wp2
                                                        go_meet
                                                        case rel => exact ⟨_, (true), (by rfl), H', ⟨by have := HK1.out; have := HK2.out; have := HK3.out; have := HJ27.out; have := HJ42.out; have := HJ51.out; have := HJ59.out; have := HK8.out; omega⟩, ⟨by (with_reducible repeat (fail)); exact HO_7.out⟩, ⟨by (with_reducible repeat (fail)); exact HO_16.out⟩, ⟨by (with_reducible repeat (fail)); exact BK388.out⟩, ⟨by (with_reducible repeat (fail)); exact BK390.out⟩, ⟨by (with_reducible repeat (fail)); exact BK402.out⟩, ⟨by repeat ((with_reducible exact HB.out))⟩⟩
                                                      rw [if_neg c72] at H
                                                      have c72b0 : decide ((x7_8.length : Int) ≤ (rd x16_59 x106_8)) = false := decide_eq_false c72
                                                      clear c72
                                                      by_cases c73 : 0 ≤ (rd x16_59 x106_8)
                                                      · rw [if_pos c73] at H
                                                        have c73b0 : decide (0 ≤ (rd x16_59 x106_8)) = true := decide_eq_true c73
                                                        clear c73
                                                        by_cases c74 : (rd x16_59 x106_8) < (x7_8.length : Int)
                                                        · rw [if_pos c74] at H
                                                          have c74b0 : decide ((rd x16_59 x106_8) < (x7_8.length : Int)) = true := decide_eq_true c74
                                                          clear c74
                                                          by_cases c75 : (rd x7_8 (rd x16_59 x106_8)) ≥ 0
                                                          · rw [if_pos c75] at H
                                                            have c75b0 : decide (0 ≤ (rd x7_8 (rd x16_59 x106_8))) = true := decide_eq_true c75
                                                            clear c75
                                                            have H' := Aside0.mk H
                                                            clear H
                                                            have p421 : 0 ≤ (x106_8 : Int) := of_decide_eq_true (by (with_reducible assumption))
                                                            have q421 : x106_8 < (x16_59.length : Int) := of_decide_eq_true (by (with_reducible assumption))
                                                            obtain ⟨ad421, e421, hx421_0⟩ := Kd.at_int (Kd.R_reads' HO_16.out).2.2 x106_8 p421 q421
                                                            cases e421
                                                            replace p421 := eq_true p421
                                                            replace q421 := eq_true q421
                                                            have p422 : 0 ≤ (x106_8 : Int) := of_decide_eq_true (by (with_reducible assumption))
                                                            have q422 : x106_8 < (x16_59.length : Int) := of_decide_eq_true (by (with_reducible assumption))
                                                            obtain ⟨ad422, e422, hx422_0⟩ := Kd.at_int (Kd.R_reads' HO_16.out).2.2 x106_8 p422 q422
                                                            obtain rfl : ad421 = ad422 := (by injection e422)
                                                            replace p422 := eq_true p422
                                                            replace q422 := eq_true q422
                                                            have p423 : 0 ≤ ((rd x16_59 x106_8) : Int) := of_decide_eq_true (by (with_reducible assumption))
                                                            have q423 : (rd x16_59 x106_8) < (x7_8.length : Int) := of_decide_eq_true (by (with_reducible assumption))
                                                            obtain ⟨ad423, e423, hx423_0⟩ := Kd.at_int (Kd.R_reads' HO_7.out).2.2 (rd x16_59 x106_8) p423 q423
                                                            obtain rfl : ad400 = ad423 := (by injection e423)
                                                            replace p423 := eq_true p423
                                                            replace q423 := eq_true q423
                                                            have p424 : 0 ≤ (x106_8 : Int) := of_decide_eq_true (by (with_reducible assumption))
                                                            have q424 : x106_8 < (x16_59.length : Int) := of_decide_eq_true (by (with_reducible assumption))
                                                            obtain ⟨ad424, e424, hx424_0⟩ := Kd.at_int (Kd.R_reads' HO_16.out).2.2 x106_8 p424 q424
                                                            obtain rfl : ad421 = ad424 := (by injection e424)
                                                            replace p424 := eq_true p424
                                                            replace q424 := eq_true q424
                                                            have p425 : 0 ≤ ((rd x16_59 x106_8) : Int) := of_decide_eq_true (by (with_reducible assumption))
                                                            have q425 : (rd x16_59 x106_8) < (x7_8.length : Int) := of_decide_eq_true (by (with_reducible assumption))
                                                            obtain ⟨ad425, e425, hx425_0⟩ := Kd.at_int (Kd.R_reads' HO_7.out).2.2 (rd x16_59 x106_8) p425 q425
                                                            obtain rfl : ad400 = ad425 := (by injection e425)
                                                            replace p425 := eq_true p425
                                                            replace q425 := eq_true q425
                                                            go_wp2
                                                            go_meet
                                                            case rel => exact ⟨_, (((rd x7_8 (rd x16_59 x106_8)) != (wrap64 ((wrap64 ((rd x7_3 x42_3) - t403)) + t404)))), (by rfl), H', ⟨by have := HK1.out; have := HK2.out; have := HK3.out; have := HJ27.out; have := HJ42.out; have := HJ51.out; have := HJ59.out; have := HK8.out; omega⟩, ⟨by (with_reducible repeat (fail)); exact HO_7.out⟩, ⟨by (with_reducible repeat (fail)); exact HO_16.out⟩, ⟨by (with_reducible repeat (fail)); exact BK388.out⟩, ⟨by (with_reducible repeat (fail)); exact BK390.out⟩, ⟨by (with_reducible repeat (fail)); exact BK402.out⟩, ⟨by repeat ((with_reducible exact HB.out))⟩⟩
                                                          rw [if_neg c75] at H
                                                          have c75b0 : decide (0 ≤ (rd x7_8 (rd x16_59 x106_8))) = false := decide_eq_false c75
                                                          clear c75
                                                          have H' := Aside0.mk H
                                                          clear H
                                                          have p421 : 0 ≤ (x106_8 : Int) := of_decide_eq_true (by (with_reducible assumption))
                                                          have q421 : x106_8 < (x16_59.length : Int) := of_decide_eq_true (by (with_reducible assumption))
                                                          obtain ⟨ad421, e421, hx421_0⟩ := Kd.at_int (Kd.R_reads' HO_16.out).2.2 x106_8 p421 q421
                                                          cases e421
                                                          replace p421 := eq_true p421
                                                          replace q421 := eq_true q421
                                                          have p422 : 0 ≤ (x106_8 : Int) := of_decide_eq_true (by (with_reducible assumption))
                                                          have q422 : x106_8 < (x16_59.length : Int) := of_decide_eq_true (by (with_reducible assumption))
                                                          obtain ⟨ad422, e422, hx422_0⟩ := Kd.at_int (Kd.R_reads' HO_16.out).2.2 x106_8 p422 q422
                                                          obtain rfl : ad421 = ad422 := (by injection e422)
                                                          replace p422 := eq_true p422
                                                          replace q422 := eq_true q422
                                                          have p423 : 0 ≤ ((rd x16_59 x106_8) : Int) := of_decide_eq_true (by (with_reducible assumption))
                                                          have q423 : (rd x16_59 x106_8) < (x7_8.length : Int) := of_decide_eq_true (by (with_reducible assumption))
                                                          obtain ⟨ad423, e423, hx423_0⟩ := Kd.at_int (Kd.R_reads' HO_7.out).2.2 (rd x16_59 x106_8) p423 q423
                                                          obtain rfl : ad400 = ad423 := (by injection e423)
                                                          replace p423 := eq_true p423
                                                          replace q423 := eq_true q423
                                                          go_wp2
                                                          go_meet
                                                          case rel => exact ⟨_, (false), (by rfl), H', ⟨by have := HK1.out; have := HK2.out; have := HK3.out; have := HJ27.out; have := HJ42.out; have := HJ51.out; have := HJ59.out; have := HK8.out; omega⟩, ⟨by (with_reducible repeat (fail)); exact HO_7.out⟩, ⟨by (with_reducible repeat (fail)); exact HO_16.out⟩, ⟨by (with_reducible repeat (fail)); exact BK388.out⟩, ⟨by (with_reducible repeat (fail)); exact BK390.out⟩, ⟨by (with_reducible repeat (fail)); exact BK402.out⟩, ⟨by repeat ((with_reducible exact HB.out))⟩⟩
                                                        rw [if_neg c74] at H
                                                        exact absurd H (by simp)
                                                      rw [if_neg c73] at H
                                                      exact absurd H (by simp)
                                                    rw [if_neg c71] at H
                                                    exact absurd H (by simp)
                                                  rw [if_neg c70] at H
                                                  exact absurd H (by simp)
                                                case rest =>
                                                  clear HC69 c68b0
                                                  obtain ⟨kq, x136_68, rfl, HA, HJ68, HO_7, HO_16, BK388, BK390, BK402, HB⟩ := hcut
                                                  cases kq with
                                                  | zero => exact absurd HA.out (by simp [sacristanref11_Depths.j8])
                                                  | succ kj68 =>
                                                    have H := HA.out
                                                    clear HA
                                                    simp only [sacristanref11_Depths.j8] at H
                                                    by_cases c76 : x136_68 = true
                                                    · subst c76
                                                      have H1 : (some ((([] : List Int)), false)) = some (r1, r2) := by rw [if_pos rfl] at H; exact H
                                                      clear H
                                                      have H := H1
                                                      clear H1
                                                      obtain ⟨y426, hy426⟩ : ∃ y_ : List Int, y_ = (([] : List Int)) := ⟨_, rfl⟩
                                                      replace H : (some (y426, false)) = some (r1, r2) := by ((rw [hy426]; with_reducible exact H))
                                                      have Ny426 := Aside0.mk hy426
                                                      clear hy426
                                                      simp only [Option.some.injEq, Prod.mk.injEq] at H
                                                      obtain ⟨rfl, rfl⟩ := H
                                                      go_wp2_with (((with_reducible refine gate_dst (N := 137) rfl ?_); refine Kd.R_lit (Kd.int .i64) _ 3 ?hg (N := 137) ?hd (xs := ([] : List Int)) (inner := []) (ok := fun _ => True) (okp := fun _ => True) ?hr ?hp (fun _ hk => hk) trivial (Below.refl _ _) (Nat.le_refl _) (by simp) ?_; (case hd => rfl); (case hg => rfl); (case hr => ((go_simp; done))); (case hp => exact (Reps.none _ _)); intro v427 w77 ho78 hb hg_ hnew_; clear hg_ hnew_; (rw [← Ny426.out] at ho78); have n0_ := Aside0.mk (Kd.R_elder' (by (with_reducible repeat (fail)); exact HO_7.out) (Kd.R_base ho78) hb); have n1_ := Aside0.mk (Kd.R_elder' (by (with_reducible repeat (fail)); exact HO_16.out) (Kd.R_base ho78) hb); have n2_ := Aside0.mk (Kd.R_lower (Kd.R_new' (Kd.R_new' ho78 (Kd.R_lt (by (with_reducible repeat (fail)); exact HO_7.out))) (Kd.R_lt (by (with_reducible repeat (fail)); exact HO_16.out))) (below_size (by repeat ((with_reducible exact HB.out))))); have n3_ := Aside0.mk (blk_below (g := gb388) (o := .cells #[.slice A0_0 l0_0.length c0_0, .slice A0_1 l0_1.length c0_1, .slice (some ad389) l0_2.length c0_2, .slice A0_3 l0_3.length c0_3] 30 (0, 0)) (by (with_reducible repeat (fail)); exact BK388.out) hb); have n4_ := Aside0.mk (blk_below (g := gb390) (o := .cells #[.int .i64 ((rd_T44 l0_2 a1).f0), .int .i64 ((rd_T44 l0_2 a1).f1), .int .i64 ((rd_T44 l0_2 a1).f2), .slice (some ad401) ((rd_T44 l0_2 a1).f3).length c389_3] 44 (0, 0)) (by (with_reducible repeat (fail)); exact BK390.out) hb); have n5_ := Aside0.mk (blk_below (g := gb402) (o := .cells #[.int .u8 ((rd_T32 ((rd_T44 l0_2 a1).f3) x42_3).f0), .int .i64 ((rd_T32 ((rd_T44 l0_2 a1).f3) x42_3).f1)] 32 (0, 0)) (by (with_reducible repeat (fail)); exact BK402.out) hb); have n6_ := Aside0.mk (below_step (by repeat ((with_reducible exact HB.out))) hb); clear HO_7; clear HO_16; clear BK388; clear BK390; clear BK402; clear HB; have HO_7 := n0_; have HO_16 := n1_; have HO428 := n2_; have BK388 := n3_; have BK390 := n4_; have BK402 := n5_; have HB := n6_; clear n0_ n1_ n2_ n3_ n4_ n5_ n6_; clear hb ho78))
                                                      go_ret2
                                                      exact ⟨_, by rfl, by (with_reducible repeat (fail)); exact Kd.R_mono HO428.out (fun _ hk => trivial), by repeat ((with_reducible exact HB.out))⟩
                                                    replace c76 := Bool.eq_false_iff.mpr c76
                                                    subst c76
                                                    have H1 : (if 0 ≤ x106_8 then (if x106_8 < (x16_59.length : Int) then (if 0 ≤ (rd x16_59 x106_8) then (if (rd x16_59 x106_8) < (x7_8.length : Int) then (if (rd x7_8 (rd x16_59 x106_8)) < 0 then (sacristanref11_Depths.l3 kj68 (x7_8.set ((rd x16_59 x106_8) : Int).toNat (wrap64 ((wrap64 ((rd x7_3 x42_3) - t403)) + t404))) true (wrap64 ((wrap64 ((rd x7_3 x42_3) - t403)) + t404)) x16_59 (((rd_T44 l0_2 a1).f3).length : Int) x42_3 (x16_59.length : Int) (wrap64 (x106_8 + 1)) l0_0 l0_1 l0_2 l0_3 ((rd_T44 l0_2 a1).f0) ((rd_T44 l0_2 a1).f1) ((rd_T44 l0_2 a1).f2) ((rd_T44 l0_2 a1).f3)) else (sacristanref11_Depths.l3 kj68 x7_8 x9_8 (wrap64 ((wrap64 ((rd x7_3 x42_3) - t403)) + t404)) x16_59 (((rd_T44 l0_2 a1).f3).length : Int) x42_3 (x16_59.length : Int) (wrap64 (x106_8 + 1)) l0_0 l0_1 l0_2 l0_3 ((rd_T44 l0_2 a1).f0) ((rd_T44 l0_2 a1).f1) ((rd_T44 l0_2 a1).f2) ((rd_T44 l0_2 a1).f3))) else (none)) else (none)) else (none)) else (none)) = some (r1, r2) := by rw [if_neg (show ¬ (false = true) by decide)] at H; exact H
                                                    clear H
                                                    have H := H1
                                                    clear H1
                                                    by_cases c79 : 0 ≤ x106_8
                                                    · rw [if_pos c79] at H
                                                      have c79b0 : decide (0 ≤ x106_8) = true := decide_eq_true c79
                                                      clear c79
                                                      by_cases c80 : x106_8 < (x16_59.length : Int)
                                                      · rw [if_pos c80] at H
                                                        have c80b0 : decide (x106_8 < (x16_59.length : Int)) = true := decide_eq_true c80
                                                        clear c80
                                                        by_cases c81 : 0 ≤ (rd x16_59 x106_8)
                                                        · rw [if_pos c81] at H
                                                          have c81b0 : decide (0 ≤ (rd x16_59 x106_8)) = true := decide_eq_true c81
                                                          clear c81
                                                          by_cases c82 : (rd x16_59 x106_8) < (x7_8.length : Int)
                                                          · rw [if_pos c82] at H
                                                            have c82b0 : decide ((rd x16_59 x106_8) < (x7_8.length : Int)) = true := decide_eq_true c82
                                                            clear c82
                                                            by_cases c83 : (rd x7_8 (rd x16_59 x106_8)) < 0
                                                            · rw [if_pos c83] at H
                                                              have c83b0 : decide ((rd x7_8 (rd x16_59 x106_8)) < 0) = true := decide_eq_true c83
                                                              clear c83
                                                              obtain ⟨y432, hy432⟩ : ∃ y_ : List Int, y_ = (x7_8.set ((rd x16_59 x106_8) : Int).toNat (wrap64 ((wrap64 ((rd x7_3 x42_3) - t403)) + t404))) := ⟨_, rfl⟩
                                                              replace H : (sacristanref11_Depths.l3 kj68 y432 true (wrap64 ((wrap64 ((rd x7_3 x42_3) - t403)) + t404)) x16_59 (((rd_T44 l0_2 a1).f3).length : Int) x42_3 (x16_59.length : Int) (wrap64 (x106_8 + 1)) l0_0 l0_1 l0_2 l0_3 ((rd_T44 l0_2 a1).f0) ((rd_T44 l0_2 a1).f1) ((rd_T44 l0_2 a1).f2) ((rd_T44 l0_2 a1).f3)) = some (r1, r2) := by ((rw [hy432]; with_reducible exact H))
                                                              have Ny432 := Aside0.mk hy432
                                                              clear hy432
                                                              have H' := Aside0.mk H
                                                              clear H
                                                              have p429 : 0 ≤ (x106_8 : Int) := of_decide_eq_true (by (with_reducible assumption))
                                                              have q429 : x106_8 < (x16_59.length : Int) := of_decide_eq_true (by (with_reducible assumption))
                                                              obtain ⟨ad429, e429, hx429_0⟩ := Kd.at_int (Kd.R_reads' HO_16.out).2.2 x106_8 p429 q429
                                                              cases e429
                                                              replace p429 := eq_true p429
                                                              replace q429 := eq_true q429
                                                              have p430 : 0 ≤ ((rd x16_59 x106_8) : Int) := of_decide_eq_true (by (with_reducible assumption))
                                                              have q430 : (rd x16_59 x106_8) < (x7_8.length : Int) := of_decide_eq_true (by (with_reducible assumption))
                                                              obtain ⟨ad430, e430, hx430_0⟩ := Kd.at_int (Kd.R_reads' HO_7.out).2.2 (rd x16_59 x106_8) p430 q430
                                                              obtain rfl : ad400 = ad430 := (by injection e430)
                                                              replace p430 := eq_true p430
                                                              replace q430 := eq_true q430
                                                              have p431 : 0 ≤ (x106_8 : Int) := of_decide_eq_true (by (with_reducible assumption))
                                                              have q431 : x106_8 < (x16_59.length : Int) := of_decide_eq_true (by (with_reducible assumption))
                                                              obtain ⟨ad431, e431, hx431_0⟩ := Kd.at_int (Kd.R_reads' HO_16.out).2.2 x106_8 p431 q431
                                                              obtain rfl : ad429 = ad431 := (by injection e431)
                                                              replace p431 := eq_true p431
                                                              replace q431 := eq_true q431
                                                              have p84 : 0 ≤ ((rd x16_59 x106_8) : Int) := of_decide_eq_true (by (with_reducible assumption))
                                                              have q84 : ((rd x16_59 x106_8) : Int) < ((x7_8.length : Int) : Int) := of_decide_eq_true (by (with_reducible assumption))
                                                              obtain ⟨go84, co84, eo84, gb84, gl84, cl84, HG84⟩ := Kd.R_form HO_7.out (by omega)
                                                              (cases eo84)
                                                              have GB84 := Aside0.mk gb84
                                                              have GG84 := Aside0.mk HG84
                                                              clear gb84 gl84 HG84
                                                              (skip)
                                                              (skip)
                                                              (skip)
                                                              (skip)
                                                              (skip)
                                                              (simp only [add_plain] at hx430_0)
                                                              obtain ⟨hx84_0, hf84_0⟩ := Kd.R_celln 0 HO_7.out ((rd x16_59 x106_8) : Int) p84 q84
                                                              replace p84 := eq_true p84
                                                              replace q84 := eq_true q84
                                                              have HP85 := Kd.R_putg HO_7.out ((rd x16_59 x106_8) : Int) (wrap64 ((wrap64 ((rd x7_3 x42_3) - t403)) + t404))
                                                              go_wp2_with (((with_reducible refine gate_store (t := 3) (p := 152) rfl ?_); refine store_event (t := 3) (p := 152) (v := ?vo_w86) (w1 := (wc.setCell ⟨go84, ((rd x16_59 x106_8) : Int).toNat, none⟩ (.int .i64 (wrap64 ((wrap64 ((rd x7_3 x42_3) - t403)) + t404))))) ?hg ?ho ?hn ?hr ?_; (case ho => rfl); (case hg => rfl); (case hn => rfl); (case hr => ((go_simp; done))); intro w86 hw; have hg : wc.grownBy w86 (some go84) := (by rw [hw]; exact HP85.2); have hp_ : Kd.R (Kd.int .i64) 3 w86 w.heap.size (fun k_ => some k_ ≠ (.slice (some ad429) x16_59.length co67 : Value).ownBlock) (.slice (some ⟨go84, 0, none⟩) x7_8.length co29) y432 := (by rw [hw, Ny432.out]; exact HP85.1); clear HP85; have n0_ := Aside0.mk (hp_); have n1_ := Aside0.mk (Kd.R_after (v := (.slice (some ⟨go84, 0, none⟩) x7_8.length co29)) (v1 := (.slice (some ⟨go84, 0, none⟩) x7_8.length co29)) (ok := (fun _ => True)) (by (with_reducible repeat (fail)); exact Kd.R_mono HO_16.out (fun _ hk => ⟨trivial, hk⟩)) hg (.inl rfl)); have n2_ := Aside0.mk (blk_grown (g := gb388) (o := .cells #[.slice A0_0 l0_0.length c0_0, .slice A0_1 l0_1.length c0_1, .slice (some ad389) l0_2.length c0_2, .slice A0_3 l0_3.length c0_3] 30 (0, 0)) (by (with_reducible repeat (fail)); exact BK388.out) hg (Kd.R_ne HO_7.out BK388.out (by decide))); have n3_ := Aside0.mk (blk_grown (g := gb390) (o := .cells #[.int .i64 ((rd_T44 l0_2 a1).f0), .int .i64 ((rd_T44 l0_2 a1).f1), .int .i64 ((rd_T44 l0_2 a1).f2), .slice (some ad401) ((rd_T44 l0_2 a1).f3).length c389_3] 44 (0, 0)) (by (with_reducible repeat (fail)); exact BK390.out) hg (Kd.R_ne HO_7.out BK390.out (by decide))); have n4_ := Aside0.mk (blk_grown (g := gb402) (o := .cells #[.int .u8 ((rd_T32 ((rd_T44 l0_2 a1).f3) x42_3).f0), .int .i64 ((rd_T32 ((rd_T44 l0_2 a1).f3) x42_3).f1)] 32 (0, 0)) (by (with_reducible repeat (fail)); exact BK402.out) hg (Kd.R_ne HO_7.out BK402.out (by decide))); have n5_ := Aside0.mk ((by rw [hw]; exact below_set (HB.out) GB84.out : Below w.heap.size w w86)); clear HO_7; clear HO_16; clear BK388; clear BK390; clear BK402; clear HB; have HO_7 := n0_; have HO_16 := n1_; have BK388 := n2_; have BK390 := n3_; have BK402 := n4_; have HB := n5_; clear n0_ n1_ n2_ n3_ n4_ n5_; clear hg hw hp_))
                                                              (try simp only [← hl7_8])
                                                              go_roundg kj68
                                                              case measure => have := HK1.out; have := HK2.out; have := HK3.out; have := HJ27.out; have := HJ42.out; have := HJ51.out; have := HJ59.out; have := HK8.out; have := HJ68.out; omega
                                                              case rel => exact ⟨(y432), (true), (wrap64 (x106_8 + 1)), (by rfl), (by rfl), H', ⟨by have := HK1.out; have := HK2.out; have := HK3.out; have := HJ27.out; have := HJ42.out; have := HJ51.out; have := HJ59.out; have := HK8.out; have := HJ68.out; omega⟩, ⟨by (try simp only [hl7_8]); (with_reducible repeat (fail)); exact HO_7.out⟩, ⟨by (try simp only [hl7_8]); (with_reducible repeat (fail)); exact Kd.R_mono HO_16.out (fun _ hk => hk.2)⟩, ⟨by (with_reducible repeat (fail)); exact BK388.out⟩, ⟨by (with_reducible repeat (fail)); exact BK390.out⟩, ⟨by (with_reducible repeat (fail)); exact BK402.out⟩, ⟨by repeat ((with_reducible exact HB.out))⟩⟩
                                                            rw [if_neg c83] at H
                                                            have c83b0 : decide ((rd x7_8 (rd x16_59 x106_8)) < 0) = false := decide_eq_false c83
                                                            clear c83
                                                            have H' := Aside0.mk H
                                                            clear H
                                                            have p429 : 0 ≤ (x106_8 : Int) := of_decide_eq_true (by (with_reducible assumption))
                                                            have q429 : x106_8 < (x16_59.length : Int) := of_decide_eq_true (by (with_reducible assumption))
                                                            obtain ⟨ad429, e429, hx429_0⟩ := Kd.at_int (Kd.R_reads' HO_16.out).2.2 x106_8 p429 q429
                                                            cases e429
                                                            replace p429 := eq_true p429
                                                            replace q429 := eq_true q429
                                                            have p430 : 0 ≤ ((rd x16_59 x106_8) : Int) := of_decide_eq_true (by (with_reducible assumption))
                                                            have q430 : (rd x16_59 x106_8) < (x7_8.length : Int) := of_decide_eq_true (by (with_reducible assumption))
                                                            obtain ⟨ad430, e430, hx430_0⟩ := Kd.at_int (Kd.R_reads' HO_7.out).2.2 (rd x16_59 x106_8) p430 q430
                                                            obtain rfl : ad400 = ad430 := (by injection e430)
                                                            replace p430 := eq_true p430
                                                            replace q430 := eq_true q430
                                                            go_wp2
                                                            (try simp only [← hl7_8])
                                                            go_roundg kj68
                                                            case measure => have := HK1.out; have := HK2.out; have := HK3.out; have := HJ27.out; have := HJ42.out; have := HJ51.out; have := HJ59.out; have := HK8.out; have := HJ68.out; omega
                                                            case rel => exact ⟨(x7_8), (x9_8), (wrap64 (x106_8 + 1)), (by rfl), (by rfl), H', ⟨by have := HK1.out; have := HK2.out; have := HK3.out; have := HJ27.out; have := HJ42.out; have := HJ51.out; have := HJ59.out; have := HK8.out; have := HJ68.out; omega⟩, ⟨by (try simp only [hl7_8]); (with_reducible repeat (fail)); exact HO_7.out⟩, ⟨by (try simp only [hl7_8]); (with_reducible repeat (fail)); exact HO_16.out⟩, ⟨by (with_reducible repeat (fail)); exact BK388.out⟩, ⟨by (with_reducible repeat (fail)); exact BK390.out⟩, ⟨by (with_reducible repeat (fail)); exact BK402.out⟩, ⟨by repeat ((with_reducible exact HB.out))⟩⟩
                                                          rw [if_neg c82] at H
                                                          exact absurd H (by simp)
                                                        rw [if_neg c81] at H
                                                        exact absurd H (by simp)
                                                      rw [if_neg c80] at H
                                                      exact absurd H (by simp)
                                                    rw [if_neg c79] at H
                                                    exact absurd H (by simp)
                                              rw [if_neg c68] at H
                                              have c68b0 : decide (x106_8 < (x16_59.length : Int)) = false := decide_eq_false c68
                                              clear c68
                                              have H' := Aside0.mk H
                                              clear H
                                              go_wp2
                                              (try simp only [← hl7_8])
                                              go_roundg k8
                                              case measure => have := HK1.out; have := HK2.out; have := HK3.out; have := HJ27.out; have := HJ42.out; have := HJ51.out; have := HJ59.out; have := HK8.out; omega
                                              case rel => exact ⟨(x7_8), (x9_8), (wrap64 (x42_3 + 1)), (by rfl), (by rfl), H', ⟨by have := HK1.out; have := HK2.out; have := HK3.out; have := HJ27.out; have := HJ42.out; have := HJ51.out; have := HJ59.out; have := HK8.out; omega⟩, ⟨by (try simp only [hl7_8]); (with_reducible repeat (fail)); exact Kd.R_mono HO_7.out (fun _ hk => trivial)⟩, ⟨by (with_reducible repeat (fail)); exact BK388.out⟩, ⟨by (with_reducible repeat (fail)); exact BK390.out⟩, ⟨by repeat ((with_reducible exact HB.out))⟩⟩
                        rw [if_neg c26] at H
                        exact absurd H (by simp)
                      rw [if_neg c23] at H
                      exact absurd H (by simp)
                    rw [if_neg c22] at H
                    exact absurd H (by simp)
                  rw [if_neg c21] at H
                  have c21b0 : decide (x42_3 < (((rd_T44 l0_2 a1).f3).length : Int)) = false := decide_eq_false c21
                  clear c21
                  by_cases c87 : x9_3 = true
                  · subst c87
                    have H1 : (sacristanref11_Depths.l1 k3 x7_3 l0_0 l0_1 l0_2 l0_3 ((rd_T44 l0_2 a1).f0) ((rd_T44 l0_2 a1).f1) ((rd_T44 l0_2 a1).f2) ((rd_T44 l0_2 a1).f3)) = some (r1, r2) := by rw [if_pos rfl] at H; exact H
                    clear H
                    have H := H1
                    clear H1
                    have H' := Aside0.mk H
                    clear H
                    go_wp2
                    go_roundg k3
                    case measure => have := HK1.out; have := HK2.out; have := HK3.out; omega
                    case rel => exact ⟨(x7_3), H', ⟨by have := HK1.out; have := HK2.out; have := HK3.out; omega⟩, ⟨by (with_reducible repeat (fail)); exact HO_7.out⟩, ⟨by (with_reducible repeat (fail)); exact BK388.out⟩, ⟨by (with_reducible repeat (fail)); exact BK390.out⟩, ⟨by repeat ((with_reducible exact HB.out))⟩⟩
                  replace c87 := Bool.eq_false_iff.mpr c87
                  subst c87
                  have H1 : (some (x7_3, true)) = some (r1, r2) := by rw [if_neg (show ¬ (false = true) by decide)] at H; exact H
                  clear H
                  have H := H1
                  clear H1
                  simp only [Option.some.injEq, Prod.mk.injEq] at H
                  obtain ⟨rfl, rfl⟩ := H
                  go_wp2
                  go_ret2
                  exact ⟨_, by rfl, by (with_reducible repeat (fail)); exact HO_7.out, by repeat ((with_reducible exact HB.out))⟩
    rw [if_neg c4] at H
    exact absurd H (by simp)
  rw [if_neg c3] at H
  exact absurd H (by simp)
end Go.Proofs.YtfncoldcjhkhiaaDoor.PC
