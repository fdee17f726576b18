-- Own text: made by this session's variant of the printer (wip/mkpp.py); Lean checks it.
import Derived.Test.YtjkjbfhhfdbnoaaRa
import Derived.Test.YtjkjbfhhfdbnoaaRi
import Derived.Test.YtjkjbfhhfdbnoaaPBx0
import Derived.Test.YtjkjbfhhfdbnoaaPBx2
import Derived.Test.YtjkjbfhhfdbnoaaPBx3
import Derived.Test.YtjkjbfhhfdbnoaaPBy15
namespace Go.Proofs.Ytjkjbfhhfdbnoaa.PB
open Go.RowKit Go.Proofs.YtjkjbfhhfdbnoaaW.PrintWords Go.Proofs.YtjkjbfhhfdbnoaaW.PrintLast Go.Proofs.YtjkjbfhhfdbnoaaW.PrintMore Go.Proofs.YtjkjbfhhfdbnoaaW.Own
attribute [local go_sem high] own_gtr own_leq own_geq
attribute [local go_sem] max2_int min2_int max_two min_two max_three min_three max_four min_four   -- for this text's walks alone
set_option linter.unusedVariables false
set_option linter.unusedSimpArgs false

attribute [local go_sem high] eqA39
/-! ### sacristanlaw18_SweepKeeps: function 5 -/
mutual
def sacristanlaw18_SweepKeeps.l0 : Nat → Int → Int → Int → Int → Int → List (S39) → Int → List Int → List Int → Int → Int → Int → Int → Int → Int → List (S39) → Int → List Int → List Int → Int → Int → Int → Option (Bool)
  | 0, _, _, _, _, _, _, _, _, _, _, _, _, _, _, _, _, _, _, _, _, _, _ => none
  | k + 1, x4, x5, x460000, x460001, x460002, x460003, x460004, x460005, x460006, x460007, x460008, x460009, x479000, x479001, x479002, x479003, x479004, x479005, x479006, x479007, x479008, x479009 => if x5 < (x460003.length : Int) then (if 0 ≤ x5 then (if ((rd_T39 x460003 x5).f0) = 1 then (sacristanlaw18_SweepKeeps.j1 k x4 x5 true x460000 x460001 x460002 x460003 x460004 x460005 x460006 x460007 x460008 x460009 x479000 x479001 x479002 x479003 x479004 x479005 x479006 x479007 x479008 x479009) else (sacristanlaw18_SweepKeeps.j1 k x4 x5 (((rd_T39 x460003 x5).f0) == 2) x460000 x460001 x460002 x460003 x460004 x460005 x460006 x460007 x460008 x460009 x479000 x479001 x479002 x479003 x479004 x479005 x479006 x479007 x479008 x479009)) else (none)) else ((sacristanlaw18_awake.f).bind fun t479 => (some t479))
def sacristanlaw18_SweepKeeps.j1 : Nat → Int → Int → Bool → Int → Int → Int → List (S39) → Int → List Int → List Int → Int → Int → Int → Int → Int → Int → List (S39) → Int → List Int → List Int → Int → Int → Int → Option (Bool)
  | 0, _, _, _, _, _, _, _, _, _, _, _, _, _, _, _, _, _, _, _, _, _, _, _ => none
  | k + 1, x4, x5, x34, x460000, x460001, x460002, x460003, x460004, x460005, x460006, x460007, x460008, x460009, x479000, x479001, x479002, x479003, x479004, x479005, x479006, x479007, x479008, x479009 => if x34 = true then (sacristanlaw18_SweepKeeps.l0 k x4 (wrap64 (x5 + 1)) x460000 x460001 x460002 x460003 x460004 x460005 x460006 x460007 x460008 x460009 x479000 x479001 x479002 x479003 x479004 x479005 x479006 x479007 x479008 x479009) else (sacristanlaw18_SweepKeeps.l1 k x4 x5 x460000 x460001 x460002 x460003 x460004 x460005 x460006 x460007 x460008 x460009 x479000 x479001 x479002 x479003 x479004 x479005 x479006 x479007 x479008 x479009)
def sacristanlaw18_SweepKeeps.j3 : Nat → Int → Int → Int → Int → Int → List (S39) → Int → List Int → List Int → Int → Int → Int → Int → Int → Int → List (S39) → Int → List Int → List Int → Int → Int → Int → Option (Bool)
  | 0, _, _, _, _, _, _, _, _, _, _, _, _, _, _, _, _, _, _, _, _, _, _ => none
  | k + 1, x4, x5, x460000, x460001, x460002, x460003, x460004, x460005, x460006, x460007, x460008, x460009, x479000, x479001, x479002, x479003, x479004, x479005, x479006, x479007, x479008, x479009 => if x4 ≥ (x479003.length : Int) then (some false) else (sacristanlaw18_SweepKeeps.l0 k (wrap64 (x4 + 1)) (wrap64 (x5 + 1)) x460000 x460001 x460002 x460003 x460004 x460005 x460006 x460007 x460008 x460009 x479000 x479001 x479002 x479003 x479004 x479005 x479006 x479007 x479008 x479009)
def sacristanlaw18_SweepKeeps.l1 : Nat → Int → Int → Int → Int → Int → List (S39) → Int → List Int → List Int → Int → Int → Int → Int → Int → Int → List (S39) → Int → List Int → List Int → Int → Int → Int → Option (Bool)
  | 0, _, _, _, _, _, _, _, _, _, _, _, _, _, _, _, _, _, _, _, _, _, _ => none
  | k + 1, x4, x5, x460000, x460001, x460002, x460003, x460004, x460005, x460006, x460007, x460008, x460009, x479000, x479001, x479002, x479003, x479004, x479005, x479006, x479007, x479008, x479009 => if x4 < (x479003.length : Int) then (if 0 ≤ x4 then (if 0 ≤ x5 then (if x5 < (x460003.length : Int) then (if (!(((rd_T39 x479003 x4).f0) == ((rd_T39 x460003 x5).f0)) || (!(((rd_T39 x479003 x4).f1) == ((rd_T39 x460003 x5).f1)) || (!(((rd_T39 x479003 x4).f2) == ((rd_T39 x460003 x5).f2)) || (!(((rd_T39 x479003 x4).f3) == ((rd_T39 x460003 x5).f3)) || (!((((rd_T39 x479003 x4).f4).toList) == (((rd_T39 x460003 x5).f4).toList)) || ((!(((rd_T39 x479003 x4).f5.f0) == ((rd_T39 x460003 x5).f5.f0)) || (!(((rd_T39 x479003 x4).f5.f1) == ((rd_T39 x460003 x5).f5.f1)) || (!((((rd_T39 x479003 x4).f5.f2).toList) == (((rd_T39 x460003 x5).f5.f2).toList))))))))))) = true then (sacristanlaw18_SweepKeeps.l1 k (wrap64 (x4 + 1)) x5 x460000 x460001 x460002 x460003 x460004 x460005 x460006 x460007 x460008 x460009 x479000 x479001 x479002 x479003 x479004 x479005 x479006 x479007 x479008 x479009) else (sacristanlaw18_SweepKeeps.j3 k x4 x5 x460000 x460001 x460002 x460003 x460004 x460005 x460006 x460007 x460008 x460009 x479000 x479001 x479002 x479003 x479004 x479005 x479006 x479007 x479008 x479009)) else (none)) else (none)) else (none)) else (sacristanlaw18_SweepKeeps.j3 k x4 x5 x460000 x460001 x460002 x460003 x460004 x460005 x460006 x460007 x460008 x460009 x479000 x479001 x479002 x479003 x479004 x479005 x479006 x479007 x479008 x479009)
end
def sacristanlaw18_SweepKeeps.f (k : Nat) (a0_0 : Int) (a0_1 : Int) (a0_2 : Int) (l0_3 : List (S39)) (a0_4 : Int) (l0_5 : List Int) (l0_6 : List Int) (a0_7 : Int) (a0_8 : Int) (a0_9 : Int) : Option (Bool) := (sacristanref15_Great.f k a0_0 a0_1 a0_2 l0_3 a0_4 l0_5 l0_6 a0_7 a0_8 a0_9 ([] : List (S37)) ([] : List (S37)) ([] : List (S37)) ([] : List (S54))).bind fun t460 => (if t460 = true then ((sacristanlaw18_awake.f).bind fun t461 => (some t461)) else ((sweep_Sweep.f a0_0 a0_1 a0_2 l0_3 a0_4 l0_5 l0_6 a0_7 a0_8 a0_9).bind fun bt462 => (sacristanlaw18_SweepKeeps.l0 k 0 0 a0_0 a0_1 a0_2 l0_3 a0_4 l0_5 l0_6 a0_7 a0_8 a0_9 bt462.1 bt462.2.1 bt462.2.2.1 bt462.2.2.2.1 bt462.2.2.2.2.1 bt462.2.2.2.2.2.1 bt462.2.2.2.2.2.2.1 bt462.2.2.2.2.2.2.2.1 bt462.2.2.2.2.2.2.2.2.1 bt462.2.2.2.2.2.2.2.2.2)))
theorem sacristanlaw18_SweepKeeps.mono_l : ∀ k, (∀ y0 y1 y2 y3 y4 y5 y6 y7 y8 y9 y10 y11 y12 y13 y14 y15 y16 y17 y18 y19 y20 y21, LeO (sacristanlaw18_SweepKeeps.l0 k y0 y1 y2 y3 y4 y5 y6 y7 y8 y9 y10 y11 y12 y13 y14 y15 y16 y17 y18 y19 y20 y21) (sacristanlaw18_SweepKeeps.l0 (k + 1) y0 y1 y2 y3 y4 y5 y6 y7 y8 y9 y10 y11 y12 y13 y14 y15 y16 y17 y18 y19 y20 y21)) ∧ (∀ y0 y1 y2 y3 y4 y5 y6 y7 y8 y9 y10 y11 y12 y13 y14 y15 y16 y17 y18 y19 y20 y21 y22, LeO (sacristanlaw18_SweepKeeps.j1 k y0 y1 y2 y3 y4 y5 y6 y7 y8 y9 y10 y11 y12 y13 y14 y15 y16 y17 y18 y19 y20 y21 y22) (sacristanlaw18_SweepKeeps.j1 (k + 1) y0 y1 y2 y3 y4 y5 y6 y7 y8 y9 y10 y11 y12 y13 y14 y15 y16 y17 y18 y19 y20 y21 y22)) ∧ (∀ y0 y1 y2 y3 y4 y5 y6 y7 y8 y9 y10 y11 y12 y13 y14 y15 y16 y17 y18 y19 y20 y21, LeO (sacristanlaw18_SweepKeeps.j3 k y0 y1 y2 y3 y4 y5 y6 y7 y8 y9 y10 y11 y12 y13 y14 y15 y16 y17 y18 y19 y20 y21) (sacristanlaw18_SweepKeeps.j3 (k + 1) y0 y1 y2 y3 y4 y5 y6 y7 y8 y9 y10 y11 y12 y13 y14 y15 y16 y17 y18 y19 y20 y21)) ∧ (∀ y0 y1 y2 y3 y4 y5 y6 y7 y8 y9 y10 y11 y12 y13 y14 y15 y16 y17 y18 y19 y20 y21, LeO (sacristanlaw18_SweepKeeps.l1 k y0 y1 y2 y3 y4 y5 y6 y7 y8 y9 y10 y11 y12 y13 y14 y15 y16 y17 y18 y19 y20 y21) (sacristanlaw18_SweepKeeps.l1 (k + 1) y0 y1 y2 y3 y4 y5 y6 y7 y8 y9 y10 y11 y12 y13 y14 y15 y16 y17 y18 y19 y20 y21))
  | 0 => ⟨fun _ _ _ _ _ _ _ _ _ _ _ _ _ _ _ _ _ _ _ _ _ _ r h => by simp [sacristanlaw18_SweepKeeps.l0] at h, fun _ _ _ _ _ _ _ _ _ _ _ _ _ _ _ _ _ _ _ _ _ _ _ r h => by simp [sacristanlaw18_SweepKeeps.j1] at h, fun _ _ _ _ _ _ _ _ _ _ _ _ _ _ _ _ _ _ _ _ _ _ r h => by simp [sacristanlaw18_SweepKeeps.j3] at h, fun _ _ _ _ _ _ _ _ _ _ _ _ _ _ _ _ _ _ _ _ _ _ r h => by simp [sacristanlaw18_SweepKeeps.l1] at h⟩
  | k + 1 => by
    obtain ⟨ih0, ih1, ih2, ih3⟩ := sacristanlaw18_SweepKeeps.mono_l k
    refine ⟨?_, ?_, ?_, ?_⟩
    · intro y0 y1 y2 y3 y4 y5 y6 y7 y8 y9 y10 y11 y12 y13 y14 y15 y16 y17 y18 y19 y20 y21
      unfold sacristanlaw18_SweepKeeps.l0
      repeat' first
      | (with_reducible exact ih0 _ _ _ _ _ _ _ _ _ _ _ _ _ _ _ _ _ _ _ _ _ _)
      | (with_reducible exact ih1 _ _ _ _ _ _ _ _ _ _ _ _ _ _ _ _ _ _ _ _ _ _ _)
      | (with_reducible exact ih2 _ _ _ _ _ _ _ _ _ _ _ _ _ _ _ _ _ _ _ _ _ _)
      | (with_reducible exact ih3 _ _ _ _ _ _ _ _ _ _ _ _ _ _ _ _ _ _ _ _ _ _)
      | (with_reducible exact sacristanref15_Great.mono _ _ _ _ _ _ _ _ _ _ _ _ _ _ _)
      | (with_reducible exact LeO.refl _)
      | (with_reducible exact LeO.none _)
      | (with_reducible refine LeO.ite ?_ ?_)
      | (with_reducible refine LeO.bind ?_ (fun _ => ?_))
      | exact ih0 _ _ _ _ _ _ _ _ _ _ _ _ _ _ _ _ _ _ _ _ _ _
      | exact ih1 _ _ _ _ _ _ _ _ _ _ _ _ _ _ _ _ _ _ _ _ _ _ _
      | exact ih2 _ _ _ _ _ _ _ _ _ _ _ _ _ _ _ _ _ _ _ _ _ _
      | exact ih3 _ _ _ _ _ _ _ _ _ _ _ _ _ _ _ _ _ _ _ _ _ _
      | exact sacristanref15_Great.mono _ _ _ _ _ _ _ _ _ _ _ _ _ _ _
      | exact LeO.none _
      | refine LeO.ite ?_ ?_
      | refine LeO.bind ?_ (fun _ => ?_)
    · intro y0 y1 y2 y3 y4 y5 y6 y7 y8 y9 y10 y11 y12 y13 y14 y15 y16 y17 y18 y19 y20 y21 y22
      unfold sacristanlaw18_SweepKeeps.j1
      repeat' first
      | (with_reducible exact ih0 _ _ _ _ _ _ _ _ _ _ _ _ _ _ _ _ _ _ _ _ _ _)
      | (with_reducible exact ih1 _ _ _ _ _ _ _ _ _ _ _ _ _ _ _ _ _ _ _ _ _ _ _)
      | (with_reducible exact ih2 _ _ _ _ _ _ _ _ _ _ _ _ _ _ _ _ _ _ _ _ _ _)
      | (with_reducible exact ih3 _ _ _ _ _ _ _ _ _ _ _ _ _ _ _ _ _ _ _ _ _ _)
      | (with_reducible exact sacristanref15_Great.mono _ _ _ _ _ _ _ _ _ _ _ _ _ _ _)
      | (with_reducible exact LeO.refl _)
      | (with_reducible exact LeO.none _)
      | (with_reducible refine LeO.ite ?_ ?_)
      | (with_reducible refine LeO.bind ?_ (fun _ => ?_))
      | exact ih0 _ _ _ _ _ _ _ _ _ _ _ _ _ _ _ _ _ _ _ _ _ _
      | exact ih1 _ _ _ _ _ _ _ _ _ _ _ _ _ _ _ _ _ _ _ _ _ _ _
      | exact ih2 _ _ _ _ _ _ _ _ _ _ _ _ _ _ _ _ _ _ _ _ _ _
      | exact ih3 _ _ _ _ _ _ _ _ _ _ _ _ _ _ _ _ _ _ _ _ _ _
      | exact sacristanref15_Great.mono _ _ _ _ _ _ _ _ _ _ _ _ _ _ _
      | exact LeO.none _
      | refine LeO.ite ?_ ?_
      | refine LeO.bind ?_ (fun _ => ?_)
    · intro y0 y1 y2 y3 y4 y5 y6 y7 y8 y9 y10 y11 y12 y13 y14 y15 y16 y17 y18 y19 y20 y21
      unfold sacristanlaw18_SweepKeeps.j3
      repeat' first
      | (with_reducible exact ih0 _ _ _ _ _ _ _ _ _ _ _ _ _ _ _ _ _ _ _ _ _ _)
      | (with_reducible exact ih1 _ _ _ _ _ _ _ _ _ _ _ _ _ _ _ _ _ _ _ _ _ _ _)
      | (with_reducible exact ih2 _ _ _ _ _ _ _ _ _ _ _ _ _ _ _ _ _ _ _ _ _ _)
      | (with_reducible exact ih3 _ _ _ _ _ _ _ _ _ _ _ _ _ _ _ _ _ _ _ _ _ _)
      | (with_reducible exact sacristanref15_Great.mono _ _ _ _ _ _ _ _ _ _ _ _ _ _ _)
      | (with_reducible exact LeO.refl _)
      | (with_reducible exact LeO.none _)
      | (with_reducible refine LeO.ite ?_ ?_)
      | (with_reducible refine LeO.bind ?_ (fun _ => ?_))
      | exact ih0 _ _ _ _ _ _ _ _ _ _ _ _ _ _ _ _ _ _ _ _ _ _
      | exact ih1 _ _ _ _ _ _ _ _ _ _ _ _ _ _ _ _ _ _ _ _ _ _ _
      | exact ih2 _ _ _ _ _ _ _ _ _ _ _ _ _ _ _ _ _ _ _ _ _ _
      | exact ih3 _ _ _ _ _ _ _ _ _ _ _ _ _ _ _ _ _ _ _ _ _ _
      | exact sacristanref15_Great.mono _ _ _ _ _ _ _ _ _ _ _ _ _ _ _
      | exact LeO.none _
      | refine LeO.ite ?_ ?_
      | refine LeO.bind ?_ (fun _ => ?_)
    · intro y0 y1 y2 y3 y4 y5 y6 y7 y8 y9 y10 y11 y12 y13 y14 y15 y16 y17 y18 y19 y20 y21
      unfold sacristanlaw18_SweepKeeps.l1
      repeat' first
      | (with_reducible exact ih0 _ _ _ _ _ _ _ _ _ _ _ _ _ _ _ _ _ _ _ _ _ _)
      | (with_reducible exact ih1 _ _ _ _ _ _ _ _ _ _ _ _ _ _ _ _ _ _ _ _ _ _ _)
      | (with_reducible exact ih2 _ _ _ _ _ _ _ _ _ _ _ _ _ _ _ _ _ _ _ _ _ _)
      | (with_reducible exact ih3 _ _ _ _ _ _ _ _ _ _ _ _ _ _ _ _ _ _ _ _ _ _)
      | (with_reducible exact sacristanref15_Great.mono _ _ _ _ _ _ _ _ _ _ _ _ _ _ _)
      | (with_reducible exact LeO.refl _)
      | (with_reducible exact LeO.none _)
      | (with_reducible refine LeO.ite ?_ ?_)
      | (with_reducible refine LeO.bind ?_ (fun _ => ?_))
      | exact ih0 _ _ _ _ _ _ _ _ _ _ _ _ _ _ _ _ _ _ _ _ _ _
      | exact ih1 _ _ _ _ _ _ _ _ _ _ _ _ _ _ _ _ _ _ _ _ _ _ _
      | exact ih2 _ _ _ _ _ _ _ _ _ _ _ _ _ _ _ _ _ _ _ _ _ _
      | exact ih3 _ _ _ _ _ _ _ _ _ _ _ _ _ _ _ _ _ _ _ _ _ _
      | exact sacristanref15_Great.mono _ _ _ _ _ _ _ _ _ _ _ _ _ _ _
      | exact LeO.none _
      | refine LeO.ite ?_ ?_
      | refine LeO.bind ?_ (fun _ => ?_)
theorem sacristanlaw18_SweepKeeps.mono : ∀ a0 a1 a2 a3 a4 a5 a6 a7 a8 a9 k, LeO (sacristanlaw18_SweepKeeps.f k a0 a1 a2 a3 a4 a5 a6 a7 a8 a9) (sacristanlaw18_SweepKeeps.f (k + 1) a0 a1 a2 a3 a4 a5 a6 a7 a8 a9) := by
  intro a0 a1 a2 a3 a4 a5 a6 a7 a8 a9 k
  obtain ⟨ih0, ih1, ih2, ih3⟩ := sacristanlaw18_SweepKeeps.mono_l k
  unfold sacristanlaw18_SweepKeeps.f
  repeat' first
      | (with_reducible exact ih0 _ _ _ _ _ _ _ _ _ _ _ _ _ _ _ _ _ _ _ _ _ _)
      | (with_reducible exact ih1 _ _ _ _ _ _ _ _ _ _ _ _ _ _ _ _ _ _ _ _ _ _ _)
      | (with_reducible exact ih2 _ _ _ _ _ _ _ _ _ _ _ _ _ _ _ _ _ _ _ _ _ _)
      | (with_reducible exact ih3 _ _ _ _ _ _ _ _ _ _ _ _ _ _ _ _ _ _ _ _ _ _)
      | (with_reducible exact sacristanref15_Great.mono _ _ _ _ _ _ _ _ _ _ _ _ _ _ _)
      | (with_reducible exact LeO.refl _)
      | (with_reducible exact LeO.none _)
      | (with_reducible refine LeO.ite ?_ ?_)
      | (with_reducible refine LeO.bind ?_ (fun _ => ?_))
      | exact ih0 _ _ _ _ _ _ _ _ _ _ _ _ _ _ _ _ _ _ _ _ _ _
      | exact ih1 _ _ _ _ _ _ _ _ _ _ _ _ _ _ _ _ _ _ _ _ _ _ _
      | exact ih2 _ _ _ _ _ _ _ _ _ _ _ _ _ _ _ _ _ _ _ _ _ _
      | exact ih3 _ _ _ _ _ _ _ _ _ _ _ _ _ _ _ _ _ _ _ _ _ _
      | exact sacristanref15_Great.mono _ _ _ _ _ _ _ _ _ _ _ _ _ _ _
      | exact LeO.none _
      | refine LeO.ite ?_ ?_
      | refine LeO.bind ?_ (fun _ => ?_)
set_option maxHeartbeats 8000000 in
set_option maxRecDepth 100000 in
theorem sacristanlaw18_SweepKeeps.calls (k : Nat) (a0_0 : Int) (a0_1 : Int) (a0_2 : Int) (A0_3 : Option Addr) (c0_3 : Nat) (l0_3 : List (S39)) (a0_4 : Int) (A0_5 : Option Addr) (c0_5 : Nat) (l0_5 : List Int) (A0_6 : Option Addr) (c0_6 : Nat) (l0_6 : List Int) (a0_7 : Int) (a0_8 : Int) (a0_9 : Int) (r : Bool) (w : World) (hr0_3 : Kd.C k39 w A0_3 l0_3.length l0_3) (hc0_3 : l0_3.length ≤ c0_3) (hr0_5 : Kd.C (Kd.int .i64) w A0_5 l0_5.length l0_5) (hc0_5 : l0_5.length ≤ c0_5) (hr0_6 : Kd.C (Kd.int .i64) w A0_6 l0_6.length l0_6) (hc0_6 : l0_6.length ≤ c0_6) (hM : NW.MaxOk w) (h : sacristanlaw18_SweepKeeps.f k a0_0 a0_1 a0_2 l0_3 a0_4 l0_5 l0_6 a0_7 a0_8 a0_9 = some r) :
    Calls Try.prog 5 #[.agg #[.int .i64 a0_0, .int .i64 a0_1, .int .i64 a0_2, .slice A0_3 l0_3.length c0_3, .int .i64 a0_4, .slice A0_5 l0_5.length c0_5, .slice A0_6 l0_6.length c0_6, .int .i64 a0_7, .int .i64 a0_8, .int .i64 a0_9]] w fun e w' => e = .returned (.bool r) ∧ Below w.heap.size w w' := by
  have hu25 := Try.underlying25
  have hu29 := Try.underlying29
  have hu39 := Try.underlying39
  have HR0_3 := Aside0.mk hr0_3
  have HC0_3 := Aside0.mk hc0_3
  clear hr0_3 hc0_3
  have HR0_5 := Aside0.mk hr0_5
  have HC0_5 := Aside0.mk hc0_5
  clear hr0_5 hc0_5
  have HR0_6 := Aside0.mk hr0_6
  have HC0_6 := Aside0.mk hc0_6
  clear hr0_6 hc0_6
  have HB := Aside0.mk (Below.refl w.heap.size w)
  have HMX := Aside0.mk hM
  clear hM
  have H : ((sacristanref15_Great.f k a0_0 a0_1 a0_2 l0_3 a0_4 l0_5 l0_6 a0_7 a0_8 a0_9 ([] : List (S37)) ([] : List (S37)) ([] : List (S37)) ([] : List (S54))).bind fun t460 => (if t460 = true then ((sacristanlaw18_awake.f).bind fun t461 => (some t461)) else ((sweep_Sweep.f a0_0 a0_1 a0_2 l0_3 a0_4 l0_5 l0_6 a0_7 a0_8 a0_9).bind fun bt462 => (sacristanlaw18_SweepKeeps.l0 k 0 0 a0_0 a0_1 a0_2 l0_3 a0_4 l0_5 l0_6 a0_7 a0_8 a0_9 bt462.1 bt462.2.1 bt462.2.2.1 bt462.2.2.2.1 bt462.2.2.2.2.1 bt462.2.2.2.2.2.1 bt462.2.2.2.2.2.2.1 bt462.2.2.2.2.2.2.2.1 bt462.2.2.2.2.2.2.2.2.1 bt462.2.2.2.2.2.2.2.2.2)))) = some r := h
  clear h
  replace H := Option.bind_eq_some_iff.mp H
  obtain ⟨t460, A20, H⟩ := H
  (try dsimp only at H)
  have A2 := Aside0.mk A20
  clear A20
  by_cases c3 : t460 = true
  · subst c3
    have H1 : ((sacristanlaw18_awake.f).bind fun t461 => (some t461)) = some r := by rw [if_pos rfl] at H; exact H
    clear H
    have H := H1
    clear H1
    replace H := Option.bind_eq_some_iff.mp H
    obtain ⟨t461, A40, H⟩ := H
    replace H : (some t461) = some r := H
    have A4 := Aside0.mk A40
    clear A40
    obtain rfl := Option.some.inj H
    go_enter Try.func5, Try.ntmps5
    go_wp2_with (first | ((with_reducible refine gate_dst (N := 1) rfl ?_); refine box_event ?hg (N := 1) ?hd (cs := #[.int .i64 a0_0, .int .i64 a0_1, .int .i64 a0_2, .slice A0_3 l0_3.length c0_3, .int .i64 a0_4, .slice A0_5 l0_5.length c0_5, .slice A0_6 l0_6.length c0_6, .int .i64 a0_7, .int .i64 a0_8, .int .i64 a0_9]) (t := 25) ?hr ?_; (case hd => rfl); (case hg => rfl); (case hr => first | (go_simp; done) | (go_simp; rfl)); intro gb459 hg w5 hbox hb; have n0_ := Aside0.mk (below_step (by repeat (first | (with_reducible first | exact HB.out | apply below_alloc | apply pw_below_drewN | apply below_drew1) | exact HB.out)) hb); have n1_ := Aside0.mk (hbox); have n2_ := Aside0.mk ((by rw [hg]; exact (below_size (by repeat (first | (with_reducible first | exact HB.out | apply below_alloc | apply pw_below_drewN | apply below_drew1) | exact HB.out))) : w.heap.size ≤ gb459)); have n3_ := Aside0.mk ((by rw [hg]; exact (below_size (by repeat (first | (with_reducible first | exact HB.out | apply below_alloc | apply pw_below_drewN | apply below_drew1) | exact HB.out))) : w.heap.size ≤ gb459)); clear HB; have HB := n0_; have BK459 := n1_; have GW459 := n2_; have GE459 := n3_; clear n0_ n1_ n2_ n3_; clear hb hbox hg; have hcz6_0 : w5.cell? ⟨gb459, 0, none⟩ = some (.int .i64 a0_0) := (blk_cell BK459.out 0).trans rfl; have hcz6_1 : w5.cell? ⟨gb459, 1, none⟩ = some (.int .i64 a0_1) := (blk_cell BK459.out 1).trans rfl; have hcz6_2 : w5.cell? ⟨gb459, 2, none⟩ = some (.int .i64 a0_2) := (blk_cell BK459.out 2).trans rfl; have hcz6_3 : w5.cell? ⟨gb459, 3, none⟩ = some (.slice A0_3 l0_3.length c0_3) := (blk_cell BK459.out 3).trans rfl; have hcz6_4 : w5.cell? ⟨gb459, 4, none⟩ = some (.int .i64 a0_4) := (blk_cell BK459.out 4).trans rfl; have hcz6_5 : w5.cell? ⟨gb459, 5, none⟩ = some (.slice A0_5 l0_5.length c0_5) := (blk_cell BK459.out 5).trans rfl; have hcz6_6 : w5.cell? ⟨gb459, 6, none⟩ = some (.slice A0_6 l0_6.length c0_6) := (blk_cell BK459.out 6).trans rfl; have hcz6_7 : w5.cell? ⟨gb459, 7, none⟩ = some (.int .i64 a0_7) := (blk_cell BK459.out 7).trans rfl; have hcz6_8 : w5.cell? ⟨gb459, 8, none⟩ = some (.int .i64 a0_8) := (blk_cell BK459.out 8).trans rfl; have hcz6_9 : w5.cell? ⟨gb459, 9, none⟩ = some (.int .i64 a0_9) := (blk_cell BK459.out 9).trans rfl; have hfz6_0 := blk_frozen BK459.out 0; have hfz6_1 := blk_frozen BK459.out 1; have hfz6_2 := blk_frozen BK459.out 2; have hfz6_3 := blk_frozen BK459.out 3; have hfz6_4 := blk_frozen BK459.out 4; have hfz6_5 := blk_frozen BK459.out 5; have hfz6_6 := blk_frozen BK459.out 6; have hfz6_7 := blk_frozen BK459.out 7; have hfz6_8 := blk_frozen BK459.out 8; have hfz6_9 := blk_frozen BK459.out 9) | (go_at_call 14; (refine (sacristanref15_Great.calls k a0_0 a0_1 a0_2 _ _ l0_3 a0_4 _ _ l0_5 _ _ l0_6 a0_7 a0_8 a0_9 _ _ ([] : List (S37)) _ _ ([] : List (S37)) _ _ ([] : List (S37)) _ _ ([] : List (S54)) true _ ?side1 ?side2 ?side3 ?side4 ?side5 ?side6 ?side7 ?side8 ?side9 ?side10 ?side11 ?side12 ?side13 ?side14 A2.out).mono ?_); (case side1 => repeat (first | exact (Kd.C_below HR0_3.out HB.out) | (with_reducible refine Kd.C_alloc ?_ _) | (with_reducible refine Kd.C_drewN ?_ _) | (with_reducible refine Kd.C_drew ?_))); (case side2 => exact HC0_3.out); (case side3 => repeat (first | exact (Kd.C_below HR0_5.out HB.out) | (with_reducible refine Kd.C_alloc ?_ _) | (with_reducible refine Kd.C_drewN ?_ _) | (with_reducible refine Kd.C_drew ?_))); (case side4 => exact HC0_5.out); (case side5 => repeat (first | exact (Kd.C_below HR0_6.out HB.out) | (with_reducible refine Kd.C_alloc ?_ _) | (with_reducible refine Kd.C_drewN ?_ _) | (with_reducible refine Kd.C_drew ?_))); (case side6 => exact HC0_6.out); (case side7 => exact Kd.C_nil _ _); (case side8 => exact Nat.le_refl _); (case side9 => exact Kd.C_nil _ _); (case side10 => exact Nat.le_refl _); (case side11 => exact Kd.C_nil _ _); (case side12 => exact Nat.le_refl _); (case side13 => exact Kd.C_nil _ _); (case side14 => exact Nat.le_refl _); rintro e w7 ⟨rfl, hb⟩; have n0_ := Aside0.mk (blk_below (g := gb459) (o := .cells #[.int .i64 a0_0, .int .i64 a0_1, .int .i64 a0_2, .slice A0_3 l0_3.length c0_3, .int .i64 a0_4, .slice A0_5 l0_5.length c0_5, .slice A0_6 l0_6.length c0_6, .int .i64 a0_7, .int .i64 a0_8, .int .i64 a0_9] 25 (0, 0)) (by (with_reducible repeat (first | refine blk_drewN ?_ _ | refine blk_drew ?_ | refine blk_alloc ?_ _)); exact BK459.out) hb); have n1_ := Aside0.mk (below_step (by repeat (first | (with_reducible first | exact HB.out | apply below_alloc | apply pw_below_drewN | apply below_drew1 | refine below_set ?_ GE459.out) | exact HB.out)) hb); clear BK459; clear HB; have BK459 := n0_; have HB := n1_; clear n0_ n1_; (try clear hb); (try clear hb2); (try clear hk); (try clear hi)) | (go_at_call 21; (with_reducible refine (sacristanlaw18_awake.calls  t461 _ ?side1 A4.out).mono ?_); (case side1 => exact NW.MaxOk.below HMX.out (by repeat (first | (with_reducible first | exact HB.out | apply below_alloc | apply pw_below_drewN | apply below_drew1 | refine below_set ?_ GE459.out) | exact HB.out))); rintro e w8 ⟨rfl, hb⟩; have n0_ := Aside0.mk (blk_below (g := gb459) (o := .cells #[.int .i64 a0_0, .int .i64 a0_1, .int .i64 a0_2, .slice A0_3 l0_3.length c0_3, .int .i64 a0_4, .slice A0_5 l0_5.length c0_5, .slice A0_6 l0_6.length c0_6, .int .i64 a0_7, .int .i64 a0_8, .int .i64 a0_9] 25 (0, 0)) (by (with_reducible repeat (first | refine blk_drewN ?_ _ | refine blk_drew ?_ | refine blk_alloc ?_ _)); exact BK459.out) hb); have n1_ := Aside0.mk (below_step (by repeat (first | (with_reducible first | exact HB.out | apply below_alloc | apply pw_below_drewN | apply below_drew1 | refine below_set ?_ GE459.out) | exact HB.out)) hb); clear BK459; clear HB; have BK459 := n0_; have HB := n1_; clear n0_ n1_; (try clear hb); (try clear hb2); (try clear hk); (try clear hi)))
    repeat (go_quiet (first | ((with_reducible refine gate_dst (N := 1) rfl ?_); refine box_event ?hg (N := 1) ?hd (cs := #[.int .i64 a0_0, .int .i64 a0_1, .int .i64 a0_2, .slice A0_3 l0_3.length c0_3, .int .i64 a0_4, .slice A0_5 l0_5.length c0_5, .slice A0_6 l0_6.length c0_6, .int .i64 a0_7, .int .i64 a0_8, .int .i64 a0_9]) (t := 25) ?hr ?_; (case hd => rfl); (case hg => rfl); (case hr => first | (go_simp; done) | (go_simp; rfl)); intro gb459 hg w5 hbox hb; have n0_ := Aside0.mk (below_step (by repeat (first | (with_reducible first | exact HB.out | apply below_alloc | apply pw_below_drewN | apply below_drew1) | exact HB.out)) hb); have n1_ := Aside0.mk (hbox); have n2_ := Aside0.mk ((by rw [hg]; exact (below_size (by repeat (first | (with_reducible first | exact HB.out | apply below_alloc | apply pw_below_drewN | apply below_drew1) | exact HB.out))) : w.heap.size ≤ gb459)); have n3_ := Aside0.mk ((by rw [hg]; exact (below_size (by repeat (first | (with_reducible first | exact HB.out | apply below_alloc | apply pw_below_drewN | apply below_drew1) | exact HB.out))) : w.heap.size ≤ gb459)); clear HB; have HB := n0_; have BK459 := n1_; have GW459 := n2_; have GE459 := n3_; clear n0_ n1_ n2_ n3_; clear hb hbox hg; have hcz6_0 : w5.cell? ⟨gb459, 0, none⟩ = some (.int .i64 a0_0) := (blk_cell BK459.out 0).trans rfl; have hcz6_1 : w5.cell? ⟨gb459, 1, none⟩ = some (.int .i64 a0_1) := (blk_cell BK459.out 1).trans rfl; have hcz6_2 : w5.cell? ⟨gb459, 2, none⟩ = some (.int .i64 a0_2) := (blk_cell BK459.out 2).trans rfl; have hcz6_3 : w5.cell? ⟨gb459, 3, none⟩ = some (.slice A0_3 l0_3.length c0_3) := (blk_cell BK459.out 3).trans rfl; have hcz6_4 : w5.cell? ⟨gb459, 4, none⟩ = some (.int .i64 a0_4) := (blk_cell BK459.out 4).trans rfl; have hcz6_5 : w5.cell? ⟨gb459, 5, none⟩ = some (.slice A0_5 l0_5.length c0_5) := (blk_cell BK459.out 5).trans rfl; have hcz6_6 : w5.cell? ⟨gb459, 6, none⟩ = some (.slice A0_6 l0_6.length c0_6) := (blk_cell BK459.out 6).trans rfl; have hcz6_7 : w5.cell? ⟨gb459, 7, none⟩ = some (.int .i64 a0_7) := (blk_cell BK459.out 7).trans rfl; have hcz6_8 : w5.cell? ⟨gb459, 8, none⟩ = some (.int .i64 a0_8) := (blk_cell BK459.out 8).trans rfl; have hcz6_9 : w5.cell? ⟨gb459, 9, none⟩ = some (.int .i64 a0_9) := (blk_cell BK459.out 9).trans rfl; have hfz6_0 := blk_frozen BK459.out 0; have hfz6_1 := blk_frozen BK459.out 1; have hfz6_2 := blk_frozen BK459.out 2; have hfz6_3 := blk_frozen BK459.out 3; have hfz6_4 := blk_frozen BK459.out 4; have hfz6_5 := blk_frozen BK459.out 5; have hfz6_6 := blk_frozen BK459.out 6; have hfz6_7 := blk_frozen BK459.out 7; have hfz6_8 := blk_frozen BK459.out 8; have hfz6_9 := blk_frozen BK459.out 9) | (go_at_call 14; (refine (sacristanref15_Great.calls k a0_0 a0_1 a0_2 _ _ l0_3 a0_4 _ _ l0_5 _ _ l0_6 a0_7 a0_8 a0_9 _ _ ([] : List (S37)) _ _ ([] : List (S37)) _ _ ([] : List (S37)) _ _ ([] : List (S54)) true _ ?side1 ?side2 ?side3 ?side4 ?side5 ?side6 ?side7 ?side8 ?side9 ?side10 ?side11 ?side12 ?side13 ?side14 A2.out).mono ?_); (case side1 => repeat (first | exact (Kd.C_below HR0_3.out HB.out) | (with_reducible refine Kd.C_alloc ?_ _) | (with_reducible refine Kd.C_drewN ?_ _) | (with_reducible refine Kd.C_drew ?_))); (case side2 => exact HC0_3.out); (case side3 => repeat (first | exact (Kd.C_below HR0_5.out HB.out) | (with_reducible refine Kd.C_alloc ?_ _) | (with_reducible refine Kd.C_drewN ?_ _) | (with_reducible refine Kd.C_drew ?_))); (case side4 => exact HC0_5.out); (case side5 => repeat (first | exact (Kd.C_below HR0_6.out HB.out) | (with_reducible refine Kd.C_alloc ?_ _) | (with_reducible refine Kd.C_drewN ?_ _) | (with_reducible refine Kd.C_drew ?_))); (case side6 => exact HC0_6.out); (case side7 => exact Kd.C_nil _ _); (case side8 => exact Nat.le_refl _); (case side9 => exact Kd.C_nil _ _); (case side10 => exact Nat.le_refl _); (case side11 => exact Kd.C_nil _ _); (case side12 => exact Nat.le_refl _); (case side13 => exact Kd.C_nil _ _); (case side14 => exact Nat.le_refl _); rintro e w7 ⟨rfl, hb⟩; have n0_ := Aside0.mk (blk_below (g := gb459) (o := .cells #[.int .i64 a0_0, .int .i64 a0_1, .int .i64 a0_2, .slice A0_3 l0_3.length c0_3, .int .i64 a0_4, .slice A0_5 l0_5.length c0_5, .slice A0_6 l0_6.length c0_6, .int .i64 a0_7, .int .i64 a0_8, .int .i64 a0_9] 25 (0, 0)) (by (with_reducible repeat (first | refine blk_drewN ?_ _ | refine blk_drew ?_ | refine blk_alloc ?_ _)); exact BK459.out) hb); have n1_ := Aside0.mk (below_step (by repeat (first | (with_reducible first | exact HB.out | apply below_alloc | apply pw_below_drewN | apply below_drew1 | refine below_set ?_ GE459.out) | exact HB.out)) hb); clear BK459; clear HB; have BK459 := n0_; have HB := n1_; clear n0_ n1_; (try clear hb); (try clear hb2); (try clear hk); (try clear hi)) | (go_at_call 21; (with_reducible refine (sacristanlaw18_awake.calls  t461 _ ?side1 A4.out).mono ?_); (case side1 => exact NW.MaxOk.below HMX.out (by repeat (first | (with_reducible first | exact HB.out | apply below_alloc | apply pw_below_drewN | apply below_drew1 | refine below_set ?_ GE459.out) | exact HB.out))); rintro e w8 ⟨rfl, hb⟩; have n0_ := Aside0.mk (blk_below (g := gb459) (o := .cells #[.int .i64 a0_0, .int .i64 a0_1, .int .i64 a0_2, .slice A0_3 l0_3.length c0_3, .int .i64 a0_4, .slice A0_5 l0_5.length c0_5, .slice A0_6 l0_6.length c0_6, .int .i64 a0_7, .int .i64 a0_8, .int .i64 a0_9] 25 (0, 0)) (by (with_reducible repeat (first | refine blk_drewN ?_ _ | refine blk_drew ?_ | refine blk_alloc ?_ _)); exact BK459.out) hb); have n1_ := Aside0.mk (below_step (by repeat (first | (with_reducible first | exact HB.out | apply below_alloc | apply pw_below_drewN | apply below_drew1 | refine below_set ?_ GE459.out) | exact HB.out)) hb); clear BK459; clear HB; have BK459 := n0_; have HB := n1_; clear n0_ n1_; (try clear hb); (try clear hb2); (try clear hk); (try clear hi))); try go_wp2_with (first | ((with_reducible refine gate_dst (N := 1) rfl ?_); refine box_event ?hg (N := 1) ?hd (cs := #[.int .i64 a0_0, .int .i64 a0_1, .int .i64 a0_2, .slice A0_3 l0_3.length c0_3, .int .i64 a0_4, .slice A0_5 l0_5.length c0_5, .slice A0_6 l0_6.length c0_6, .int .i64 a0_7, .int .i64 a0_8, .int .i64 a0_9]) (t := 25) ?hr ?_; (case hd => rfl); (case hg => rfl); (case hr => first | (go_simp; done) | (go_simp; rfl)); intro gb459 hg w5 hbox hb; have n0_ := Aside0.mk (below_step (by repeat (first | (with_reducible first | exact HB.out | apply below_alloc | apply pw_below_drewN | apply below_drew1) | exact HB.out)) hb); have n1_ := Aside0.mk (hbox); have n2_ := Aside0.mk ((by rw [hg]; exact (below_size (by repeat (first | (with_reducible first | exact HB.out | apply below_alloc | apply pw_below_drewN | apply below_drew1) | exact HB.out))) : w.heap.size ≤ gb459)); have n3_ := Aside0.mk ((by rw [hg]; exact (below_size (by repeat (first | (with_reducible first | exact HB.out | apply below_alloc | apply pw_below_drewN | apply below_drew1) | exact HB.out))) : w.heap.size ≤ gb459)); clear HB; have HB := n0_; have BK459 := n1_; have GW459 := n2_; have GE459 := n3_; clear n0_ n1_ n2_ n3_; clear hb hbox hg; have hcz6_0 : w5.cell? ⟨gb459, 0, none⟩ = some (.int .i64 a0_0) := (blk_cell BK459.out 0).trans rfl; have hcz6_1 : w5.cell? ⟨gb459, 1, none⟩ = some (.int .i64 a0_1) := (blk_cell BK459.out 1).trans rfl; have hcz6_2 : w5.cell? ⟨gb459, 2, none⟩ = some (.int .i64 a0_2) := (blk_cell BK459.out 2).trans rfl; have hcz6_3 : w5.cell? ⟨gb459, 3, none⟩ = some (.slice A0_3 l0_3.length c0_3) := (blk_cell BK459.out 3).trans rfl; have hcz6_4 : w5.cell? ⟨gb459, 4, none⟩ = some (.int .i64 a0_4) := (blk_cell BK459.out 4).trans rfl; have hcz6_5 : w5.cell? ⟨gb459, 5, none⟩ = some (.slice A0_5 l0_5.length c0_5) := (blk_cell BK459.out 5).trans rfl; have hcz6_6 : w5.cell? ⟨gb459, 6, none⟩ = some (.slice A0_6 l0_6.length c0_6) := (blk_cell BK459.out 6).trans rfl; have hcz6_7 : w5.cell? ⟨gb459, 7, none⟩ = some (.int .i64 a0_7) := (blk_cell BK459.out 7).trans rfl; have hcz6_8 : w5.cell? ⟨gb459, 8, none⟩ = some (.int .i64 a0_8) := (blk_cell BK459.out 8).trans rfl; have hcz6_9 : w5.cell? ⟨gb459, 9, none⟩ = some (.int .i64 a0_9) := (blk_cell BK459.out 9).trans rfl; have hfz6_0 := blk_frozen BK459.out 0; have hfz6_1 := blk_frozen BK459.out 1; have hfz6_2 := blk_frozen BK459.out 2; have hfz6_3 := blk_frozen BK459.out 3; have hfz6_4 := blk_frozen BK459.out 4; have hfz6_5 := blk_frozen BK459.out 5; have hfz6_6 := blk_frozen BK459.out 6; have hfz6_7 := blk_frozen BK459.out 7; have hfz6_8 := blk_frozen BK459.out 8; have hfz6_9 := blk_frozen BK459.out 9) | (go_at_call 14; (refine (sacristanref15_Great.calls k a0_0 a0_1 a0_2 _ _ l0_3 a0_4 _ _ l0_5 _ _ l0_6 a0_7 a0_8 a0_9 _ _ ([] : List (S37)) _ _ ([] : List (S37)) _ _ ([] : List (S37)) _ _ ([] : List (S54)) true _ ?side1 ?side2 ?side3 ?side4 ?side5 ?side6 ?side7 ?side8 ?side9 ?side10 ?side11 ?side12 ?side13 ?side14 A2.out).mono ?_); (case side1 => repeat (first | exact (Kd.C_below HR0_3.out HB.out) | (with_reducible refine Kd.C_alloc ?_ _) | (with_reducible refine Kd.C_drewN ?_ _) | (with_reducible refine Kd.C_drew ?_))); (case side2 => exact HC0_3.out); (case side3 => repeat (first | exact (Kd.C_below HR0_5.out HB.out) | (with_reducible refine Kd.C_alloc ?_ _) | (with_reducible refine Kd.C_drewN ?_ _) | (with_reducible refine Kd.C_drew ?_))); (case side4 => exact HC0_5.out); (case side5 => repeat (first | exact (Kd.C_below HR0_6.out HB.out) | (with_reducible refine Kd.C_alloc ?_ _) | (with_reducible refine Kd.C_drewN ?_ _) | (with_reducible refine Kd.C_drew ?_))); (case side6 => exact HC0_6.out); (case side7 => exact Kd.C_nil _ _); (case side8 => exact Nat.le_refl _); (case side9 => exact Kd.C_nil _ _); (case side10 => exact Nat.le_refl _); (case side11 => exact Kd.C_nil _ _); (case side12 => exact Nat.le_refl _); (case side13 => exact Kd.C_nil _ _); (case side14 => exact Nat.le_refl _); rintro e w7 ⟨rfl, hb⟩; have n0_ := Aside0.mk (blk_below (g := gb459) (o := .cells #[.int .i64 a0_0, .int .i64 a0_1, .int .i64 a0_2, .slice A0_3 l0_3.length c0_3, .int .i64 a0_4, .slice A0_5 l0_5.length c0_5, .slice A0_6 l0_6.length c0_6, .int .i64 a0_7, .int .i64 a0_8, .int .i64 a0_9] 25 (0, 0)) (by (with_reducible repeat (first | refine blk_drewN ?_ _ | refine blk_drew ?_ | refine blk_alloc ?_ _)); exact BK459.out) hb); have n1_ := Aside0.mk (below_step (by repeat (first | (with_reducible first | exact HB.out | apply below_alloc | apply pw_below_drewN | apply below_drew1 | refine below_set ?_ GE459.out) | exact HB.out)) hb); clear BK459; clear HB; have BK459 := n0_; have HB := n1_; clear n0_ n1_; (try clear hb); (try clear hb2); (try clear hk); (try clear hi)) | (go_at_call 21; (with_reducible refine (sacristanlaw18_awake.calls  t461 _ ?side1 A4.out).mono ?_); (case side1 => exact NW.MaxOk.below HMX.out (by repeat (first | (with_reducible first | exact HB.out | apply below_alloc | apply pw_below_drewN | apply below_drew1 | refine below_set ?_ GE459.out) | exact HB.out))); rintro e w8 ⟨rfl, hb⟩; have n0_ := Aside0.mk (blk_below (g := gb459) (o := .cells #[.int .i64 a0_0, .int .i64 a0_1, .int .i64 a0_2, .slice A0_3 l0_3.length c0_3, .int .i64 a0_4, .slice A0_5 l0_5.length c0_5, .slice A0_6 l0_6.length c0_6, .int .i64 a0_7, .int .i64 a0_8, .int .i64 a0_9] 25 (0, 0)) (by (with_reducible repeat (first | refine blk_drewN ?_ _ | refine blk_drew ?_ | refine blk_alloc ?_ _)); exact BK459.out) hb); have n1_ := Aside0.mk (below_step (by repeat (first | (with_reducible first | exact HB.out | apply below_alloc | apply pw_below_drewN | apply below_drew1 | refine below_set ?_ GE459.out) | exact HB.out)) hb); clear BK459; clear HB; have BK459 := n0_; have HB := n1_; clear n0_ n1_; (try clear hb); (try clear hb2); (try clear hk); (try clear hi))))
    go_ret
    exact ⟨by first | rfl | (simp [errW_none, errW_some] <;> rfl) | (simp [*, errW_none, errW_some] <;> rfl), by repeat (first | (with_reducible first | exact HB.out | apply below_alloc | apply pw_below_drewN | apply below_drew1 | refine below_set ?_ GE459.out) | exact HB.out)⟩
  · replace c3 := Bool.eq_false_iff.mpr c3
    subst c3
    have H1 : ((sweep_Sweep.f a0_0 a0_1 a0_2 l0_3 a0_4 l0_5 l0_6 a0_7 a0_8 a0_9).bind fun bt462 => (sacristanlaw18_SweepKeeps.l0 k 0 0 a0_0 a0_1 a0_2 l0_3 a0_4 l0_5 l0_6 a0_7 a0_8 a0_9 bt462.1 bt462.2.1 bt462.2.2.1 bt462.2.2.2.1 bt462.2.2.2.2.1 bt462.2.2.2.2.2.1 bt462.2.2.2.2.2.2.1 bt462.2.2.2.2.2.2.2.1 bt462.2.2.2.2.2.2.2.2.1 bt462.2.2.2.2.2.2.2.2.2)) = some r := by rw [if_neg (show ¬ (false = true) by decide)] at H; exact H
    clear H
    have H := H1
    clear H1
    replace H := Option.bind_eq_some_iff.mp H
    obtain ⟨⟨t462, t463, t464, t465, t468, t469, t472, t475, t476, t477⟩, A90, H⟩ := H
    (try dsimp only at H)
    have A9 := Aside0.mk A90
    clear A90
    have H' := Aside0.mk H
    clear H
    go_enter Try.func5, Try.ntmps5
    go_wp2_with (first | ((with_reducible refine gate_dst (N := 1) rfl ?_); refine box_event ?hg (N := 1) ?hd (cs := #[.int .i64 a0_0, .int .i64 a0_1, .int .i64 a0_2, .slice A0_3 l0_3.length c0_3, .int .i64 a0_4, .slice A0_5 l0_5.length c0_5, .slice A0_6 l0_6.length c0_6, .int .i64 a0_7, .int .i64 a0_8, .int .i64 a0_9]) (t := 25) ?hr ?_; (case hd => rfl); (case hg => rfl); (case hr => first | (go_simp; done) | (go_simp; rfl)); intro gb459 hg w10 hbox hb; have n0_ := Aside0.mk (below_step (by repeat (first | (with_reducible first | exact HB.out | apply below_alloc | apply pw_below_drewN | apply below_drew1) | exact HB.out)) hb); have n1_ := Aside0.mk (hbox); have n2_ := Aside0.mk ((by rw [hg]; exact (below_size (by repeat (first | (with_reducible first | exact HB.out | apply below_alloc | apply pw_below_drewN | apply below_drew1) | exact HB.out))) : w.heap.size ≤ gb459)); have n3_ := Aside0.mk ((by rw [hg]; exact (below_size (by repeat (first | (with_reducible first | exact HB.out | apply below_alloc | apply pw_below_drewN | apply below_drew1) | exact HB.out))) : w.heap.size ≤ gb459)); clear HB; have HB := n0_; have BK459 := n1_; have GW459 := n2_; have GE459 := n3_; clear n0_ n1_ n2_ n3_; clear hb hbox hg; have hcz11_0 : w10.cell? ⟨gb459, 0, none⟩ = some (.int .i64 a0_0) := (blk_cell BK459.out 0).trans rfl; have hcz11_1 : w10.cell? ⟨gb459, 1, none⟩ = some (.int .i64 a0_1) := (blk_cell BK459.out 1).trans rfl; have hcz11_2 : w10.cell? ⟨gb459, 2, none⟩ = some (.int .i64 a0_2) := (blk_cell BK459.out 2).trans rfl; have hcz11_3 : w10.cell? ⟨gb459, 3, none⟩ = some (.slice A0_3 l0_3.length c0_3) := (blk_cell BK459.out 3).trans rfl; have hcz11_4 : w10.cell? ⟨gb459, 4, none⟩ = some (.int .i64 a0_4) := (blk_cell BK459.out 4).trans rfl; have hcz11_5 : w10.cell? ⟨gb459, 5, none⟩ = some (.slice A0_5 l0_5.length c0_5) := (blk_cell BK459.out 5).trans rfl; have hcz11_6 : w10.cell? ⟨gb459, 6, none⟩ = some (.slice A0_6 l0_6.length c0_6) := (blk_cell BK459.out 6).trans rfl; have hcz11_7 : w10.cell? ⟨gb459, 7, none⟩ = some (.int .i64 a0_7) := (blk_cell BK459.out 7).trans rfl; have hcz11_8 : w10.cell? ⟨gb459, 8, none⟩ = some (.int .i64 a0_8) := (blk_cell BK459.out 8).trans rfl; have hcz11_9 : w10.cell? ⟨gb459, 9, none⟩ = some (.int .i64 a0_9) := (blk_cell BK459.out 9).trans rfl; have hfz11_0 := blk_frozen BK459.out 0; have hfz11_1 := blk_frozen BK459.out 1; have hfz11_2 := blk_frozen BK459.out 2; have hfz11_3 := blk_frozen BK459.out 3; have hfz11_4 := blk_frozen BK459.out 4; have hfz11_5 := blk_frozen BK459.out 5; have hfz11_6 := blk_frozen BK459.out 6; have hfz11_7 := blk_frozen BK459.out 7; have hfz11_8 := blk_frozen BK459.out 8; have hfz11_9 := blk_frozen BK459.out 9) | (go_at_call 14; (refine (sacristanref15_Great.calls k a0_0 a0_1 a0_2 _ _ l0_3 a0_4 _ _ l0_5 _ _ l0_6 a0_7 a0_8 a0_9 _ _ ([] : List (S37)) _ _ ([] : List (S37)) _ _ ([] : List (S37)) _ _ ([] : List (S54)) false _ ?side1 ?side2 ?side3 ?side4 ?side5 ?side6 ?side7 ?side8 ?side9 ?side10 ?side11 ?side12 ?side13 ?side14 A2.out).mono ?_); (case side1 => repeat (first | exact (Kd.C_below HR0_3.out HB.out) | (with_reducible refine Kd.C_alloc ?_ _) | (with_reducible refine Kd.C_drewN ?_ _) | (with_reducible refine Kd.C_drew ?_))); (case side2 => exact HC0_3.out); (case side3 => repeat (first | exact (Kd.C_below HR0_5.out HB.out) | (with_reducible refine Kd.C_alloc ?_ _) | (with_reducible refine Kd.C_drewN ?_ _) | (with_reducible refine Kd.C_drew ?_))); (case side4 => exact HC0_5.out); (case side5 => repeat (first | exact (Kd.C_below HR0_6.out HB.out) | (with_reducible refine Kd.C_alloc ?_ _) | (with_reducible refine Kd.C_drewN ?_ _) | (with_reducible refine Kd.C_drew ?_))); (case side6 => exact HC0_6.out); (case side7 => exact Kd.C_nil _ _); (case side8 => exact Nat.le_refl _); (case side9 => exact Kd.C_nil _ _); (case side10 => exact Nat.le_refl _); (case side11 => exact Kd.C_nil _ _); (case side12 => exact Nat.le_refl _); (case side13 => exact Kd.C_nil _ _); (case side14 => exact Nat.le_refl _); rintro e w12 ⟨rfl, hb⟩; have n0_ := Aside0.mk (blk_below (g := gb459) (o := .cells #[.int .i64 a0_0, .int .i64 a0_1, .int .i64 a0_2, .slice A0_3 l0_3.length c0_3, .int .i64 a0_4, .slice A0_5 l0_5.length c0_5, .slice A0_6 l0_6.length c0_6, .int .i64 a0_7, .int .i64 a0_8, .int .i64 a0_9] 25 (0, 0)) (by (with_reducible repeat (first | refine blk_drewN ?_ _ | refine blk_drew ?_ | refine blk_alloc ?_ _)); exact BK459.out) hb); have n1_ := Aside0.mk (below_step (by repeat (first | (with_reducible first | exact HB.out | apply below_alloc | apply pw_below_drewN | apply below_drew1 | refine below_set ?_ GE459.out) | exact HB.out)) hb); clear BK459; clear HB; have BK459 := n0_; have HB := n1_; clear n0_ n1_; (try clear hb); (try clear hb2); (try clear hk); (try clear hi); have hcz13_0 : w12.cell? ⟨gb459, 0, none⟩ = some (.int .i64 a0_0) := (blk_cell BK459.out 0).trans rfl; have hcz13_1 : w12.cell? ⟨gb459, 1, none⟩ = some (.int .i64 a0_1) := (blk_cell BK459.out 1).trans rfl; have hcz13_2 : w12.cell? ⟨gb459, 2, none⟩ = some (.int .i64 a0_2) := (blk_cell BK459.out 2).trans rfl; have hcz13_3 : w12.cell? ⟨gb459, 3, none⟩ = some (.slice A0_3 l0_3.length c0_3) := (blk_cell BK459.out 3).trans rfl; have hcz13_4 : w12.cell? ⟨gb459, 4, none⟩ = some (.int .i64 a0_4) := (blk_cell BK459.out 4).trans rfl; have hcz13_5 : w12.cell? ⟨gb459, 5, none⟩ = some (.slice A0_5 l0_5.length c0_5) := (blk_cell BK459.out 5).trans rfl; have hcz13_6 : w12.cell? ⟨gb459, 6, none⟩ = some (.slice A0_6 l0_6.length c0_6) := (blk_cell BK459.out 6).trans rfl; have hcz13_7 : w12.cell? ⟨gb459, 7, none⟩ = some (.int .i64 a0_7) := (blk_cell BK459.out 7).trans rfl; have hcz13_8 : w12.cell? ⟨gb459, 8, none⟩ = some (.int .i64 a0_8) := (blk_cell BK459.out 8).trans rfl; have hcz13_9 : w12.cell? ⟨gb459, 9, none⟩ = some (.int .i64 a0_9) := (blk_cell BK459.out 9).trans rfl; have hfz13_0 := blk_frozen BK459.out 0; have hfz13_1 := blk_frozen BK459.out 1; have hfz13_2 := blk_frozen BK459.out 2; have hfz13_3 := blk_frozen BK459.out 3; have hfz13_4 := blk_frozen BK459.out 4; have hfz13_5 := blk_frozen BK459.out 5; have hfz13_6 := blk_frozen BK459.out 6; have hfz13_7 := blk_frozen BK459.out 7; have hfz13_8 := blk_frozen BK459.out 8; have hfz13_9 := blk_frozen BK459.out 9) | (go_at_call 22; (with_reducible refine (sweep_Sweep.calls a0_0 a0_1 a0_2 _ _ l0_3 a0_4 _ _ l0_5 _ _ l0_6 a0_7 a0_8 a0_9 t462 t463 t464 t465 t468 t469 t472 t475 t476 t477 _ ?side1 ?side2 ?side3 ?side4 ?side5 ?side6 ?side7 A9.out).mono ?_); (case side1 => repeat (first | exact (Kd.C_below HR0_3.out HB.out) | (with_reducible refine Kd.C_alloc ?_ _) | (with_reducible refine Kd.C_drewN ?_ _) | (with_reducible refine Kd.C_drew ?_))); (case side2 => exact HC0_3.out); (case side3 => repeat (first | exact (Kd.C_below HR0_5.out HB.out) | (with_reducible refine Kd.C_alloc ?_ _) | (with_reducible refine Kd.C_drewN ?_ _) | (with_reducible refine Kd.C_drew ?_))); (case side4 => exact HC0_5.out); (case side5 => repeat (first | exact (Kd.C_below HR0_6.out HB.out) | (with_reducible refine Kd.C_alloc ?_ _) | (with_reducible refine Kd.C_drewN ?_ _) | (with_reducible refine Kd.C_drew ?_))); (case side6 => exact HC0_6.out); (case side7 => exact NW.MaxOk.below HMX.out (by repeat (first | (with_reducible first | exact HB.out | apply below_alloc | apply pw_below_drewN | apply below_drew1 | refine below_set ?_ GE459.out) | exact HB.out))); rintro e w14 ⟨v466, v470, v473, rfl, ho0, ho1, ho2, hb⟩; have n0_ := Aside0.mk (Kd.R_lower ho0 (below_size (by repeat (first | (with_reducible first | exact HB.out | apply below_alloc | apply pw_below_drewN | apply below_drew1 | refine below_set ?_ GE459.out) | exact HB.out)))); have n1_ := Aside0.mk (Kd.R_lower ho1 (below_size (by repeat (first | (with_reducible first | exact HB.out | apply below_alloc | apply pw_below_drewN | apply below_drew1 | refine below_set ?_ GE459.out) | exact HB.out)))); have n2_ := Aside0.mk (Kd.R_lower ho2 (below_size (by repeat (first | (with_reducible first | exact HB.out | apply below_alloc | apply pw_below_drewN | apply below_drew1 | refine below_set ?_ GE459.out) | exact HB.out)))); have n3_ := Aside0.mk (blk_below (g := gb459) (o := .cells #[.int .i64 a0_0, .int .i64 a0_1, .int .i64 a0_2, .slice A0_3 l0_3.length c0_3, .int .i64 a0_4, .slice A0_5 l0_5.length c0_5, .slice A0_6 l0_6.length c0_6, .int .i64 a0_7, .int .i64 a0_8, .int .i64 a0_9] 25 (0, 0)) (by (with_reducible repeat (first | refine blk_drewN ?_ _ | refine blk_drew ?_ | refine blk_alloc ?_ _)); exact BK459.out) hb); have n4_ := Aside0.mk (below_step (by repeat (first | (with_reducible first | exact HB.out | apply below_alloc | apply pw_below_drewN | apply below_drew1 | refine below_set ?_ GE459.out) | exact HB.out)) hb); clear BK459; clear HB; have HO467 := n0_; have HO471 := n1_; have HO474 := n2_; have BK459 := n3_; have HB := n4_; clear n0_ n1_ n2_ n3_ n4_; (try clear hb); (try clear hb2); (try clear hk); (try clear hi); (try clear ho0); (try clear ho1); (try clear ho2)) | ((with_reducible refine gate_dst (N := 3) rfl ?_); refine box_event ?hg (N := 3) ?hd (cs := #[.int .i64 0, .int .i64 0, .int .i64 0, .slice none 0 0, .int .i64 0, .slice none 0 0, .slice none 0 0, .int .i64 0, .int .i64 0, .int .i64 0]) (t := 25) ?hr ?_; (case hd => rfl); (case hg => rfl); (case hr => first | (go_simp; done) | (go_simp; rfl)); intro gb478 hg w15 hbox hb; have n0_ := Aside0.mk (Kd.R_below (by (with_reducible repeat (first | apply Kd.R_alloc | apply Kd.R_drewN | apply Kd.R_drew)); exact HO467.out) hb); have n1_ := Aside0.mk (Kd.R_below (by (with_reducible repeat (first | apply Kd.R_alloc | apply Kd.R_drewN | apply Kd.R_drew)); exact HO471.out) hb); have n2_ := Aside0.mk (Kd.R_below (by (with_reducible repeat (first | apply Kd.R_alloc | apply Kd.R_drewN | apply Kd.R_drew)); exact HO474.out) hb); have n3_ := Aside0.mk (blk_below (g := gb459) (o := .cells #[.int .i64 a0_0, .int .i64 a0_1, .int .i64 a0_2, .slice A0_3 l0_3.length c0_3, .int .i64 a0_4, .slice A0_5 l0_5.length c0_5, .slice A0_6 l0_6.length c0_6, .int .i64 a0_7, .int .i64 a0_8, .int .i64 a0_9] 25 (0, 0)) (by (with_reducible repeat (first | refine blk_drewN ?_ _ | refine blk_drew ?_ | refine blk_alloc ?_ _)); exact BK459.out) hb); have n4_ := Aside0.mk (below_step (by repeat (first | (with_reducible first | exact HB.out | apply below_alloc | apply pw_below_drewN | apply below_drew1 | refine below_set ?_ GE459.out) | exact HB.out)) hb); have n5_ := Aside0.mk (hbox); have n6_ := Aside0.mk ((by rw [hg]; exact (below_size (by repeat (first | (with_reducible first | exact HB.out | apply below_alloc | apply pw_below_drewN | apply below_drew1 | refine below_set ?_ GE459.out) | exact HB.out))) : w.heap.size ≤ gb478)); have n7_ := Aside0.mk ((by rw [hg]; exact (below_size (by repeat (first | (with_reducible first | exact HB.out | apply below_alloc | apply pw_below_drewN | apply below_drew1 | refine below_set ?_ GE459.out) | exact HB.out))) : w.heap.size ≤ gb478)); have n8_ := Aside0.mk ((by rw [hg]; exact Nat.ne_of_lt (blk_lt (g := gb459) (o := .cells #[.int .i64 a0_0, .int .i64 a0_1, .int .i64 a0_2, .slice A0_3 l0_3.length c0_3, .int .i64 a0_4, .slice A0_5 l0_5.length c0_5, .slice A0_6 l0_6.length c0_6, .int .i64 a0_7, .int .i64 a0_8, .int .i64 a0_9] 25 (0, 0)) (by (with_reducible repeat (first | refine blk_drewN ?_ _ | refine blk_drew ?_ | refine blk_alloc ?_ _)); exact BK459.out)) : gb459 ≠ gb478)); have n9_ := Aside0.mk ((by rw [hg]; exact Nat.ne_of_gt (blk_lt (g := gb459) (o := .cells #[.int .i64 a0_0, .int .i64 a0_1, .int .i64 a0_2, .slice A0_3 l0_3.length c0_3, .int .i64 a0_4, .slice A0_5 l0_5.length c0_5, .slice A0_6 l0_6.length c0_6, .int .i64 a0_7, .int .i64 a0_8, .int .i64 a0_9] 25 (0, 0)) (by (with_reducible repeat (first | refine blk_drewN ?_ _ | refine blk_drew ?_ | refine blk_alloc ?_ _)); exact BK459.out)) : gb478 ≠ gb459)); clear HO467; clear HO471; clear HO474; clear BK459; clear HB; have HO467 := n0_; have HO471 := n1_; have HO474 := n2_; have BK459 := n3_; have HB := n4_; have BK478 := n5_; have GW478 := n6_; have GE478 := n7_; have NB459_478 := n8_; have NB478_459 := n9_; clear n0_ n1_ n2_ n3_ n4_ n5_ n6_ n7_ n8_ n9_; clear hb hbox hg; have hnb16 := NB478_459.out; have hnc16 := NB459_478.out; have hcz17_0 : w15.cell? ⟨gb478, 0, none⟩ = some (.int .i64 0) := (blk_cell BK478.out 0).trans rfl; have hcz17_1 : w15.cell? ⟨gb478, 1, none⟩ = some (.int .i64 0) := (blk_cell BK478.out 1).trans rfl; have hcz17_2 : w15.cell? ⟨gb478, 2, none⟩ = some (.int .i64 0) := (blk_cell BK478.out 2).trans rfl; have hcz17_3 : w15.cell? ⟨gb478, 3, none⟩ = some (.slice none 0 0) := (blk_cell BK478.out 3).trans rfl; have hcz17_4 : w15.cell? ⟨gb478, 4, none⟩ = some (.int .i64 0) := (blk_cell BK478.out 4).trans rfl; have hcz17_5 : w15.cell? ⟨gb478, 5, none⟩ = some (.slice none 0 0) := (blk_cell BK478.out 5).trans rfl; have hcz17_6 : w15.cell? ⟨gb478, 6, none⟩ = some (.slice none 0 0) := (blk_cell BK478.out 6).trans rfl; have hcz17_7 : w15.cell? ⟨gb478, 7, none⟩ = some (.int .i64 0) := (blk_cell BK478.out 7).trans rfl; have hcz17_8 : w15.cell? ⟨gb478, 8, none⟩ = some (.int .i64 0) := (blk_cell BK478.out 8).trans rfl; have hcz17_9 : w15.cell? ⟨gb478, 9, none⟩ = some (.int .i64 0) := (blk_cell BK478.out 9).trans rfl; have hfz17_0 := blk_frozen BK478.out 0; have hfz17_1 := blk_frozen BK478.out 1; have hfz17_2 := blk_frozen BK478.out 2; have hfz17_3 := blk_frozen BK478.out 3; have hfz17_4 := blk_frozen BK478.out 4; have hfz17_5 := blk_frozen BK478.out 5; have hfz17_6 := blk_frozen BK478.out 6; have hfz17_7 := blk_frozen BK478.out 7; have hfz17_8 := blk_frozen BK478.out 8; have hfz17_9 := blk_frozen BK478.out 9; obtain ⟨Ao18, co18, eo18⟩ := Kd.R_slice HO467.out; subst eo18; obtain ⟨Ao19, co19, eo19⟩ := Kd.R_slice HO471.out; subst eo19; obtain ⟨Ao20, co20, eo20⟩ := Kd.R_slice HO474.out; subst eo20))
    repeat (go_quiet (first | ((with_reducible refine gate_dst (N := 1) rfl ?_); refine box_event ?hg (N := 1) ?hd (cs := #[.int .i64 a0_0, .int .i64 a0_1, .int .i64 a0_2, .slice A0_3 l0_3.length c0_3, .int .i64 a0_4, .slice A0_5 l0_5.length c0_5, .slice A0_6 l0_6.length c0_6, .int .i64 a0_7, .int .i64 a0_8, .int .i64 a0_9]) (t := 25) ?hr ?_; (case hd => rfl); (case hg => rfl); (case hr => first | (go_simp; done) | (go_simp; rfl)); intro gb459 hg w10 hbox hb; have n0_ := Aside0.mk (below_step (by repeat (first | (with_reducible first | exact HB.out | apply below_alloc | apply pw_below_drewN | apply below_drew1) | exact HB.out)) hb); have n1_ := Aside0.mk (hbox); have n2_ := Aside0.mk ((by rw [hg]; exact (below_size (by repeat (first | (with_reducible first | exact HB.out | apply below_alloc | apply pw_below_drewN | apply below_drew1) | exact HB.out))) : w.heap.size ≤ gb459)); have n3_ := Aside0.mk ((by rw [hg]; exact (below_size (by repeat (first | (with_reducible first | exact HB.out | apply below_alloc | apply pw_below_drewN | apply below_drew1) | exact HB.out))) : w.heap.size ≤ gb459)); clear HB; have HB := n0_; have BK459 := n1_; have GW459 := n2_; have GE459 := n3_; clear n0_ n1_ n2_ n3_; clear hb hbox hg; have hcz11_0 : w10.cell? ⟨gb459, 0, none⟩ = some (.int .i64 a0_0) := (blk_cell BK459.out 0).trans rfl; have hcz11_1 : w10.cell? ⟨gb459, 1, none⟩ = some (.int .i64 a0_1) := (blk_cell BK459.out 1).trans rfl; have hcz11_2 : w10.cell? ⟨gb459, 2, none⟩ = some (.int .i64 a0_2) := (blk_cell BK459.out 2).trans rfl; have hcz11_3 : w10.cell? ⟨gb459, 3, none⟩ = some (.slice A0_3 l0_3.length c0_3) := (blk_cell BK459.out 3).trans rfl; have hcz11_4 : w10.cell? ⟨gb459, 4, none⟩ = some (.int .i64 a0_4) := (blk_cell BK459.out 4).trans rfl; have hcz11_5 : w10.cell? ⟨gb459, 5, none⟩ = some (.slice A0_5 l0_5.length c0_5) := (blk_cell BK459.out 5).trans rfl; have hcz11_6 : w10.cell? ⟨gb459, 6, none⟩ = some (.slice A0_6 l0_6.length c0_6) := (blk_cell BK459.out 6).trans rfl; have hcz11_7 : w10.cell? ⟨gb459, 7, none⟩ = some (.int .i64 a0_7) := (blk_cell BK459.out 7).trans rfl; have hcz11_8 : w10.cell? ⟨gb459, 8, none⟩ = some (.int .i64 a0_8) := (blk_cell BK459.out 8).trans rfl; have hcz11_9 : w10.cell? ⟨gb459, 9, none⟩ = some (.int .i64 a0_9) := (blk_cell BK459.out 9).trans rfl; have hfz11_0 := blk_frozen BK459.out 0; have hfz11_1 := blk_frozen BK459.out 1; have hfz11_2 := blk_frozen BK459.out 2; have hfz11_3 := blk_frozen BK459.out 3; have hfz11_4 := blk_frozen BK459.out 4; have hfz11_5 := blk_frozen BK459.out 5; have hfz11_6 := blk_frozen BK459.out 6; have hfz11_7 := blk_frozen BK459.out 7; have hfz11_8 := blk_frozen BK459.out 8; have hfz11_9 := blk_frozen BK459.out 9) | (go_at_call 14; (refine (sacristanref15_Great.calls k a0_0 a0_1 a0_2 _ _ l0_3 a0_4 _ _ l0_5 _ _ l0_6 a0_7 a0_8 a0_9 _ _ ([] : List (S37)) _ _ ([] : List (S37)) _ _ ([] : List (S37)) _ _ ([] : List (S54)) false _ ?side1 ?side2 ?side3 ?side4 ?side5 ?side6 ?side7 ?side8 ?side9 ?side10 ?side11 ?side12 ?side13 ?side14 A2.out).mono ?_); (case side1 => repeat (first | exact (Kd.C_below HR0_3.out HB.out) | (with_reducible refine Kd.C_alloc ?_ _) | (with_reducible refine Kd.C_drewN ?_ _) | (with_reducible refine Kd.C_drew ?_))); (case side2 => exact HC0_3.out); (case side3 => repeat (first | exact (Kd.C_below HR0_5.out HB.out) | (with_reducible refine Kd.C_alloc ?_ _) | (with_reducible refine Kd.C_drewN ?_ _) | (with_reducible refine Kd.C_drew ?_))); (case side4 => exact HC0_5.out); (case side5 => repeat (first | exact (Kd.C_below HR0_6.out HB.out) | (with_reducible refine Kd.C_alloc ?_ _) | (with_reducible refine Kd.C_drewN ?_ _) | (with_reducible refine Kd.C_drew ?_))); (case side6 => exact HC0_6.out); (case side7 => exact Kd.C_nil _ _); (case side8 => exact Nat.le_refl _); (case side9 => exact Kd.C_nil _ _); (case side10 => exact Nat.le_refl _); (case side11 => exact Kd.C_nil _ _); (case side12 => exact Nat.le_refl _); (case side13 => exact Kd.C_nil _ _); (case side14 => exact Nat.le_refl _); rintro e w12 ⟨rfl, hb⟩; have n0_ := Aside0.mk (blk_below (g := gb459) (o := .cells #[.int .i64 a0_0, .int .i64 a0_1, .int .i64 a0_2, .slice A0_3 l0_3.length c0_3, .int .i64 a0_4, .slice A0_5 l0_5.length c0_5, .slice A0_6 l0_6.length c0_6, .int .i64 a0_7, .int .i64 a0_8, .int .i64 a0_9] 25 (0, 0)) (by (with_reducible repeat (first | refine blk_drewN ?_ _ | refine blk_drew ?_ | refine blk_alloc ?_ _)); exact BK459.out) hb); have n1_ := Aside0.mk (below_step (by repeat (first | (with_reducible first | exact HB.out | apply below_alloc | apply pw_below_drewN | apply below_drew1 | refine below_set ?_ GE459.out) | exact HB.out)) hb); clear BK459; clear HB; have BK459 := n0_; have HB := n1_; clear n0_ n1_; (try clear hb); (try clear hb2); (try clear hk); (try clear hi); have hcz13_0 : w12.cell? ⟨gb459, 0, none⟩ = some (.int .i64 a0_0) := (blk_cell BK459.out 0).trans rfl; have hcz13_1 : w12.cell? ⟨gb459, 1, none⟩ = some (.int .i64 a0_1) := (blk_cell BK459.out 1).trans rfl; have hcz13_2 : w12.cell? ⟨gb459, 2, none⟩ = some (.int .i64 a0_2) := (blk_cell BK459.out 2).trans rfl; have hcz13_3 : w12.cell? ⟨gb459, 3, none⟩ = some (.slice A0_3 l0_3.length c0_3) := (blk_cell BK459.out 3).trans rfl; have hcz13_4 : w12.cell? ⟨gb459, 4, none⟩ = some (.int .i64 a0_4) := (blk_cell BK459.out 4).trans rfl; have hcz13_5 : w12.cell? ⟨gb459, 5, none⟩ = some (.slice A0_5 l0_5.length c0_5) := (blk_cell BK459.out 5).trans rfl; have hcz13_6 : w12.cell? ⟨gb459, 6, none⟩ = some (.slice A0_6 l0_6.length c0_6) := (blk_cell BK459.out 6).trans rfl; have hcz13_7 : w12.cell? ⟨gb459, 7, none⟩ = some (.int .i64 a0_7) := (blk_cell BK459.out 7).trans rfl; have hcz13_8 : w12.cell? ⟨gb459, 8, none⟩ = some (.int .i64 a0_8) := (blk_cell BK459.out 8).trans rfl; have hcz13_9 : w12.cell? ⟨gb459, 9, none⟩ = some (.int .i64 a0_9) := (blk_cell BK459.out 9).trans rfl; have hfz13_0 := blk_frozen BK459.out 0; have hfz13_1 := blk_frozen BK459.out 1; have hfz13_2 := blk_frozen BK459.out 2; have hfz13_3 := blk_frozen BK459.out 3; have hfz13_4 := blk_frozen BK459.out 4; have hfz13_5 := blk_frozen BK459.out 5; have hfz13_6 := blk_frozen BK459.out 6; have hfz13_7 := blk_frozen BK459.out 7; have hfz13_8 := blk_frozen BK459.out 8; have hfz13_9 := blk_frozen BK459.out 9) | (go_at_call 22; (with_reducible refine (sweep_Sweep.calls a0_0 a0_1 a0_2 _ _ l0_3 a0_4 _ _ l0_5 _ _ l0_6 a0_7 a0_8 a0_9 t462 t463 t464 t465 t468 t469 t472 t475 t476 t477 _ ?side1 ?side2 ?side3 ?side4 ?side5 ?side6 ?side7 A9.out).mono ?_); (case side1 => repeat (first | exact (Kd.C_below HR0_3.out HB.out) | (with_reducible refine Kd.C_alloc ?_ _) | (with_reducible refine Kd.C_drewN ?_ _) | (with_reducible refine Kd.C_drew ?_))); (case side2 => exact HC0_3.out); (case side3 => repeat (first | exact (Kd.C_below HR0_5.out HB.out) | (with_reducible refine Kd.C_alloc ?_ _) | (with_reducible refine Kd.C_drewN ?_ _) | (with_reducible refine Kd.C_drew ?_))); (case side4 => exact HC0_5.out); (case side5 => repeat (first | exact (Kd.C_below HR0_6.out HB.out) | (with_reducible refine Kd.C_alloc ?_ _) | (with_reducible refine Kd.C_drewN ?_ _) | (with_reducible refine Kd.C_drew ?_))); (case side6 => exact HC0_6.out); (case side7 => exact NW.MaxOk.below HMX.out (by repeat (first | (with_reducible first | exact HB.out | apply below_alloc | apply pw_below_drewN | apply below_drew1 | refine below_set ?_ GE459.out) | exact HB.out))); rintro e w14 ⟨v466, v470, v473, rfl, ho0, ho1, ho2, hb⟩; have n0_ := Aside0.mk (Kd.R_lower ho0 (below_size (by repeat (first | (with_reducible first | exact HB.out | apply below_alloc | apply pw_below_drewN | apply below_drew1 | refine below_set ?_ GE459.out) | exact HB.out)))); have n1_ := Aside0.mk (Kd.R_lower ho1 (below_size (by repeat (first | (with_reducible first | exact HB.out | apply below_alloc | apply pw_below_drewN | apply below_drew1 | refine below_set ?_ GE459.out) | exact HB.out)))); have n2_ := Aside0.mk (Kd.R_lower ho2 (below_size (by repeat (first | (with_reducible first | exact HB.out | apply below_alloc | apply pw_below_drewN | apply below_drew1 | refine below_set ?_ GE459.out) | exact HB.out)))); have n3_ := Aside0.mk (blk_below (g := gb459) (o := .cells #[.int .i64 a0_0, .int .i64 a0_1, .int .i64 a0_2, .slice A0_3 l0_3.length c0_3, .int .i64 a0_4, .slice A0_5 l0_5.length c0_5, .slice A0_6 l0_6.length c0_6, .int .i64 a0_7, .int .i64 a0_8, .int .i64 a0_9] 25 (0, 0)) (by (with_reducible repeat (first | refine blk_drewN ?_ _ | refine blk_drew ?_ | refine blk_alloc ?_ _)); exact BK459.out) hb); have n4_ := Aside0.mk (below_step (by repeat (first | (with_reducible first | exact HB.out | apply below_alloc | apply pw_below_drewN | apply below_drew1 | refine below_set ?_ GE459.out) | exact HB.out)) hb); clear BK459; clear HB; have HO467 := n0_; have HO471 := n1_; have HO474 := n2_; have BK459 := n3_; have HB := n4_; clear n0_ n1_ n2_ n3_ n4_; (try clear hb); (try clear hb2); (try clear hk); (try clear hi); (try clear ho0); (try clear ho1); (try clear ho2)) | ((with_reducible refine gate_dst (N := 3) rfl ?_); refine box_event ?hg (N := 3) ?hd (cs := #[.int .i64 0, .int .i64 0, .int .i64 0, .slice none 0 0, .int .i64 0, .slice none 0 0, .slice none 0 0, .int .i64 0, .int .i64 0, .int .i64 0]) (t := 25) ?hr ?_; (case hd => rfl); (case hg => rfl); (case hr => first | (go_simp; done) | (go_simp; rfl)); intro gb478 hg w15 hbox hb; have n0_ := Aside0.mk (Kd.R_below (by (with_reducible repeat (first | apply Kd.R_alloc | apply Kd.R_drewN | apply Kd.R_drew)); exact HO467.out) hb); have n1_ := Aside0.mk (Kd.R_below (by (with_reducible repeat (first | apply Kd.R_alloc | apply Kd.R_drewN | apply Kd.R_drew)); exact HO471.out) hb); have n2_ := Aside0.mk (Kd.R_below (by (with_reducible repeat (first | apply Kd.R_alloc | apply Kd.R_drewN | apply Kd.R_drew)); exact HO474.out) hb); have n3_ := Aside0.mk (blk_below (g := gb459) (o := .cells #[.int .i64 a0_0, .int .i64 a0_1, .int .i64 a0_2, .slice A0_3 l0_3.length c0_3, .int .i64 a0_4, .slice A0_5 l0_5.length c0_5, .slice A0_6 l0_6.length c0_6, .int .i64 a0_7, .int .i64 a0_8, .int .i64 a0_9] 25 (0, 0)) (by (with_reducible repeat (first | refine blk_drewN ?_ _ | refine blk_drew ?_ | refine blk_alloc ?_ _)); exact BK459.out) hb); have n4_ := Aside0.mk (below_step (by repeat (first | (with_reducible first | exact HB.out | apply below_alloc | apply pw_below_drewN | apply below_drew1 | refine below_set ?_ GE459.out) | exact HB.out)) hb); have n5_ := Aside0.mk (hbox); have n6_ := Aside0.mk ((by rw [hg]; exact (below_size (by repeat (first | (with_reducible first | exact HB.out | apply below_alloc | apply pw_below_drewN | apply below_drew1 | refine below_set ?_ GE459.out) | exact HB.out))) : w.heap.size ≤ gb478)); have n7_ := Aside0.mk ((by rw [hg]; exact (below_size (by repeat (first | (with_reducible first | exact HB.out | apply below_alloc | apply pw_below_drewN | apply below_drew1 | refine below_set ?_ GE459.out) | exact HB.out))) : w.heap.size ≤ gb478)); have n8_ := Aside0.mk ((by rw [hg]; exact Nat.ne_of_lt (blk_lt (g := gb459) (o := .cells #[.int .i64 a0_0, .int .i64 a0_1, .int .i64 a0_2, .slice A0_3 l0_3.length c0_3, .int .i64 a0_4, .slice A0_5 l0_5.length c0_5, .slice A0_6 l0_6.length c0_6, .int .i64 a0_7, .int .i64 a0_8, .int .i64 a0_9] 25 (0, 0)) (by (with_reducible repeat (first | refine blk_drewN ?_ _ | refine blk_drew ?_ | refine blk_alloc ?_ _)); exact BK459.out)) : gb459 ≠ gb478)); have n9_ := Aside0.mk ((by rw [hg]; exact Nat.ne_of_gt (blk_lt (g := gb459) (o := .cells #[.int .i64 a0_0, .int .i64 a0_1, .int .i64 a0_2, .slice A0_3 l0_3.length c0_3, .int .i64 a0_4, .slice A0_5 l0_5.length c0_5, .slice A0_6 l0_6.length c0_6, .int .i64 a0_7, .int .i64 a0_8, .int .i64 a0_9] 25 (0, 0)) (by (with_reducible repeat (first | refine blk_drewN ?_ _ | refine blk_drew ?_ | refine blk_alloc ?_ _)); exact BK459.out)) : gb478 ≠ gb459)); clear HO467; clear HO471; clear HO474; clear BK459; clear HB; have HO467 := n0_; have HO471 := n1_; have HO474 := n2_; have BK459 := n3_; have HB := n4_; have BK478 := n5_; have GW478 := n6_; have GE478 := n7_; have NB459_478 := n8_; have NB478_459 := n9_; clear n0_ n1_ n2_ n3_ n4_ n5_ n6_ n7_ n8_ n9_; clear hb hbox hg; have hnb16 := NB478_459.out; have hnc16 := NB459_478.out; have hcz17_0 : w15.cell? ⟨gb478, 0, none⟩ = some (.int .i64 0) := (blk_cell BK478.out 0).trans rfl; have hcz17_1 : w15.cell? ⟨gb478, 1, none⟩ = some (.int .i64 0) := (blk_cell BK478.out 1).trans rfl; have hcz17_2 : w15.cell? ⟨gb478, 2, none⟩ = some (.int .i64 0) := (blk_cell BK478.out 2).trans rfl; have hcz17_3 : w15.cell? ⟨gb478, 3, none⟩ = some (.slice none 0 0) := (blk_cell BK478.out 3).trans rfl; have hcz17_4 : w15.cell? ⟨gb478, 4, none⟩ = some (.int .i64 0) := (blk_cell BK478.out 4).trans rfl; have hcz17_5 : w15.cell? ⟨gb478, 5, none⟩ = some (.slice none 0 0) := (blk_cell BK478.out 5).trans rfl; have hcz17_6 : w15.cell? ⟨gb478, 6, none⟩ = some (.slice none 0 0) := (blk_cell BK478.out 6).trans rfl; have hcz17_7 : w15.cell? ⟨gb478, 7, none⟩ = some (.int .i64 0) := (blk_cell BK478.out 7).trans rfl; have hcz17_8 : w15.cell? ⟨gb478, 8, none⟩ = some (.int .i64 0) := (blk_cell BK478.out 8).trans rfl; have hcz17_9 : w15.cell? ⟨gb478, 9, none⟩ = some (.int .i64 0) := (blk_cell BK478.out 9).trans rfl; have hfz17_0 := blk_frozen BK478.out 0; have hfz17_1 := blk_frozen BK478.out 1; have hfz17_2 := blk_frozen BK478.out 2; have hfz17_3 := blk_frozen BK478.out 3; have hfz17_4 := blk_frozen BK478.out 4; have hfz17_5 := blk_frozen BK478.out 5; have hfz17_6 := blk_frozen BK478.out 6; have hfz17_7 := blk_frozen BK478.out 7; have hfz17_8 := blk_frozen BK478.out 8; have hfz17_9 := blk_frozen BK478.out 9; obtain ⟨Ao18, co18, eo18⟩ := Kd.R_slice HO467.out; subst eo18; obtain ⟨Ao19, co19, eo19⟩ := Kd.R_slice HO471.out; subst eo19; obtain ⟨Ao20, co20, eo20⟩ := Kd.R_slice HO474.out; subst eo20)); try go_wp2_with (first | ((with_reducible refine gate_dst (N := 1) rfl ?_); refine box_event ?hg (N := 1) ?hd (cs := #[.int .i64 a0_0, .int .i64 a0_1, .int .i64 a0_2, .slice A0_3 l0_3.length c0_3, .int .i64 a0_4, .slice A0_5 l0_5.length c0_5, .slice A0_6 l0_6.length c0_6, .int .i64 a0_7, .int .i64 a0_8, .int .i64 a0_9]) (t := 25) ?hr ?_; (case hd => rfl); (case hg => rfl); (case hr => first | (go_simp; done) | (go_simp; rfl)); intro gb459 hg w10 hbox hb; have n0_ := Aside0.mk (below_step (by repeat (first | (with_reducible first | exact HB.out | apply below_alloc | apply pw_below_drewN | apply below_drew1) | exact HB.out)) hb); have n1_ := Aside0.mk (hbox); have n2_ := Aside0.mk ((by rw [hg]; exact (below_size (by repeat (first | (with_reducible first | exact HB.out | apply below_alloc | apply pw_below_drewN | apply below_drew1) | exact HB.out))) : w.heap.size ≤ gb459)); have n3_ := Aside0.mk ((by rw [hg]; exact (below_size (by repeat (first | (with_reducible first | exact HB.out | apply below_alloc | apply pw_below_drewN | apply below_drew1) | exact HB.out))) : w.heap.size ≤ gb459)); clear HB; have HB := n0_; have BK459 := n1_; have GW459 := n2_; have GE459 := n3_; clear n0_ n1_ n2_ n3_; clear hb hbox hg; have hcz11_0 : w10.cell? ⟨gb459, 0, none⟩ = some (.int .i64 a0_0) := (blk_cell BK459.out 0).trans rfl; have hcz11_1 : w10.cell? ⟨gb459, 1, none⟩ = some (.int .i64 a0_1) := (blk_cell BK459.out 1).trans rfl; have hcz11_2 : w10.cell? ⟨gb459, 2, none⟩ = some (.int .i64 a0_2) := (blk_cell BK459.out 2).trans rfl; have hcz11_3 : w10.cell? ⟨gb459, 3, none⟩ = some (.slice A0_3 l0_3.length c0_3) := (blk_cell BK459.out 3).trans rfl; have hcz11_4 : w10.cell? ⟨gb459, 4, none⟩ = some (.int .i64 a0_4) := (blk_cell BK459.out 4).trans rfl; have hcz11_5 : w10.cell? ⟨gb459, 5, none⟩ = some (.slice A0_5 l0_5.length c0_5) := (blk_cell BK459.out 5).trans rfl; have hcz11_6 : w10.cell? ⟨gb459, 6, none⟩ = some (.slice A0_6 l0_6.length c0_6) := (blk_cell BK459.out 6).trans rfl; have hcz11_7 : w10.cell? ⟨gb459, 7, none⟩ = some (.int .i64 a0_7) := (blk_cell BK459.out 7).trans rfl; have hcz11_8 : w10.cell? ⟨gb459, 8, none⟩ = some (.int .i64 a0_8) := (blk_cell BK459.out 8).trans rfl; have hcz11_9 : w10.cell? ⟨gb459, 9, none⟩ = some (.int .i64 a0_9) := (blk_cell BK459.out 9).trans rfl; have hfz11_0 := blk_frozen BK459.out 0; have hfz11_1 := blk_frozen BK459.out 1; have hfz11_2 := blk_frozen BK459.out 2; have hfz11_3 := blk_frozen BK459.out 3; have hfz11_4 := blk_frozen BK459.out 4; have hfz11_5 := blk_frozen BK459.out 5; have hfz11_6 := blk_frozen BK459.out 6; have hfz11_7 := blk_frozen BK459.out 7; have hfz11_8 := blk_frozen BK459.out 8; have hfz11_9 := blk_frozen BK459.out 9) | (go_at_call 14; (refine (sacristanref15_Great.calls k a0_0 a0_1 a0_2 _ _ l0_3 a0_4 _ _ l0_5 _ _ l0_6 a0_7 a0_8 a0_9 _ _ ([] : List (S37)) _ _ ([] : List (S37)) _ _ ([] : List (S37)) _ _ ([] : List (S54)) false _ ?side1 ?side2 ?side3 ?side4 ?side5 ?side6 ?side7 ?side8 ?side9 ?side10 ?side11 ?side12 ?side13 ?side14 A2.out).mono ?_); (case side1 => repeat (first | exact (Kd.C_below HR0_3.out HB.out) | (with_reducible refine Kd.C_alloc ?_ _) | (with_reducible refine Kd.C_drewN ?_ _) | (with_reducible refine Kd.C_drew ?_))); (case side2 => exact HC0_3.out); (case side3 => repeat (first | exact (Kd.C_below HR0_5.out HB.out) | (with_reducible refine Kd.C_alloc ?_ _) | (with_reducible refine Kd.C_drewN ?_ _) | (with_reducible refine Kd.C_drew ?_))); (case side4 => exact HC0_5.out); (case side5 => repeat (first | exact (Kd.C_below HR0_6.out HB.out) | (with_reducible refine Kd.C_alloc ?_ _) | (with_reducible refine Kd.C_drewN ?_ _) | (with_reducible refine Kd.C_drew ?_))); (case side6 => exact HC0_6.out); (case side7 => exact Kd.C_nil _ _); (case side8 => exact Nat.le_refl _); (case side9 => exact Kd.C_nil _ _); (case side10 => exact Nat.le_refl _); (case side11 => exact Kd.C_nil _ _); (case side12 => exact Nat.le_refl _); (case side13 => exact Kd.C_nil _ _); (case side14 => exact Nat.le_refl _); rintro e w12 ⟨rfl, hb⟩; have n0_ := Aside0.mk (blk_below (g := gb459) (o := .cells #[.int .i64 a0_0, .int .i64 a0_1, .int .i64 a0_2, .slice A0_3 l0_3.length c0_3, .int .i64 a0_4, .slice A0_5 l0_5.length c0_5, .slice A0_6 l0_6.length c0_6, .int .i64 a0_7, .int .i64 a0_8, .int .i64 a0_9] 25 (0, 0)) (by (with_reducible repeat (first | refine blk_drewN ?_ _ | refine blk_drew ?_ | refine blk_alloc ?_ _)); exact BK459.out) hb); have n1_ := Aside0.mk (below_step (by repeat (first | (with_reducible first | exact HB.out | apply below_alloc | apply pw_below_drewN | apply below_drew1 | refine below_set ?_ GE459.out) | exact HB.out)) hb); clear BK459; clear HB; have BK459 := n0_; have HB := n1_; clear n0_ n1_; (try clear hb); (try clear hb2); (try clear hk); (try clear hi); have hcz13_0 : w12.cell? ⟨gb459, 0, none⟩ = some (.int .i64 a0_0) := (blk_cell BK459.out 0).trans rfl; have hcz13_1 : w12.cell? ⟨gb459, 1, none⟩ = some (.int .i64 a0_1) := (blk_cell BK459.out 1).trans rfl; have hcz13_2 : w12.cell? ⟨gb459, 2, none⟩ = some (.int .i64 a0_2) := (blk_cell BK459.out 2).trans rfl; have hcz13_3 : w12.cell? ⟨gb459, 3, none⟩ = some (.slice A0_3 l0_3.length c0_3) := (blk_cell BK459.out 3).trans rfl; have hcz13_4 : w12.cell? ⟨gb459, 4, none⟩ = some (.int .i64 a0_4) := (blk_cell BK459.out 4).trans rfl; have hcz13_5 : w12.cell? ⟨gb459, 5, none⟩ = some (.slice A0_5 l0_5.length c0_5) := (blk_cell BK459.out 5).trans rfl; have hcz13_6 : w12.cell? ⟨gb459, 6, none⟩ = some (.slice A0_6 l0_6.length c0_6) := (blk_cell BK459.out 6).trans rfl; have hcz13_7 : w12.cell? ⟨gb459, 7, none⟩ = some (.int .i64 a0_7) := (blk_cell BK459.out 7).trans rfl; have hcz13_8 : w12.cell? ⟨gb459, 8, none⟩ = some (.int .i64 a0_8) := (blk_cell BK459.out 8).trans rfl; have hcz13_9 : w12.cell? ⟨gb459, 9, none⟩ = some (.int .i64 a0_9) := (blk_cell BK459.out 9).trans rfl; have hfz13_0 := blk_frozen BK459.out 0; have hfz13_1 := blk_frozen BK459.out 1; have hfz13_2 := blk_frozen BK459.out 2; have hfz13_3 := blk_frozen BK459.out 3; have hfz13_4 := blk_frozen BK459.out 4; have hfz13_5 := blk_frozen BK459.out 5; have hfz13_6 := blk_frozen BK459.out 6; have hfz13_7 := blk_frozen BK459.out 7; have hfz13_8 := blk_frozen BK459.out 8; have hfz13_9 := blk_frozen BK459.out 9) | (go_at_call 22; (with_reducible refine (sweep_Sweep.calls a0_0 a0_1 a0_2 _ _ l0_3 a0_4 _ _ l0_5 _ _ l0_6 a0_7 a0_8 a0_9 t462 t463 t464 t465 t468 t469 t472 t475 t476 t477 _ ?side1 ?side2 ?side3 ?side4 ?side5 ?side6 ?side7 A9.out).mono ?_); (case side1 => repeat (first | exact (Kd.C_below HR0_3.out HB.out) | (with_reducible refine Kd.C_alloc ?_ _) | (with_reducible refine Kd.C_drewN ?_ _) | (with_reducible refine Kd.C_drew ?_))); (case side2 => exact HC0_3.out); (case side3 => repeat (first | exact (Kd.C_below HR0_5.out HB.out) | (with_reducible refine Kd.C_alloc ?_ _) | (with_reducible refine Kd.C_drewN ?_ _) | (with_reducible refine Kd.C_drew ?_))); (case side4 => exact HC0_5.out); (case side5 => repeat (first | exact (Kd.C_below HR0_6.out HB.out) | (with_reducible refine Kd.C_alloc ?_ _) | (with_reducible refine Kd.C_drewN ?_ _) | (with_reducible refine Kd.C_drew ?_))); (case side6 => exact HC0_6.out); (case side7 => exact NW.MaxOk.below HMX.out (by repeat (first | (with_reducible first | exact HB.out | apply below_alloc | apply pw_below_drewN | apply below_drew1 | refine below_set ?_ GE459.out) | exact HB.out))); rintro e w14 ⟨v466, v470, v473, rfl, ho0, ho1, ho2, hb⟩; have n0_ := Aside0.mk (Kd.R_lower ho0 (below_size (by repeat (first | (with_reducible first | exact HB.out | apply below_alloc | apply pw_below_drewN | apply below_drew1 | refine below_set ?_ GE459.out) | exact HB.out)))); have n1_ := Aside0.mk (Kd.R_lower ho1 (below_size (by repeat (first | (with_reducible first | exact HB.out | apply below_alloc | apply pw_below_drewN | apply below_drew1 | refine below_set ?_ GE459.out) | exact HB.out)))); have n2_ := Aside0.mk (Kd.R_lower ho2 (below_size (by repeat (first | (with_reducible first | exact HB.out | apply below_alloc | apply pw_below_drewN | apply below_drew1 | refine below_set ?_ GE459.out) | exact HB.out)))); have n3_ := Aside0.mk (blk_below (g := gb459) (o := .cells #[.int .i64 a0_0, .int .i64 a0_1, .int .i64 a0_2, .slice A0_3 l0_3.length c0_3, .int .i64 a0_4, .slice A0_5 l0_5.length c0_5, .slice A0_6 l0_6.length c0_6, .int .i64 a0_7, .int .i64 a0_8, .int .i64 a0_9] 25 (0, 0)) (by (with_reducible repeat (first | refine blk_drewN ?_ _ | refine blk_drew ?_ | refine blk_alloc ?_ _)); exact BK459.out) hb); have n4_ := Aside0.mk (below_step (by repeat (first | (with_reducible first | exact HB.out | apply below_alloc | apply pw_below_drewN | apply below_drew1 | refine below_set ?_ GE459.out) | exact HB.out)) hb); clear BK459; clear HB; have HO467 := n0_; have HO471 := n1_; have HO474 := n2_; have BK459 := n3_; have HB := n4_; clear n0_ n1_ n2_ n3_ n4_; (try clear hb); (try clear hb2); (try clear hk); (try clear hi); (try clear ho0); (try clear ho1); (try clear ho2)) | ((with_reducible refine gate_dst (N := 3) rfl ?_); refine box_event ?hg (N := 3) ?hd (cs := #[.int .i64 0, .int .i64 0, .int .i64 0, .slice none 0 0, .int .i64 0, .slice none 0 0, .slice none 0 0, .int .i64 0, .int .i64 0, .int .i64 0]) (t := 25) ?hr ?_; (case hd => rfl); (case hg => rfl); (case hr => first | (go_simp; done) | (go_simp; rfl)); intro gb478 hg w15 hbox hb; have n0_ := Aside0.mk (Kd.R_below (by (with_reducible repeat (first | apply Kd.R_alloc | apply Kd.R_drewN | apply Kd.R_drew)); exact HO467.out) hb); have n1_ := Aside0.mk (Kd.R_below (by (with_reducible repeat (first | apply Kd.R_alloc | apply Kd.R_drewN | apply Kd.R_drew)); exact HO471.out) hb); have n2_ := Aside0.mk (Kd.R_below (by (with_reducible repeat (first | apply Kd.R_alloc | apply Kd.R_drewN | apply Kd.R_drew)); exact HO474.out) hb); have n3_ := Aside0.mk (blk_below (g := gb459) (o := .cells #[.int .i64 a0_0, .int .i64 a0_1, .int .i64 a0_2, .slice A0_3 l0_3.length c0_3, .int .i64 a0_4, .slice A0_5 l0_5.length c0_5, .slice A0_6 l0_6.length c0_6, .int .i64 a0_7, .int .i64 a0_8, .int .i64 a0_9] 25 (0, 0)) (by (with_reducible repeat (first | refine blk_drewN ?_ _ | refine blk_drew ?_ | refine blk_alloc ?_ _)); exact BK459.out) hb); have n4_ := Aside0.mk (below_step (by repeat (first | (with_reducible first | exact HB.out | apply below_alloc | apply pw_below_drewN | apply below_drew1 | refine below_set ?_ GE459.out) | exact HB.out)) hb); have n5_ := Aside0.mk (hbox); have n6_ := Aside0.mk ((by rw [hg]; exact (below_size (by repeat (first | (with_reducible first | exact HB.out | apply below_alloc | apply pw_below_drewN | apply below_drew1 | refine below_set ?_ GE459.out) | exact HB.out))) : w.heap.size ≤ gb478)); have n7_ := Aside0.mk ((by rw [hg]; exact (below_size (by repeat (first | (with_reducible first | exact HB.out | apply below_alloc | apply pw_below_drewN | apply below_drew1 | refine below_set ?_ GE459.out) | exact HB.out))) : w.heap.size ≤ gb478)); have n8_ := Aside0.mk ((by rw [hg]; exact Nat.ne_of_lt (blk_lt (g := gb459) (o := .cells #[.int .i64 a0_0, .int .i64 a0_1, .int .i64 a0_2, .slice A0_3 l0_3.length c0_3, .int .i64 a0_4, .slice A0_5 l0_5.length c0_5, .slice A0_6 l0_6.length c0_6, .int .i64 a0_7, .int .i64 a0_8, .int .i64 a0_9] 25 (0, 0)) (by (with_reducible repeat (first | refine blk_drewN ?_ _ | refine blk_drew ?_ | refine blk_alloc ?_ _)); exact BK459.out)) : gb459 ≠ gb478)); have n9_ := Aside0.mk ((by rw [hg]; exact Nat.ne_of_gt (blk_lt (g := gb459) (o := .cells #[.int .i64 a0_0, .int .i64 a0_1, .int .i64 a0_2, .slice A0_3 l0_3.length c0_3, .int .i64 a0_4, .slice A0_5 l0_5.length c0_5, .slice A0_6 l0_6.length c0_6, .int .i64 a0_7, .int .i64 a0_8, .int .i64 a0_9] 25 (0, 0)) (by (with_reducible repeat (first | refine blk_drewN ?_ _ | refine blk_drew ?_ | refine blk_alloc ?_ _)); exact BK459.out)) : gb478 ≠ gb459)); clear HO467; clear HO471; clear HO474; clear BK459; clear HB; have HO467 := n0_; have HO471 := n1_; have HO474 := n2_; have BK459 := n3_; have HB := n4_; have BK478 := n5_; have GW478 := n6_; have GE478 := n7_; have NB459_478 := n8_; have NB478_459 := n9_; clear n0_ n1_ n2_ n3_ n4_ n5_ n6_ n7_ n8_ n9_; clear hb hbox hg; have hnb16 := NB478_459.out; have hnc16 := NB459_478.out; have hcz17_0 : w15.cell? ⟨gb478, 0, none⟩ = some (.int .i64 0) := (blk_cell BK478.out 0).trans rfl; have hcz17_1 : w15.cell? ⟨gb478, 1, none⟩ = some (.int .i64 0) := (blk_cell BK478.out 1).trans rfl; have hcz17_2 : w15.cell? ⟨gb478, 2, none⟩ = some (.int .i64 0) := (blk_cell BK478.out 2).trans rfl; have hcz17_3 : w15.cell? ⟨gb478, 3, none⟩ = some (.slice none 0 0) := (blk_cell BK478.out 3).trans rfl; have hcz17_4 : w15.cell? ⟨gb478, 4, none⟩ = some (.int .i64 0) := (blk_cell BK478.out 4).trans rfl; have hcz17_5 : w15.cell? ⟨gb478, 5, none⟩ = some (.slice none 0 0) := (blk_cell BK478.out 5).trans rfl; have hcz17_6 : w15.cell? ⟨gb478, 6, none⟩ = some (.slice none 0 0) := (blk_cell BK478.out 6).trans rfl; have hcz17_7 : w15.cell? ⟨gb478, 7, none⟩ = some (.int .i64 0) := (blk_cell BK478.out 7).trans rfl; have hcz17_8 : w15.cell? ⟨gb478, 8, none⟩ = some (.int .i64 0) := (blk_cell BK478.out 8).trans rfl; have hcz17_9 : w15.cell? ⟨gb478, 9, none⟩ = some (.int .i64 0) := (blk_cell BK478.out 9).trans rfl; have hfz17_0 := blk_frozen BK478.out 0; have hfz17_1 := blk_frozen BK478.out 1; have hfz17_2 := blk_frozen BK478.out 2; have hfz17_3 := blk_frozen BK478.out 3; have hfz17_4 := blk_frozen BK478.out 4; have hfz17_5 := blk_frozen BK478.out 5; have hfz17_6 := blk_frozen BK478.out 6; have hfz17_7 := blk_frozen BK478.out 7; have hfz17_8 := blk_frozen BK478.out 8; have hfz17_9 := blk_frozen BK478.out 9; obtain ⟨Ao18, co18, eo18⟩ := Kd.R_slice HO467.out; subst eo18; obtain ⟨Ao19, co19, eo19⟩ := Kd.R_slice HO471.out; subst eo19; obtain ⟨Ao20, co20, eo20⟩ := Kd.R_slice HO474.out; subst eo20)))
    go_loopg [4, 5] k (fun kq v4 v5 w' => ∃ (x4_1 : Int) (x5_1 : Int), v4 = .int .i64 x4_1 ∧ v5 = .int .i64 x5_1 ∧ Aside0 (sacristanlaw18_SweepKeeps.l0 kq x4_1 x5_1 a0_0 a0_1 a0_2 l0_3 a0_4 l0_5 l0_6 a0_7 a0_8 a0_9 t462 t463 t464 t465 t468 t469 t472 t475 t476 t477 = some r) ∧ Aside0 (kq ≤ k) ∧ Aside0 (Kd.R k39 39 w' w.heap.size (fun _ => True) (.slice Ao18 t465.length co18) t465) ∧ Aside0 (Kd.R (Kd.int .i64) 3 w' w.heap.size (fun k_ => True) (.slice Ao19 t469.length co19) t469) ∧ Aside0 (Kd.R (Kd.int .i64) 3 w' w.heap.size (fun k_ => True) (.slice Ao20 t472.length co20) t472) ∧ Aside0 (w'.heap[gb459]? = some (.cells #[.int .i64 a0_0, .int .i64 a0_1, .int .i64 a0_2, (.slice A0_3 l0_3.length c0_3), .int .i64 a0_4, (.slice A0_5 l0_5.length c0_5), (.slice A0_6 l0_6.length c0_6), .int .i64 a0_7, .int .i64 a0_8, .int .i64 a0_9] 25 (0, 0))) ∧ Aside0 (w'.heap[gb478]? = some (.cells #[.int .i64 t462, .int .i64 t463, .int .i64 t464, (.slice Ao18 t465.length co18), .int .i64 t468, (.slice Ao19 t469.length co19), (.slice Ao20 t472.length co20), .int .i64 t475, .int .i64 t476, .int .i64 t477] 25 (0, 0))) ∧ Aside0 (Below w.heap.size w w'))
    case atStart => exact ⟨(0), (0), (by first | rfl | (simp; done) | (simp [*]; done)), (by first | rfl | (simp; done) | (simp [*]; done)), H', ⟨Nat.le_refl _⟩, ⟨by (with_reducible repeat (first | apply Kd.R_alloc | apply Kd.R_drewN | apply Kd.R_drew)); exact Kd.R_mono (Kd.R_far (p := ⟨gb478, 9, none⟩) (Kd.R_far (p := ⟨gb478, 8, none⟩) (Kd.R_far (p := ⟨gb478, 7, none⟩) (Kd.R_far (p := ⟨gb478, 6, none⟩) (Kd.R_far (p := ⟨gb478, 5, none⟩) (Kd.R_far (p := ⟨gb478, 4, none⟩) (Kd.R_far (p := ⟨gb478, 3, none⟩) (Kd.R_far (p := ⟨gb478, 2, none⟩) (Kd.R_far (p := ⟨gb478, 1, none⟩) (Kd.R_far (p := ⟨gb478, 0, none⟩) (Kd.R_types HO467.out BK478.out (by decide)) (fun _ hk => hk.2) (.int .i64 t462)) (fun _ hk => hk.2) (.int .i64 t463)) (fun _ hk => hk.2) (.int .i64 t464)) (fun _ hk => hk.2) (.slice Ao18 t465.length co18)) (fun _ hk => hk.2) (.int .i64 t468)) (fun _ hk => hk.2) (.slice Ao19 t469.length co19)) (fun _ hk => hk.2) (.slice Ao20 t472.length co20)) (fun _ hk => hk.2) (.int .i64 t475)) (fun _ hk => hk.2) (.int .i64 t476)) (fun _ hk => hk.2) (.int .i64 t477)) (fun _ hk => trivial)⟩, ⟨by (with_reducible repeat (first | apply Kd.R_alloc | apply Kd.R_drewN | apply Kd.R_drew)); exact Kd.R_mono (Kd.R_far (p := ⟨gb478, 9, none⟩) (Kd.R_far (p := ⟨gb478, 8, none⟩) (Kd.R_far (p := ⟨gb478, 7, none⟩) (Kd.R_far (p := ⟨gb478, 6, none⟩) (Kd.R_far (p := ⟨gb478, 5, none⟩) (Kd.R_far (p := ⟨gb478, 4, none⟩) (Kd.R_far (p := ⟨gb478, 3, none⟩) (Kd.R_far (p := ⟨gb478, 2, none⟩) (Kd.R_far (p := ⟨gb478, 1, none⟩) (Kd.R_far (p := ⟨gb478, 0, none⟩) (Kd.R_types HO471.out BK478.out (by decide)) (fun _ hk => hk.2) (.int .i64 t462)) (fun _ hk => hk.2) (.int .i64 t463)) (fun _ hk => hk.2) (.int .i64 t464)) (fun _ hk => hk.2) (.slice Ao18 t465.length co18)) (fun _ hk => hk.2) (.int .i64 t468)) (fun _ hk => hk.2) (.slice Ao19 t469.length co19)) (fun _ hk => hk.2) (.slice Ao20 t472.length co20)) (fun _ hk => hk.2) (.int .i64 t475)) (fun _ hk => hk.2) (.int .i64 t476)) (fun _ hk => hk.2) (.int .i64 t477)) (fun _ hk => hk.1)⟩, ⟨by (with_reducible repeat (first | apply Kd.R_alloc | apply Kd.R_drewN | apply Kd.R_drew)); exact Kd.R_mono (Kd.R_far (p := ⟨gb478, 9, none⟩) (Kd.R_far (p := ⟨gb478, 8, none⟩) (Kd.R_far (p := ⟨gb478, 7, none⟩) (Kd.R_far (p := ⟨gb478, 6, none⟩) (Kd.R_far (p := ⟨gb478, 5, none⟩) (Kd.R_far (p := ⟨gb478, 4, none⟩) (Kd.R_far (p := ⟨gb478, 3, none⟩) (Kd.R_far (p := ⟨gb478, 2, none⟩) (Kd.R_far (p := ⟨gb478, 1, none⟩) (Kd.R_far (p := ⟨gb478, 0, none⟩) (Kd.R_types HO474.out BK478.out (by decide)) (fun _ hk => hk.2) (.int .i64 t462)) (fun _ hk => hk.2) (.int .i64 t463)) (fun _ hk => hk.2) (.int .i64 t464)) (fun _ hk => hk.2) (.slice Ao18 t465.length co18)) (fun _ hk => hk.2) (.int .i64 t468)) (fun _ hk => hk.2) (.slice Ao19 t469.length co19)) (fun _ hk => hk.2) (.slice Ao20 t472.length co20)) (fun _ hk => hk.2) (.int .i64 t475)) (fun _ hk => hk.2) (.int .i64 t476)) (fun _ hk => hk.2) (.int .i64 t477)) (fun _ hk => hk.1)⟩, ⟨by (with_reducible repeat (first | refine blk_drewN ?_ _ | refine blk_drew ?_ | refine blk_alloc ?_ _)); refine blk_far ?_ NB459_478.out _; (with_reducible repeat (first | refine blk_drewN ?_ _ | refine blk_drew ?_ | refine blk_alloc ?_ _)); refine blk_far ?_ NB459_478.out _; (with_reducible repeat (first | refine blk_drewN ?_ _ | refine blk_drew ?_ | refine blk_alloc ?_ _)); refine blk_far ?_ NB459_478.out _; (with_reducible repeat (first | refine blk_drewN ?_ _ | refine blk_drew ?_ | refine blk_alloc ?_ _)); refine blk_far ?_ NB459_478.out _; (with_reducible repeat (first | refine blk_drewN ?_ _ | refine blk_drew ?_ | refine blk_alloc ?_ _)); refine blk_far ?_ NB459_478.out _; (with_reducible repeat (first | refine blk_drewN ?_ _ | refine blk_drew ?_ | refine blk_alloc ?_ _)); refine blk_far ?_ NB459_478.out _; (with_reducible repeat (first | refine blk_drewN ?_ _ | refine blk_drew ?_ | refine blk_alloc ?_ _)); refine blk_far ?_ NB459_478.out _; (with_reducible repeat (first | refine blk_drewN ?_ _ | refine blk_drew ?_ | refine blk_alloc ?_ _)); refine blk_far ?_ NB459_478.out _; (with_reducible repeat (first | refine blk_drewN ?_ _ | refine blk_drew ?_ | refine blk_alloc ?_ _)); refine blk_far ?_ NB459_478.out _; (with_reducible repeat (first | refine blk_drewN ?_ _ | refine blk_drew ?_ | refine blk_alloc ?_ _)); refine blk_far ?_ NB459_478.out _; (with_reducible repeat (first | refine blk_drewN ?_ _ | refine blk_drew ?_ | refine blk_alloc ?_ _)); exact BK459.out⟩, ⟨by (with_reducible repeat (first | refine blk_drewN ?_ _ | refine blk_drew ?_ | refine blk_alloc ?_ _)); refine blk_put (cs := #[.int .i64 t462, .int .i64 t463, .int .i64 t464, .slice Ao18 t465.length co18, .int .i64 t468, .slice Ao19 t469.length co19, .slice Ao20 t472.length co20, .int .i64 t475, .int .i64 t476, .int .i64 0]) ?_ 9 _ rfl; (with_reducible repeat (first | refine blk_drewN ?_ _ | refine blk_drew ?_ | refine blk_alloc ?_ _)); refine blk_put (cs := #[.int .i64 t462, .int .i64 t463, .int .i64 t464, .slice Ao18 t465.length co18, .int .i64 t468, .slice Ao19 t469.length co19, .slice Ao20 t472.length co20, .int .i64 t475, .int .i64 0, .int .i64 0]) ?_ 8 _ rfl; (with_reducible repeat (first | refine blk_drewN ?_ _ | refine blk_drew ?_ | refine blk_alloc ?_ _)); refine blk_put (cs := #[.int .i64 t462, .int .i64 t463, .int .i64 t464, .slice Ao18 t465.length co18, .int .i64 t468, .slice Ao19 t469.length co19, .slice Ao20 t472.length co20, .int .i64 0, .int .i64 0, .int .i64 0]) ?_ 7 _ rfl; (with_reducible repeat (first | refine blk_drewN ?_ _ | refine blk_drew ?_ | refine blk_alloc ?_ _)); refine blk_put (cs := #[.int .i64 t462, .int .i64 t463, .int .i64 t464, .slice Ao18 t465.length co18, .int .i64 t468, .slice Ao19 t469.length co19, .slice none 0 0, .int .i64 0, .int .i64 0, .int .i64 0]) ?_ 6 _ rfl; (with_reducible repeat (first | refine blk_drewN ?_ _ | refine blk_drew ?_ | refine blk_alloc ?_ _)); refine blk_put (cs := #[.int .i64 t462, .int .i64 t463, .int .i64 t464, .slice Ao18 t465.length co18, .int .i64 t468, .slice none 0 0, .slice none 0 0, .int .i64 0, .int .i64 0, .int .i64 0]) ?_ 5 _ rfl; (with_reducible repeat (first | refine blk_drewN ?_ _ | refine blk_drew ?_ | refine blk_alloc ?_ _)); refine blk_put (cs := #[.int .i64 t462, .int .i64 t463, .int .i64 t464, .slice Ao18 t465.length co18, .int .i64 0, .slice none 0 0, .slice none 0 0, .int .i64 0, .int .i64 0, .int .i64 0]) ?_ 4 _ rfl; (with_reducible repeat (first | refine blk_drewN ?_ _ | refine blk_drew ?_ | refine blk_alloc ?_ _)); refine blk_put (cs := #[.int .i64 t462, .int .i64 t463, .int .i64 t464, .slice none 0 0, .int .i64 0, .slice none 0 0, .slice none 0 0, .int .i64 0, .int .i64 0, .int .i64 0]) ?_ 3 _ rfl; (with_reducible repeat (first | refine blk_drewN ?_ _ | refine blk_drew ?_ | refine blk_alloc ?_ _)); refine blk_put (cs := #[.int .i64 t462, .int .i64 t463, .int .i64 0, .slice none 0 0, .int .i64 0, .slice none 0 0, .slice none 0 0, .int .i64 0, .int .i64 0, .int .i64 0]) ?_ 2 _ rfl; (with_reducible repeat (first | refine blk_drewN ?_ _ | refine blk_drew ?_ | refine blk_alloc ?_ _)); refine blk_put (cs := #[.int .i64 t462, .int .i64 0, .int .i64 0, .slice none 0 0, .int .i64 0, .slice none 0 0, .slice none 0 0, .int .i64 0, .int .i64 0, .int .i64 0]) ?_ 1 _ rfl; (with_reducible repeat (first | refine blk_drewN ?_ _ | refine blk_drew ?_ | refine blk_alloc ?_ _)); refine blk_put (cs := #[.int .i64 0, .int .i64 0, .int .i64 0, .slice none 0 0, .int .i64 0, .slice none 0 0, .slice none 0 0, .int .i64 0, .int .i64 0, .int .i64 0]) ?_ 0 _ rfl; (with_reducible repeat (first | refine blk_drewN ?_ _ | refine blk_drew ?_ | refine blk_alloc ?_ _)); exact BK478.out⟩, ⟨by repeat (first | (with_reducible first | exact HB.out | apply below_alloc | apply pw_below_drewN | apply below_drew1 | refine below_set ?_ GE459.out | refine below_set ?_ GE478.out) | exact HB.out)⟩⟩
    case round =>
      clear H'
      try clear c1
      try clear p2
      try clear c3
      try clear c5
      try clear c16
      try clear hcz11_0
      try clear hcz11_1
      try clear hcz11_2
      try clear hcz11_3
      try clear hcz11_4
      try clear hcz11_5
      try clear hcz11_6
      try clear hcz11_7
      try clear hcz11_8
      try clear hcz11_9
      try clear hcz13_0
      try clear hcz13_1
      try clear hcz13_2
      try clear hcz13_3
      try clear hcz13_4
      try clear hcz13_5
      try clear hcz13_6
      try clear hcz13_7
      try clear hcz13_8
      try clear hcz13_9
      try clear hcz17_0
      try clear hcz17_1
      try clear hcz17_2
      try clear hcz17_3
      try clear hcz17_4
      try clear hcz17_5
      try clear hcz17_6
      try clear hcz17_7
      try clear hcz17_8
      try clear hcz17_9
      try clear hcz6_0
      try clear hcz6_1
      try clear hcz6_2
      try clear hcz6_3
      try clear hcz6_4
      try clear hcz6_5
      try clear hcz6_6
      try clear hcz6_7
      try clear hcz6_8
      try clear hcz6_9
      try clear hfz11_0
      try clear hfz11_1
      try clear hfz11_2
      try clear hfz11_3
      try clear hfz11_4
      try clear hfz11_5
      try clear hfz11_6
      try clear hfz11_7
      try clear hfz11_8
      try clear hfz11_9
      try clear hfz13_0
      try clear hfz13_1
      try clear hfz13_2
      try clear hfz13_3
      try clear hfz13_4
      try clear hfz13_5
      try clear hfz13_6
      try clear hfz13_7
      try clear hfz13_8
      try clear hfz13_9
      try clear hfz17_0
      try clear hfz17_1
      try clear hfz17_2
      try clear hfz17_3
      try clear hfz17_4
      try clear hfz17_5
      try clear hfz17_6
      try clear hfz17_7
      try clear hfz17_8
      try clear hfz17_9
      try clear hfz6_0
      try clear hfz6_1
      try clear hfz6_2
      try clear hfz6_3
      try clear hfz6_4
      try clear hfz6_5
      try clear hfz6_6
      try clear hfz6_7
      try clear hfz6_8
      try clear hfz6_9
      obtain ⟨x4_1, x5_1, rfl, rfl, HA, HK1, HO_479003, HO_479005, HO_479006, BK459, BK478, HB⟩ := hrel
      cases gk with
      | zero => exact absurd HA.out (by simp [sacristanlaw18_SweepKeeps.l0])
      | succ k1 =>
        have H := HA.out
        clear HA
        simp only [sacristanlaw18_SweepKeeps.l0] at H
        by_cases c21 : x5_1 < (l0_3.length : Int)
        · rw [if_pos c21] at H
          have c21b0 : decide (x5_1 < (l0_3.length : Int)) = true := decide_eq_true c21
          clear c21
          have HC22 := Aside0.mk H
          clear H
          have hnb23 := NB459_478.out
          have hnc23 := NB478_459.out
          have hcz24_0 : wr.cell? ⟨gb459, 0, none⟩ = some (.int .i64 a0_0) := (blk_cell BK459.out 0).trans rfl
          have hcz24_1 : wr.cell? ⟨gb459, 1, none⟩ = some (.int .i64 a0_1) := (blk_cell BK459.out 1).trans rfl
          have hcz24_2 : wr.cell? ⟨gb459, 2, none⟩ = some (.int .i64 a0_2) := (blk_cell BK459.out 2).trans rfl
          have hcz24_3 : wr.cell? ⟨gb459, 3, none⟩ = some (.slice A0_3 l0_3.length c0_3) := (blk_cell BK459.out 3).trans rfl
          have hcz24_4 : wr.cell? ⟨gb459, 4, none⟩ = some (.int .i64 a0_4) := (blk_cell BK459.out 4).trans rfl
          have hcz24_5 : wr.cell? ⟨gb459, 5, none⟩ = some (.slice A0_5 l0_5.length c0_5) := (blk_cell BK459.out 5).trans rfl
          have hcz24_6 : wr.cell? ⟨gb459, 6, none⟩ = some (.slice A0_6 l0_6.length c0_6) := (blk_cell BK459.out 6).trans rfl
          have hcz24_7 : wr.cell? ⟨gb459, 7, none⟩ = some (.int .i64 a0_7) := (blk_cell BK459.out 7).trans rfl
          have hcz24_8 : wr.cell? ⟨gb459, 8, none⟩ = some (.int .i64 a0_8) := (blk_cell BK459.out 8).trans rfl
          have hcz24_9 : wr.cell? ⟨gb459, 9, none⟩ = some (.int .i64 a0_9) := (blk_cell BK459.out 9).trans rfl
          have hfz24_0 := blk_frozen BK459.out 0
          have hfz24_1 := blk_frozen BK459.out 1
          have hfz24_2 := blk_frozen BK459.out 2
          have hfz24_3 := blk_frozen BK459.out 3
          have hfz24_4 := blk_frozen BK459.out 4
          have hfz24_5 := blk_frozen BK459.out 5
          have hfz24_6 := blk_frozen BK459.out 6
          have hfz24_7 := blk_frozen BK459.out 7
          have hfz24_8 := blk_frozen BK459.out 8
          have hfz24_9 := blk_frozen BK459.out 9
          go_upto_region 8 with (fail)
          repeat (go_quiet (fail); go_upto_region 8 with (fail))
          go_cut [34] (fun v34 wc => ∃ (kq : Nat) (x34_21 : Bool), v34 = .bool x34_21 ∧ Aside0 (sacristanlaw18_SweepKeeps.j1 kq x4_1 x5_1 x34_21 a0_0 a0_1 a0_2 l0_3 a0_4 l0_5 l0_6 a0_7 a0_8 a0_9 t462 t463 t464 t465 t468 t469 t472 t475 t476 t477 = some r) ∧ Aside0 (kq ≤ k1) ∧ Aside0 (Kd.R k39 39 wc w.heap.size (fun _ => True) (.slice Ao18 t465.length co18) t465) ∧ Aside0 (Kd.R (Kd.int .i64) 3 wc w.heap.size (fun k_ => True) (.slice Ao19 t469.length co19) t469) ∧ Aside0 (Kd.R (Kd.int .i64) 3 wc w.heap.size (fun k_ => True) (.slice Ao20 t472.length co20) t472) ∧ Aside0 (wc.heap[gb459]? = some (.cells #[.int .i64 a0_0, .int .i64 a0_1, .int .i64 a0_2, (.slice A0_3 l0_3.length c0_3), .int .i64 a0_4, (.slice A0_5 l0_5.length c0_5), (.slice A0_6 l0_6.length c0_6), .int .i64 a0_7, .int .i64 a0_8, .int .i64 a0_9] 25 (0, 0))) ∧ Aside0 (wc.heap[gb478]? = some (.cells #[.int .i64 t462, .int .i64 t463, .int .i64 t464, (.slice Ao18 t465.length co18), .int .i64 t468, (.slice Ao19 t469.length co19), (.slice Ao20 t472.length co20), .int .i64 t475, .int .i64 t476, .int .i64 t477] 25 (0, 0))) ∧ Aside0 (Below w.heap.size w wc))
          case first =>
            have H := HC22.out
            clear HC22
            by_cases c25 : 0 ≤ x5_1
            · rw [if_pos c25] at H
              have c25b0 : decide (0 ≤ x5_1) = true := decide_eq_true c25
              clear c25
              (first | rw [c25b0] | (simp only [i64_w, i32_w]; rw [c25b0]) | skip)
              by_cases c26 : ((rd_T39 l0_3 x5_1).f0) = 1
              · rw [if_pos c26] at H
                have c26b0 : (((rd_T39 l0_3 x5_1).f0) == 1) = true := beq_iff_eq.mpr c26
                have c26b1 : (((rd_T39 l0_3 x5_1).f0) != 1) = false := bne_eq_false_iff_eq.mpr c26
                clear c26
                have H' := Aside0.mk H
                clear H
                have hnb27 := NB459_478.out
                have hnc27 := NB478_459.out
                have hcz28_0 : wr.cell? ⟨gb459, 0, none⟩ = some (.int .i64 a0_0) := (blk_cell BK459.out 0).trans rfl
                have hcz28_1 : wr.cell? ⟨gb459, 1, none⟩ = some (.int .i64 a0_1) := (blk_cell BK459.out 1).trans rfl
                have hcz28_2 : wr.cell? ⟨gb459, 2, none⟩ = some (.int .i64 a0_2) := (blk_cell BK459.out 2).trans rfl
                have hcz28_3 : wr.cell? ⟨gb459, 3, none⟩ = some (.slice A0_3 l0_3.length c0_3) := (blk_cell BK459.out 3).trans rfl
                have hcz28_4 : wr.cell? ⟨gb459, 4, none⟩ = some (.int .i64 a0_4) := (blk_cell BK459.out 4).trans rfl
                have hcz28_5 : wr.cell? ⟨gb459, 5, none⟩ = some (.slice A0_5 l0_5.length c0_5) := (blk_cell BK459.out 5).trans rfl
                have hcz28_6 : wr.cell? ⟨gb459, 6, none⟩ = some (.slice A0_6 l0_6.length c0_6) := (blk_cell BK459.out 6).trans rfl
                have hcz28_7 : wr.cell? ⟨gb459, 7, none⟩ = some (.int .i64 a0_7) := (blk_cell BK459.out 7).trans rfl
                have hcz28_8 : wr.cell? ⟨gb459, 8, none⟩ = some (.int .i64 a0_8) := (blk_cell BK459.out 8).trans rfl
                have hcz28_9 : wr.cell? ⟨gb459, 9, none⟩ = some (.int .i64 a0_9) := (blk_cell BK459.out 9).trans rfl
                have hfz28_0 := blk_frozen BK459.out 0
                have hfz28_1 := blk_frozen BK459.out 1
                have hfz28_2 := blk_frozen BK459.out 2
                have hfz28_3 := blk_frozen BK459.out 3
                have hfz28_4 := blk_frozen BK459.out 4
                have hfz28_5 := blk_frozen BK459.out 5
                have hfz28_6 := blk_frozen BK459.out 6
                have hfz28_7 := blk_frozen BK459.out 7
                have hfz28_8 := blk_frozen BK459.out 8
                have hfz28_9 := blk_frozen BK459.out 9
                have p480 : 0 ≤ (x5_1 : Int) := of_decide_eq_true (by first | (with_reducible assumption) | assumption)
                have q480 : x5_1 < (l0_3.length : Int) := of_decide_eq_true (by first | (with_reducible assumption) | assumption)
                obtain ⟨ad480, e480, hx480_0, hx480_1, hx480_2, hx480_3, hx480_4, hx480_5, hx480_6, hx480_7⟩ := at_T39 HR0_3.out x5_1 p480 q480
                cases e480
                replace hx480_0 := (HB.out.cell (World.block_lt_of_cell? w _ hx480_0)).trans hx480_0
                replace hx480_1 := (HB.out.cell (World.block_lt_of_cell? w _ hx480_1)).trans hx480_1
                replace hx480_2 := (HB.out.cell (World.block_lt_of_cell? w _ hx480_2)).trans hx480_2
                replace hx480_3 := (HB.out.cell (World.block_lt_of_cell? w _ hx480_3)).trans hx480_3
                replace hx480_4 := (HB.out.cell (World.block_lt_of_cell? w _ hx480_4)).trans hx480_4
                replace hx480_5 := (HB.out.cell (World.block_lt_of_cell? w _ hx480_5)).trans hx480_5
                replace hx480_6 := (HB.out.cell (World.block_lt_of_cell? w _ hx480_6)).trans hx480_6
                replace hx480_7 := (HB.out.cell (World.block_lt_of_cell? w _ hx480_7)).trans hx480_7
                replace p480 := eq_true p480
                replace q480 := eq_true q480
                go_wp2
                repeat (go_quiet (fail); try go_wp2)
                go_meet
                case rel => exact ⟨_, (true), (by first | rfl | (simp; done) | (simp [*]; done)), H', ⟨by have := HK1.out; first | omega | exact Nat.le_refl _⟩, ⟨by (with_reducible repeat (first | apply Kd.R_alloc | apply Kd.R_drewN | apply Kd.R_drew)); exact HO_479003.out⟩, ⟨by (with_reducible repeat (first | apply Kd.R_alloc | apply Kd.R_drewN | apply Kd.R_drew)); exact HO_479005.out⟩, ⟨by (with_reducible repeat (first | apply Kd.R_alloc | apply Kd.R_drewN | apply Kd.R_drew)); exact HO_479006.out⟩, ⟨by (with_reducible repeat (first | refine blk_drewN ?_ _ | refine blk_drew ?_ | refine blk_alloc ?_ _)); exact BK459.out⟩, ⟨by (with_reducible repeat (first | refine blk_drewN ?_ _ | refine blk_drew ?_ | refine blk_alloc ?_ _)); exact BK478.out⟩, ⟨by repeat (first | (with_reducible first | exact HB.out | apply below_alloc | apply pw_below_drewN | apply below_drew1 | refine below_set ?_ GE459.out | refine below_set ?_ GE478.out) | exact HB.out)⟩⟩
              · rw [if_neg c26] at H
                have c26b0 : (((rd_T39 l0_3 x5_1).f0) == 1) = false := beq_eq_false_iff_ne.mpr c26
                have c26b1 : (((rd_T39 l0_3 x5_1).f0) != 1) = true := bne_iff_ne.mpr c26
                have H' := Aside0.mk H
                clear H
                have hnb29 := NB459_478.out
                have hnc29 := NB478_459.out
                have hcz30_0 : wr.cell? ⟨gb459, 0, none⟩ = some (.int .i64 a0_0) := (blk_cell BK459.out 0).trans rfl
                have hcz30_1 : wr.cell? ⟨gb459, 1, none⟩ = some (.int .i64 a0_1) := (blk_cell BK459.out 1).trans rfl
                have hcz30_2 : wr.cell? ⟨gb459, 2, none⟩ = some (.int .i64 a0_2) := (blk_cell BK459.out 2).trans rfl
                have hcz30_3 : wr.cell? ⟨gb459, 3, none⟩ = some (.slice A0_3 l0_3.length c0_3) := (blk_cell BK459.out 3).trans rfl
                have hcz30_4 : wr.cell? ⟨gb459, 4, none⟩ = some (.int .i64 a0_4) := (blk_cell BK459.out 4).trans rfl
                have hcz30_5 : wr.cell? ⟨gb459, 5, none⟩ = some (.slice A0_5 l0_5.length c0_5) := (blk_cell BK459.out 5).trans rfl
                have hcz30_6 : wr.cell? ⟨gb459, 6, none⟩ = some (.slice A0_6 l0_6.length c0_6) := (blk_cell BK459.out 6).trans rfl
                have hcz30_7 : wr.cell? ⟨gb459, 7, none⟩ = some (.int .i64 a0_7) := (blk_cell BK459.out 7).trans rfl
                have hcz30_8 : wr.cell? ⟨gb459, 8, none⟩ = some (.int .i64 a0_8) := (blk_cell BK459.out 8).trans rfl
                have hcz30_9 : wr.cell? ⟨gb459, 9, none⟩ = some (.int .i64 a0_9) := (blk_cell BK459.out 9).trans rfl
                have hfz30_0 := blk_frozen BK459.out 0
                have hfz30_1 := blk_frozen BK459.out 1
                have hfz30_2 := blk_frozen BK459.out 2
                have hfz30_3 := blk_frozen BK459.out 3
                have hfz30_4 := blk_frozen BK459.out 4
                have hfz30_5 := blk_frozen BK459.out 5
                have hfz30_6 := blk_frozen BK459.out 6
                have hfz30_7 := blk_frozen BK459.out 7
                have hfz30_8 := blk_frozen BK459.out 8
                have hfz30_9 := blk_frozen BK459.out 9
                have p480 : 0 ≤ (x5_1 : Int) := of_decide_eq_true (by first | (with_reducible assumption) | assumption)
                have q480 : x5_1 < (l0_3.length : Int) := of_decide_eq_true (by first | (with_reducible assumption) | assumption)
                obtain ⟨ad480, e480, hx480_0, hx480_1, hx480_2, hx480_3, hx480_4, hx480_5, hx480_6, hx480_7⟩ := at_T39 HR0_3.out x5_1 p480 q480
                cases e480
                replace hx480_0 := (HB.out.cell (World.block_lt_of_cell? w _ hx480_0)).trans hx480_0
                replace hx480_1 := (HB.out.cell (World.block_lt_of_cell? w _ hx480_1)).trans hx480_1
                replace hx480_2 := (HB.out.cell (World.block_lt_of_cell? w _ hx480_2)).trans hx480_2
                replace hx480_3 := (HB.out.cell (World.block_lt_of_cell? w _ hx480_3)).trans hx480_3
                replace hx480_4 := (HB.out.cell (World.block_lt_of_cell? w _ hx480_4)).trans hx480_4
                replace hx480_5 := (HB.out.cell (World.block_lt_of_cell? w _ hx480_5)).trans hx480_5
                replace hx480_6 := (HB.out.cell (World.block_lt_of_cell? w _ hx480_6)).trans hx480_6
                replace hx480_7 := (HB.out.cell (World.block_lt_of_cell? w _ hx480_7)).trans hx480_7
                replace p480 := eq_true p480
                replace q480 := eq_true q480
                have p481 : 0 ≤ (x5_1 : Int) := of_decide_eq_true (by first | (with_reducible assumption) | assumption)
                have q481 : x5_1 < (l0_3.length : Int) := of_decide_eq_true (by first | (with_reducible assumption) | assumption)
                obtain ⟨ad481, e481, hx481_0, hx481_1, hx481_2, hx481_3, hx481_4, hx481_5, hx481_6, hx481_7⟩ := at_T39 HR0_3.out x5_1 p481 q481
                obtain rfl : ad480 = ad481 := (by injection e481)
                replace hx481_0 := (HB.out.cell (World.block_lt_of_cell? w _ hx481_0)).trans hx481_0
                replace hx481_1 := (HB.out.cell (World.block_lt_of_cell? w _ hx481_1)).trans hx481_1
                replace hx481_2 := (HB.out.cell (World.block_lt_of_cell? w _ hx481_2)).trans hx481_2
                replace hx481_3 := (HB.out.cell (World.block_lt_of_cell? w _ hx481_3)).trans hx481_3
                replace hx481_4 := (HB.out.cell (World.block_lt_of_cell? w _ hx481_4)).trans hx481_4
                replace hx481_5 := (HB.out.cell (World.block_lt_of_cell? w _ hx481_5)).trans hx481_5
                replace hx481_6 := (HB.out.cell (World.block_lt_of_cell? w _ hx481_6)).trans hx481_6
                replace hx481_7 := (HB.out.cell (World.block_lt_of_cell? w _ hx481_7)).trans hx481_7
                replace p481 := eq_true p481
                replace q481 := eq_true q481
                go_wp2
                repeat (go_quiet (fail); try go_wp2)
                go_meet
                case rel => exact ⟨_, ((((rd_T39 l0_3 x5_1).f0) == 2)), (by first | rfl | (simp; done) | (simp [*]; done)), H', ⟨by have := HK1.out; first | omega | exact Nat.le_refl _⟩, ⟨by (with_reducible repeat (first | apply Kd.R_alloc | apply Kd.R_drewN | apply Kd.R_drew)); exact HO_479003.out⟩, ⟨by (with_reducible repeat (first | apply Kd.R_alloc | apply Kd.R_drewN | apply Kd.R_drew)); exact HO_479005.out⟩, ⟨by (with_reducible repeat (first | apply Kd.R_alloc | apply Kd.R_drewN | apply Kd.R_drew)); exact HO_479006.out⟩, ⟨by (with_reducible repeat (first | refine blk_drewN ?_ _ | refine blk_drew ?_ | refine blk_alloc ?_ _)); exact BK459.out⟩, ⟨by (with_reducible repeat (first | refine blk_drewN ?_ _ | refine blk_drew ?_ | refine blk_alloc ?_ _)); exact BK478.out⟩, ⟨by repeat (first | (with_reducible first | exact HB.out | apply below_alloc | apply pw_below_drewN | apply below_drew1 | refine below_set ?_ GE459.out | refine below_set ?_ GE478.out) | exact HB.out)⟩⟩
            · rw [if_neg c25] at H
              exact absurd H (by simp)
          case rest =>
            clear HC22
            try clear c1
            try clear c2
            try clear p2
            try clear c3
            try clear p4
            try clear q4
            try clear hx4
            try clear c5
            try clear c16
            try clear c21
            try clear c21b0
            try clear c23
            try clear c25
            try clear c25b0
            try clear c26
            try clear c26b0
            try clear c26b1
            try clear c27
            try clear c29
            try clear hcz11_0
            try clear hcz11_1
            try clear hcz11_2
            try clear hcz11_3
            try clear hcz11_4
            try clear hcz11_5
            try clear hcz11_6
            try clear hcz11_7
            try clear hcz11_8
            try clear hcz11_9
            try clear hcz13_0
            try clear hcz13_1
            try clear hcz13_2
            try clear hcz13_3
            try clear hcz13_4
            try clear hcz13_5
            try clear hcz13_6
            try clear hcz13_7
            try clear hcz13_8
            try clear hcz13_9
            try clear hcz17_0
            try clear hcz17_1
            try clear hcz17_2
            try clear hcz17_3
            try clear hcz17_4
            try clear hcz17_5
            try clear hcz17_6
            try clear hcz17_7
            try clear hcz17_8
            try clear hcz17_9
            try clear hcz24_0
            try clear hcz24_1
            try clear hcz24_2
            try clear hcz24_3
            try clear hcz24_4
            try clear hcz24_5
            try clear hcz24_6
            try clear hcz24_7
            try clear hcz24_8
            try clear hcz24_9
            try clear hcz28_0
            try clear hcz28_1
            try clear hcz28_2
            try clear hcz28_3
            try clear hcz28_4
            try clear hcz28_5
            try clear hcz28_6
            try clear hcz28_7
            try clear hcz28_8
            try clear hcz28_9
            try clear hcz30_0
            try clear hcz30_1
            try clear hcz30_2
            try clear hcz30_3
            try clear hcz30_4
            try clear hcz30_5
            try clear hcz30_6
            try clear hcz30_7
            try clear hcz30_8
            try clear hcz30_9
            try clear hcz6_0
            try clear hcz6_1
            try clear hcz6_2
            try clear hcz6_3
            try clear hcz6_4
            try clear hcz6_5
            try clear hcz6_6
            try clear hcz6_7
            try clear hcz6_8
            try clear hcz6_9
            try clear hfz11_0
            try clear hfz11_1
            try clear hfz11_2
            try clear hfz11_3
            try clear hfz11_4
            try clear hfz11_5
            try clear hfz11_6
            try clear hfz11_7
            try clear hfz11_8
            try clear hfz11_9
            try clear hfz13_0
            try clear hfz13_1
            try clear hfz13_2
            try clear hfz13_3
            try clear hfz13_4
            try clear hfz13_5
            try clear hfz13_6
            try clear hfz13_7
            try clear hfz13_8
            try clear hfz13_9
            try clear hfz17_0
            try clear hfz17_1
            try clear hfz17_2
            try clear hfz17_3
            try clear hfz17_4
            try clear hfz17_5
            try clear hfz17_6
            try clear hfz17_7
            try clear hfz17_8
            try clear hfz17_9
            try clear hfz24_0
            try clear hfz24_1
            try clear hfz24_2
            try clear hfz24_3
            try clear hfz24_4
            try clear hfz24_5
            try clear hfz24_6
            try clear hfz24_7
            try clear hfz24_8
            try clear hfz24_9
            try clear hfz28_0
            try clear hfz28_1
            try clear hfz28_2
            try clear hfz28_3
            try clear hfz28_4
            try clear hfz28_5
            try clear hfz28_6
            try clear hfz28_7
            try clear hfz28_8
            try clear hfz28_9
            try clear hfz30_0
            try clear hfz30_1
            try clear hfz30_2
            try clear hfz30_3
            try clear hfz30_4
            try clear hfz30_5
            try clear hfz30_6
            try clear hfz30_7
            try clear hfz30_8
            try clear hfz30_9
            try clear hfz6_0
            try clear hfz6_1
            try clear hfz6_2
            try clear hfz6_3
            try clear hfz6_4
            try clear hfz6_5
            try clear hfz6_6
            try clear hfz6_7
            try clear hfz6_8
            try clear hfz6_9
            try clear hx480_0
            try clear hx480_1
            try clear hx480_2
            try clear hx480_3
            try clear hx480_4
            try clear hx480_5
            try clear hx480_6
            try clear hx480_7
            try clear hx481_0
            try clear hx481_1
            try clear hx481_2
            try clear hx481_3
            try clear hx481_4
            try clear hx481_5
            try clear hx481_6
            try clear hx481_7
            try clear p2
            try clear p480
            try clear p481
            try clear q480
            try clear q481
            obtain ⟨kq, x34_21, rfl, HA, HJ21, HO_479003, HO_479005, HO_479006, BK459, BK478, HB⟩ := hcut
            cases kq with
            | zero => exact absurd HA.out (by simp [sacristanlaw18_SweepKeeps.j1])
            | succ kj21 =>
              have H := HA.out
              clear HA
              simp only [sacristanlaw18_SweepKeeps.j1] at H
              by_cases c31 : x34_21 = true
              · subst c31
                have H1 : (sacristanlaw18_SweepKeeps.l0 kj21 x4_1 (wrap64 (x5_1 + 1)) a0_0 a0_1 a0_2 l0_3 a0_4 l0_5 l0_6 a0_7 a0_8 a0_9 t462 t463 t464 t465 t468 t469 t472 t475 t476 t477) = some r := by rw [if_pos rfl] at H; exact H
                clear H
                have H := H1
                clear H1
                have H' := Aside0.mk H
                clear H
                go_wp2
                repeat (go_quiet (fail); try go_wp2)
                go_roundg kj21
                case measure => have := HK1.out; have := HJ21.out; omega
                case rel => exact ⟨(x4_1), (wrap64 (x5_1 + 1)), (by first | rfl | (simp; done) | (simp [*]; done)), (by first | rfl | (simp; done) | (simp [*]; done)), H', ⟨by have := HK1.out; have := HJ21.out; omega⟩, ⟨by (with_reducible repeat (first | apply Kd.R_alloc | apply Kd.R_drewN | apply Kd.R_drew)); exact HO_479003.out⟩, ⟨by (with_reducible repeat (first | apply Kd.R_alloc | apply Kd.R_drewN | apply Kd.R_drew)); exact HO_479005.out⟩, ⟨by (with_reducible repeat (first | apply Kd.R_alloc | apply Kd.R_drewN | apply Kd.R_drew)); exact HO_479006.out⟩, ⟨by (with_reducible repeat (first | refine blk_drewN ?_ _ | refine blk_drew ?_ | refine blk_alloc ?_ _)); exact BK459.out⟩, ⟨by (with_reducible repeat (first | refine blk_drewN ?_ _ | refine blk_drew ?_ | refine blk_alloc ?_ _)); exact BK478.out⟩, ⟨by repeat (first | (with_reducible first | exact HB.out | apply below_alloc | apply pw_below_drewN | apply below_drew1 | refine below_set ?_ GE459.out | refine below_set ?_ GE478.out) | exact HB.out)⟩⟩
              · replace c31 := Bool.eq_false_iff.mpr c31
                subst c31
                have H1 : (sacristanlaw18_SweepKeeps.l1 kj21 x4_1 x5_1 a0_0 a0_1 a0_2 l0_3 a0_4 l0_5 l0_6 a0_7 a0_8 a0_9 t462 t463 t464 t465 t468 t469 t472 t475 t476 t477) = some r := by rw [if_neg (show ¬ (false = true) by decide)] at H; exact H
                clear H
                have H := H1
                clear H1
                have HC32 := Aside0.mk H
                clear H
                go_upto_block 2 with (fail)
                repeat (go_quiet (fail); go_upto_block 2 with (fail))
                go_cut [4] (fun v4 wc => ∃ (kq : Nat) (x4_31 : Int), v4 = .int .i64 x4_31 ∧ Aside0 (sacristanlaw18_SweepKeeps.j3 kq x4_31 x5_1 a0_0 a0_1 a0_2 l0_3 a0_4 l0_5 l0_6 a0_7 a0_8 a0_9 t462 t463 t464 t465 t468 t469 t472 t475 t476 t477 = some r) ∧ Aside0 (kq ≤ kj21) ∧ Aside0 (Kd.R k39 39 wc w.heap.size (fun _ => True) (.slice Ao18 t465.length co18) t465) ∧ Aside0 (Kd.R (Kd.int .i64) 3 wc w.heap.size (fun k_ => True) (.slice Ao19 t469.length co19) t469) ∧ Aside0 (Kd.R (Kd.int .i64) 3 wc w.heap.size (fun k_ => True) (.slice Ao20 t472.length co20) t472) ∧ Aside0 (wc.heap[gb459]? = some (.cells #[.int .i64 a0_0, .int .i64 a0_1, .int .i64 a0_2, (.slice A0_3 l0_3.length c0_3), .int .i64 a0_4, (.slice A0_5 l0_5.length c0_5), (.slice A0_6 l0_6.length c0_6), .int .i64 a0_7, .int .i64 a0_8, .int .i64 a0_9] 25 (0, 0))) ∧ Aside0 (wc.heap[gb478]? = some (.cells #[.int .i64 t462, .int .i64 t463, .int .i64 t464, (.slice Ao18 t465.length co18), .int .i64 t468, (.slice Ao19 t469.length co19), (.slice Ao20 t472.length co20), .int .i64 t475, .int .i64 t476, .int .i64 t477] 25 (0, 0))) ∧ Aside0 (Below w.heap.size w wc))
                case first =>
                  have H := HC32.out
                  clear HC32
                  have H' := Aside0.mk H
                  clear H
                  go_wp2
                  repeat (go_quiet (fail); try go_wp2)
                  go_loopg [4] kj21 (fun kq v4 w' => ∃ (x4_3 : Int), v4 = .int .i64 x4_3 ∧ Aside0 (sacristanlaw18_SweepKeeps.l1 kq x4_3 x5_1 a0_0 a0_1 a0_2 l0_3 a0_4 l0_5 l0_6 a0_7 a0_8 a0_9 t462 t463 t464 t465 t468 t469 t472 t475 t476 t477 = some r) ∧ Aside0 (kq ≤ kj21) ∧ Aside0 (Kd.R k39 39 w' w.heap.size (fun _ => True) (.slice Ao18 t465.length co18) t465) ∧ Aside0 (Kd.R (Kd.int .i64) 3 w' w.heap.size (fun k_ => True) (.slice Ao19 t469.length co19) t469) ∧ Aside0 (Kd.R (Kd.int .i64) 3 w' w.heap.size (fun k_ => True) (.slice Ao20 t472.length co20) t472) ∧ Aside0 (w'.heap[gb459]? = some (.cells #[.int .i64 a0_0, .int .i64 a0_1, .int .i64 a0_2, (.slice A0_3 l0_3.length c0_3), .int .i64 a0_4, (.slice A0_5 l0_5.length c0_5), (.slice A0_6 l0_6.length c0_6), .int .i64 a0_7, .int .i64 a0_8, .int .i64 a0_9] 25 (0, 0))) ∧ Aside0 (w'.heap[gb478]? = some (.cells #[.int .i64 t462, .int .i64 t463, .int .i64 t464, (.slice Ao18 t465.length co18), .int .i64 t468, (.slice Ao19 t469.length co19), (.slice Ao20 t472.length co20), .int .i64 t475, .int .i64 t476, .int .i64 t477] 25 (0, 0))) ∧ Aside0 (Below w.heap.size w w'))
                  case atStart => exact ⟨(x4_1), (by first | rfl | (simp; done) | (simp [*]; done)), H', ⟨Nat.le_refl _⟩, ⟨by (with_reducible repeat (first | apply Kd.R_alloc | apply Kd.R_drewN | apply Kd.R_drew)); exact HO_479003.out⟩, ⟨by (with_reducible repeat (first | apply Kd.R_alloc | apply Kd.R_drewN | apply Kd.R_drew)); exact HO_479005.out⟩, ⟨by (with_reducible repeat (first | apply Kd.R_alloc | apply Kd.R_drewN | apply Kd.R_drew)); exact HO_479006.out⟩, ⟨by (with_reducible repeat (first | refine blk_drewN ?_ _ | refine blk_drew ?_ | refine blk_alloc ?_ _)); exact BK459.out⟩, ⟨by (with_reducible repeat (first | refine blk_drewN ?_ _ | refine blk_drew ?_ | refine blk_alloc ?_ _)); exact BK478.out⟩, ⟨by repeat (first | (with_reducible first | exact HB.out | apply below_alloc | apply pw_below_drewN | apply below_drew1 | refine below_set ?_ GE459.out | refine below_set ?_ GE478.out) | exact HB.out)⟩⟩
                  case round =>
                    clear H'
                    try clear c1
                    try clear c2
                    try clear p2
                    try clear c3
                    try clear p4
                    try clear q4
                    try clear hx4
                    try clear c5
                    try clear p6
                    try clear c16
                    try clear c21
                    try clear c21b0
                    try clear c23
                    try clear c25
                    try clear c25b0
                    try clear c26
                    try clear c26b0
                    try clear c26b1
                    try clear c27
                    try clear c29
                    try clear c31
                    try clear hcz11_0
                    try clear hcz11_1
                    try clear hcz11_2
                    try clear hcz11_3
                    try clear hcz11_4
                    try clear hcz11_5
                    try clear hcz11_6
                    try clear hcz11_7
                    try clear hcz11_8
                    try clear hcz11_9
                    try clear hcz13_0
                    try clear hcz13_1
                    try clear hcz13_2
                    try clear hcz13_3
                    try clear hcz13_4
                    try clear hcz13_5
                    try clear hcz13_6
                    try clear hcz13_7
                    try clear hcz13_8
                    try clear hcz13_9
                    try clear hcz17_0
                    try clear hcz17_1
                    try clear hcz17_2
                    try clear hcz17_3
                    try clear hcz17_4
                    try clear hcz17_5
                    try clear hcz17_6
                    try clear hcz17_7
                    try clear hcz17_8
                    try clear hcz17_9
                    try clear hcz24_0
                    try clear hcz24_1
                    try clear hcz24_2
                    try clear hcz24_3
                    try clear hcz24_4
                    try clear hcz24_5
                    try clear hcz24_6
                    try clear hcz24_7
                    try clear hcz24_8
                    try clear hcz24_9
                    try clear hcz28_0
                    try clear hcz28_1
                    try clear hcz28_2
                    try clear hcz28_3
                    try clear hcz28_4
                    try clear hcz28_5
                    try clear hcz28_6
                    try clear hcz28_7
                    try clear hcz28_8
                    try clear hcz28_9
                    try clear hcz30_0
                    try clear hcz30_1
                    try clear hcz30_2
                    try clear hcz30_3
                    try clear hcz30_4
                    try clear hcz30_5
                    try clear hcz30_6
                    try clear hcz30_7
                    try clear hcz30_8
                    try clear hcz30_9
                    try clear hcz6_0
                    try clear hcz6_1
                    try clear hcz6_2
                    try clear hcz6_3
                    try clear hcz6_4
                    try clear hcz6_5
                    try clear hcz6_6
                    try clear hcz6_7
                    try clear hcz6_8
                    try clear hcz6_9
                    try clear hfz11_0
                    try clear hfz11_1
                    try clear hfz11_2
                    try clear hfz11_3
                    try clear hfz11_4
                    try clear hfz11_5
                    try clear hfz11_6
                    try clear hfz11_7
                    try clear hfz11_8
                    try clear hfz11_9
                    try clear hfz13_0
                    try clear hfz13_1
                    try clear hfz13_2
                    try clear hfz13_3
                    try clear hfz13_4
                    try clear hfz13_5
                    try clear hfz13_6
                    try clear hfz13_7
                    try clear hfz13_8
                    try clear hfz13_9
                    try clear hfz17_0
                    try clear hfz17_1
                    try clear hfz17_2
                    try clear hfz17_3
                    try clear hfz17_4
                    try clear hfz17_5
                    try clear hfz17_6
                    try clear hfz17_7
                    try clear hfz17_8
                    try clear hfz17_9
                    try clear hfz24_0
                    try clear hfz24_1
                    try clear hfz24_2
                    try clear hfz24_3
                    try clear hfz24_4
                    try clear hfz24_5
                    try clear hfz24_6
                    try clear hfz24_7
                    try clear hfz24_8
                    try clear hfz24_9
                    try clear hfz28_0
                    try clear hfz28_1
                    try clear hfz28_2
                    try clear hfz28_3
                    try clear hfz28_4
                    try clear hfz28_5
                    try clear hfz28_6
                    try clear hfz28_7
                    try clear hfz28_8
                    try clear hfz28_9
                    try clear hfz30_0
                    try clear hfz30_1
                    try clear hfz30_2
                    try clear hfz30_3
                    try clear hfz30_4
                    try clear hfz30_5
                    try clear hfz30_6
                    try clear hfz30_7
                    try clear hfz30_8
                    try clear hfz30_9
                    try clear hfz6_0
                    try clear hfz6_1
                    try clear hfz6_2
                    try clear hfz6_3
                    try clear hfz6_4
                    try clear hfz6_5
                    try clear hfz6_6
                    try clear hfz6_7
                    try clear hfz6_8
                    try clear hfz6_9
                    try clear hx480_0
                    try clear hx480_1
                    try clear hx480_2
                    try clear hx480_3
                    try clear hx480_4
                    try clear hx480_5
                    try clear hx480_6
                    try clear hx480_7
                    try clear hx481_0
                    try clear hx481_1
                    try clear hx481_2
                    try clear hx481_3
                    try clear hx481_4
                    try clear hx481_5
                    try clear hx481_6
                    try clear hx481_7
                    try clear p2
                    try clear p4
                    try clear p480
                    try clear p481
                    try clear q4
                    try clear q480
                    try clear q481
                    obtain ⟨x4_3, rfl, HA, HK3, HO_479003, HO_479005, HO_479006, BK459, BK478, HB⟩ := hrel
                    cases gk with
                    | zero => exact absurd HA.out (by simp [sacristanlaw18_SweepKeeps.l1])
                    | succ k3 =>
                      have H := HA.out
                      clear HA
                      simp only [sacristanlaw18_SweepKeeps.l1] at H
                      by_cases c33 : x4_3 < (t465.length : Int)
                      · rw [if_pos c33] at H
                        have c33b0 : decide (x4_3 < (t465.length : Int)) = true := decide_eq_true c33
                        clear c33
                        (first | rw [c33b0] | (simp only [i64_w, i32_w]; rw [c33b0]) | skip)
                        by_cases c34 : 0 ≤ x4_3
                        · rw [if_pos c34] at H
                          have c34b0 : decide (0 ≤ x4_3) = true := decide_eq_true c34
                          clear c34
                          by_cases c35 : 0 ≤ x5_1
                          · rw [if_pos c35] at H
                            have c35b0 : decide (0 ≤ x5_1) = true := decide_eq_true c35
                            clear c35
                            by_cases c36 : x5_1 < (l0_3.length : Int)
                            · rw [if_pos c36] at H
                              have c36b0 : decide (x5_1 < (l0_3.length : Int)) = true := decide_eq_true c36
                              clear c36
                              by_cases c37 : (!(((rd_T39 t465 x4_3).f0) == ((rd_T39 l0_3 x5_1).f0)) || (!(((rd_T39 t465 x4_3).f1) == ((rd_T39 l0_3 x5_1).f1)) || (!(((rd_T39 t465 x4_3).f2) == ((rd_T39 l0_3 x5_1).f2)) || (!(((rd_T39 t465 x4_3).f3) == ((rd_T39 l0_3 x5_1).f3)) || (!((((rd_T39 t465 x4_3).f4).toList) == (((rd_T39 l0_3 x5_1).f4).toList)) || ((!(((rd_T39 t465 x4_3).f5.f0) == ((rd_T39 l0_3 x5_1).f5.f0)) || (!(((rd_T39 t465 x4_3).f5.f1) == ((rd_T39 l0_3 x5_1).f5.f1)) || (!((((rd_T39 t465 x4_3).f5.f2).toList) == (((rd_T39 l0_3 x5_1).f5.f2).toList))))))))))) = true
                              · rw [if_pos c37] at H
                                have c37b0 : (!(((rd_T39 t465 x4_3).f0) == ((rd_T39 l0_3 x5_1).f0)) || (!(((rd_T39 t465 x4_3).f1) == ((rd_T39 l0_3 x5_1).f1)) || (!(((rd_T39 t465 x4_3).f2) == ((rd_T39 l0_3 x5_1).f2)) || (!(((rd_T39 t465 x4_3).f3) == ((rd_T39 l0_3 x5_1).f3)) || (!((((rd_T39 t465 x4_3).f4).toList) == (((rd_T39 l0_3 x5_1).f4).toList)) || ((!(((rd_T39 t465 x4_3).f5.f0) == ((rd_T39 l0_3 x5_1).f5.f0)) || (!(((rd_T39 t465 x4_3).f5.f1) == ((rd_T39 l0_3 x5_1).f5.f1)) || (!((((rd_T39 t465 x4_3).f5.f2).toList) == (((rd_T39 l0_3 x5_1).f5.f2).toList))))))))))) = true := c37
                                clear c37
                                have H' := Aside0.mk H
                                clear H
                                have hnb38 := NB478_459.out
                                have hnc38 := NB459_478.out
                                have hcz39_0 : wr.cell? ⟨gb478, 0, none⟩ = some (.int .i64 t462) := (blk_cell BK478.out 0).trans rfl
                                have hcz39_1 : wr.cell? ⟨gb478, 1, none⟩ = some (.int .i64 t463) := (blk_cell BK478.out 1).trans rfl
                                have hcz39_2 : wr.cell? ⟨gb478, 2, none⟩ = some (.int .i64 t464) := (blk_cell BK478.out 2).trans rfl
                                have hcz39_3 : wr.cell? ⟨gb478, 3, none⟩ = some (.slice Ao18 t465.length co18) := (blk_cell BK478.out 3).trans rfl
                                have hcz39_4 : wr.cell? ⟨gb478, 4, none⟩ = some (.int .i64 t468) := (blk_cell BK478.out 4).trans rfl
                                have hcz39_5 : wr.cell? ⟨gb478, 5, none⟩ = some (.slice Ao19 t469.length co19) := (blk_cell BK478.out 5).trans rfl
                                have hcz39_6 : wr.cell? ⟨gb478, 6, none⟩ = some (.slice Ao20 t472.length co20) := (blk_cell BK478.out 6).trans rfl
                                have hcz39_7 : wr.cell? ⟨gb478, 7, none⟩ = some (.int .i64 t475) := (blk_cell BK478.out 7).trans rfl
                                have hcz39_8 : wr.cell? ⟨gb478, 8, none⟩ = some (.int .i64 t476) := (blk_cell BK478.out 8).trans rfl
                                have hcz39_9 : wr.cell? ⟨gb478, 9, none⟩ = some (.int .i64 t477) := (blk_cell BK478.out 9).trans rfl
                                have hfz39_0 := blk_frozen BK478.out 0
                                have hfz39_1 := blk_frozen BK478.out 1
                                have hfz39_2 := blk_frozen BK478.out 2
                                have hfz39_3 := blk_frozen BK478.out 3
                                have hfz39_4 := blk_frozen BK478.out 4
                                have hfz39_5 := blk_frozen BK478.out 5
                                have hfz39_6 := blk_frozen BK478.out 6
                                have hfz39_7 := blk_frozen BK478.out 7
                                have hfz39_8 := blk_frozen BK478.out 8
                                have hfz39_9 := blk_frozen BK478.out 9
                                have p482 : 0 ≤ (x4_3 : Int) := of_decide_eq_true (by first | (with_reducible assumption) | assumption)
                                have q482 : x4_3 < (t465.length : Int) := of_decide_eq_true (by first | (with_reducible assumption) | assumption)
                                obtain ⟨ad482, e482, hx482_0, hx482_1, hx482_2, hx482_3, hx482_4, hx482_5, hx482_6, hx482_7⟩ := at_T39 (Kd.R_reads' HO_479003.out).2.2 x4_3 p482 q482
                                cases e482
                                replace p482 := eq_true p482
                                replace q482 := eq_true q482
                                have hcz40_0 : wr.cell? ⟨gb459, 0, none⟩ = some (.int .i64 a0_0) := (blk_cell BK459.out 0).trans rfl
                                have hcz40_1 : wr.cell? ⟨gb459, 1, none⟩ = some (.int .i64 a0_1) := (blk_cell BK459.out 1).trans rfl
                                have hcz40_2 : wr.cell? ⟨gb459, 2, none⟩ = some (.int .i64 a0_2) := (blk_cell BK459.out 2).trans rfl
                                have hcz40_3 : wr.cell? ⟨gb459, 3, none⟩ = some (.slice A0_3 l0_3.length c0_3) := (blk_cell BK459.out 3).trans rfl
                                have hcz40_4 : wr.cell? ⟨gb459, 4, none⟩ = some (.int .i64 a0_4) := (blk_cell BK459.out 4).trans rfl
                                have hcz40_5 : wr.cell? ⟨gb459, 5, none⟩ = some (.slice A0_5 l0_5.length c0_5) := (blk_cell BK459.out 5).trans rfl
                                have hcz40_6 : wr.cell? ⟨gb459, 6, none⟩ = some (.slice A0_6 l0_6.length c0_6) := (blk_cell BK459.out 6).trans rfl
                                have hcz40_7 : wr.cell? ⟨gb459, 7, none⟩ = some (.int .i64 a0_7) := (blk_cell BK459.out 7).trans rfl
                                have hcz40_8 : wr.cell? ⟨gb459, 8, none⟩ = some (.int .i64 a0_8) := (blk_cell BK459.out 8).trans rfl
                                have hcz40_9 : wr.cell? ⟨gb459, 9, none⟩ = some (.int .i64 a0_9) := (blk_cell BK459.out 9).trans rfl
                                have hfz40_0 := blk_frozen BK459.out 0
                                have hfz40_1 := blk_frozen BK459.out 1
                                have hfz40_2 := blk_frozen BK459.out 2
                                have hfz40_3 := blk_frozen BK459.out 3
                                have hfz40_4 := blk_frozen BK459.out 4
                                have hfz40_5 := blk_frozen BK459.out 5
                                have hfz40_6 := blk_frozen BK459.out 6
                                have hfz40_7 := blk_frozen BK459.out 7
                                have hfz40_8 := blk_frozen BK459.out 8
                                have hfz40_9 := blk_frozen BK459.out 9
                                have p483 : 0 ≤ (x5_1 : Int) := of_decide_eq_true (by first | (with_reducible assumption) | assumption)
                                have q483 : x5_1 < (l0_3.length : Int) := of_decide_eq_true (by first | (with_reducible assumption) | assumption)
                                obtain ⟨ad483, e483, hx483_0, hx483_1, hx483_2, hx483_3, hx483_4, hx483_5, hx483_6, hx483_7⟩ := at_T39 HR0_3.out x5_1 p483 q483
                                cases e483
                                replace hx483_0 := (HB.out.cell (World.block_lt_of_cell? w _ hx483_0)).trans hx483_0
                                replace hx483_1 := (HB.out.cell (World.block_lt_of_cell? w _ hx483_1)).trans hx483_1
                                replace hx483_2 := (HB.out.cell (World.block_lt_of_cell? w _ hx483_2)).trans hx483_2
                                replace hx483_3 := (HB.out.cell (World.block_lt_of_cell? w _ hx483_3)).trans hx483_3
                                replace hx483_4 := (HB.out.cell (World.block_lt_of_cell? w _ hx483_4)).trans hx483_4
                                replace hx483_5 := (HB.out.cell (World.block_lt_of_cell? w _ hx483_5)).trans hx483_5
                                replace hx483_6 := (HB.out.cell (World.block_lt_of_cell? w _ hx483_6)).trans hx483_6
                                replace hx483_7 := (HB.out.cell (World.block_lt_of_cell? w _ hx483_7)).trans hx483_7
                                replace p483 := eq_true p483
                                replace q483 := eq_true q483
                                go_wp2
                                repeat (go_quiet (fail); try go_wp2)
                                go_roundg k3
                                case measure => have := HK1.out; have := HJ21.out; have := HK3.out; omega
                                case rel => exact ⟨(wrap64 (x4_3 + 1)), (by first | rfl | (simp; done) | (simp [*]; done)), H', ⟨by have := HK1.out; have := HJ21.out; have := HK3.out; omega⟩, ⟨by (with_reducible repeat (first | apply Kd.R_alloc | apply Kd.R_drewN | apply Kd.R_drew)); exact HO_479003.out⟩, ⟨by (with_reducible repeat (first | apply Kd.R_alloc | apply Kd.R_drewN | apply Kd.R_drew)); exact HO_479005.out⟩, ⟨by (with_reducible repeat (first | apply Kd.R_alloc | apply Kd.R_drewN | apply Kd.R_drew)); exact HO_479006.out⟩, ⟨by (with_reducible repeat (first | refine blk_drewN ?_ _ | refine blk_drew ?_ | refine blk_alloc ?_ _)); exact BK459.out⟩, ⟨by (with_reducible repeat (first | refine blk_drewN ?_ _ | refine blk_drew ?_ | refine blk_alloc ?_ _)); exact BK478.out⟩, ⟨by repeat (first | (with_reducible first | exact HB.out | apply below_alloc | apply pw_below_drewN | apply below_drew1 | refine below_set ?_ GE459.out | refine below_set ?_ GE478.out) | exact HB.out)⟩⟩
                              · rw [if_neg c37] at H
                                have c37b0 : (!(((rd_T39 t465 x4_3).f0) == ((rd_T39 l0_3 x5_1).f0)) || (!(((rd_T39 t465 x4_3).f1) == ((rd_T39 l0_3 x5_1).f1)) || (!(((rd_T39 t465 x4_3).f2) == ((rd_T39 l0_3 x5_1).f2)) || (!(((rd_T39 t465 x4_3).f3) == ((rd_T39 l0_3 x5_1).f3)) || (!((((rd_T39 t465 x4_3).f4).toList) == (((rd_T39 l0_3 x5_1).f4).toList)) || ((!(((rd_T39 t465 x4_3).f5.f0) == ((rd_T39 l0_3 x5_1).f5.f0)) || (!(((rd_T39 t465 x4_3).f5.f1) == ((rd_T39 l0_3 x5_1).f5.f1)) || (!((((rd_T39 t465 x4_3).f5.f2).toList) == (((rd_T39 l0_3 x5_1).f5.f2).toList))))))))))) = false := by simpa using c37
                                clear c37
                                have H' := Aside0.mk H
                                clear H
                                have hnb41 := NB478_459.out
                                have hnc41 := NB459_478.out
                                have hcz42_0 : wr.cell? ⟨gb478, 0, none⟩ = some (.int .i64 t462) := (blk_cell BK478.out 0).trans rfl
                                have hcz42_1 : wr.cell? ⟨gb478, 1, none⟩ = some (.int .i64 t463) := (blk_cell BK478.out 1).trans rfl
                                have hcz42_2 : wr.cell? ⟨gb478, 2, none⟩ = some (.int .i64 t464) := (blk_cell BK478.out 2).trans rfl
                                have hcz42_3 : wr.cell? ⟨gb478, 3, none⟩ = some (.slice Ao18 t465.length co18) := (blk_cell BK478.out 3).trans rfl
                                have hcz42_4 : wr.cell? ⟨gb478, 4, none⟩ = some (.int .i64 t468) := (blk_cell BK478.out 4).trans rfl
                                have hcz42_5 : wr.cell? ⟨gb478, 5, none⟩ = some (.slice Ao19 t469.length co19) := (blk_cell BK478.out 5).trans rfl
                                have hcz42_6 : wr.cell? ⟨gb478, 6, none⟩ = some (.slice Ao20 t472.length co20) := (blk_cell BK478.out 6).trans rfl
                                have hcz42_7 : wr.cell? ⟨gb478, 7, none⟩ = some (.int .i64 t475) := (blk_cell BK478.out 7).trans rfl
                                have hcz42_8 : wr.cell? ⟨gb478, 8, none⟩ = some (.int .i64 t476) := (blk_cell BK478.out 8).trans rfl
                                have hcz42_9 : wr.cell? ⟨gb478, 9, none⟩ = some (.int .i64 t477) := (blk_cell BK478.out 9).trans rfl
                                have hfz42_0 := blk_frozen BK478.out 0
                                have hfz42_1 := blk_frozen BK478.out 1
                                have hfz42_2 := blk_frozen BK478.out 2
                                have hfz42_3 := blk_frozen BK478.out 3
                                have hfz42_4 := blk_frozen BK478.out 4
                                have hfz42_5 := blk_frozen BK478.out 5
                                have hfz42_6 := blk_frozen BK478.out 6
                                have hfz42_7 := blk_frozen BK478.out 7
                                have hfz42_8 := blk_frozen BK478.out 8
                                have hfz42_9 := blk_frozen BK478.out 9
                                have p482 : 0 ≤ (x4_3 : Int) := of_decide_eq_true (by first | (with_reducible assumption) | assumption)
                                have q482 : x4_3 < (t465.length : Int) := of_decide_eq_true (by first | (with_reducible assumption) | assumption)
                                obtain ⟨ad482, e482, hx482_0, hx482_1, hx482_2, hx482_3, hx482_4, hx482_5, hx482_6, hx482_7⟩ := at_T39 (Kd.R_reads' HO_479003.out).2.2 x4_3 p482 q482
                                cases e482
                                replace p482 := eq_true p482
                                replace q482 := eq_true q482
                                have hcz43_0 : wr.cell? ⟨gb459, 0, none⟩ = some (.int .i64 a0_0) := (blk_cell BK459.out 0).trans rfl
                                have hcz43_1 : wr.cell? ⟨gb459, 1, none⟩ = some (.int .i64 a0_1) := (blk_cell BK459.out 1).trans rfl
                                have hcz43_2 : wr.cell? ⟨gb459, 2, none⟩ = some (.int .i64 a0_2) := (blk_cell BK459.out 2).trans rfl
                                have hcz43_3 : wr.cell? ⟨gb459, 3, none⟩ = some (.slice A0_3 l0_3.length c0_3) := (blk_cell BK459.out 3).trans rfl
                                have hcz43_4 : wr.cell? ⟨gb459, 4, none⟩ = some (.int .i64 a0_4) := (blk_cell BK459.out 4).trans rfl
                                have hcz43_5 : wr.cell? ⟨gb459, 5, none⟩ = some (.slice A0_5 l0_5.length c0_5) := (blk_cell BK459.out 5).trans rfl
                                have hcz43_6 : wr.cell? ⟨gb459, 6, none⟩ = some (.slice A0_6 l0_6.length c0_6) := (blk_cell BK459.out 6).trans rfl
                                have hcz43_7 : wr.cell? ⟨gb459, 7, none⟩ = some (.int .i64 a0_7) := (blk_cell BK459.out 7).trans rfl
                                have hcz43_8 : wr.cell? ⟨gb459, 8, none⟩ = some (.int .i64 a0_8) := (blk_cell BK459.out 8).trans rfl
                                have hcz43_9 : wr.cell? ⟨gb459, 9, none⟩ = some (.int .i64 a0_9) := (blk_cell BK459.out 9).trans rfl
                                have hfz43_0 := blk_frozen BK459.out 0
                                have hfz43_1 := blk_frozen BK459.out 1
                                have hfz43_2 := blk_frozen BK459.out 2
                                have hfz43_3 := blk_frozen BK459.out 3
                                have hfz43_4 := blk_frozen BK459.out 4
                                have hfz43_5 := blk_frozen BK459.out 5
                                have hfz43_6 := blk_frozen BK459.out 6
                                have hfz43_7 := blk_frozen BK459.out 7
                                have hfz43_8 := blk_frozen BK459.out 8
                                have hfz43_9 := blk_frozen BK459.out 9
                                have p483 : 0 ≤ (x5_1 : Int) := of_decide_eq_true (by first | (with_reducible assumption) | assumption)
                                have q483 : x5_1 < (l0_3.length : Int) := of_decide_eq_true (by first | (with_reducible assumption) | assumption)
                                obtain ⟨ad483, e483, hx483_0, hx483_1, hx483_2, hx483_3, hx483_4, hx483_5, hx483_6, hx483_7⟩ := at_T39 HR0_3.out x5_1 p483 q483
                                cases e483
                                replace hx483_0 := (HB.out.cell (World.block_lt_of_cell? w _ hx483_0)).trans hx483_0
                                replace hx483_1 := (HB.out.cell (World.block_lt_of_cell? w _ hx483_1)).trans hx483_1
                                replace hx483_2 := (HB.out.cell (World.block_lt_of_cell? w _ hx483_2)).trans hx483_2
                                replace hx483_3 := (HB.out.cell (World.block_lt_of_cell? w _ hx483_3)).trans hx483_3
                                replace hx483_4 := (HB.out.cell (World.block_lt_of_cell? w _ hx483_4)).trans hx483_4
                                replace hx483_5 := (HB.out.cell (World.block_lt_of_cell? w _ hx483_5)).trans hx483_5
                                replace hx483_6 := (HB.out.cell (World.block_lt_of_cell? w _ hx483_6)).trans hx483_6
                                replace hx483_7 := (HB.out.cell (World.block_lt_of_cell? w _ hx483_7)).trans hx483_7
                                replace p483 := eq_true p483
                                replace q483 := eq_true q483
                                go_wp2
                                repeat (go_quiet (fail); try go_wp2)
                                go_meet
                                case rel => exact ⟨_, (x4_3), (by first | rfl | (simp; done) | (simp [*]; done)), H', ⟨by have := HK1.out; have := HJ21.out; have := HK3.out; first | omega | exact Nat.le_refl _⟩, ⟨by (with_reducible repeat (first | apply Kd.R_alloc | apply Kd.R_drewN | apply Kd.R_drew)); exact HO_479003.out⟩, ⟨by (with_reducible repeat (first | apply Kd.R_alloc | apply Kd.R_drewN | apply Kd.R_drew)); exact HO_479005.out⟩, ⟨by (with_reducible repeat (first | apply Kd.R_alloc | apply Kd.R_drewN | apply Kd.R_drew)); exact HO_479006.out⟩, ⟨by (with_reducible repeat (first | refine blk_drewN ?_ _ | refine blk_drew ?_ | refine blk_alloc ?_ _)); exact BK459.out⟩, ⟨by (with_reducible repeat (first | refine blk_drewN ?_ _ | refine blk_drew ?_ | refine blk_alloc ?_ _)); exact BK478.out⟩, ⟨by repeat (first | (with_reducible first | exact HB.out | apply below_alloc | apply pw_below_drewN | apply below_drew1 | refine below_set ?_ GE459.out | refine below_set ?_ GE478.out) | exact HB.out)⟩⟩
                            · rw [if_neg c36] at H
                              exact absurd H (by simp)
                          · rw [if_neg c35] at H
                            exact absurd H (by simp)
                        · rw [if_neg c34] at H
                          exact absurd H (by simp)
                      · rw [if_neg c33] at H
                        have c33b0 : decide (x4_3 < (t465.length : Int)) = false := decide_eq_false c33
                        clear c33
                        (first | rw [c33b0] | (simp only [i64_w, i32_w]; rw [c33b0]) | skip)
                        have H' := Aside0.mk H
                        clear H
                        have hnb44 := NB478_459.out
                        have hnc44 := NB459_478.out
                        have hcz45_0 : wr.cell? ⟨gb478, 0, none⟩ = some (.int .i64 t462) := (blk_cell BK478.out 0).trans rfl
                        have hcz45_1 : wr.cell? ⟨gb478, 1, none⟩ = some (.int .i64 t463) := (blk_cell BK478.out 1).trans rfl
                        have hcz45_2 : wr.cell? ⟨gb478, 2, none⟩ = some (.int .i64 t464) := (blk_cell BK478.out 2).trans rfl
                        have hcz45_3 : wr.cell? ⟨gb478, 3, none⟩ = some (.slice Ao18 t465.length co18) := (blk_cell BK478.out 3).trans rfl
                        have hcz45_4 : wr.cell? ⟨gb478, 4, none⟩ = some (.int .i64 t468) := (blk_cell BK478.out 4).trans rfl
                        have hcz45_5 : wr.cell? ⟨gb478, 5, none⟩ = some (.slice Ao19 t469.length co19) := (blk_cell BK478.out 5).trans rfl
                        have hcz45_6 : wr.cell? ⟨gb478, 6, none⟩ = some (.slice Ao20 t472.length co20) := (blk_cell BK478.out 6).trans rfl
                        have hcz45_7 : wr.cell? ⟨gb478, 7, none⟩ = some (.int .i64 t475) := (blk_cell BK478.out 7).trans rfl
                        have hcz45_8 : wr.cell? ⟨gb478, 8, none⟩ = some (.int .i64 t476) := (blk_cell BK478.out 8).trans rfl
                        have hcz45_9 : wr.cell? ⟨gb478, 9, none⟩ = some (.int .i64 t477) := (blk_cell BK478.out 9).trans rfl
                        have hfz45_0 := blk_frozen BK478.out 0
                        have hfz45_1 := blk_frozen BK478.out 1
                        have hfz45_2 := blk_frozen BK478.out 2
                        have hfz45_3 := blk_frozen BK478.out 3
                        have hfz45_4 := blk_frozen BK478.out 4
                        have hfz45_5 := blk_frozen BK478.out 5
                        have hfz45_6 := blk_frozen BK478.out 6
                        have hfz45_7 := blk_frozen BK478.out 7
                        have hfz45_8 := blk_frozen BK478.out 8
                        have hfz45_9 := blk_frozen BK478.out 9
                        go_wp2
                        repeat (go_quiet (fail); try go_wp2)
                        go_meet
                        case rel => exact ⟨_, (x4_3), (by first | rfl | (simp; done) | (simp [*]; done)), H', ⟨by have := HK1.out; have := HJ21.out; have := HK3.out; first | omega | exact Nat.le_refl _⟩, ⟨by (with_reducible repeat (first | apply Kd.R_alloc | apply Kd.R_drewN | apply Kd.R_drew)); exact HO_479003.out⟩, ⟨by (with_reducible repeat (first | apply Kd.R_alloc | apply Kd.R_drewN | apply Kd.R_drew)); exact HO_479005.out⟩, ⟨by (with_reducible repeat (first | apply Kd.R_alloc | apply Kd.R_drewN | apply Kd.R_drew)); exact HO_479006.out⟩, ⟨by (with_reducible repeat (first | refine blk_drewN ?_ _ | refine blk_drew ?_ | refine blk_alloc ?_ _)); exact BK459.out⟩, ⟨by (with_reducible repeat (first | refine blk_drewN ?_ _ | refine blk_drew ?_ | refine blk_alloc ?_ _)); exact BK478.out⟩, ⟨by repeat (first | (with_reducible first | exact HB.out | apply below_alloc | apply pw_below_drewN | apply below_drew1 | refine below_set ?_ GE459.out | refine below_set ?_ GE478.out) | exact HB.out)⟩⟩
                case rest =>
                  clear HC32
                  try clear c1
                  try clear c2
                  try clear p2
                  try clear c3
                  try clear c4
                  try clear p4
                  try clear q4
                  try clear hx4
                  try clear c5
                  try clear p6
                  try clear c16
                  try clear c21
                  try clear c21b0
                  try clear c23
                  try clear c25
                  try clear c25b0
                  try clear c26
                  try clear c26b0
                  try clear c26b1
                  try clear c27
                  try clear c29
                  try clear c31
                  try clear c33
                  try clear c33b0
                  try clear c34
                  try clear c34b0
                  try clear c35
                  try clear c35b0
                  try clear c36
                  try clear c36b0
                  try clear c37
                  try clear c37b0
                  try clear c38
                  try clear c41
                  try clear c44
                  try clear hcz11_0
                  try clear hcz11_1
                  try clear hcz11_2
                  try clear hcz11_3
                  try clear hcz11_4
                  try clear hcz11_5
                  try clear hcz11_6
                  try clear hcz11_7
                  try clear hcz11_8
                  try clear hcz11_9
                  try clear hcz13_0
                  try clear hcz13_1
                  try clear hcz13_2
                  try clear hcz13_3
                  try clear hcz13_4
                  try clear hcz13_5
                  try clear hcz13_6
                  try clear hcz13_7
                  try clear hcz13_8
                  try clear hcz13_9
                  try clear hcz17_0
                  try clear hcz17_1
                  try clear hcz17_2
                  try clear hcz17_3
                  try clear hcz17_4
                  try clear hcz17_5
                  try clear hcz17_6
                  try clear hcz17_7
                  try clear hcz17_8
                  try clear hcz17_9
                  try clear hcz24_0
                  try clear hcz24_1
                  try clear hcz24_2
                  try clear hcz24_3
                  try clear hcz24_4
                  try clear hcz24_5
                  try clear hcz24_6
                  try clear hcz24_7
                  try clear hcz24_8
                  try clear hcz24_9
                  try clear hcz28_0
                  try clear hcz28_1
                  try clear hcz28_2
                  try clear hcz28_3
                  try clear hcz28_4
                  try clear hcz28_5
                  try clear hcz28_6
                  try clear hcz28_7
                  try clear hcz28_8
                  try clear hcz28_9
                  try clear hcz30_0
                  try clear hcz30_1
                  try clear hcz30_2
                  try clear hcz30_3
                  try clear hcz30_4
                  try clear hcz30_5
                  try clear hcz30_6
                  try clear hcz30_7
                  try clear hcz30_8
                  try clear hcz30_9
                  try clear hcz39_0
                  try clear hcz39_1
                  try clear hcz39_2
                  try clear hcz39_3
                  try clear hcz39_4
                  try clear hcz39_5
                  try clear hcz39_6
                  try clear hcz39_7
                  try clear hcz39_8
                  try clear hcz39_9
                  try clear hcz40_0
                  try clear hcz40_1
                  try clear hcz40_2
                  try clear hcz40_3
                  try clear hcz40_4
                  try clear hcz40_5
                  try clear hcz40_6
                  try clear hcz40_7
                  try clear hcz40_8
                  try clear hcz40_9
                  try clear hcz42_0
                  try clear hcz42_1
                  try clear hcz42_2
                  try clear hcz42_3
                  try clear hcz42_4
                  try clear hcz42_5
                  try clear hcz42_6
                  try clear hcz42_7
                  try clear hcz42_8
                  try clear hcz42_9
                  try clear hcz43_0
                  try clear hcz43_1
                  try clear hcz43_2
                  try clear hcz43_3
                  try clear hcz43_4
                  try clear hcz43_5
                  try clear hcz43_6
                  try clear hcz43_7
                  try clear hcz43_8
                  try clear hcz43_9
                  try clear hcz45_0
                  try clear hcz45_1
                  try clear hcz45_2
                  try clear hcz45_3
                  try clear hcz45_4
                  try clear hcz45_5
                  try clear hcz45_6
                  try clear hcz45_7
                  try clear hcz45_8
                  try clear hcz45_9
                  try clear hcz6_0
                  try clear hcz6_1
                  try clear hcz6_2
                  try clear hcz6_3
                  try clear hcz6_4
                  try clear hcz6_5
                  try clear hcz6_6
                  try clear hcz6_7
                  try clear hcz6_8
                  try clear hcz6_9
                  try clear hfz11_0
                  try clear hfz11_1
                  try clear hfz11_2
                  try clear hfz11_3
                  try clear hfz11_4
                  try clear hfz11_5
                  try clear hfz11_6
                  try clear hfz11_7
                  try clear hfz11_8
                  try clear hfz11_9
                  try clear hfz13_0
                  try clear hfz13_1
                  try clear hfz13_2
                  try clear hfz13_3
                  try clear hfz13_4
                  try clear hfz13_5
                  try clear hfz13_6
                  try clear hfz13_7
                  try clear hfz13_8
                  try clear hfz13_9
                  try clear hfz17_0
                  try clear hfz17_1
                  try clear hfz17_2
                  try clear hfz17_3
                  try clear hfz17_4
                  try clear hfz17_5
                  try clear hfz17_6
                  try clear hfz17_7
                  try clear hfz17_8
                  try clear hfz17_9
                  try clear hfz24_0
                  try clear hfz24_1
                  try clear hfz24_2
                  try clear hfz24_3
                  try clear hfz24_4
                  try clear hfz24_5
                  try clear hfz24_6
                  try clear hfz24_7
                  try clear hfz24_8
                  try clear hfz24_9
                  try clear hfz28_0
                  try clear hfz28_1
                  try clear hfz28_2
                  try clear hfz28_3
                  try clear hfz28_4
                  try clear hfz28_5
                  try clear hfz28_6
                  try clear hfz28_7
                  try clear hfz28_8
                  try clear hfz28_9
                  try clear hfz30_0
                  try clear hfz30_1
                  try clear hfz30_2
                  try clear hfz30_3
                  try clear hfz30_4
                  try clear hfz30_5
                  try clear hfz30_6
                  try clear hfz30_7
                  try clear hfz30_8
                  try clear hfz30_9
                  try clear hfz39_0
                  try clear hfz39_1
                  try clear hfz39_2
                  try clear hfz39_3
                  try clear hfz39_4
                  try clear hfz39_5
                  try clear hfz39_6
                  try clear hfz39_7
                  try clear hfz39_8
                  try clear hfz39_9
                  try clear hfz40_0
                  try clear hfz40_1
                  try clear hfz40_2
                  try clear hfz40_3
                  try clear hfz40_4
                  try clear hfz40_5
                  try clear hfz40_6
                  try clear hfz40_7
                  try clear hfz40_8
                  try clear hfz40_9
                  try clear hfz42_0
                  try clear hfz42_1
                  try clear hfz42_2
                  try clear hfz42_3
                  try clear hfz42_4
                  try clear hfz42_5
                  try clear hfz42_6
                  try clear hfz42_7
                  try clear hfz42_8
                  try clear hfz42_9
                  try clear hfz43_0
                  try clear hfz43_1
                  try clear hfz43_2
                  try clear hfz43_3
                  try clear hfz43_4
                  try clear hfz43_5
                  try clear hfz43_6
                  try clear hfz43_7
                  try clear hfz43_8
                  try clear hfz43_9
                  try clear hfz45_0
                  try clear hfz45_1
                  try clear hfz45_2
                  try clear hfz45_3
                  try clear hfz45_4
                  try clear hfz45_5
                  try clear hfz45_6
                  try clear hfz45_7
                  try clear hfz45_8
                  try clear hfz45_9
                  try clear hfz6_0
                  try clear hfz6_1
                  try clear hfz6_2
                  try clear hfz6_3
                  try clear hfz6_4
                  try clear hfz6_5
                  try clear hfz6_6
                  try clear hfz6_7
                  try clear hfz6_8
                  try clear hfz6_9
                  try clear hx480_0
                  try clear hx480_1
                  try clear hx480_2
                  try clear hx480_3
                  try clear hx480_4
                  try clear hx480_5
                  try clear hx480_6
                  try clear hx480_7
                  try clear hx481_0
                  try clear hx481_1
                  try clear hx481_2
                  try clear hx481_3
                  try clear hx481_4
                  try clear hx481_5
                  try clear hx481_6
                  try clear hx481_7
                  try clear hx482_0
                  try clear hx482_1
                  try clear hx482_2
                  try clear hx482_3
                  try clear hx482_4
                  try clear hx482_5
                  try clear hx482_6
                  try clear hx482_7
                  try clear hx483_0
                  try clear hx483_1
                  try clear hx483_2
                  try clear hx483_3
                  try clear hx483_4
                  try clear hx483_5
                  try clear hx483_6
                  try clear hx483_7
                  try clear p2
                  try clear p4
                  try clear p480
                  try clear p481
                  try clear p482
                  try clear p483
                  try clear p6
                  try clear q4
                  try clear q480
                  try clear q481
                  try clear q482
                  try clear q483
                  obtain ⟨kq, x4_31, rfl, HA, HJ31, HO_479003, HO_479005, HO_479006, BK459, BK478, HB⟩ := hcut
                  cases kq with
                  | zero => exact absurd HA.out (by simp [sacristanlaw18_SweepKeeps.j3])
                  | succ kj31 =>
                    have H := HA.out
                    clear HA
                    simp only [sacristanlaw18_SweepKeeps.j3] at H
                    by_cases c46 : x4_31 ≥ (t465.length : Int)
                    · rw [if_pos c46] at H
                      have c46b0 : decide ((t465.length : Int) ≤ x4_31) = true := decide_eq_true c46
                      clear c46
                      obtain rfl := Option.some.inj H
                      have hnb47 := NB478_459.out
                      have hnc47 := NB459_478.out
                      have hcz48_0 : wc.cell? ⟨gb478, 0, none⟩ = some (.int .i64 t462) := (blk_cell BK478.out 0).trans rfl
                      have hcz48_1 : wc.cell? ⟨gb478, 1, none⟩ = some (.int .i64 t463) := (blk_cell BK478.out 1).trans rfl
                      have hcz48_2 : wc.cell? ⟨gb478, 2, none⟩ = some (.int .i64 t464) := (blk_cell BK478.out 2).trans rfl
                      have hcz48_3 : wc.cell? ⟨gb478, 3, none⟩ = some (.slice Ao18 t465.length co18) := (blk_cell BK478.out 3).trans rfl
                      have hcz48_4 : wc.cell? ⟨gb478, 4, none⟩ = some (.int .i64 t468) := (blk_cell BK478.out 4).trans rfl
                      have hcz48_5 : wc.cell? ⟨gb478, 5, none⟩ = some (.slice Ao19 t469.length co19) := (blk_cell BK478.out 5).trans rfl
                      have hcz48_6 : wc.cell? ⟨gb478, 6, none⟩ = some (.slice Ao20 t472.length co20) := (blk_cell BK478.out 6).trans rfl
                      have hcz48_7 : wc.cell? ⟨gb478, 7, none⟩ = some (.int .i64 t475) := (blk_cell BK478.out 7).trans rfl
                      have hcz48_8 : wc.cell? ⟨gb478, 8, none⟩ = some (.int .i64 t476) := (blk_cell BK478.out 8).trans rfl
                      have hcz48_9 : wc.cell? ⟨gb478, 9, none⟩ = some (.int .i64 t477) := (blk_cell BK478.out 9).trans rfl
                      have hfz48_0 := blk_frozen BK478.out 0
                      have hfz48_1 := blk_frozen BK478.out 1
                      have hfz48_2 := blk_frozen BK478.out 2
                      have hfz48_3 := blk_frozen BK478.out 3
                      have hfz48_4 := blk_frozen BK478.out 4
                      have hfz48_5 := blk_frozen BK478.out 5
                      have hfz48_6 := blk_frozen BK478.out 6
                      have hfz48_7 := blk_frozen BK478.out 7
                      have hfz48_8 := blk_frozen BK478.out 8
                      have hfz48_9 := blk_frozen BK478.out 9
                      go_wp2
                      repeat (go_quiet (fail); try go_wp2)
                      go_ret
                      exact ⟨by first | rfl | (simp [errW_none, errW_some] <;> rfl) | (simp [*, errW_none, errW_some] <;> rfl), by repeat (first | (with_reducible first | exact HB.out | apply below_alloc | apply pw_below_drewN | apply below_drew1 | refine below_set ?_ GE459.out | refine below_set ?_ GE478.out) | exact HB.out)⟩
                    · rw [if_neg c46] at H
                      have c46b0 : decide ((t465.length : Int) ≤ x4_31) = false := decide_eq_false c46
                      clear c46
                      have H' := Aside0.mk H
                      clear H
                      have hnb49 := NB478_459.out
                      have hnc49 := NB459_478.out
                      have hcz50_0 : wc.cell? ⟨gb478, 0, none⟩ = some (.int .i64 t462) := (blk_cell BK478.out 0).trans rfl
                      have hcz50_1 : wc.cell? ⟨gb478, 1, none⟩ = some (.int .i64 t463) := (blk_cell BK478.out 1).trans rfl
                      have hcz50_2 : wc.cell? ⟨gb478, 2, none⟩ = some (.int .i64 t464) := (blk_cell BK478.out 2).trans rfl
                      have hcz50_3 : wc.cell? ⟨gb478, 3, none⟩ = some (.slice Ao18 t465.length co18) := (blk_cell BK478.out 3).trans rfl
                      have hcz50_4 : wc.cell? ⟨gb478, 4, none⟩ = some (.int .i64 t468) := (blk_cell BK478.out 4).trans rfl
                      have hcz50_5 : wc.cell? ⟨gb478, 5, none⟩ = some (.slice Ao19 t469.length co19) := (blk_cell BK478.out 5).trans rfl
                      have hcz50_6 : wc.cell? ⟨gb478, 6, none⟩ = some (.slice Ao20 t472.length co20) := (blk_cell BK478.out 6).trans rfl
                      have hcz50_7 : wc.cell? ⟨gb478, 7, none⟩ = some (.int .i64 t475) := (blk_cell BK478.out 7).trans rfl
                      have hcz50_8 : wc.cell? ⟨gb478, 8, none⟩ = some (.int .i64 t476) := (blk_cell BK478.out 8).trans rfl
                      have hcz50_9 : wc.cell? ⟨gb478, 9, none⟩ = some (.int .i64 t477) := (blk_cell BK478.out 9).trans rfl
                      have hfz50_0 := blk_frozen BK478.out 0
                      have hfz50_1 := blk_frozen BK478.out 1
                      have hfz50_2 := blk_frozen BK478.out 2
                      have hfz50_3 := blk_frozen BK478.out 3
                      have hfz50_4 := blk_frozen BK478.out 4
                      have hfz50_5 := blk_frozen BK478.out 5
                      have hfz50_6 := blk_frozen BK478.out 6
                      have hfz50_7 := blk_frozen BK478.out 7
                      have hfz50_8 := blk_frozen BK478.out 8
                      have hfz50_9 := blk_frozen BK478.out 9
                      go_wp2
                      repeat (go_quiet (fail); try go_wp2)
                      go_roundg kj31
                      case measure => have := HK1.out; have := HJ21.out; have := HJ31.out; omega
                      case rel => exact ⟨(wrap64 (x4_31 + 1)), (wrap64 (x5_1 + 1)), (by first | rfl | (simp; done) | (simp [*]; done)), (by first | rfl | (simp; done) | (simp [*]; done)), H', ⟨by have := HK1.out; have := HJ21.out; have := HJ31.out; omega⟩, ⟨by (with_reducible repeat (first | apply Kd.R_alloc | apply Kd.R_drewN | apply Kd.R_drew)); exact HO_479003.out⟩, ⟨by (with_reducible repeat (first | apply Kd.R_alloc | apply Kd.R_drewN | apply Kd.R_drew)); exact HO_479005.out⟩, ⟨by (with_reducible repeat (first | apply Kd.R_alloc | apply Kd.R_drewN | apply Kd.R_drew)); exact HO_479006.out⟩, ⟨by (with_reducible repeat (first | refine blk_drewN ?_ _ | refine blk_drew ?_ | refine blk_alloc ?_ _)); exact BK459.out⟩, ⟨by (with_reducible repeat (first | refine blk_drewN ?_ _ | refine blk_drew ?_ | refine blk_alloc ?_ _)); exact BK478.out⟩, ⟨by repeat (first | (with_reducible first | exact HB.out | apply below_alloc | apply pw_below_drewN | apply below_drew1 | refine below_set ?_ GE459.out | refine below_set ?_ GE478.out) | exact HB.out)⟩⟩
        · rw [if_neg c21] at H
          have c21b0 : decide (x5_1 < (l0_3.length : Int)) = false := decide_eq_false c21
          clear c21
          replace H := Option.bind_eq_some_iff.mp H
          obtain ⟨t479, A510, H⟩ := H
          replace H : (some t479) = some r := H
          have A51 := Aside0.mk A510
          clear A510
          obtain rfl := Option.some.inj H
          have hnb52 := NB459_478.out
          have hnc52 := NB478_459.out
          have hcz53_0 : wr.cell? ⟨gb459, 0, none⟩ = some (.int .i64 a0_0) := (blk_cell BK459.out 0).trans rfl
          have hcz53_1 : wr.cell? ⟨gb459, 1, none⟩ = some (.int .i64 a0_1) := (blk_cell BK459.out 1).trans rfl
          have hcz53_2 : wr.cell? ⟨gb459, 2, none⟩ = some (.int .i64 a0_2) := (blk_cell BK459.out 2).trans rfl
          have hcz53_3 : wr.cell? ⟨gb459, 3, none⟩ = some (.slice A0_3 l0_3.length c0_3) := (blk_cell BK459.out 3).trans rfl
          have hcz53_4 : wr.cell? ⟨gb459, 4, none⟩ = some (.int .i64 a0_4) := (blk_cell BK459.out 4).trans rfl
          have hcz53_5 : wr.cell? ⟨gb459, 5, none⟩ = some (.slice A0_5 l0_5.length c0_5) := (blk_cell BK459.out 5).trans rfl
          have hcz53_6 : wr.cell? ⟨gb459, 6, none⟩ = some (.slice A0_6 l0_6.length c0_6) := (blk_cell BK459.out 6).trans rfl
          have hcz53_7 : wr.cell? ⟨gb459, 7, none⟩ = some (.int .i64 a0_7) := (blk_cell BK459.out 7).trans rfl
          have hcz53_8 : wr.cell? ⟨gb459, 8, none⟩ = some (.int .i64 a0_8) := (blk_cell BK459.out 8).trans rfl
          have hcz53_9 : wr.cell? ⟨gb459, 9, none⟩ = some (.int .i64 a0_9) := (blk_cell BK459.out 9).trans rfl
          have hfz53_0 := blk_frozen BK459.out 0
          have hfz53_1 := blk_frozen BK459.out 1
          have hfz53_2 := blk_frozen BK459.out 2
          have hfz53_3 := blk_frozen BK459.out 3
          have hfz53_4 := blk_frozen BK459.out 4
          have hfz53_5 := blk_frozen BK459.out 5
          have hfz53_6 := blk_frozen BK459.out 6
          have hfz53_7 := blk_frozen BK459.out 7
          have hfz53_8 := blk_frozen BK459.out 8
          have hfz53_9 := blk_frozen BK459.out 9
          go_wp2_with (first | (go_at_call 21; (with_reducible refine (sacristanlaw18_awake.calls  t479 _ ?side1 A51.out).mono ?_); (case side1 => exact NW.MaxOk.below HMX.out (by repeat (first | (with_reducible first | exact HB.out | apply below_alloc | apply pw_below_drewN | apply below_drew1 | refine below_set ?_ GE459.out | refine below_set ?_ GE478.out) | exact HB.out))); rintro e w54 ⟨rfl, hb⟩; have n0_ := Aside0.mk (Kd.R_below (by (with_reducible repeat (first | apply Kd.R_alloc | apply Kd.R_drewN | apply Kd.R_drew)); exact HO_479003.out) hb); have n1_ := Aside0.mk (Kd.R_below (by (with_reducible repeat (first | apply Kd.R_alloc | apply Kd.R_drewN | apply Kd.R_drew)); exact HO_479005.out) hb); have n2_ := Aside0.mk (Kd.R_below (by (with_reducible repeat (first | apply Kd.R_alloc | apply Kd.R_drewN | apply Kd.R_drew)); exact HO_479006.out) hb); have n3_ := Aside0.mk (blk_below (g := gb459) (o := .cells #[.int .i64 a0_0, .int .i64 a0_1, .int .i64 a0_2, .slice A0_3 l0_3.length c0_3, .int .i64 a0_4, .slice A0_5 l0_5.length c0_5, .slice A0_6 l0_6.length c0_6, .int .i64 a0_7, .int .i64 a0_8, .int .i64 a0_9] 25 (0, 0)) (by (with_reducible repeat (first | refine blk_drewN ?_ _ | refine blk_drew ?_ | refine blk_alloc ?_ _)); exact BK459.out) hb); have n4_ := Aside0.mk (blk_below (g := gb478) (o := .cells #[.int .i64 t462, .int .i64 t463, .int .i64 t464, .slice Ao18 t465.length co18, .int .i64 t468, .slice Ao19 t469.length co19, .slice Ao20 t472.length co20, .int .i64 t475, .int .i64 t476, .int .i64 t477] 25 (0, 0)) (by (with_reducible repeat (first | refine blk_drewN ?_ _ | refine blk_drew ?_ | refine blk_alloc ?_ _)); exact BK478.out) hb); have n5_ := Aside0.mk (below_step (by repeat (first | (with_reducible first | exact HB.out | apply below_alloc | apply pw_below_drewN | apply below_drew1 | refine below_set ?_ GE459.out | refine below_set ?_ GE478.out) | exact HB.out)) hb); clear HO_479003; clear HO_479005; clear HO_479006; clear BK459; clear BK478; clear HB; have HO_479003 := n0_; have HO_479005 := n1_; have HO_479006 := n2_; have BK459 := n3_; have BK478 := n4_; have HB := n5_; clear n0_ n1_ n2_ n3_ n4_ n5_; (try clear hb); (try clear hb2); (try clear hk); (try clear hi)))
          repeat (go_quiet (first | (go_at_call 21; (with_reducible refine (sacristanlaw18_awake.calls  t479 _ ?side1 A51.out).mono ?_); (case side1 => exact NW.MaxOk.below HMX.out (by repeat (first | (with_reducible first | exact HB.out | apply below_alloc | apply pw_below_drewN | apply below_drew1 | refine below_set ?_ GE459.out | refine below_set ?_ GE478.out) | exact HB.out))); rintro e w54 ⟨rfl, hb⟩; have n0_ := Aside0.mk (Kd.R_below (by (with_reducible repeat (first | apply Kd.R_alloc | apply Kd.R_drewN | apply Kd.R_drew)); exact HO_479003.out) hb); have n1_ := Aside0.mk (Kd.R_below (by (with_reducible repeat (first | apply Kd.R_alloc | apply Kd.R_drewN | apply Kd.R_drew)); exact HO_479005.out) hb); have n2_ := Aside0.mk (Kd.R_below (by (with_reducible repeat (first | apply Kd.R_alloc | apply Kd.R_drewN | apply Kd.R_drew)); exact HO_479006.out) hb); have n3_ := Aside0.mk (blk_below (g := gb459) (o := .cells #[.int .i64 a0_0, .int .i64 a0_1, .int .i64 a0_2, .slice A0_3 l0_3.length c0_3, .int .i64 a0_4, .slice A0_5 l0_5.length c0_5, .slice A0_6 l0_6.length c0_6, .int .i64 a0_7, .int .i64 a0_8, .int .i64 a0_9] 25 (0, 0)) (by (with_reducible repeat (first | refine blk_drewN ?_ _ | refine blk_drew ?_ | refine blk_alloc ?_ _)); exact BK459.out) hb); have n4_ := Aside0.mk (blk_below (g := gb478) (o := .cells #[.int .i64 t462, .int .i64 t463, .int .i64 t464, .slice Ao18 t465.length co18, .int .i64 t468, .slice Ao19 t469.length co19, .slice Ao20 t472.length co20, .int .i64 t475, .int .i64 t476, .int .i64 t477] 25 (0, 0)) (by (with_reducible repeat (first | refine blk_drewN ?_ _ | refine blk_drew ?_ | refine blk_alloc ?_ _)); exact BK478.out) hb); have n5_ := Aside0.mk (below_step (by repeat (first | (with_reducible first | exact HB.out | apply below_alloc | apply pw_below_drewN | apply below_drew1 | refine below_set ?_ GE459.out | refine below_set ?_ GE478.out) | exact HB.out)) hb); clear HO_479003; clear HO_479005; clear HO_479006; clear BK459; clear BK478; clear HB; have HO_479003 := n0_; have HO_479005 := n1_; have HO_479006 := n2_; have BK459 := n3_; have BK478 := n4_; have HB := n5_; clear n0_ n1_ n2_ n3_ n4_ n5_; (try clear hb); (try clear hb2); (try clear hk); (try clear hi))); try go_wp2_with (first | (go_at_call 21; (with_reducible refine (sacristanlaw18_awake.calls  t479 _ ?side1 A51.out).mono ?_); (case side1 => exact NW.MaxOk.below HMX.out (by repeat (first | (with_reducible first | exact HB.out | apply below_alloc | apply pw_below_drewN | apply below_drew1 | refine below_set ?_ GE459.out | refine below_set ?_ GE478.out) | exact HB.out))); rintro e w54 ⟨rfl, hb⟩; have n0_ := Aside0.mk (Kd.R_below (by (with_reducible repeat (first | apply Kd.R_alloc | apply Kd.R_drewN | apply Kd.R_drew)); exact HO_479003.out) hb); have n1_ := Aside0.mk (Kd.R_below (by (with_reducible repeat (first | apply Kd.R_alloc | apply Kd.R_drewN | apply Kd.R_drew)); exact HO_479005.out) hb); have n2_ := Aside0.mk (Kd.R_below (by (with_reducible repeat (first | apply Kd.R_alloc | apply Kd.R_drewN | apply Kd.R_drew)); exact HO_479006.out) hb); have n3_ := Aside0.mk (blk_below (g := gb459) (o := .cells #[.int .i64 a0_0, .int .i64 a0_1, .int .i64 a0_2, .slice A0_3 l0_3.length c0_3, .int .i64 a0_4, .slice A0_5 l0_5.length c0_5, .slice A0_6 l0_6.length c0_6, .int .i64 a0_7, .int .i64 a0_8, .int .i64 a0_9] 25 (0, 0)) (by (with_reducible repeat (first | refine blk_drewN ?_ _ | refine blk_drew ?_ | refine blk_alloc ?_ _)); exact BK459.out) hb); have n4_ := Aside0.mk (blk_below (g := gb478) (o := .cells #[.int .i64 t462, .int .i64 t463, .int .i64 t464, .slice Ao18 t465.length co18, .int .i64 t468, .slice Ao19 t469.length co19, .slice Ao20 t472.length co20, .int .i64 t475, .int .i64 t476, .int .i64 t477] 25 (0, 0)) (by (with_reducible repeat (first | refine blk_drewN ?_ _ | refine blk_drew ?_ | refine blk_alloc ?_ _)); exact BK478.out) hb); have n5_ := Aside0.mk (below_step (by repeat (first | (with_reducible first | exact HB.out | apply below_alloc | apply pw_below_drewN | apply below_drew1 | refine below_set ?_ GE459.out | refine below_set ?_ GE478.out) | exact HB.out)) hb); clear HO_479003; clear HO_479005; clear HO_479006; clear BK459; clear BK478; clear HB; have HO_479003 := n0_; have HO_479005 := n1_; have HO_479006 := n2_; have BK459 := n3_; have BK478 := n4_; have HB := n5_; clear n0_ n1_ n2_ n3_ n4_ n5_; (try clear hb); (try clear hb2); (try clear hk); (try clear hi))))
          go_ret
          exact ⟨by first | rfl | (simp [errW_none, errW_some] <;> rfl) | (simp [*, errW_none, errW_some] <;> rfl), by repeat (first | (with_reducible first | exact HB.out | apply below_alloc | apply pw_below_drewN | apply below_drew1 | refine below_set ?_ GE459.out | refine below_set ?_ GE478.out) | exact HB.out)⟩

end Go.Proofs.Ytjkjbfhhfdbnoaa.PB
