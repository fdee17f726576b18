-- Own text: made by this session's variant of the printer (wip/mkpp.py); Lean checks it.
import Derived.Test.YtfncoldcjhkhiaaDoorPCx0
import Derived.Test.YtfncoldcjhkhiaaDoorPCx16
namespace Go.Proofs.YtfncoldcjhkhiaaDoor.PC
open Go.RowKit Go.Proofs.YtfncoldcjhkhiaaDoorW.PrintWords Go.Proofs.YtfncoldcjhkhiaaDoorW.PrintLast Go.Proofs.YtfncoldcjhkhiaaDoorW.PrintMore Go.Proofs.YtfncoldcjhkhiaaDoorW.Own
attribute [local go_sem high] own_gtr own_leq own_geq
attribute [local go_sem] max2_int min2_int max_two min_two max_three min_three max_four min_four   -- for this text's walks alone
set_option linter.unusedVariables false
set_option linter.unusedSimpArgs false

/-! ### sacristanref09_Same: function 27 -/
mutual
def sacristanref09_Same.j0 : Nat → Bool → List Int → List ByteArray → List (S44) → List (S41) → List Int → List ByteArray → List (S44) → List (S41) → Option (Bool)
  | 0, _, _, _, _, _, _, _, _, _ => none
  | k + 1, x45, x315000, x315001, x315002, x315003, x316000, x316001, x316002, x316003 => if x45 = true then (some false) else (sacristanref09_Same.l0 k (x315000.length : Int) 0 x315000 x315001 x315002 x315003 x316000 x316001 x316002 x316003)
def sacristanref09_Same.l0 : Nat → Int → Int → List Int → List ByteArray → List (S44) → List (S41) → List Int → List ByteArray → List (S44) → List (S41) → Option (Bool)
  | 0, _, _, _, _, _, _, _, _, _, _ => none
  | k + 1, x48, x49, x315000, x315001, x315002, x315003, x316000, x316001, x316002, x316003 => if x49 < x48 then (if 0 ≤ x49 then (if x49 < (x315000.length : Int) then (if x49 < (x316000.length : Int) then (if (rd x315000 x49) = (rd x316000 x49) then (sacristanref09_Same.l0 k x48 (wrap64 (x49 + 1)) x315000 x315001 x315002 x315003 x316000 x316001 x316002 x316003) else (some false)) else (none)) else (none)) else (none)) else (sacristanref09_Same.l1 k (x315001.length : Int) 0 x315000 x315001 x315002 x315003 x316000 x316001 x316002 x316003)
def sacristanref09_Same.l1 : Nat → Int → Int → List Int → List ByteArray → List (S44) → List (S41) → List Int → List ByteArray → List (S44) → List (S41) → Option (Bool)
  | 0, _, _, _, _, _, _, _, _, _, _ => none
  | k + 1, x66, x67, x315000, x315001, x315002, x315003, x316000, x316001, x316002, x316003 => if x67 < x66 then (if 0 ≤ x67 then (if x67 < (x315001.length : Int) then (if x67 < (x316001.length : Int) then (if (rdOf ByteArray.empty x315001 x67).toList = (rdOf ByteArray.empty x316001 x67).toList then (sacristanref09_Same.l1 k x66 (wrap64 (x67 + 1)) x315000 x315001 x315002 x315003 x316000 x316001 x316002 x316003) else (some false)) else (none)) else (none)) else (none)) else (sacristanref09_Same.l2 k (x315002.length : Int) 0 x315000 x315001 x315002 x315003 x316000 x316001 x316002 x316003)
def sacristanref09_Same.l2 : Nat → Int → Int → List Int → List ByteArray → List (S44) → List (S41) → List Int → List ByteArray → List (S44) → List (S41) → Option (Bool)
  | 0, _, _, _, _, _, _, _, _, _, _ => none
  | k + 1, x84, x85, x315000, x315001, x315002, x315003, x316000, x316001, x316002, x316003 => if x85 < x84 then (if 0 ≤ x85 then (if x85 < (x315002.length : Int) then (if x85 < (x316002.length : Int) then ((sacristanref09_same.f k ((rd_T44 x315002 x85).f0) ((rd_T44 x315002 x85).f1) ((rd_T44 x315002 x85).f2) ((rd_T44 x315002 x85).f3) ((rd_T44 x316002 x85).f0) ((rd_T44 x316002 x85).f1) ((rd_T44 x316002 x85).f2) ((rd_T44 x316002 x85).f3)).bind fun t322 => (if t322 = true then (sacristanref09_Same.l2 k x84 (wrap64 (x85 + 1)) x315000 x315001 x315002 x315003 x316000 x316001 x316002 x316003) else (some false))) else (none)) else (none)) else (none)) else (sacristanref09_Same.l3 k (x315003.length : Int) 0 x315000 x315001 x315002 x315003 x316000 x316001 x316002 x316003)
def sacristanref09_Same.l3 : Nat → Int → Int → List Int → List ByteArray → List (S44) → List (S41) → List Int → List ByteArray → List (S44) → List (S41) → Option (Bool)
  | 0, _, _, _, _, _, _, _, _, _, _ => none
  | k + 1, x103, x104, x315000, x315001, x315002, x315003, x316000, x316001, x316002, x316003 => if x104 < x103 then (if 0 ≤ x104 then (if x104 < (x315003.length : Int) then (if x104 < (x316003.length : Int) then (if (((rd_T41 x315003 x104).f0).length : Int) = (((rd_T41 x316003 x104).f0).length : Int) then (if (((rd_T41 x315003 x104).f1) != ((rd_T41 x316003 x104).f1)) = true then (sacristanref09_Same.j5 k x103 x104 true x315000 x315001 x315002 x315003 x316000 x316001 x316002 x316003 ((rd_T41 x315003 x104).f0) ((rd_T41 x315003 x104).f1) ((rd_T41 x315003 x104).f2) ((rd_T41 x316003 x104).f0) ((rd_T41 x316003 x104).f1) ((rd_T41 x316003 x104).f2)) else (sacristanref09_Same.j5 k x103 x104 (((rd_T41 x315003 x104).f2) != ((rd_T41 x316003 x104).f2)) x315000 x315001 x315002 x315003 x316000 x316001 x316002 x316003 ((rd_T41 x315003 x104).f0) ((rd_T41 x315003 x104).f1) ((rd_T41 x315003 x104).f2) ((rd_T41 x316003 x104).f0) ((rd_T41 x316003 x104).f1) ((rd_T41 x316003 x104).f2))) else (sacristanref09_Same.j5 k x103 x104 true x315000 x315001 x315002 x315003 x316000 x316001 x316002 x316003 ((rd_T41 x315003 x104).f0) ((rd_T41 x315003 x104).f1) ((rd_T41 x315003 x104).f2) ((rd_T41 x316003 x104).f0) ((rd_T41 x316003 x104).f1) ((rd_T41 x316003 x104).f2))) else (none)) else (none)) else (none)) else (some true)
def sacristanref09_Same.j5 : Nat → Int → Int → Bool → List Int → List ByteArray → List (S44) → List (S41) → List Int → List ByteArray → List (S44) → List (S41) → List Int → Bool → Bool → List Int → Bool → Bool → Option (Bool)
  | 0, _, _, _, _, _, _, _, _, _, _, _, _, _, _, _, _, _ => none
  | k + 1, x103, x104, x137, x315000, x315001, x315002, x315003, x316000, x316001, x316002, x316003, x325000, x325001, x325002, x327000, x327001, x327002 => if x137 = true then (some false) else (sacristanref09_Same.l4 k x103 x104 (x325000.length : Int) 0 x315000 x315001 x315002 x315003 x316000 x316001 x316002 x316003 x325000 x325001 x325002 x327000 x327001 x327002)
def sacristanref09_Same.l4 : Nat → Int → Int → Int → Int → List Int → List ByteArray → List (S44) → List (S41) → List Int → List ByteArray → List (S44) → List (S41) → List Int → Bool → Bool → List Int → Bool → Bool → Option (Bool)
  | 0, _, _, _, _, _, _, _, _, _, _, _, _, _, _, _, _, _, _ => none
  | k + 1, x103, x104, x140, x141, x315000, x315001, x315002, x315003, x316000, x316001, x316002, x316003, x325000, x325001, x325002, x327000, x327001, x327002 => if x141 < x140 then (if 0 ≤ x141 then (if x141 < (x325000.length : Int) then (if x141 < (x327000.length : Int) then (if (rd x325000 x141) = (rd x327000 x141) then (sacristanref09_Same.l4 k x103 x104 x140 (wrap64 (x141 + 1)) x315000 x315001 x315002 x315003 x316000 x316001 x316002 x316003 x325000 x325001 x325002 x327000 x327001 x327002) else (some false)) else (none)) else (none)) else (none)) else (sacristanref09_Same.l3 k x103 (wrap64 (x104 + 1)) x315000 x315001 x315002 x315003 x316000 x316001 x316002 x316003)
end
def sacristanref09_Same.f (k : Nat) (l0_0 : List Int) (l0_1 : List ByteArray) (l0_2 : List (S44)) (l0_3 : List (S41)) (l1_0 : List Int) (l1_1 : List ByteArray) (l1_2 : List (S44)) (l1_3 : List (S41)) : Option (Bool) := if (l0_0.length : Int) = (l1_0.length : Int) then (if (l0_1.length : Int) = (l1_1.length : Int) then (if (l0_2.length : Int) = (l1_2.length : Int) then (sacristanref09_Same.j0 k ((l0_3.length : Int) != (l1_3.length : Int)) l0_0 l0_1 l0_2 l0_3 l1_0 l1_1 l1_2 l1_3) else (sacristanref09_Same.j0 k true l0_0 l0_1 l0_2 l0_3 l1_0 l1_1 l1_2 l1_3)) else (sacristanref09_Same.j0 k true l0_0 l0_1 l0_2 l0_3 l1_0 l1_1 l1_2 l1_3)) else (sacristanref09_Same.j0 k true l0_0 l0_1 l0_2 l0_3 l1_0 l1_1 l1_2 l1_3)
theorem sacristanref09_Same.mono_l : ∀ k, (∀ y0 y1 y2 y3 y4 y5 y6 y7 y8, LeO (sacristanref09_Same.j0 k y0 y1 y2 y3 y4 y5 y6 y7 y8) (sacristanref09_Same.j0 (k + 1) y0 y1 y2 y3 y4 y5 y6 y7 y8)) ∧ (∀ y0 y1 y2 y3 y4 y5 y6 y7 y8 y9, LeO (sacristanref09_Same.l0 k y0 y1 y2 y3 y4 y5 y6 y7 y8 y9) (sacristanref09_Same.l0 (k + 1) y0 y1 y2 y3 y4 y5 y6 y7 y8 y9)) ∧ (∀ y0 y1 y2 y3 y4 y5 y6 y7 y8 y9, LeO (sacristanref09_Same.l1 k y0 y1 y2 y3 y4 y5 y6 y7 y8 y9) (sacristanref09_Same.l1 (k + 1) y0 y1 y2 y3 y4 y5 y6 y7 y8 y9)) ∧ (∀ y0 y1 y2 y3 y4 y5 y6 y7 y8 y9, LeO (sacristanref09_Same.l2 k y0 y1 y2 y3 y4 y5 y6 y7 y8 y9) (sacristanref09_Same.l2 (k + 1) y0 y1 y2 y3 y4 y5 y6 y7 y8 y9)) ∧ (∀ y0 y1 y2 y3 y4 y5 y6 y7 y8 y9, LeO (sacristanref09_Same.l3 k y0 y1 y2 y3 y4 y5 y6 y7 y8 y9) (sacristanref09_Same.l3 (k + 1) y0 y1 y2 y3 y4 y5 y6 y7 y8 y9)) ∧ (∀ y0 y1 y2 y3 y4 y5 y6 y7 y8 y9 y10 y11 y12 y13 y14 y15 y16, LeO (sacristanref09_Same.j5 k y0 y1 y2 y3 y4 y5 y6 y7 y8 y9 y10 y11 y12 y13 y14 y15 y16) (sacristanref09_Same.j5 (k + 1) y0 y1 y2 y3 y4 y5 y6 y7 y8 y9 y10 y11 y12 y13 y14 y15 y16)) ∧ (∀ y0 y1 y2 y3 y4 y5 y6 y7 y8 y9 y10 y11 y12 y13 y14 y15 y16 y17, LeO (sacristanref09_Same.l4 k y0 y1 y2 y3 y4 y5 y6 y7 y8 y9 y10 y11 y12 y13 y14 y15 y16 y17) (sacristanref09_Same.l4 (k + 1) y0 y1 y2 y3 y4 y5 y6 y7 y8 y9 y10 y11 y12 y13 y14 y15 y16 y17))
  | 0 => ⟨fun _ _ _ _ _ _ _ _ _ r h => by simp [sacristanref09_Same.j0] at h, fun _ _ _ _ _ _ _ _ _ _ r h => by simp [sacristanref09_Same.l0] at h, fun _ _ _ _ _ _ _ _ _ _ r h => by simp [sacristanref09_Same.l1] at h, fun _ _ _ _ _ _ _ _ _ _ r h => by simp [sacristanref09_Same.l2] at h, fun _ _ _ _ _ _ _ _ _ _ r h => by simp [sacristanref09_Same.l3] at h, fun _ _ _ _ _ _ _ _ _ _ _ _ _ _ _ _ _ r h => by simp [sacristanref09_Same.j5] at h, fun _ _ _ _ _ _ _ _ _ _ _ _ _ _ _ _ _ _ r h => by simp [sacristanref09_Same.l4] at h⟩
  | k + 1 => by
    obtain ⟨ih0, ih1, ih2, ih3, ih4, ih5, ih6⟩ := sacristanref09_Same.mono_l k
    refine ⟨?_, ?_, ?_, ?_, ?_, ?_, ?_⟩
    · intro y0 y1 y2 y3 y4 y5 y6 y7 y8
      unfold sacristanref09_Same.j0
      repeat' first | (with_reducible exact ih1 _ _ _ _ _ _ _ _ _ _) | (with_reducible exact LeO.refl _) | (with_reducible refine LeO.ite ?_ ?_)
    · intro y0 y1 y2 y3 y4 y5 y6 y7 y8 y9
      unfold sacristanref09_Same.l0
      repeat' first | (with_reducible exact ih1 _ _ _ _ _ _ _ _ _ _) | (with_reducible exact ih2 _ _ _ _ _ _ _ _ _ _) | (with_reducible exact LeO.refl _) | (with_reducible refine LeO.ite ?_ ?_)
    · intro y0 y1 y2 y3 y4 y5 y6 y7 y8 y9
      unfold sacristanref09_Same.l1
      repeat' first | (with_reducible exact ih2 _ _ _ _ _ _ _ _ _ _) | (with_reducible exact ih3 _ _ _ _ _ _ _ _ _ _) | (with_reducible exact LeO.refl _) | (with_reducible refine LeO.ite ?_ ?_)
    · intro y0 y1 y2 y3 y4 y5 y6 y7 y8 y9
      unfold sacristanref09_Same.l2
      repeat' first | (with_reducible exact ih3 _ _ _ _ _ _ _ _ _ _) | (with_reducible exact ih4 _ _ _ _ _ _ _ _ _ _) | (with_reducible exact sacristanref09_same.mono _ _ _ _ _ _ _ _ _) | (with_reducible exact LeO.refl _) | (with_reducible refine LeO.ite ?_ ?_) | (with_reducible refine LeO.bind ?_ (fun _ => ?_))
    · intro y0 y1 y2 y3 y4 y5 y6 y7 y8 y9
      unfold sacristanref09_Same.l3
      repeat' first | (with_reducible exact ih5 _ _ _ _ _ _ _ _ _ _ _ _ _ _ _ _ _) | (with_reducible exact LeO.refl _) | (with_reducible refine LeO.ite ?_ ?_)
    · intro y0 y1 y2 y3 y4 y5 y6 y7 y8 y9 y10 y11 y12 y13 y14 y15 y16
      unfold sacristanref09_Same.j5
      repeat' first | (with_reducible exact ih6 _ _ _ _ _ _ _ _ _ _ _ _ _ _ _ _ _ _) | (with_reducible exact LeO.refl _) | (with_reducible refine LeO.ite ?_ ?_)
    · intro y0 y1 y2 y3 y4 y5 y6 y7 y8 y9 y10 y11 y12 y13 y14 y15 y16 y17
      unfold sacristanref09_Same.l4
      repeat' first | (with_reducible exact ih4 _ _ _ _ _ _ _ _ _ _) | (with_reducible exact ih6 _ _ _ _ _ _ _ _ _ _ _ _ _ _ _ _ _ _) | (with_reducible exact LeO.refl _) | (with_reducible refine LeO.ite ?_ ?_)
theorem sacristanref09_Same.mono : ∀ a0 a1 a2 a3 a4 a5 a6 a7 k, LeO (sacristanref09_Same.f k a0 a1 a2 a3 a4 a5 a6 a7) (sacristanref09_Same.f (k + 1) a0 a1 a2 a3 a4 a5 a6 a7) := by
  intro a0 a1 a2 a3 a4 a5 a6 a7 k
  obtain ⟨ih0, ih1, ih2, ih3, ih4, ih5, ih6⟩ := sacristanref09_Same.mono_l k
  unfold sacristanref09_Same.f
  repeat' first | (with_reducible exact ih0 _ _ _ _ _ _ _ _ _) | (with_reducible refine LeO.ite ?_ ?_)
def sacristanref09_Same.T6 : Bool × List (List Nat × List Nat) := (true, [([], []), ([0], [0]), ([], []), ([1, 2], [1, 2]), ([3], [3]), ([], []), ([5], [5]), ([], []), ([6, 7], [6, 7]), ([8], [8]), ([4, 9], [4, 9])])
def sacristanref09_Same.B6 : List Nat := [0, 1, 0, 7, 15, 0, 32, 0, 224, 480, 1023]
theorem sacristanref09_Same.tab6 : rtab .any (opsOf Tryd.f27 6) = sacristanref09_Same.T6 := by kernel_rfl
theorem sacristanref09_Same.bits6 : waitsOk sacristanref09_Same.T6.2 sacristanref09_Same.B6 = true := by kernel_rfl
def sacristanref09_Same.T12 : Bool × List (List Nat × List Nat) := (true, [([], []), ([0], [0]), ([], []), ([1, 2], [1, 2]), ([3], [3]), ([], []), ([5], [5]), ([], []), ([6, 7], [6, 7]), ([8], [8]), ([4, 9], [4, 9])])
def sacristanref09_Same.B12 : List Nat := [0, 1, 0, 7, 15, 0, 32, 0, 224, 480, 1023]
theorem sacristanref09_Same.tab12 : rtab .any (opsOf Tryd.f27 12) = sacristanref09_Same.T12 := by kernel_rfl
theorem sacristanref09_Same.bits12 : waitsOk sacristanref09_Same.T12.2 sacristanref09_Same.B12 = true := by kernel_rfl
def sacristanref09_Same.T18 : Bool × List (List Nat × List Nat) := (true, [([], []), ([0], [0]), ([], []), ([1, 2], [1, 2]), ([3], [3]), ([], []), ([5], [5]), ([], []), ([6, 7], [6, 7]), ([8], [8]), ([4, 9], [4, 9]), ([10], [10])])
def sacristanref09_Same.B18 : List Nat := [0, 1, 0, 7, 15, 0, 32, 0, 224, 480, 1023, 2047]
theorem sacristanref09_Same.tab18 : rtab .any (opsOf Tryd.f27 18) = sacristanref09_Same.T18 := by kernel_rfl
theorem sacristanref09_Same.bits18 : waitsOk sacristanref09_Same.T18.2 sacristanref09_Same.B18 = true := by kernel_rfl
def sacristanref09_Same.T31 : Bool × List (List Nat × List Nat) := (true, [([], []), ([0], [0]), ([], []), ([1, 2], [1, 2]), ([3], [3]), ([], []), ([5], [5]), ([], []), ([6, 7], [6, 7]), ([8], [8]), ([4, 9], [4, 9])])
def sacristanref09_Same.B31 : List Nat := [0, 1, 0, 7, 15, 0, 32, 0, 224, 480, 1023]
theorem sacristanref09_Same.tab31 : rtab .any (opsOf Tryd.f27 31) = sacristanref09_Same.T31 := by kernel_rfl
theorem sacristanref09_Same.bits31 : waitsOk sacristanref09_Same.T31.2 sacristanref09_Same.B31 = true := by kernel_rfl
set_option maxHeartbeats 8000000 in
set_option maxRecDepth 100000 in
theorem sacristanref09_Same.calls (k : Nat) (A0_0 : Option Addr) (c0_0 : Nat) (l0_0 : List Int) (A0_1 : Option Addr) (c0_1 : Nat) (l0_1 : List ByteArray) (A0_2 : Option Addr) (c0_2 : Nat) (l0_2 : List (S44)) (A0_3 : Option Addr) (c0_3 : Nat) (l0_3 : List (S41)) (A1_0 : Option Addr) (c1_0 : Nat) (l1_0 : List Int) (A1_1 : Option Addr) (c1_1 : Nat) (l1_1 : List ByteArray) (A1_2 : Option Addr) (c1_2 : Nat) (l1_2 : List (S44)) (A1_3 : Option Addr) (c1_3 : Nat) (l1_3 : List (S41)) (r : Bool) (w : World) (hr0_0 : Kd.C (Kd.int .i64) w A0_0 l0_0.length l0_0) (hc0_0 : l0_0.length ≤ c0_0) (hr0_1 : Kd.C Kd.string w A0_1 l0_1.length l0_1) (hc0_1 : l0_1.length ≤ c0_1) (hr0_2 : Kd.C k44 w A0_2 l0_2.length l0_2) (hc0_2 : l0_2.length ≤ c0_2) (hr0_3 : Kd.C k41 w A0_3 l0_3.length l0_3) (hc0_3 : l0_3.length ≤ c0_3) (hr1_0 : Kd.C (Kd.int .i64) w A1_0 l1_0.length l1_0) (hc1_0 : l1_0.length ≤ c1_0) (hr1_1 : Kd.C Kd.string w A1_1 l1_1.length l1_1) (hc1_1 : l1_1.length ≤ c1_1) (hr1_2 : Kd.C k44 w A1_2 l1_2.length l1_2) (hc1_2 : l1_2.length ≤ c1_2) (hr1_3 : Kd.C k41 w A1_3 l1_3.length l1_3) (hc1_3 : l1_3.length ≤ c1_3) (h : sacristanref09_Same.f k l0_0 l0_1 l0_2 l0_3 l1_0 l1_1 l1_2 l1_3 = some r) :
    Calls Tryd.prog 27 #[.agg #[.slice A0_0 l0_0.length c0_0, .slice A0_1 l0_1.length c0_1, .slice A0_2 l0_2.length c0_2, .slice A0_3 l0_3.length c0_3], .agg #[.slice A1_0 l1_0.length c1_0, .slice A1_1 l1_1.length c1_1, .slice A1_2 l1_2.length c1_2, .slice A1_3 l1_3.length c1_3]] w fun e w' => e = .returned (.bool r) ∧ Below w.heap.size w w' := by
  have hu30 := Tryd.underlying30
  have hu44 := Tryd.underlying44
  have hu41 := Tryd.underlying41
  have HR0_0 := Aside0.mk hr0_0
  have HC0_0 := Aside0.mk hc0_0
  clear hr0_0 hc0_0
  have HR0_1 := Aside0.mk hr0_1
  have HC0_1 := Aside0.mk hc0_1
  clear hr0_1 hc0_1
  have HR0_2 := Aside0.mk hr0_2
  have HC0_2 := Aside0.mk hc0_2
  clear hr0_2 hc0_2
  have HR0_3 := Aside0.mk hr0_3
  have HC0_3 := Aside0.mk hc0_3
  clear hr0_3 hc0_3
  have HR1_0 := Aside0.mk hr1_0
  have HC1_0 := Aside0.mk hc1_0
  clear hr1_0 hc1_0
  have HR1_1 := Aside0.mk hr1_1
  have HC1_1 := Aside0.mk hc1_1
  clear hr1_1 hc1_1
  have HR1_2 := Aside0.mk hr1_2
  have HC1_2 := Aside0.mk hc1_2
  clear hr1_2 hc1_2
  have HR1_3 := Aside0.mk hr1_3
  have HC1_3 := Aside0.mk hc1_3
  clear hr1_3 hc1_3
  have HB := Aside0.mk (Below.refl w.heap.size w)
  have H : (if (l0_0.length : Int) = (l1_0.length : Int) then (if (l0_1.length : Int) = (l1_1.length : Int) then (if (l0_2.length : Int) = (l1_2.length : Int) then (sacristanref09_Same.j0 k ((l0_3.length : Int) != (l1_3.length : Int)) l0_0 l0_1 l0_2 l0_3 l1_0 l1_1 l1_2 l1_3) else (sacristanref09_Same.j0 k true l0_0 l0_1 l0_2 l0_3 l1_0 l1_1 l1_2 l1_3)) else (sacristanref09_Same.j0 k true l0_0 l0_1 l0_2 l0_3 l1_0 l1_1 l1_2 l1_3)) else (sacristanref09_Same.j0 k true l0_0 l0_1 l0_2 l0_3 l1_0 l1_1 l1_2 l1_3)) = some r := h
  clear h
  have HC3 := Aside0.mk H
  clear H
  go_enter Tryd.func27, Tryd.ntmps27
  go_upto_region 1 with (first | ((with_reducible refine gate_dst (N := 2) rfl ?_); (try (refine gate_guard (by rfl) ?_; dsimp only)); refine box_event ?hg (N := 2) ?hd (cs := #[.slice A0_0 l0_0.length c0_0, .slice A0_1 l0_1.length c0_1, .slice A0_2 l0_2.length c0_2, .slice A0_3 l0_3.length c0_3]) (t := 30) ?hr ?_; (case hd => rfl); (case hg => rfl); (case hr => ((go_simp; done))); intro gb314 hg w4 hbox hb; have n0_ := Aside0.mk (below_step (by repeat ((with_reducible exact HB.out))) hb); have n1_ := Aside0.mk (hbox); have n2_ := Aside0.mk ((by rw [hg]; exact (below_size (by repeat ((with_reducible exact HB.out)))) : w.heap.size ≤ gb314)); have n3_ := Aside0.mk ((by rw [hg]; exact (below_size (by repeat ((with_reducible exact HB.out)))) : w.heap.size ≤ gb314)); clear HB; have HB := n0_; have BK314 := n1_; have GW314 := n2_; have GE314 := n3_; clear n0_ n1_ n2_ n3_; clear hb hbox hg) | ((with_reducible refine gate_dst (N := 3) rfl ?_); (try (refine gate_guard (by rfl) ?_; dsimp only)); refine box_event ?hg (N := 3) ?hd (cs := #[.slice A1_0 l1_0.length c1_0, .slice A1_1 l1_1.length c1_1, .slice A1_2 l1_2.length c1_2, .slice A1_3 l1_3.length c1_3]) (t := 30) ?hr ?_; (case hd => rfl); (case hg => rfl); (case hr => ((go_simp; done))); intro gb315 hg w5 hbox hb; have n0_ := Aside0.mk (blk_below (g := gb314) (o := .cells #[.slice A0_0 l0_0.length c0_0, .slice A0_1 l0_1.length c0_1, .slice A0_2 l0_2.length c0_2, .slice A0_3 l0_3.length c0_3] 30 (0, 0)) (by (with_reducible repeat (fail)); exact BK314.out) hb); have n1_ := Aside0.mk (below_step (by repeat ((with_reducible exact HB.out))) hb); have n2_ := Aside0.mk (hbox); have n3_ := Aside0.mk ((by rw [hg]; exact (below_size (by repeat ((with_reducible exact HB.out)))) : w.heap.size ≤ gb315)); have n4_ := Aside0.mk ((by rw [hg]; exact (below_size (by repeat ((with_reducible exact HB.out)))) : w.heap.size ≤ gb315)); have n5_ := Aside0.mk ((by rw [hg]; exact Nat.ne_of_lt (blk_lt (g := gb314) (o := .cells #[.slice A0_0 l0_0.length c0_0, .slice A0_1 l0_1.length c0_1, .slice A0_2 l0_2.length c0_2, .slice A0_3 l0_3.length c0_3] 30 (0, 0)) (by (with_reducible repeat (fail)); exact BK314.out)) : gb314 ≠ gb315)); have n6_ := Aside0.mk ((by rw [hg]; exact Nat.ne_of_gt (blk_lt (g := gb314) (o := .cells #[.slice A0_0 l0_0.length c0_0, .slice A0_1 l0_1.length c0_1, .slice A0_2 l0_2.length c0_2, .slice A0_3 l0_3.length c0_3] 30 (0, 0)) (by (with_reducible repeat (fail)); exact BK314.out)) : gb315 ≠ gb314)); clear BK314; clear HB; have BK314 := n0_; have HB := n1_; have BK315 := n2_; have GW315 := n3_; have GE315 := n4_; have NB314_315 := n5_; have NB315_314 := n6_; clear n0_ n1_ n2_ n3_ n4_ n5_ n6_; clear hb hbox hg))
  go_cut [45] (fun v45 wc => ∃ (kq : Nat) (x45_2 : Bool), v45 = .bool x45_2 ∧ Aside0 (sacristanref09_Same.j0 kq x45_2 l0_0 l0_1 l0_2 l0_3 l1_0 l1_1 l1_2 l1_3 = some r) ∧ Aside0 (kq ≤ k) ∧ Aside0 (wc.heap[gb314]? = some (.cells #[(.slice A0_0 l0_0.length c0_0), (.slice A0_1 l0_1.length c0_1), (.slice A0_2 l0_2.length c0_2), (.slice A0_3 l0_3.length c0_3)] 30 (0, 0))) ∧ Aside0 (wc.heap[gb315]? = some (.cells #[(.slice A1_0 l1_0.length c1_0), (.slice A1_1 l1_1.length c1_1), (.slice A1_2 l1_2.length c1_2), (.slice A1_3 l1_3.length c1_3)] 30 (0, 0))) ∧ Aside0 (Below w.heap.size w wc))
  case first =>
    have H := HC3.out
    clear HC3
    by_cases c6 : (l0_0.length : Int) = (l1_0.length : Int)
    · rw [if_pos c6] at H
      have c6b0 : ((l0_0.length : Int) == (l1_0.length : Int)) = true := beq_iff_eq.mpr c6
      have c6b1 : ((l0_0.length : Int) != (l1_0.length : Int)) = false := bne_eq_false_iff_eq.mpr c6
      have c6b2 : (l0_0.length == l1_0.length) = true := by ((simp at c6 ⊢; omega))
      clear c6
      (skip)
      by_cases c7 : (l0_1.length : Int) = (l1_1.length : Int)
      · rw [if_pos c7] at H
        have c7b0 : ((l0_1.length : Int) == (l1_1.length : Int)) = true := beq_iff_eq.mpr c7
        have c7b1 : ((l0_1.length : Int) != (l1_1.length : Int)) = false := bne_eq_false_iff_eq.mpr c7
        have c7b2 : (l0_1.length == l1_1.length) = true := by ((simp at c7 ⊢; omega))
        clear c7
        by_cases c8 : (l0_2.length : Int) = (l1_2.length : Int)
        · rw [if_pos c8] at H
          have c8b0 : ((l0_2.length : Int) == (l1_2.length : Int)) = true := beq_iff_eq.mpr c8
          have c8b1 : ((l0_2.length : Int) != (l1_2.length : Int)) = false := bne_eq_false_iff_eq.mpr c8
          have c8b2 : (l0_2.length == l1_2.length) = true := by ((simp at c8 ⊢; omega))
          clear c8
          have H' := Aside0.mk H
          clear H
          have hnb9 := NB314_315.out
          have hnc9 := NB315_314.out
          have hcz10_0 : w5.cell? ⟨gb314, 0, none⟩ = some (.slice A0_0 l0_0.length c0_0) := (blk_cell BK314.out 0).trans rfl
          have hcz10_1 : w5.cell? ⟨gb314, 1, none⟩ = some (.slice A0_1 l0_1.length c0_1) := (blk_cell BK314.out 1).trans rfl
          have hcz10_2 : w5.cell? ⟨gb314, 2, none⟩ = some (.slice A0_2 l0_2.length c0_2) := (blk_cell BK314.out 2).trans rfl
          have hcz10_3 : w5.cell? ⟨gb314, 3, none⟩ = some (.slice A0_3 l0_3.length c0_3) := (blk_cell BK314.out 3).trans rfl
          have hfz10_0 := blk_frozen BK314.out 0
          have hfz10_1 := blk_frozen BK314.out 1
          have hfz10_2 := blk_frozen BK314.out 2
          have hfz10_3 := blk_frozen BK314.out 3
          have hcz11_0 : w5.cell? ⟨gb315, 0, none⟩ = some (.slice A1_0 l1_0.length c1_0) := (blk_cell BK315.out 0).trans rfl
          have hcz11_1 : w5.cell? ⟨gb315, 1, none⟩ = some (.slice A1_1 l1_1.length c1_1) := (blk_cell BK315.out 1).trans rfl
          have hcz11_2 : w5.cell? ⟨gb315, 2, none⟩ = some (.slice A1_2 l1_2.length c1_2) := (blk_cell BK315.out 2).trans rfl
          have hcz11_3 : w5.cell? ⟨gb315, 3, none⟩ = some (.slice A1_3 l1_3.length c1_3) := (blk_cell BK315.out 3).trans rfl
          have hfz11_0 := blk_frozen BK315.out 0
          have hfz11_1 := blk_frozen BK315.out 1
          have hfz11_2 := blk_frozen BK315.out 2
          have hfz11_3 := blk_frozen BK315.out 3
          go_wp2
          go_meet
          case rel => exact ⟨_, (((l0_3.length : Int) != (l1_3.length : Int))), (by rfl), H', ⟨by omega⟩, ⟨by (with_reducible repeat (fail)); exact BK314.out⟩, ⟨by (with_reducible repeat (fail)); exact BK315.out⟩, ⟨by repeat ((with_reducible exact HB.out))⟩⟩
        rw [if_neg c8] at H
        have c8b0 : ((l0_2.length : Int) == (l1_2.length : Int)) = false := beq_eq_false_iff_ne.mpr c8
        have c8b1 : ((l0_2.length : Int) != (l1_2.length : Int)) = true := bne_iff_ne.mpr c8
        have c8b2 : (l0_2.length == l1_2.length) = false := by ((simp at c8 ⊢; omega))
        have H' := Aside0.mk H
        clear H
        have hnb12 := NB314_315.out
        have hnc12 := NB315_314.out
        have hcz13_0 : w5.cell? ⟨gb314, 0, none⟩ = some (.slice A0_0 l0_0.length c0_0) := (blk_cell BK314.out 0).trans rfl
        have hcz13_1 : w5.cell? ⟨gb314, 1, none⟩ = some (.slice A0_1 l0_1.length c0_1) := (blk_cell BK314.out 1).trans rfl
        have hcz13_2 : w5.cell? ⟨gb314, 2, none⟩ = some (.slice A0_2 l0_2.length c0_2) := (blk_cell BK314.out 2).trans rfl
        have hcz13_3 : w5.cell? ⟨gb314, 3, none⟩ = some (.slice A0_3 l0_3.length c0_3) := (blk_cell BK314.out 3).trans rfl
        have hfz13_0 := blk_frozen BK314.out 0
        have hfz13_1 := blk_frozen BK314.out 1
        have hfz13_2 := blk_frozen BK314.out 2
        have hfz13_3 := blk_frozen BK314.out 3
        have hcz14_0 : w5.cell? ⟨gb315, 0, none⟩ = some (.slice A1_0 l1_0.length c1_0) := (blk_cell BK315.out 0).trans rfl
        have hcz14_1 : w5.cell? ⟨gb315, 1, none⟩ = some (.slice A1_1 l1_1.length c1_1) := (blk_cell BK315.out 1).trans rfl
        have hcz14_2 : w5.cell? ⟨gb315, 2, none⟩ = some (.slice A1_2 l1_2.length c1_2) := (blk_cell BK315.out 2).trans rfl
        have hcz14_3 : w5.cell? ⟨gb315, 3, none⟩ = some (.slice A1_3 l1_3.length c1_3) := (blk_cell BK315.out 3).trans rfl
        have hfz14_0 := blk_frozen BK315.out 0
        have hfz14_1 := blk_frozen BK315.out 1
        have hfz14_2 := blk_frozen BK315.out 2
        have hfz14_3 := blk_frozen BK315.out 3
        go_wp2
        go_meet
        case rel => exact ⟨_, (true), (by rfl), H', ⟨by omega⟩, ⟨by (with_reducible repeat (fail)); exact BK314.out⟩, ⟨by (with_reducible repeat (fail)); exact BK315.out⟩, ⟨by repeat ((with_reducible exact HB.out))⟩⟩
      rw [if_neg c7] at H
      have c7b0 : ((l0_1.length : Int) == (l1_1.length : Int)) = false := beq_eq_false_iff_ne.mpr c7
      have c7b1 : ((l0_1.length : Int) != (l1_1.length : Int)) = true := bne_iff_ne.mpr c7
      have c7b2 : (l0_1.length == l1_1.length) = false := by ((simp at c7 ⊢; omega))
      have H' := Aside0.mk H
      clear H
      have hnb15 := NB314_315.out
      have hnc15 := NB315_314.out
      have hcz16_0 : w5.cell? ⟨gb314, 0, none⟩ = some (.slice A0_0 l0_0.length c0_0) := (blk_cell BK314.out 0).trans rfl
      have hcz16_1 : w5.cell? ⟨gb314, 1, none⟩ = some (.slice A0_1 l0_1.length c0_1) := (blk_cell BK314.out 1).trans rfl
      have hcz16_2 : w5.cell? ⟨gb314, 2, none⟩ = some (.slice A0_2 l0_2.length c0_2) := (blk_cell BK314.out 2).trans rfl
      have hcz16_3 : w5.cell? ⟨gb314, 3, none⟩ = some (.slice A0_3 l0_3.length c0_3) := (blk_cell BK314.out 3).trans rfl
      have hfz16_0 := blk_frozen BK314.out 0
      have hfz16_1 := blk_frozen BK314.out 1
      have hfz16_2 := blk_frozen BK314.out 2
      have hfz16_3 := blk_frozen BK314.out 3
      have hcz17_0 : w5.cell? ⟨gb315, 0, none⟩ = some (.slice A1_0 l1_0.length c1_0) := (blk_cell BK315.out 0).trans rfl
      have hcz17_1 : w5.cell? ⟨gb315, 1, none⟩ = some (.slice A1_1 l1_1.length c1_1) := (blk_cell BK315.out 1).trans rfl
      have hcz17_2 : w5.cell? ⟨gb315, 2, none⟩ = some (.slice A1_2 l1_2.length c1_2) := (blk_cell BK315.out 2).trans rfl
      have hcz17_3 : w5.cell? ⟨gb315, 3, none⟩ = some (.slice A1_3 l1_3.length c1_3) := (blk_cell BK315.out 3).trans rfl
      have hfz17_0 := blk_frozen BK315.out 0
      have hfz17_1 := blk_frozen BK315.out 1
      have hfz17_2 := blk_frozen BK315.out 2
      have hfz17_3 := blk_frozen BK315.out 3
      go_wp2
      go_meet
      case rel => exact ⟨_, (true), (by rfl), H', ⟨by omega⟩, ⟨by (with_reducible repeat (fail)); exact BK314.out⟩, ⟨by (with_reducible repeat (fail)); exact BK315.out⟩, ⟨by repeat ((with_reducible exact HB.out))⟩⟩
    rw [if_neg c6] at H
    have c6b0 : ((l0_0.length : Int) == (l1_0.length : Int)) = false := beq_eq_false_iff_ne.mpr c6
    have c6b1 : ((l0_0.length : Int) != (l1_0.length : Int)) = true := bne_iff_ne.mpr c6
    have c6b2 : (l0_0.length == l1_0.length) = false := by ((simp at c6 ⊢; omega))
    (skip)
    have H' := Aside0.mk H
    clear H
    have hnb18 := NB314_315.out
    have hnc18 := NB315_314.out
    have hcz19_0 : w5.cell? ⟨gb314, 0, none⟩ = some (.slice A0_0 l0_0.length c0_0) := (blk_cell BK314.out 0).trans rfl
    have hcz19_1 : w5.cell? ⟨gb314, 1, none⟩ = some (.slice A0_1 l0_1.length c0_1) := (blk_cell BK314.out 1).trans rfl
    have hcz19_2 : w5.cell? ⟨gb314, 2, none⟩ = some (.slice A0_2 l0_2.length c0_2) := (blk_cell BK314.out 2).trans rfl
    have hcz19_3 : w5.cell? ⟨gb314, 3, none⟩ = some (.slice A0_3 l0_3.length c0_3) := (blk_cell BK314.out 3).trans rfl
    have hfz19_0 := blk_frozen BK314.out 0
    have hfz19_1 := blk_frozen BK314.out 1
    have hfz19_2 := blk_frozen BK314.out 2
    have hfz19_3 := blk_frozen BK314.out 3
    have hcz20_0 : w5.cell? ⟨gb315, 0, none⟩ = some (.slice A1_0 l1_0.length c1_0) := (blk_cell BK315.out 0).trans rfl
    have hcz20_1 : w5.cell? ⟨gb315, 1, none⟩ = some (.slice A1_1 l1_1.length c1_1) := (blk_cell BK315.out 1).trans rfl
    have hcz20_2 : w5.cell? ⟨gb315, 2, none⟩ = some (.slice A1_2 l1_2.length c1_2) := (blk_cell BK315.out 2).trans rfl
    have hcz20_3 : w5.cell? ⟨gb315, 3, none⟩ = some (.slice A1_3 l1_3.length c1_3) := (blk_cell BK315.out 3).trans rfl
    have hfz20_0 := blk_frozen BK315.out 0
    have hfz20_1 := blk_frozen BK315.out 1
    have hfz20_2 := blk_frozen BK315.out 2
    have hfz20_3 := blk_frozen BK315.out 3
    go_wp2
    go_meet
    case rel => exact ⟨_, (true), (by rfl), H', ⟨by omega⟩, ⟨by (with_reducible repeat (fail)); exact BK314.out⟩, ⟨by (with_reducible repeat (fail)); exact BK315.out⟩, ⟨by repeat ((with_reducible exact HB.out))⟩⟩
  case rest =>
    clear HC3
    obtain ⟨kq, x45_2, rfl, HA, HJ2, BK314, BK315, HB⟩ := hcut
    cases kq with
    | zero => exact absurd HA.out (by simp [sacristanref09_Same.j0])
    | succ kj2 =>
      have H := HA.out
      clear HA
      simp only [sacristanref09_Same.j0] at H
      by_cases c21 : x45_2 = true
      · subst c21
        have H1 : (some false) = some r := by rw [if_pos rfl] at H; exact H
        clear H
        have H := H1
        clear H1
        obtain rfl := Option.some.inj H
        go_wp2
        go_ret
        exact ⟨by rfl, by repeat ((with_reducible exact HB.out))⟩
      replace c21 := Bool.eq_false_iff.mpr c21
      subst c21
      have H1 : (sacristanref09_Same.l0 kj2 (l0_0.length : Int) 0 l0_0 l0_1 l0_2 l0_3 l1_0 l1_1 l1_2 l1_3) = some r := by rw [if_neg (show ¬ (false = true) by decide)] at H; exact H
      clear H
      have H := H1
      clear H1
      have H' := Aside0.mk H
      clear H
      have hnb22 := NB314_315.out
      have hnc22 := NB315_314.out
      have hcz23_0 : wc.cell? ⟨gb314, 0, none⟩ = some (.slice A0_0 l0_0.length c0_0) := (blk_cell BK314.out 0).trans rfl
      have hcz23_1 : wc.cell? ⟨gb314, 1, none⟩ = some (.slice A0_1 l0_1.length c0_1) := (blk_cell BK314.out 1).trans rfl
      have hcz23_2 : wc.cell? ⟨gb314, 2, none⟩ = some (.slice A0_2 l0_2.length c0_2) := (blk_cell BK314.out 2).trans rfl
      have hcz23_3 : wc.cell? ⟨gb314, 3, none⟩ = some (.slice A0_3 l0_3.length c0_3) := (blk_cell BK314.out 3).trans rfl
      have hfz23_0 := blk_frozen BK314.out 0
      have hfz23_1 := blk_frozen BK314.out 1
      have hfz23_2 := blk_frozen BK314.out 2
      have hfz23_3 := blk_frozen BK314.out 3
      go_wp2
      go_loopg [49] kj2 (fun kq v49 w' => ∃ (x49_2 : Int), v49 = .int .i64 x49_2 ∧ Aside0 (sacristanref09_Same.l0 kq (l0_0.length : Int) x49_2 l0_0 l0_1 l0_2 l0_3 l1_0 l1_1 l1_2 l1_3 = some r) ∧ Aside0 (kq ≤ kj2) ∧ Aside0 (w'.heap[gb314]? = some (.cells #[(.slice A0_0 l0_0.length c0_0), (.slice A0_1 l0_1.length c0_1), (.slice A0_2 l0_2.length c0_2), (.slice A0_3 l0_3.length c0_3)] 30 (0, 0))) ∧ Aside0 (w'.heap[gb315]? = some (.cells #[(.slice A1_0 l1_0.length c1_0), (.slice A1_1 l1_1.length c1_1), (.slice A1_2 l1_2.length c1_2), (.slice A1_3 l1_3.length c1_3)] 30 (0, 0))) ∧ Aside0 (Below w.heap.size w w'))
      case atStart => exact ⟨(0), (by rfl), H', ⟨Nat.le_refl _⟩, ⟨by (with_reducible repeat (fail)); exact BK314.out⟩, ⟨by (with_reducible repeat (fail)); exact BK315.out⟩, ⟨by repeat ((with_reducible exact HB.out))⟩⟩
      case round =>
        clear H' hcz23_0 hcz23_1 hcz23_2 hcz23_3 hfz23_0 hfz23_1 hfz23_2 hfz23_3
        obtain ⟨x49_2, rfl, HA, HK2, BK314, BK315, HB⟩ := hrel
        cases gk with
        | zero => exact absurd HA.out (by simp [sacristanref09_Same.l0])
        | succ k2 =>
          have H := HA.out
          clear HA
          simp only [sacristanref09_Same.l0] at H
          by_cases c24 : x49_2 < (l0_0.length : Int)
          · rw [if_pos c24] at H
            have c24b0 : decide (x49_2 < (l0_0.length : Int)) = true := decide_eq_true c24
            clear c24
            by_cases c25 : 0 ≤ x49_2
            · rw [if_pos c25] at H
              have c25b0 : decide (0 ≤ x49_2) = true := decide_eq_true c25
              clear c25
              by_cases c26 : x49_2 < (l0_0.length : Int)
              · rw [if_pos c26] at H
                have c26b0 : decide (x49_2 < (l0_0.length : Int)) = true := decide_eq_true c26
                clear c26
                by_cases c27 : x49_2 < (l1_0.length : Int)
                · rw [if_pos c27] at H
                  have c27b0 : decide (x49_2 < (l1_0.length : Int)) = true := decide_eq_true c27
                  clear c27
                  by_cases c28 : (rd l0_0 x49_2) = (rd l1_0 x49_2)
                  · rw [if_pos c28] at H
                    have c28b0 : ((rd l0_0 x49_2) == (rd l1_0 x49_2)) = true := beq_iff_eq.mpr c28
                    have c28b1 : ((rd l0_0 x49_2) != (rd l1_0 x49_2)) = false := bne_eq_false_iff_eq.mpr c28
                    clear c28
                    have H' := Aside0.mk H
                    clear H
                    try go_wp2
                    have n0_ := Aside0.mk (blk_drew BK314.out)
                    have n1_ := Aside0.mk (blk_drew BK315.out)
                    have n2_ := Aside0.mk (below_drew1 HB.out)
                    clear BK314 BK315 HB
                    have BK314 := n0_
                    have BK315 := n1_
                    have HB := n2_
                    clear n0_ n1_ n2_
                    have p316 : 0 ≤ (x49_2 : Int) := of_decide_eq_true (by (with_reducible assumption))
                    have q316 : x49_2 < (l0_0.length : Int) := of_decide_eq_true (by (with_reducible assumption))
                    obtain ⟨ad316, e316, hx316_0⟩ := Kd.at_int HR0_0.out x49_2 p316 q316
                    have hw316_0 := hx316_0
                    cases e316
                    replace hx316_0 := (HB.out.cell (World.block_lt_of_cell? w _ hx316_0)).trans hx316_0
                    replace p316 := eq_true p316
                    replace q316 := eq_true q316
                    have p317 : 0 ≤ (x49_2 : Int) := of_decide_eq_true (by (with_reducible assumption))
                    have q317 : x49_2 < (l1_0.length : Int) := of_decide_eq_true (by (with_reducible assumption))
                    obtain ⟨ad317, e317, hx317_0⟩ := Kd.at_int HR1_0.out x49_2 p317 q317
                    have hw317_0 := hx317_0
                    cases e317
                    replace hx317_0 := (HB.out.cell (World.block_lt_of_cell? w _ hx317_0)).trans hx317_0
                    replace p317 := eq_true p317
                    replace q317 := eq_true q317
                    refine start_ (n := 11) (S := fun w' => w'.cell? ⟨gb314, 0, none⟩ = some (.slice (some ad316) l0_0.length c0_0) ∧ w'.cell? ⟨gb314, 1, none⟩ = some (.slice A0_1 l0_1.length c0_1) ∧ w'.cell? ⟨gb314, 2, none⟩ = some (.slice A0_2 l0_2.length c0_2) ∧ w'.cell? ⟨gb314, 3, none⟩ = some (.slice A0_3 l0_3.length c0_3) ∧ w'.cell? ⟨gb315, 0, none⟩ = some (.slice (some ad317) l1_0.length c1_0) ∧ w'.cell? ⟨gb315, 1, none⟩ = some (.slice A1_1 l1_1.length c1_1) ∧ w'.cell? ⟨gb315, 2, none⟩ = some (.slice A1_2 l1_2.length c1_2) ∧ w'.cell? ⟨gb315, 3, none⟩ = some (.slice A1_3 l1_3.length c1_3) ∧ w'.cell? (ad316.add (x49_2).toNat) = some (.int .i64 (rd l0_0 x49_2)) ∧ w'.cell? (ad317.add (x49_2).toNat) = some (.int .i64 (rd l1_0 x49_2))) (ds := []) #[false, false, false, false, false, false, false, false, false, false, false] (by kernel_rfl) rfl rfl ⟨(blk_cell BK314.out 0).trans rfl, (blk_cell BK314.out 1).trans rfl, (blk_cell BK314.out 2).trans rfl, (blk_cell BK314.out 3).trans rfl, (blk_cell BK315.out 0).trans rfl, (blk_cell BK315.out 1).trans rfl, (blk_cell BK315.out 2).trans rfl, (blk_cell BK315.out 3).trans rfl, ((HB.out.cell (World.block_lt_of_cell? w _ hw316_0)).trans hw316_0), ((HB.out.cell (World.block_lt_of_cell? w _ hw317_0)).trans hw317_0)⟩ (fun hHeld => ?_); refine with_tabW sacristanref09_Same.tab6 sacristanref09_Same.bits6 (fun HT_ HW_ => ?_)
                    generalize wr.drew = w29 at BK314 BK315 HB hx316_0 hx317_0 hHeld ⊢
                    refine pure_ (i := 0) (N := some 52) (v := ?_) (a' := ?_) #[true, false, false, false, false, false, false, false, false, false, false] rfl rfl (any_of HT_.out (by kernel_rfl)) (fun _ _ _ h => h) (Or.inl ⟨by rfl, ?_⟩) ?_ ?_
                    rotate_left
                    · intro w'
                      go_simp
                      with_reducible rfl
                    rotate_left
                    · simp only [Act.put, List.setIfInBounds_toArray, List.set_cons_zero, List.set_cons_succ, i64_w, i32_w]
                      rfl
                    refine pure_ (i := 2) (N := some 54) (v := ?_) (a' := ?_) #[true, false, true, false, false, false, false, false, false, false, false] rfl rfl (any_of HT_.out (by kernel_rfl)) (fun _ _ _ h => h) (Or.inl ⟨by rfl, ?_⟩) ?_ ?_
                    rotate_left
                    · intro w'
                      go_simp
                      with_reducible rfl
                    rotate_left
                    · simp only [Act.put, List.setIfInBounds_toArray, List.set_cons_zero, List.set_cons_succ, i64_w, i32_w]
                      rfl
                    refine pure_ (i := 5) (N := some 57) (v := ?_) (a' := ?_) #[true, false, true, false, false, true, false, false, false, false, false] rfl rfl (any_of HT_.out (by kernel_rfl)) (fun _ _ _ h => h) (Or.inl ⟨by rfl, ?_⟩) ?_ ?_
                    rotate_left
                    · intro w'
                      go_simp
                      with_reducible rfl
                    rotate_left
                    · simp only [Act.put, List.setIfInBounds_toArray, List.set_cons_zero, List.set_cons_succ, i64_w, i32_w]
                      rfl
                    refine pure_ (i := 7) (N := some 59) (v := ?_) (a' := ?_) #[true, false, true, false, false, true, false, true, false, false, false] rfl rfl (any_of HT_.out (by kernel_rfl)) (fun _ _ _ h => h) (Or.inl ⟨by rfl, ?_⟩) ?_ ?_
                    rotate_left
                    · intro w'
                      go_simp
                      with_reducible rfl
                    rotate_left
                    · simp only [Act.put, List.setIfInBounds_toArray, List.set_cons_zero, List.set_cons_succ, i64_w, i32_w]
                      rfl
                    refine take_ (i := 1) (N := some 53) (v := ?_) (a' := ?_) #[true, true, true, false, false, true, false, true, false, false, false] rfl rfl (take_ofW HT_.out HW_.out (by kernel_rfl)) (fun _ _ _ h => h) (Or.inl ⟨by rfl, ?_⟩) hHeld ?_ ?_
                    rotate_left
                    · rintro w' ⟨s0, s1, s2, s3, s4, s5, s6, s7, s8, s9⟩
                      go_simp
                      with_reducible rfl
                    rotate_left
                    · simp only [Act.put, List.setIfInBounds_toArray, List.set_cons_zero, List.set_cons_succ, i64_w, i32_w]
                      rfl
                    refine pure_ (i := 3) (N := some 55) (v := ?_) (a' := ?_) #[true, true, true, true, false, true, false, true, false, false, false] rfl rfl (any_of HT_.out (by kernel_rfl)) (fun _ _ _ h => h) (Or.inl ⟨by rfl, ?_⟩) ?_ ?_
                    rotate_left
                    · intro w'
                      go_simp
                      with_reducible rfl
                    rotate_left
                    · simp only [Act.put, List.setIfInBounds_toArray, List.set_cons_zero, List.set_cons_succ, i64_w, i32_w]
                      rfl
                    refine take_ (i := 4) (N := some 56) (v := ?_) (a' := ?_) #[true, true, true, true, true, true, false, true, false, false, false] rfl rfl (take_ofW HT_.out HW_.out (by kernel_rfl)) (fun _ _ _ h => h) (Or.inl ⟨by rfl, ?_⟩) hHeld ?_ ?_
                    rotate_left
                    · rintro w' ⟨s0, s1, s2, s3, s4, s5, s6, s7, s8, s9⟩
                      go_simp
                      with_reducible rfl
                    rotate_left
                    · simp only [Act.put, List.setIfInBounds_toArray, List.set_cons_zero, List.set_cons_succ, i64_w, i32_w]
                      rfl
                    refine take_ (i := 6) (N := some 58) (v := ?_) (a' := ?_) #[true, true, true, true, true, true, true, true, false, false, false] rfl rfl (take_ofW HT_.out HW_.out (by kernel_rfl)) (fun _ _ _ h => h) (Or.inl ⟨by rfl, ?_⟩) hHeld ?_ ?_
                    rotate_left
                    · rintro w' ⟨s0, s1, s2, s3, s4, s5, s6, s7, s8, s9⟩
                      go_simp
                      with_reducible rfl
                    rotate_left
                    · simp only [Act.put, List.setIfInBounds_toArray, List.set_cons_zero, List.set_cons_succ, i64_w, i32_w]
                      rfl
                    refine pure_ (i := 8) (N := some 60) (v := ?_) (a' := ?_) #[true, true, true, true, true, true, true, true, true, false, false] rfl rfl (any_of HT_.out (by kernel_rfl)) (fun _ _ _ h => h) (Or.inl ⟨by rfl, ?_⟩) ?_ ?_
                    rotate_left
                    · intro w'
                      go_simp
                      with_reducible rfl
                    rotate_left
                    · simp only [Act.put, List.setIfInBounds_toArray, List.set_cons_zero, List.set_cons_succ, i64_w, i32_w]
                      rfl
                    refine take_ (i := 9) (N := some 61) (v := ?_) (a' := ?_) #[true, true, true, true, true, true, true, true, true, true, false] rfl rfl (take_ofW HT_.out HW_.out (by kernel_rfl)) (fun _ _ _ h => h) (Or.inl ⟨by rfl, ?_⟩) hHeld ?_ ?_
                    rotate_left
                    · rintro w' ⟨s0, s1, s2, s3, s4, s5, s6, s7, s8, s9⟩
                      go_simp
                      with_reducible rfl
                    rotate_left
                    · simp only [Act.put, List.setIfInBounds_toArray, List.set_cons_zero, List.set_cons_succ, i64_w, i32_w]
                      rfl
                    refine pure_ (i := 10) (N := some 62) (v := ?_) (a' := ?_) #[true, true, true, true, true, true, true, true, true, true, true] rfl rfl (any_of HT_.out (by kernel_rfl)) (fun _ _ _ h => h) (Or.inl ⟨by rfl, ?_⟩) ?_ ?_
                    rotate_left
                    · intro w'
                      go_simp
                      with_reducible rfl
                    rotate_left
                    · simp only [Act.put, List.setIfInBounds_toArray, List.set_cons_zero, List.set_cons_succ, i64_w, i32_w]
                      rfl
                    refine done_ (done_of HT_.out (by kernel_rfl)) ?_
                    try go_wp2
                    go_roundg k2
                    case measure => have := HJ2.out; have := HK2.out; omega
                    case rel => exact ⟨(wrap64 (x49_2 + 1)), (by rfl), H', ⟨by have := HJ2.out; have := HK2.out; omega⟩, ⟨by (with_reducible repeat (fail)); exact BK314.out⟩, ⟨by (with_reducible repeat (fail)); exact BK315.out⟩, ⟨by repeat ((with_reducible exact HB.out))⟩⟩
                  rw [if_neg c28] at H
                  have c28b0 : ((rd l0_0 x49_2) == (rd l1_0 x49_2)) = false := beq_eq_false_iff_ne.mpr c28
                  have c28b1 : ((rd l0_0 x49_2) != (rd l1_0 x49_2)) = true := bne_iff_ne.mpr c28
                  obtain rfl := Option.some.inj H
                  try go_wp2
                  have n0_ := Aside0.mk (blk_drew BK314.out)
                  have n1_ := Aside0.mk (blk_drew BK315.out)
                  have n2_ := Aside0.mk (below_drew1 HB.out)
                  clear BK314 BK315 HB
                  have BK314 := n0_
                  have BK315 := n1_
                  have HB := n2_
                  clear n0_ n1_ n2_
                  have p316 : 0 ≤ (x49_2 : Int) := of_decide_eq_true (by (with_reducible assumption))
                  have q316 : x49_2 < (l0_0.length : Int) := of_decide_eq_true (by (with_reducible assumption))
                  obtain ⟨ad316, e316, hx316_0⟩ := Kd.at_int HR0_0.out x49_2 p316 q316
                  have hw316_0 := hx316_0
                  cases e316
                  replace hx316_0 := (HB.out.cell (World.block_lt_of_cell? w _ hx316_0)).trans hx316_0
                  replace p316 := eq_true p316
                  replace q316 := eq_true q316
                  have p317 : 0 ≤ (x49_2 : Int) := of_decide_eq_true (by (with_reducible assumption))
                  have q317 : x49_2 < (l1_0.length : Int) := of_decide_eq_true (by (with_reducible assumption))
                  obtain ⟨ad317, e317, hx317_0⟩ := Kd.at_int HR1_0.out x49_2 p317 q317
                  have hw317_0 := hx317_0
                  cases e317
                  replace hx317_0 := (HB.out.cell (World.block_lt_of_cell? w _ hx317_0)).trans hx317_0
                  replace p317 := eq_true p317
                  replace q317 := eq_true q317
                  refine start_ (n := 11) (S := fun w' => w'.cell? ⟨gb314, 0, none⟩ = some (.slice (some ad316) l0_0.length c0_0) ∧ w'.cell? ⟨gb314, 1, none⟩ = some (.slice A0_1 l0_1.length c0_1) ∧ w'.cell? ⟨gb314, 2, none⟩ = some (.slice A0_2 l0_2.length c0_2) ∧ w'.cell? ⟨gb314, 3, none⟩ = some (.slice A0_3 l0_3.length c0_3) ∧ w'.cell? ⟨gb315, 0, none⟩ = some (.slice (some ad317) l1_0.length c1_0) ∧ w'.cell? ⟨gb315, 1, none⟩ = some (.slice A1_1 l1_1.length c1_1) ∧ w'.cell? ⟨gb315, 2, none⟩ = some (.slice A1_2 l1_2.length c1_2) ∧ w'.cell? ⟨gb315, 3, none⟩ = some (.slice A1_3 l1_3.length c1_3) ∧ w'.cell? (ad316.add (x49_2).toNat) = some (.int .i64 (rd l0_0 x49_2)) ∧ w'.cell? (ad317.add (x49_2).toNat) = some (.int .i64 (rd l1_0 x49_2))) (ds := []) #[false, false, false, false, false, false, false, false, false, false, false] (by kernel_rfl) rfl rfl ⟨(blk_cell BK314.out 0).trans rfl, (blk_cell BK314.out 1).trans rfl, (blk_cell BK314.out 2).trans rfl, (blk_cell BK314.out 3).trans rfl, (blk_cell BK315.out 0).trans rfl, (blk_cell BK315.out 1).trans rfl, (blk_cell BK315.out 2).trans rfl, (blk_cell BK315.out 3).trans rfl, ((HB.out.cell (World.block_lt_of_cell? w _ hw316_0)).trans hw316_0), ((HB.out.cell (World.block_lt_of_cell? w _ hw317_0)).trans hw317_0)⟩ (fun hHeld => ?_); refine with_tabW sacristanref09_Same.tab6 sacristanref09_Same.bits6 (fun HT_ HW_ => ?_)
                  generalize wr.drew = w30 at BK314 BK315 HB hx316_0 hx317_0 hHeld ⊢
                  refine pure_ (i := 0) (N := some 52) (v := ?_) (a' := ?_) #[true, false, false, false, false, false, false, false, false, false, false] rfl rfl (any_of HT_.out (by kernel_rfl)) (fun _ _ _ h => h) (Or.inl ⟨by rfl, ?_⟩) ?_ ?_
                  rotate_left
                  · intro w'
                    go_simp
                    with_reducible rfl
                  rotate_left
                  · simp only [Act.put, List.setIfInBounds_toArray, List.set_cons_zero, List.set_cons_succ, i64_w, i32_w]
                    rfl
                  refine pure_ (i := 2) (N := some 54) (v := ?_) (a' := ?_) #[true, false, true, false, false, false, false, false, false, false, false] rfl rfl (any_of HT_.out (by kernel_rfl)) (fun _ _ _ h => h) (Or.inl ⟨by rfl, ?_⟩) ?_ ?_
                  rotate_left
                  · intro w'
                    go_simp
                    with_reducible rfl
                  rotate_left
                  · simp only [Act.put, List.setIfInBounds_toArray, List.set_cons_zero, List.set_cons_succ, i64_w, i32_w]
                    rfl
                  refine pure_ (i := 5) (N := some 57) (v := ?_) (a' := ?_) #[true, false, true, false, false, true, false, false, false, false, false] rfl rfl (any_of HT_.out (by kernel_rfl)) (fun _ _ _ h => h) (Or.inl ⟨by rfl, ?_⟩) ?_ ?_
                  rotate_left
                  · intro w'
                    go_simp
                    with_reducible rfl
                  rotate_left
                  · simp only [Act.put, List.setIfInBounds_toArray, List.set_cons_zero, List.set_cons_succ, i64_w, i32_w]
                    rfl
                  refine pure_ (i := 7) (N := some 59) (v := ?_) (a' := ?_) #[true, false, true, false, false, true, false, true, false, false, false] rfl rfl (any_of HT_.out (by kernel_rfl)) (fun _ _ _ h => h) (Or.inl ⟨by rfl, ?_⟩) ?_ ?_
                  rotate_left
                  · intro w'
                    go_simp
                    with_reducible rfl
                  rotate_left
                  · simp only [Act.put, List.setIfInBounds_toArray, List.set_cons_zero, List.set_cons_succ, i64_w, i32_w]
                    rfl
                  refine take_ (i := 1) (N := some 53) (v := ?_) (a' := ?_) #[true, true, true, false, false, true, false, true, false, false, false] rfl rfl (take_ofW HT_.out HW_.out (by kernel_rfl)) (fun _ _ _ h => h) (Or.inl ⟨by rfl, ?_⟩) hHeld ?_ ?_
                  rotate_left
                  · rintro w' ⟨s0, s1, s2, s3, s4, s5, s6, s7, s8, s9⟩
                    go_simp
                    with_reducible rfl
                  rotate_left
                  · simp only [Act.put, List.setIfInBounds_toArray, List.set_cons_zero, List.set_cons_succ, i64_w, i32_w]
                    rfl
                  refine pure_ (i := 3) (N := some 55) (v := ?_) (a' := ?_) #[true, true, true, true, false, true, false, true, false, false, false] rfl rfl (any_of HT_.out (by kernel_rfl)) (fun _ _ _ h => h) (Or.inl ⟨by rfl, ?_⟩) ?_ ?_
                  rotate_left
                  · intro w'
                    go_simp
                    with_reducible rfl
                  rotate_left
                  · simp only [Act.put, List.setIfInBounds_toArray, List.set_cons_zero, List.set_cons_succ, i64_w, i32_w]
                    rfl
                  refine take_ (i := 4) (N := some 56) (v := ?_) (a' := ?_) #[true, true, true, true, true, true, false, true, false, false, false] rfl rfl (take_ofW HT_.out HW_.out (by kernel_rfl)) (fun _ _ _ h => h) (Or.inl ⟨by rfl, ?_⟩) hHeld ?_ ?_
                  rotate_left
                  · rintro w' ⟨s0, s1, s2, s3, s4, s5, s6, s7, s8, s9⟩
                    go_simp
                    with_reducible rfl
                  rotate_left
                  · simp only [Act.put, List.setIfInBounds_toArray, List.set_cons_zero, List.set_cons_succ, i64_w, i32_w]
                    rfl
                  refine take_ (i := 6) (N := some 58) (v := ?_) (a' := ?_) #[true, true, true, true, true, true, true, true, false, false, false] rfl rfl (take_ofW HT_.out HW_.out (by kernel_rfl)) (fun _ _ _ h => h) (Or.inl ⟨by rfl, ?_⟩) hHeld ?_ ?_
                  rotate_left
                  · rintro w' ⟨s0, s1, s2, s3, s4, s5, s6, s7, s8, s9⟩
                    go_simp
                    with_reducible rfl
                  rotate_left
                  · simp only [Act.put, List.setIfInBounds_toArray, List.set_cons_zero, List.set_cons_succ, i64_w, i32_w]
                    rfl
                  refine pure_ (i := 8) (N := some 60) (v := ?_) (a' := ?_) #[true, true, true, true, true, true, true, true, true, false, false] rfl rfl (any_of HT_.out (by kernel_rfl)) (fun _ _ _ h => h) (Or.inl ⟨by rfl, ?_⟩) ?_ ?_
                  rotate_left
                  · intro w'
                    go_simp
                    with_reducible rfl
                  rotate_left
                  · simp only [Act.put, List.setIfInBounds_toArray, List.set_cons_zero, List.set_cons_succ, i64_w, i32_w]
                    rfl
                  refine take_ (i := 9) (N := some 61) (v := ?_) (a' := ?_) #[true, true, true, true, true, true, true, true, true, true, false] rfl rfl (take_ofW HT_.out HW_.out (by kernel_rfl)) (fun _ _ _ h => h) (Or.inl ⟨by rfl, ?_⟩) hHeld ?_ ?_
                  rotate_left
                  · rintro w' ⟨s0, s1, s2, s3, s4, s5, s6, s7, s8, s9⟩
                    go_simp
                    with_reducible rfl
                  rotate_left
                  · simp only [Act.put, List.setIfInBounds_toArray, List.set_cons_zero, List.set_cons_succ, i64_w, i32_w]
                    rfl
                  refine pure_ (i := 10) (N := some 62) (v := ?_) (a' := ?_) #[true, true, true, true, true, true, true, true, true, true, true] rfl rfl (any_of HT_.out (by kernel_rfl)) (fun _ _ _ h => h) (Or.inl ⟨by rfl, ?_⟩) ?_ ?_
                  rotate_left
                  · intro w'
                    go_simp
                    with_reducible rfl
                  rotate_left
                  · simp only [Act.put, List.setIfInBounds_toArray, List.set_cons_zero, List.set_cons_succ, i64_w, i32_w]
                    rfl
                  refine done_ (done_of HT_.out (by kernel_rfl)) ?_
                  try go_wp2
                  go_ret
                  exact ⟨by rfl, by repeat ((with_reducible exact HB.out))⟩
                rw [if_neg c27] at H
                exact absurd H (by simp)
              rw [if_neg c26] at H
              exact absurd H (by simp)
            rw [if_neg c25] at H
            exact absurd H (by simp)
          rw [if_neg c24] at H
          have c24b0 : decide (x49_2 < (l0_0.length : Int)) = false := decide_eq_false c24
          clear c24
          have H' := Aside0.mk H
          clear H
          have hnb31 := NB314_315.out
          have hnc31 := NB315_314.out
          have hcz32_0 : wr.cell? ⟨gb314, 0, none⟩ = some (.slice A0_0 l0_0.length c0_0) := (blk_cell BK314.out 0).trans rfl
          have hcz32_1 : wr.cell? ⟨gb314, 1, none⟩ = some (.slice A0_1 l0_1.length c0_1) := (blk_cell BK314.out 1).trans rfl
          have hcz32_2 : wr.cell? ⟨gb314, 2, none⟩ = some (.slice A0_2 l0_2.length c0_2) := (blk_cell BK314.out 2).trans rfl
          have hcz32_3 : wr.cell? ⟨gb314, 3, none⟩ = some (.slice A0_3 l0_3.length c0_3) := (blk_cell BK314.out 3).trans rfl
          have hfz32_0 := blk_frozen BK314.out 0
          have hfz32_1 := blk_frozen BK314.out 1
          have hfz32_2 := blk_frozen BK314.out 2
          have hfz32_3 := blk_frozen BK314.out 3
          go_wp2
          go_loopg [67] k2 (fun kq v67 w' => ∃ (x67_3 : Int), v67 = .int .i64 x67_3 ∧ Aside0 (sacristanref09_Same.l1 kq (l0_1.length : Int) x67_3 l0_0 l0_1 l0_2 l0_3 l1_0 l1_1 l1_2 l1_3 = some r) ∧ Aside0 (kq ≤ k2) ∧ Aside0 (w'.heap[gb314]? = some (.cells #[(.slice A0_0 l0_0.length c0_0), (.slice A0_1 l0_1.length c0_1), (.slice A0_2 l0_2.length c0_2), (.slice A0_3 l0_3.length c0_3)] 30 (0, 0))) ∧ Aside0 (w'.heap[gb315]? = some (.cells #[(.slice A1_0 l1_0.length c1_0), (.slice A1_1 l1_1.length c1_1), (.slice A1_2 l1_2.length c1_2), (.slice A1_3 l1_3.length c1_3)] 30 (0, 0))) ∧ Aside0 (Below w.heap.size w w'))
          case atStart => exact ⟨(0), (by rfl), H', ⟨Nat.le_refl _⟩, ⟨by (with_reducible repeat (fail)); exact BK314.out⟩, ⟨by (with_reducible repeat (fail)); exact BK315.out⟩, ⟨by repeat ((with_reducible exact HB.out))⟩⟩
          case round =>
            clear H' c24b0 hcz32_0 hcz32_1 hcz32_2 hcz32_3 hfz32_0 hfz32_1 hfz32_2 hfz32_3
            obtain ⟨x67_3, rfl, HA, HK3, BK314, BK315, HB⟩ := hrel
            cases gk with
            | zero => exact absurd HA.out (by simp [sacristanref09_Same.l1])
            | succ k3 =>
              have H := HA.out
              clear HA
              simp only [sacristanref09_Same.l1] at H
              by_cases c33 : x67_3 < (l0_1.length : Int)
              · rw [if_pos c33] at H
                have c33b0 : decide (x67_3 < (l0_1.length : Int)) = true := decide_eq_true c33
                clear c33
                by_cases c34 : 0 ≤ x67_3
                · rw [if_pos c34] at H
                  have c34b0 : decide (0 ≤ x67_3) = true := decide_eq_true c34
                  clear c34
                  by_cases c35 : x67_3 < (l0_1.length : Int)
                  · rw [if_pos c35] at H
                    have c35b0 : decide (x67_3 < (l0_1.length : Int)) = true := decide_eq_true c35
                    clear c35
                    by_cases c36 : x67_3 < (l1_1.length : Int)
                    · rw [if_pos c36] at H
                      have c36b0 : decide (x67_3 < (l1_1.length : Int)) = true := decide_eq_true c36
                      clear c36
                      by_cases c37 : (rdOf ByteArray.empty l0_1 x67_3).toList = (rdOf ByteArray.empty l1_1 x67_3).toList
                      · rw [if_pos c37] at H
                        have c37b0 : ((rdOf ByteArray.empty l0_1 x67_3).toList == (rdOf ByteArray.empty l1_1 x67_3).toList) = true := beq_iff_eq.mpr c37
                        have c37b1 : ((rdOf ByteArray.empty l0_1 x67_3).toList != (rdOf ByteArray.empty l1_1 x67_3).toList) = false := bne_eq_false_iff_eq.mpr c37
                        clear c37
                        have H' := Aside0.mk H
                        clear H
                        try go_wp2
                        have n0_ := Aside0.mk (blk_drew BK314.out)
                        have n1_ := Aside0.mk (blk_drew BK315.out)
                        have n2_ := Aside0.mk (below_drew1 HB.out)
                        clear BK314 BK315 HB
                        have BK314 := n0_
                        have BK315 := n1_
                        have HB := n2_
                        clear n0_ n1_ n2_
                        have p318 : 0 ≤ (x67_3 : Int) := of_decide_eq_true (by (with_reducible assumption))
                        have q318 : x67_3 < (l0_1.length : Int) := of_decide_eq_true (by (with_reducible assumption))
                        obtain ⟨ad318, e318, hx318_0⟩ := Kd.at_string HR0_1.out x67_3 p318 q318
                        have hw318_0 := hx318_0
                        cases e318
                        replace hx318_0 := (HB.out.cell (World.block_lt_of_cell? w _ hx318_0)).trans hx318_0
                        replace p318 := eq_true p318
                        replace q318 := eq_true q318
                        have p319 : 0 ≤ (x67_3 : Int) := of_decide_eq_true (by (with_reducible assumption))
                        have q319 : x67_3 < (l1_1.length : Int) := of_decide_eq_true (by (with_reducible assumption))
                        obtain ⟨ad319, e319, hx319_0⟩ := Kd.at_string HR1_1.out x67_3 p319 q319
                        have hw319_0 := hx319_0
                        cases e319
                        replace hx319_0 := (HB.out.cell (World.block_lt_of_cell? w _ hx319_0)).trans hx319_0
                        replace p319 := eq_true p319
                        replace q319 := eq_true q319
                        refine start_ (n := 11) (S := fun w' => w'.cell? ⟨gb314, 0, none⟩ = some (.slice A0_0 l0_0.length c0_0) ∧ w'.cell? ⟨gb314, 1, none⟩ = some (.slice (some ad318) l0_1.length c0_1) ∧ w'.cell? ⟨gb314, 2, none⟩ = some (.slice A0_2 l0_2.length c0_2) ∧ w'.cell? ⟨gb314, 3, none⟩ = some (.slice A0_3 l0_3.length c0_3) ∧ w'.cell? ⟨gb315, 0, none⟩ = some (.slice A1_0 l1_0.length c1_0) ∧ w'.cell? ⟨gb315, 1, none⟩ = some (.slice (some ad319) l1_1.length c1_1) ∧ w'.cell? ⟨gb315, 2, none⟩ = some (.slice A1_2 l1_2.length c1_2) ∧ w'.cell? ⟨gb315, 3, none⟩ = some (.slice A1_3 l1_3.length c1_3) ∧ w'.cell? (ad318.add (x67_3).toNat) = some (.string (rdOf ByteArray.empty l0_1 x67_3)) ∧ w'.cell? (ad319.add (x67_3).toNat) = some (.string (rdOf ByteArray.empty l1_1 x67_3))) (ds := []) #[false, false, false, false, false, false, false, false, false, false, false] (by kernel_rfl) rfl rfl ⟨(blk_cell BK314.out 0).trans rfl, (blk_cell BK314.out 1).trans rfl, (blk_cell BK314.out 2).trans rfl, (blk_cell BK314.out 3).trans rfl, (blk_cell BK315.out 0).trans rfl, (blk_cell BK315.out 1).trans rfl, (blk_cell BK315.out 2).trans rfl, (blk_cell BK315.out 3).trans rfl, ((HB.out.cell (World.block_lt_of_cell? w _ hw318_0)).trans hw318_0), ((HB.out.cell (World.block_lt_of_cell? w _ hw319_0)).trans hw319_0)⟩ (fun hHeld => ?_); refine with_tabW sacristanref09_Same.tab12 sacristanref09_Same.bits12 (fun HT_ HW_ => ?_)
                        generalize wr.drew = w38 at BK314 BK315 HB hx318_0 hx319_0 hHeld ⊢
                        refine pure_ (i := 0) (N := some 70) (v := ?_) (a' := ?_) #[true, false, false, false, false, false, false, false, false, false, false] rfl rfl (any_of HT_.out (by kernel_rfl)) (fun _ _ _ h => h) (Or.inl ⟨by rfl, ?_⟩) ?_ ?_
                        rotate_left
                        · intro w'
                          go_simp
                          with_reducible rfl
                        rotate_left
                        · simp only [Act.put, List.setIfInBounds_toArray, List.set_cons_zero, List.set_cons_succ, i64_w, i32_w]
                          rfl
                        refine pure_ (i := 2) (N := some 72) (v := ?_) (a' := ?_) #[true, false, true, false, false, false, false, false, false, false, false] rfl rfl (any_of HT_.out (by kernel_rfl)) (fun _ _ _ h => h) (Or.inl ⟨by rfl, ?_⟩) ?_ ?_
                        rotate_left
                        · intro w'
                          go_simp
                          with_reducible rfl
                        rotate_left
                        · simp only [Act.put, List.setIfInBounds_toArray, List.set_cons_zero, List.set_cons_succ, i64_w, i32_w]
                          rfl
                        refine pure_ (i := 5) (N := some 75) (v := ?_) (a' := ?_) #[true, false, true, false, false, true, false, false, false, false, false] rfl rfl (any_of HT_.out (by kernel_rfl)) (fun _ _ _ h => h) (Or.inl ⟨by rfl, ?_⟩) ?_ ?_
                        rotate_left
                        · intro w'
                          go_simp
                          with_reducible rfl
                        rotate_left
                        · simp only [Act.put, List.setIfInBounds_toArray, List.set_cons_zero, List.set_cons_succ, i64_w, i32_w]
                          rfl
                        refine pure_ (i := 7) (N := some 77) (v := ?_) (a' := ?_) #[true, false, true, false, false, true, false, true, false, false, false] rfl rfl (any_of HT_.out (by kernel_rfl)) (fun _ _ _ h => h) (Or.inl ⟨by rfl, ?_⟩) ?_ ?_
                        rotate_left
                        · intro w'
                          go_simp
                          with_reducible rfl
                        rotate_left
                        · simp only [Act.put, List.setIfInBounds_toArray, List.set_cons_zero, List.set_cons_succ, i64_w, i32_w]
                          rfl
                        refine take_ (i := 1) (N := some 71) (v := ?_) (a' := ?_) #[true, true, true, false, false, true, false, true, false, false, false] rfl rfl (take_ofW HT_.out HW_.out (by kernel_rfl)) (fun _ _ _ h => h) (Or.inl ⟨by rfl, ?_⟩) hHeld ?_ ?_
                        rotate_left
                        · rintro w' ⟨s0, s1, s2, s3, s4, s5, s6, s7, s8, s9⟩
                          go_simp
                          with_reducible rfl
                        rotate_left
                        · simp only [Act.put, List.setIfInBounds_toArray, List.set_cons_zero, List.set_cons_succ, i64_w, i32_w]
                          rfl
                        refine pure_ (i := 3) (N := some 73) (v := ?_) (a' := ?_) #[true, true, true, true, false, true, false, true, false, false, false] rfl rfl (any_of HT_.out (by kernel_rfl)) (fun _ _ _ h => h) (Or.inl ⟨by rfl, ?_⟩) ?_ ?_
                        rotate_left
                        · intro w'
                          go_simp
                          with_reducible rfl
                        rotate_left
                        · simp only [Act.put, List.setIfInBounds_toArray, List.set_cons_zero, List.set_cons_succ, i64_w, i32_w]
                          rfl
                        refine take_ (i := 4) (N := some 74) (v := ?_) (a' := ?_) #[true, true, true, true, true, true, false, true, false, false, false] rfl rfl (take_ofW HT_.out HW_.out (by kernel_rfl)) (fun _ _ _ h => h) (Or.inl ⟨by rfl, ?_⟩) hHeld ?_ ?_
                        rotate_left
                        · rintro w' ⟨s0, s1, s2, s3, s4, s5, s6, s7, s8, s9⟩
                          go_simp
                          with_reducible rfl
                        rotate_left
                        · simp only [Act.put, List.setIfInBounds_toArray, List.set_cons_zero, List.set_cons_succ, i64_w, i32_w]
                          rfl
                        refine take_ (i := 6) (N := some 76) (v := ?_) (a' := ?_) #[true, true, true, true, true, true, true, true, false, false, false] rfl rfl (take_ofW HT_.out HW_.out (by kernel_rfl)) (fun _ _ _ h => h) (Or.inl ⟨by rfl, ?_⟩) hHeld ?_ ?_
                        rotate_left
                        · rintro w' ⟨s0, s1, s2, s3, s4, s5, s6, s7, s8, s9⟩
                          go_simp
                          with_reducible rfl
                        rotate_left
                        · simp only [Act.put, List.setIfInBounds_toArray, List.set_cons_zero, List.set_cons_succ, i64_w, i32_w]
                          rfl
                        refine pure_ (i := 8) (N := some 78) (v := ?_) (a' := ?_) #[true, true, true, true, true, true, true, true, true, false, false] rfl rfl (any_of HT_.out (by kernel_rfl)) (fun _ _ _ h => h) (Or.inl ⟨by rfl, ?_⟩) ?_ ?_
                        rotate_left
                        · intro w'
                          go_simp
                          with_reducible rfl
                        rotate_left
                        · simp only [Act.put, List.setIfInBounds_toArray, List.set_cons_zero, List.set_cons_succ, i64_w, i32_w]
                          rfl
                        refine take_ (i := 9) (N := some 79) (v := ?_) (a' := ?_) #[true, true, true, true, true, true, true, true, true, true, false] rfl rfl (take_ofW HT_.out HW_.out (by kernel_rfl)) (fun _ _ _ h => h) (Or.inl ⟨by rfl, ?_⟩) hHeld ?_ ?_
                        rotate_left
                        · rintro w' ⟨s0, s1, s2, s3, s4, s5, s6, s7, s8, s9⟩
                          go_simp
                          with_reducible rfl
                        rotate_left
                        · simp only [Act.put, List.setIfInBounds_toArray, List.set_cons_zero, List.set_cons_succ, i64_w, i32_w]
                          rfl
                        refine pure_ (i := 10) (N := some 80) (v := ?_) (a' := ?_) #[true, true, true, true, true, true, true, true, true, true, true] rfl rfl (any_of HT_.out (by kernel_rfl)) (fun _ _ _ h => h) (Or.inl ⟨by rfl, ?_⟩) ?_ ?_
                        rotate_left
                        · intro w'
                          go_simp
                          with_reducible rfl
                        rotate_left
                        · simp only [Act.put, List.setIfInBounds_toArray, List.set_cons_zero, List.set_cons_succ, i64_w, i32_w]
                          rfl
                        refine done_ (done_of HT_.out (by kernel_rfl)) ?_
                        try go_wp2
                        go_roundg k3
                        case measure => have := HJ2.out; have := HK2.out; have := HK3.out; omega
                        case rel => exact ⟨(wrap64 (x67_3 + 1)), (by rfl), H', ⟨by have := HJ2.out; have := HK2.out; have := HK3.out; omega⟩, ⟨by (with_reducible repeat (fail)); exact BK314.out⟩, ⟨by (with_reducible repeat (fail)); exact BK315.out⟩, ⟨by repeat ((with_reducible exact HB.out))⟩⟩
                      rw [if_neg c37] at H
                      have c37b0 : ((rdOf ByteArray.empty l0_1 x67_3).toList == (rdOf ByteArray.empty l1_1 x67_3).toList) = false := beq_eq_false_iff_ne.mpr c37
                      have c37b1 : ((rdOf ByteArray.empty l0_1 x67_3).toList != (rdOf ByteArray.empty l1_1 x67_3).toList) = true := bne_iff_ne.mpr c37
                      obtain rfl := Option.some.inj H
                      try go_wp2
                      have n0_ := Aside0.mk (blk_drew BK314.out)
                      have n1_ := Aside0.mk (blk_drew BK315.out)
                      have n2_ := Aside0.mk (below_drew1 HB.out)
                      clear BK314 BK315 HB
                      have BK314 := n0_
                      have BK315 := n1_
                      have HB := n2_
                      clear n0_ n1_ n2_
                      have p318 : 0 ≤ (x67_3 : Int) := of_decide_eq_true (by (with_reducible assumption))
                      have q318 : x67_3 < (l0_1.length : Int) := of_decide_eq_true (by (with_reducible assumption))
                      obtain ⟨ad318, e318, hx318_0⟩ := Kd.at_string HR0_1.out x67_3 p318 q318
                      have hw318_0 := hx318_0
                      cases e318
                      replace hx318_0 := (HB.out.cell (World.block_lt_of_cell? w _ hx318_0)).trans hx318_0
                      replace p318 := eq_true p318
                      replace q318 := eq_true q318
                      have p319 : 0 ≤ (x67_3 : Int) := of_decide_eq_true (by (with_reducible assumption))
                      have q319 : x67_3 < (l1_1.length : Int) := of_decide_eq_true (by (with_reducible assumption))
                      obtain ⟨ad319, e319, hx319_0⟩ := Kd.at_string HR1_1.out x67_3 p319 q319
                      have hw319_0 := hx319_0
                      cases e319
                      replace hx319_0 := (HB.out.cell (World.block_lt_of_cell? w _ hx319_0)).trans hx319_0
                      replace p319 := eq_true p319
                      replace q319 := eq_true q319
                      refine start_ (n := 11) (S := fun w' => w'.cell? ⟨gb314, 0, none⟩ = some (.slice A0_0 l0_0.length c0_0) ∧ w'.cell? ⟨gb314, 1, none⟩ = some (.slice (some ad318) l0_1.length c0_1) ∧ w'.cell? ⟨gb314, 2, none⟩ = some (.slice A0_2 l0_2.length c0_2) ∧ w'.cell? ⟨gb314, 3, none⟩ = some (.slice A0_3 l0_3.length c0_3) ∧ w'.cell? ⟨gb315, 0, none⟩ = some (.slice A1_0 l1_0.length c1_0) ∧ w'.cell? ⟨gb315, 1, none⟩ = some (.slice (some ad319) l1_1.length c1_1) ∧ w'.cell? ⟨gb315, 2, none⟩ = some (.slice A1_2 l1_2.length c1_2) ∧ w'.cell? ⟨gb315, 3, none⟩ = some (.slice A1_3 l1_3.length c1_3) ∧ w'.cell? (ad318.add (x67_3).toNat) = some (.string (rdOf ByteArray.empty l0_1 x67_3)) ∧ w'.cell? (ad319.add (x67_3).toNat) = some (.string (rdOf ByteArray.empty l1_1 x67_3))) (ds := []) #[false, false, false, false, false, false, false, false, false, false, false] (by kernel_rfl) rfl rfl ⟨(blk_cell BK314.out 0).trans rfl, (blk_cell BK314.out 1).trans rfl, (blk_cell BK314.out 2).trans rfl, (blk_cell BK314.out 3).trans rfl, (blk_cell BK315.out 0).trans rfl, (blk_cell BK315.out 1).trans rfl, (blk_cell BK315.out 2).trans rfl, (blk_cell BK315.out 3).trans rfl, ((HB.out.cell (World.block_lt_of_cell? w _ hw318_0)).trans hw318_0), ((HB.out.cell (World.block_lt_of_cell? w _ hw319_0)).trans hw319_0)⟩ (fun hHeld => ?_); refine with_tabW sacristanref09_Same.tab12 sacristanref09_Same.bits12 (fun HT_ HW_ => ?_)
                      generalize wr.drew = w39 at BK314 BK315 HB hx318_0 hx319_0 hHeld ⊢
                      refine pure_ (i := 0) (N := some 70) (v := ?_) (a' := ?_) #[true, false, false, false, false, false, false, false, false, false, false] rfl rfl (any_of HT_.out (by kernel_rfl)) (fun _ _ _ h => h) (Or.inl ⟨by rfl, ?_⟩) ?_ ?_
                      rotate_left
                      · intro w'
                        go_simp
                        with_reducible rfl
                      rotate_left
                      · simp only [Act.put, List.setIfInBounds_toArray, List.set_cons_zero, List.set_cons_succ, i64_w, i32_w]
                        rfl
                      refine pure_ (i := 2) (N := some 72) (v := ?_) (a' := ?_) #[true, false, true, false, false, false, false, false, false, false, false] rfl rfl (any_of HT_.out (by kernel_rfl)) (fun _ _ _ h => h) (Or.inl ⟨by rfl, ?_⟩) ?_ ?_
                      rotate_left
                      · intro w'
                        go_simp
                        with_reducible rfl
                      rotate_left
                      · simp only [Act.put, List.setIfInBounds_toArray, List.set_cons_zero, List.set_cons_succ, i64_w, i32_w]
                        rfl
                      refine pure_ (i := 5) (N := some 75) (v := ?_) (a' := ?_) #[true, false, true, false, false, true, false, false, false, false, false] rfl rfl (any_of HT_.out (by kernel_rfl)) (fun _ _ _ h => h) (Or.inl ⟨by rfl, ?_⟩) ?_ ?_
                      rotate_left
                      · intro w'
                        go_simp
                        with_reducible rfl
                      rotate_left
                      · simp only [Act.put, List.setIfInBounds_toArray, List.set_cons_zero, List.set_cons_succ, i64_w, i32_w]
                        rfl
                      refine pure_ (i := 7) (N := some 77) (v := ?_) (a' := ?_) #[true, false, true, false, false, true, false, true, false, false, false] rfl rfl (any_of HT_.out (by kernel_rfl)) (fun _ _ _ h => h) (Or.inl ⟨by rfl, ?_⟩) ?_ ?_
                      rotate_left
                      · intro w'
                        go_simp
                        with_reducible rfl
                      rotate_left
                      · simp only [Act.put, List.setIfInBounds_toArray, List.set_cons_zero, List.set_cons_succ, i64_w, i32_w]
                        rfl
                      refine take_ (i := 1) (N := some 71) (v := ?_) (a' := ?_) #[true, true, true, false, false, true, false, true, false, false, false] rfl rfl (take_ofW HT_.out HW_.out (by kernel_rfl)) (fun _ _ _ h => h) (Or.inl ⟨by rfl, ?_⟩) hHeld ?_ ?_
                      rotate_left
                      · rintro w' ⟨s0, s1, s2, s3, s4, s5, s6, s7, s8, s9⟩
                        go_simp
                        with_reducible rfl
                      rotate_left
                      · simp only [Act.put, List.setIfInBounds_toArray, List.set_cons_zero, List.set_cons_succ, i64_w, i32_w]
                        rfl
                      refine pure_ (i := 3) (N := some 73) (v := ?_) (a' := ?_) #[true, true, true, true, false, true, false, true, false, false, false] rfl rfl (any_of HT_.out (by kernel_rfl)) (fun _ _ _ h => h) (Or.inl ⟨by rfl, ?_⟩) ?_ ?_
                      rotate_left
                      · intro w'
                        go_simp
                        with_reducible rfl
                      rotate_left
                      · simp only [Act.put, List.setIfInBounds_toArray, List.set_cons_zero, List.set_cons_succ, i64_w, i32_w]
                        rfl
                      refine take_ (i := 4) (N := some 74) (v := ?_) (a' := ?_) #[true, true, true, true, true, true, false, true, false, false, false] rfl rfl (take_ofW HT_.out HW_.out (by kernel_rfl)) (fun _ _ _ h => h) (Or.inl ⟨by rfl, ?_⟩) hHeld ?_ ?_
                      rotate_left
                      · rintro w' ⟨s0, s1, s2, s3, s4, s5, s6, s7, s8, s9⟩
                        go_simp
                        with_reducible rfl
                      rotate_left
                      · simp only [Act.put, List.setIfInBounds_toArray, List.set_cons_zero, List.set_cons_succ, i64_w, i32_w]
                        rfl
                      refine take_ (i := 6) (N := some 76) (v := ?_) (a' := ?_) #[true, true, true, true, true, true, true, true, false, false, false] rfl rfl (take_ofW HT_.out HW_.out (by kernel_rfl)) (fun _ _ _ h => h) (Or.inl ⟨by rfl, ?_⟩) hHeld ?_ ?_
                      rotate_left
                      · rintro w' ⟨s0, s1, s2, s3, s4, s5, s6, s7, s8, s9⟩
                        go_simp
                        with_reducible rfl
                      rotate_left
                      · simp only [Act.put, List.setIfInBounds_toArray, List.set_cons_zero, List.set_cons_succ, i64_w, i32_w]
                        rfl
                      refine pure_ (i := 8) (N := some 78) (v := ?_) (a' := ?_) #[true, true, true, true, true, true, true, true, true, false, false] rfl rfl (any_of HT_.out (by kernel_rfl)) (fun _ _ _ h => h) (Or.inl ⟨by rfl, ?_⟩) ?_ ?_
                      rotate_left
                      · intro w'
                        go_simp
                        with_reducible rfl
                      rotate_left
                      · simp only [Act.put, List.setIfInBounds_toArray, List.set_cons_zero, List.set_cons_succ, i64_w, i32_w]
                        rfl
                      refine take_ (i := 9) (N := some 79) (v := ?_) (a' := ?_) #[true, true, true, true, true, true, true, true, true, true, false] rfl rfl (take_ofW HT_.out HW_.out (by kernel_rfl)) (fun _ _ _ h => h) (Or.inl ⟨by rfl, ?_⟩) hHeld ?_ ?_
                      rotate_left
                      · rintro w' ⟨s0, s1, s2, s3, s4, s5, s6, s7, s8, s9⟩
                        go_simp
                        with_reducible rfl
                      rotate_left
                      · simp only [Act.put, List.setIfInBounds_toArray, List.set_cons_zero, List.set_cons_succ, i64_w, i32_w]
                        rfl
                      refine pure_ (i := 10) (N := some 80) (v := ?_) (a' := ?_) #[true, true, true, true, true, true, true, true, true, true, true] rfl rfl (any_of HT_.out (by kernel_rfl)) (fun _ _ _ h => h) (Or.inl ⟨by rfl, ?_⟩) ?_ ?_
                      rotate_left
                      · intro w'
                        go_simp
                        with_reducible rfl
                      rotate_left
                      · simp only [Act.put, List.setIfInBounds_toArray, List.set_cons_zero, List.set_cons_succ, i64_w, i32_w]
                        rfl
                      refine done_ (done_of HT_.out (by kernel_rfl)) ?_
                      try go_wp2
                      go_ret
                      exact ⟨by rfl, by repeat ((with_reducible exact HB.out))⟩
                    rw [if_neg c36] at H
                    exact absurd H (by simp)
                  rw [if_neg c35] at H
                  exact absurd H (by simp)
                rw [if_neg c34] at H
                exact absurd H (by simp)
              rw [if_neg c33] at H
              have c33b0 : decide (x67_3 < (l0_1.length : Int)) = false := decide_eq_false c33
              clear c33
              have H' := Aside0.mk H
              clear H
              have hnb40 := NB314_315.out
              have hnc40 := NB315_314.out
              have hcz41_0 : wr.cell? ⟨gb314, 0, none⟩ = some (.slice A0_0 l0_0.length c0_0) := (blk_cell BK314.out 0).trans rfl
              have hcz41_1 : wr.cell? ⟨gb314, 1, none⟩ = some (.slice A0_1 l0_1.length c0_1) := (blk_cell BK314.out 1).trans rfl
              have hcz41_2 : wr.cell? ⟨gb314, 2, none⟩ = some (.slice A0_2 l0_2.length c0_2) := (blk_cell BK314.out 2).trans rfl
              have hcz41_3 : wr.cell? ⟨gb314, 3, none⟩ = some (.slice A0_3 l0_3.length c0_3) := (blk_cell BK314.out 3).trans rfl
              have hfz41_0 := blk_frozen BK314.out 0
              have hfz41_1 := blk_frozen BK314.out 1
              have hfz41_2 := blk_frozen BK314.out 2
              have hfz41_3 := blk_frozen BK314.out 3
              go_wp2
              go_loopg [85] k3 (fun kq v85 w' => ∃ (x85_4 : Int), v85 = .int .i64 x85_4 ∧ Aside0 (sacristanref09_Same.l2 kq (l0_2.length : Int) x85_4 l0_0 l0_1 l0_2 l0_3 l1_0 l1_1 l1_2 l1_3 = some r) ∧ Aside0 (kq ≤ k3) ∧ Aside0 (w'.heap[gb314]? = some (.cells #[(.slice A0_0 l0_0.length c0_0), (.slice A0_1 l0_1.length c0_1), (.slice A0_2 l0_2.length c0_2), (.slice A0_3 l0_3.length c0_3)] 30 (0, 0))) ∧ Aside0 (w'.heap[gb315]? = some (.cells #[(.slice A1_0 l1_0.length c1_0), (.slice A1_1 l1_1.length c1_1), (.slice A1_2 l1_2.length c1_2), (.slice A1_3 l1_3.length c1_3)] 30 (0, 0))) ∧ Aside0 (Below w.heap.size w w'))
              case atStart => exact ⟨(0), (by rfl), H', ⟨Nat.le_refl _⟩, ⟨by (with_reducible repeat (fail)); exact BK314.out⟩, ⟨by (with_reducible repeat (fail)); exact BK315.out⟩, ⟨by repeat ((with_reducible exact HB.out))⟩⟩
              case round =>
                clear H' c33b0 hcz41_0 hcz41_1 hcz41_2 hcz41_3 hfz41_0 hfz41_1 hfz41_2 hfz41_3
                obtain ⟨x85_4, rfl, HA, HK4, BK314, BK315, HB⟩ := hrel
                cases gk with
                | zero => exact absurd HA.out (by simp [sacristanref09_Same.l2])
                | succ k4 =>
                  have H := HA.out
                  clear HA
                  simp only [sacristanref09_Same.l2] at H
                  by_cases c42 : x85_4 < (l0_2.length : Int)
                  · rw [if_pos c42] at H
                    have c42b0 : decide (x85_4 < (l0_2.length : Int)) = true := decide_eq_true c42
                    clear c42
                    by_cases c43 : 0 ≤ x85_4
                    · rw [if_pos c43] at H
                      have c43b0 : decide (0 ≤ x85_4) = true := decide_eq_true c43
                      clear c43
                      by_cases c44 : x85_4 < (l0_2.length : Int)
                      · rw [if_pos c44] at H
                        have c44b0 : decide (x85_4 < (l0_2.length : Int)) = true := decide_eq_true c44
                        clear c44
                        by_cases c45 : x85_4 < (l1_2.length : Int)
                        · rw [if_pos c45] at H
                          have c45b0 : decide (x85_4 < (l1_2.length : Int)) = true := decide_eq_true c45
                          clear c45
                          replace H := Option.bind_eq_some_iff.mp H
                          obtain ⟨t322, A460, H⟩ := H
                          have A46 := Aside0.mk A460
                          clear A460
                          by_cases c47 : t322 = true
                          · subst c47
                            have H1 : (sacristanref09_Same.l2 k4 (l0_2.length : Int) (wrap64 (x85_4 + 1)) l0_0 l0_1 l0_2 l0_3 l1_0 l1_1 l1_2 l1_3) = some r := by rw [if_pos rfl] at H; exact H
                            clear H
                            have H := H1
                            clear H1
                            have H' := Aside0.mk H
                            clear H
                            try go_wp2
                            have n0_ := Aside0.mk (blk_drew BK314.out)
                            have n1_ := Aside0.mk (blk_drew BK315.out)
                            have n2_ := Aside0.mk (below_drew1 HB.out)
                            clear BK314 BK315 HB
                            have BK314 := n0_
                            have BK315 := n1_
                            have HB := n2_
                            clear n0_ n1_ n2_
                            have p320 : 0 ≤ (x85_4 : Int) := of_decide_eq_true (by (with_reducible assumption))
                            have q320 : x85_4 < (l0_2.length : Int) := of_decide_eq_true (by (with_reducible assumption))
                            obtain ⟨ad320, A320_3, c320_3, e320, hx320_0, hx320_1, hx320_2, hx320_3, hl320_3, hi320_3⟩ := at_T44 HR0_2.out x85_4 p320 q320
                            have hw320_3 := hx320_3
                            have hw320_2 := hx320_2
                            have hw320_1 := hx320_1
                            have hw320_0 := hx320_0
                            cases e320
                            replace hx320_0 := (HB.out.cell (World.block_lt_of_cell? w _ hx320_0)).trans hx320_0
                            replace hx320_1 := (HB.out.cell (World.block_lt_of_cell? w _ hx320_1)).trans hx320_1
                            replace hx320_2 := (HB.out.cell (World.block_lt_of_cell? w _ hx320_2)).trans hx320_2
                            replace hx320_3 := (HB.out.cell (World.block_lt_of_cell? w _ hx320_3)).trans hx320_3
                            have HR320_3 := Aside0.mk hi320_3
                            have HC320_3 := Aside0.mk hl320_3
                            clear hi320_3 hl320_3
                            replace p320 := eq_true p320
                            replace q320 := eq_true q320
                            have p321 : 0 ≤ (x85_4 : Int) := of_decide_eq_true (by (with_reducible assumption))
                            have q321 : x85_4 < (l1_2.length : Int) := of_decide_eq_true (by (with_reducible assumption))
                            obtain ⟨ad321, A321_3, c321_3, e321, hx321_0, hx321_1, hx321_2, hx321_3, hl321_3, hi321_3⟩ := at_T44 HR1_2.out x85_4 p321 q321
                            have hw321_3 := hx321_3
                            have hw321_2 := hx321_2
                            have hw321_1 := hx321_1
                            have hw321_0 := hx321_0
                            cases e321
                            replace hx321_0 := (HB.out.cell (World.block_lt_of_cell? w _ hx321_0)).trans hx321_0
                            replace hx321_1 := (HB.out.cell (World.block_lt_of_cell? w _ hx321_1)).trans hx321_1
                            replace hx321_2 := (HB.out.cell (World.block_lt_of_cell? w _ hx321_2)).trans hx321_2
                            replace hx321_3 := (HB.out.cell (World.block_lt_of_cell? w _ hx321_3)).trans hx321_3
                            have HR321_3 := Aside0.mk hi321_3
                            have HC321_3 := Aside0.mk hl321_3
                            clear hi321_3 hl321_3
                            replace p321 := eq_true p321
                            replace q321 := eq_true q321
                            refine start_ (n := 12) (S := fun w' => w'.cell? ⟨gb314, 0, none⟩ = some (.slice A0_0 l0_0.length c0_0) ∧ w'.cell? ⟨gb314, 1, none⟩ = some (.slice A0_1 l0_1.length c0_1) ∧ w'.cell? ⟨gb314, 2, none⟩ = some (.slice (some ad320) l0_2.length c0_2) ∧ w'.cell? ⟨gb314, 3, none⟩ = some (.slice A0_3 l0_3.length c0_3) ∧ w'.cell? ⟨gb315, 0, none⟩ = some (.slice A1_0 l1_0.length c1_0) ∧ w'.cell? ⟨gb315, 1, none⟩ = some (.slice A1_1 l1_1.length c1_1) ∧ w'.cell? ⟨gb315, 2, none⟩ = some (.slice (some ad321) l1_2.length c1_2) ∧ w'.cell? ⟨gb315, 3, none⟩ = some (.slice A1_3 l1_3.length c1_3) ∧ w'.cell? (ad320.add ((x85_4).toNat * 4)) = some (.int .i64 ((rd_T44 l0_2 x85_4).f0)) ∧ w'.cell? ⟨(ad320.add ((x85_4).toNat * 4)).block, (ad320.add ((x85_4).toNat * 4)).off + 1, none⟩ = some (.int .i64 ((rd_T44 l0_2 x85_4).f1)) ∧ w'.cell? ⟨(ad320.add ((x85_4).toNat * 4)).block, (ad320.add ((x85_4).toNat * 4)).off + 2, none⟩ = some (.int .i64 ((rd_T44 l0_2 x85_4).f2)) ∧ w'.cell? ⟨(ad320.add ((x85_4).toNat * 4)).block, (ad320.add ((x85_4).toNat * 4)).off + 3, none⟩ = some (.slice A320_3 ((rd_T44 l0_2 x85_4).f3).length c320_3) ∧ w'.cell? (ad321.add ((x85_4).toNat * 4)) = some (.int .i64 ((rd_T44 l1_2 x85_4).f0)) ∧ w'.cell? ⟨(ad321.add ((x85_4).toNat * 4)).block, (ad321.add ((x85_4).toNat * 4)).off + 1, none⟩ = some (.int .i64 ((rd_T44 l1_2 x85_4).f1)) ∧ w'.cell? ⟨(ad321.add ((x85_4).toNat * 4)).block, (ad321.add ((x85_4).toNat * 4)).off + 2, none⟩ = some (.int .i64 ((rd_T44 l1_2 x85_4).f2)) ∧ w'.cell? ⟨(ad321.add ((x85_4).toNat * 4)).block, (ad321.add ((x85_4).toNat * 4)).off + 3, none⟩ = some (.slice A321_3 ((rd_T44 l1_2 x85_4).f3).length c321_3)) (ds := []) #[false, false, false, false, false, false, false, false, false, false, false, false] (by kernel_rfl) rfl rfl ⟨(blk_cell BK314.out 0).trans rfl, (blk_cell BK314.out 1).trans rfl, (blk_cell BK314.out 2).trans rfl, (blk_cell BK314.out 3).trans rfl, (blk_cell BK315.out 0).trans rfl, (blk_cell BK315.out 1).trans rfl, (blk_cell BK315.out 2).trans rfl, (blk_cell BK315.out 3).trans rfl, ((HB.out.cell (World.block_lt_of_cell? w _ hw320_0)).trans hw320_0), ((HB.out.cell (World.block_lt_of_cell? w _ hw320_1)).trans hw320_1), ((HB.out.cell (World.block_lt_of_cell? w _ hw320_2)).trans hw320_2), ((HB.out.cell (World.block_lt_of_cell? w _ hw320_3)).trans hw320_3), ((HB.out.cell (World.block_lt_of_cell? w _ hw321_0)).trans hw321_0), ((HB.out.cell (World.block_lt_of_cell? w _ hw321_1)).trans hw321_1), ((HB.out.cell (World.block_lt_of_cell? w _ hw321_2)).trans hw321_2), ((HB.out.cell (World.block_lt_of_cell? w _ hw321_3)).trans hw321_3)⟩ (fun hHeld => ?_); refine with_tabW sacristanref09_Same.tab18 sacristanref09_Same.bits18 (fun HT_ HW_ => ?_)
                            generalize wr.drew = w48 at BK314 BK315 HB HR320_3 HR321_3 hx320_0 hx320_1 hx320_2 hx320_3 hx321_0 hx321_1 hx321_2 hx321_3 hHeld ⊢
                            refine pure_ (i := 0) (N := some 88) (v := ?_) (a' := ?_) #[true, false, false, false, false, false, false, false, false, false, false, false] rfl rfl (any_of HT_.out (by kernel_rfl)) (fun _ _ _ h => h) (Or.inl ⟨by rfl, ?_⟩) ?_ ?_
                            rotate_left
                            · intro w'
                              go_simp
                              with_reducible rfl
                            rotate_left
                            · simp only [Act.put, List.setIfInBounds_toArray, List.set_cons_zero, List.set_cons_succ, i64_w, i32_w]
                              rfl
                            refine pure_ (i := 2) (N := some 90) (v := ?_) (a' := ?_) #[true, false, true, false, false, false, false, false, false, false, false, false] rfl rfl (any_of HT_.out (by kernel_rfl)) (fun _ _ _ h => h) (Or.inl ⟨by rfl, ?_⟩) ?_ ?_
                            rotate_left
                            · intro w'
                              go_simp
                              with_reducible rfl
                            rotate_left
                            · simp only [Act.put, List.setIfInBounds_toArray, List.set_cons_zero, List.set_cons_succ, i64_w, i32_w]
                              rfl
                            refine pure_ (i := 5) (N := some 93) (v := ?_) (a' := ?_) #[true, false, true, false, false, true, false, false, false, false, false, false] rfl rfl (any_of HT_.out (by kernel_rfl)) (fun _ _ _ h => h) (Or.inl ⟨by rfl, ?_⟩) ?_ ?_
                            rotate_left
                            · intro w'
                              go_simp
                              with_reducible rfl
                            rotate_left
                            · simp only [Act.put, List.setIfInBounds_toArray, List.set_cons_zero, List.set_cons_succ, i64_w, i32_w]
                              rfl
                            refine pure_ (i := 7) (N := some 95) (v := ?_) (a' := ?_) #[true, false, true, false, false, true, false, true, false, false, false, false] rfl rfl (any_of HT_.out (by kernel_rfl)) (fun _ _ _ h => h) (Or.inl ⟨by rfl, ?_⟩) ?_ ?_
                            rotate_left
                            · intro w'
                              go_simp
                              with_reducible rfl
                            rotate_left
                            · simp only [Act.put, List.setIfInBounds_toArray, List.set_cons_zero, List.set_cons_succ, i64_w, i32_w]
                              rfl
                            refine take_ (i := 1) (N := some 89) (v := ?_) (a' := ?_) #[true, true, true, false, false, true, false, true, false, false, false, false] rfl rfl (take_ofW HT_.out HW_.out (by kernel_rfl)) (fun _ _ _ h => h) (Or.inl ⟨by rfl, ?_⟩) hHeld ?_ ?_
                            rotate_left
                            · rintro w' ⟨s0, s1, s2, s3, s4, s5, s6, s7, s8, s9, s10, s11, s12, s13, s14, s15⟩
                              go_simp
                              with_reducible rfl
                            rotate_left
                            · simp only [Act.put, List.setIfInBounds_toArray, List.set_cons_zero, List.set_cons_succ, i64_w, i32_w]
                              rfl
                            refine pure_ (i := 3) (N := some 91) (v := ?_) (a' := ?_) #[true, true, true, true, false, true, false, true, false, false, false, false] rfl rfl (any_of HT_.out (by kernel_rfl)) (fun _ _ _ h => h) (Or.inl ⟨by rfl, ?_⟩) ?_ ?_
                            rotate_left
                            · intro w'
                              go_simp
                              with_reducible rfl
                            rotate_left
                            · simp only [Act.put, List.setIfInBounds_toArray, List.set_cons_zero, List.set_cons_succ, i64_w, i32_w]
                              rfl
                            refine take_ (i := 4) (N := some 92) (v := ?_) (a' := ?_) #[true, true, true, true, true, true, false, true, false, false, false, false] rfl rfl (take_ofW HT_.out HW_.out (by kernel_rfl)) (fun _ _ _ h => h) (Or.inl ⟨by rfl, ?_⟩) hHeld ?_ ?_
                            rotate_left
                            · rintro w' ⟨s0, s1, s2, s3, s4, s5, s6, s7, s8, s9, s10, s11, s12, s13, s14, s15⟩
                              go_simp
                              with_reducible rfl
                            rotate_left
                            · simp only [Act.put, List.setIfInBounds_toArray, List.set_cons_zero, List.set_cons_succ, i64_w, i32_w]
                              rfl
                            refine take_ (i := 6) (N := some 94) (v := ?_) (a' := ?_) #[true, true, true, true, true, true, true, true, false, false, false, false] rfl rfl (take_ofW HT_.out HW_.out (by kernel_rfl)) (fun _ _ _ h => h) (Or.inl ⟨by rfl, ?_⟩) hHeld ?_ ?_
                            rotate_left
                            · rintro w' ⟨s0, s1, s2, s3, s4, s5, s6, s7, s8, s9, s10, s11, s12, s13, s14, s15⟩
                              go_simp
                              with_reducible rfl
                            rotate_left
                            · simp only [Act.put, List.setIfInBounds_toArray, List.set_cons_zero, List.set_cons_succ, i64_w, i32_w]
                              rfl
                            refine pure_ (i := 8) (N := some 96) (v := ?_) (a' := ?_) #[true, true, true, true, true, true, true, true, true, false, false, false] rfl rfl (any_of HT_.out (by kernel_rfl)) (fun _ _ _ h => h) (Or.inl ⟨by rfl, ?_⟩) ?_ ?_
                            rotate_left
                            · intro w'
                              go_simp
                              with_reducible rfl
                            rotate_left
                            · simp only [Act.put, List.setIfInBounds_toArray, List.set_cons_zero, List.set_cons_succ, i64_w, i32_w]
                              rfl
                            refine take_ (i := 9) (N := some 97) (v := ?_) (a' := ?_) #[true, true, true, true, true, true, true, true, true, true, false, false] rfl rfl (take_ofW HT_.out HW_.out (by kernel_rfl)) (fun _ _ _ h => h) (Or.inl ⟨by rfl, ?_⟩) hHeld ?_ ?_
                            rotate_left
                            · rintro w' ⟨s0, s1, s2, s3, s4, s5, s6, s7, s8, s9, s10, s11, s12, s13, s14, s15⟩
                              go_simp
                              with_reducible rfl
                            rotate_left
                            · simp only [Act.put, List.setIfInBounds_toArray, List.set_cons_zero, List.set_cons_succ, i64_w, i32_w]
                              rfl
                            refine one_ (i := 10) (N := some 98) #[true, true, true, true, true, true, true, true, true, true, true, false] rfl rfl (one_of HT_.out (by kernel_rfl)) (by decide) (fun K hK => ?_)
                            refine goes_ Tryd.func66 (by kernel_rfl) rfl #[.agg #[.int .i64 ((rd_T44 l0_2 x85_4).f0), .int .i64 ((rd_T44 l0_2 x85_4).f1), .int .i64 ((rd_T44 l0_2 x85_4).f2), .slice A320_3 ((rd_T44 l0_2 x85_4).f3).length c320_3], .agg #[.int .i64 ((rd_T44 l1_2 x85_4).f0), .int .i64 ((rd_T44 l1_2 x85_4).f1), .int .i64 ((rd_T44 l1_2 x85_4).f2), .slice A321_3 ((rd_T44 l1_2 x85_4).f3).length c321_3]] (by rfl) rfl rfl (by (try simp only [List.map_toArray, List.map_cons, List.map_nil]); rfl) ?_
                            with_reducible refine (sacristanref09_same.calls k4 ((rd_T44 l0_2 x85_4).f0) ((rd_T44 l0_2 x85_4).f1) ((rd_T44 l0_2 x85_4).f2) _ _ ((rd_T44 l0_2 x85_4).f3) ((rd_T44 l1_2 x85_4).f0) ((rd_T44 l1_2 x85_4).f1) ((rd_T44 l1_2 x85_4).f2) _ _ ((rd_T44 l1_2 x85_4).f3) true _ ?side1 ?side2 ?side3 ?side4 A46.out).mono ?_
                            (case side1 => repeat (exact (Kd.C_below HR320_3.out HB.out)))
                            (case side2 => exact HC320_3.out)
                            (case side3 => repeat (exact (Kd.C_below HR321_3.out HB.out)))
                            (case side4 => exact HC321_3.out)
                            rintro e w49 ⟨rfl, hb⟩
                            refine ⟨_, rfl, ?_⟩
                            have n0_ := Aside0.mk (blk_below (g := gb314) (o := .cells #[.slice A0_0 l0_0.length c0_0, .slice A0_1 l0_1.length c0_1, .slice (some ad320) l0_2.length c0_2, .slice A0_3 l0_3.length c0_3] 30 (0, 0)) (by (with_reducible repeat (fail)); exact BK314.out) hb)
                            have n1_ := Aside0.mk (blk_below (g := gb315) (o := .cells #[.slice A1_0 l1_0.length c1_0, .slice A1_1 l1_1.length c1_1, .slice (some ad321) l1_2.length c1_2, .slice A1_3 l1_3.length c1_3] 30 (0, 0)) (by (with_reducible repeat (fail)); exact BK315.out) hb)
                            have n2_ := Aside0.mk (below_step (by repeat ((with_reducible exact HB.out))) hb)
                            clear BK314 BK315 HB
                            have BK314 := n0_
                            have BK315 := n1_
                            have HB := n2_
                            clear n0_ n1_ n2_
                            (try clear hb)
                            refine hK.out _ _ ⟨(blk_cell BK314.out 0).trans rfl, (blk_cell BK314.out 1).trans rfl, (blk_cell BK314.out 2).trans rfl, (blk_cell BK314.out 3).trans rfl, (blk_cell BK315.out 0).trans rfl, (blk_cell BK315.out 1).trans rfl, (blk_cell BK315.out 2).trans rfl, (blk_cell BK315.out 3).trans rfl, ((HB.out.cell (World.block_lt_of_cell? w _ hw320_0)).trans hw320_0), ((HB.out.cell (World.block_lt_of_cell? w _ hw320_1)).trans hw320_1), ((HB.out.cell (World.block_lt_of_cell? w _ hw320_2)).trans hw320_2), ((HB.out.cell (World.block_lt_of_cell? w _ hw320_3)).trans hw320_3), ((HB.out.cell (World.block_lt_of_cell? w _ hw321_0)).trans hw321_0), ((HB.out.cell (World.block_lt_of_cell? w _ hw321_1)).trans hw321_1), ((HB.out.cell (World.block_lt_of_cell? w _ hw321_2)).trans hw321_2), ((HB.out.cell (World.block_lt_of_cell? w _ hw321_3)).trans hw321_3)⟩ (fun hHeld => ?_)
                            clear hK K
                            refine norm_ (a' := ?_) ?_ ?_
                            rotate_left
                            · show Act.put _ (some 98) _ = _
                              simp only [Act.put, List.setIfInBounds_toArray, List.set_cons_zero, List.set_cons_succ, i64_w, i32_w]
                              rfl
                            refine pure_ (i := 11) (N := some 99) (v := ?_) (a' := ?_) #[true, true, true, true, true, true, true, true, true, true, true, true] rfl rfl (any_of HT_.out (by kernel_rfl)) (fun _ _ _ h => h) (Or.inl ⟨by rfl, ?_⟩) ?_ ?_
                            rotate_left
                            · intro w'
                              go_simp
                              with_reducible rfl
                            rotate_left
                            · simp only [Act.put, List.setIfInBounds_toArray, List.set_cons_zero, List.set_cons_succ, i64_w, i32_w]
                              rfl
                            refine done_ (done_of HT_.out (by kernel_rfl)) ?_
                            try go_wp2
                            go_roundg k4
                            case measure => have := HJ2.out; have := HK2.out; have := HK3.out; have := HK4.out; omega
                            case rel => exact ⟨(wrap64 (x85_4 + 1)), (by rfl), H', ⟨by have := HJ2.out; have := HK2.out; have := HK3.out; have := HK4.out; omega⟩, ⟨by (with_reducible repeat (fail)); exact BK314.out⟩, ⟨by (with_reducible repeat (fail)); exact BK315.out⟩, ⟨by repeat ((with_reducible exact HB.out))⟩⟩
                          replace c47 := Bool.eq_false_iff.mpr c47
                          subst c47
                          have H1 : (some false) = some r := by rw [if_neg (show ¬ (false = true) by decide)] at H; exact H
                          clear H
                          have H := H1
                          clear H1
                          obtain rfl := Option.some.inj H
                          try go_wp2
                          have n0_ := Aside0.mk (blk_drew BK314.out)
                          have n1_ := Aside0.mk (blk_drew BK315.out)
                          have n2_ := Aside0.mk (below_drew1 HB.out)
                          clear BK314 BK315 HB
                          have BK314 := n0_
                          have BK315 := n1_
                          have HB := n2_
                          clear n0_ n1_ n2_
                          have p320 : 0 ≤ (x85_4 : Int) := of_decide_eq_true (by (with_reducible assumption))
                          have q320 : x85_4 < (l0_2.length : Int) := of_decide_eq_true (by (with_reducible assumption))
                          obtain ⟨ad320, A320_3, c320_3, e320, hx320_0, hx320_1, hx320_2, hx320_3, hl320_3, hi320_3⟩ := at_T44 HR0_2.out x85_4 p320 q320
                          have hw320_3 := hx320_3
                          have hw320_2 := hx320_2
                          have hw320_1 := hx320_1
                          have hw320_0 := hx320_0
                          cases e320
                          replace hx320_0 := (HB.out.cell (World.block_lt_of_cell? w _ hx320_0)).trans hx320_0
                          replace hx320_1 := (HB.out.cell (World.block_lt_of_cell? w _ hx320_1)).trans hx320_1
                          replace hx320_2 := (HB.out.cell (World.block_lt_of_cell? w _ hx320_2)).trans hx320_2
                          replace hx320_3 := (HB.out.cell (World.block_lt_of_cell? w _ hx320_3)).trans hx320_3
                          have HR320_3 := Aside0.mk hi320_3
                          have HC320_3 := Aside0.mk hl320_3
                          clear hi320_3 hl320_3
                          replace p320 := eq_true p320
                          replace q320 := eq_true q320
                          have p321 : 0 ≤ (x85_4 : Int) := of_decide_eq_true (by (with_reducible assumption))
                          have q321 : x85_4 < (l1_2.length : Int) := of_decide_eq_true (by (with_reducible assumption))
                          obtain ⟨ad321, A321_3, c321_3, e321, hx321_0, hx321_1, hx321_2, hx321_3, hl321_3, hi321_3⟩ := at_T44 HR1_2.out x85_4 p321 q321
                          have hw321_3 := hx321_3
                          have hw321_2 := hx321_2
                          have hw321_1 := hx321_1
                          have hw321_0 := hx321_0
                          cases e321
                          replace hx321_0 := (HB.out.cell (World.block_lt_of_cell? w _ hx321_0)).trans hx321_0
                          replace hx321_1 := (HB.out.cell (World.block_lt_of_cell? w _ hx321_1)).trans hx321_1
                          replace hx321_2 := (HB.out.cell (World.block_lt_of_cell? w _ hx321_2)).trans hx321_2
                          replace hx321_3 := (HB.out.cell (World.block_lt_of_cell? w _ hx321_3)).trans hx321_3
                          have HR321_3 := Aside0.mk hi321_3
                          have HC321_3 := Aside0.mk hl321_3
                          clear hi321_3 hl321_3
                          replace p321 := eq_true p321
                          replace q321 := eq_true q321
                          refine start_ (n := 12) (S := fun w' => w'.cell? ⟨gb314, 0, none⟩ = some (.slice A0_0 l0_0.length c0_0) ∧ w'.cell? ⟨gb314, 1, none⟩ = some (.slice A0_1 l0_1.length c0_1) ∧ w'.cell? ⟨gb314, 2, none⟩ = some (.slice (some ad320) l0_2.length c0_2) ∧ w'.cell? ⟨gb314, 3, none⟩ = some (.slice A0_3 l0_3.length c0_3) ∧ w'.cell? ⟨gb315, 0, none⟩ = some (.slice A1_0 l1_0.length c1_0) ∧ w'.cell? ⟨gb315, 1, none⟩ = some (.slice A1_1 l1_1.length c1_1) ∧ w'.cell? ⟨gb315, 2, none⟩ = some (.slice (some ad321) l1_2.length c1_2) ∧ w'.cell? ⟨gb315, 3, none⟩ = some (.slice A1_3 l1_3.length c1_3) ∧ w'.cell? (ad320.add ((x85_4).toNat * 4)) = some (.int .i64 ((rd_T44 l0_2 x85_4).f0)) ∧ w'.cell? ⟨(ad320.add ((x85_4).toNat * 4)).block, (ad320.add ((x85_4).toNat * 4)).off + 1, none⟩ = some (.int .i64 ((rd_T44 l0_2 x85_4).f1)) ∧ w'.cell? ⟨(ad320.add ((x85_4).toNat * 4)).block, (ad320.add ((x85_4).toNat * 4)).off + 2, none⟩ = some (.int .i64 ((rd_T44 l0_2 x85_4).f2)) ∧ w'.cell? ⟨(ad320.add ((x85_4).toNat * 4)).block, (ad320.add ((x85_4).toNat * 4)).off + 3, none⟩ = some (.slice A320_3 ((rd_T44 l0_2 x85_4).f3).length c320_3) ∧ w'.cell? (ad321.add ((x85_4).toNat * 4)) = some (.int .i64 ((rd_T44 l1_2 x85_4).f0)) ∧ w'.cell? ⟨(ad321.add ((x85_4).toNat * 4)).block, (ad321.add ((x85_4).toNat * 4)).off + 1, none⟩ = some (.int .i64 ((rd_T44 l1_2 x85_4).f1)) ∧ w'.cell? ⟨(ad321.add ((x85_4).toNat * 4)).block, (ad321.add ((x85_4).toNat * 4)).off + 2, none⟩ = some (.int .i64 ((rd_T44 l1_2 x85_4).f2)) ∧ w'.cell? ⟨(ad321.add ((x85_4).toNat * 4)).block, (ad321.add ((x85_4).toNat * 4)).off + 3, none⟩ = some (.slice A321_3 ((rd_T44 l1_2 x85_4).f3).length c321_3)) (ds := []) #[false, false, false, false, false, false, false, false, false, false, false, false] (by kernel_rfl) rfl rfl ⟨(blk_cell BK314.out 0).trans rfl, (blk_cell BK314.out 1).trans rfl, (blk_cell BK314.out 2).trans rfl, (blk_cell BK314.out 3).trans rfl, (blk_cell BK315.out 0).trans rfl, (blk_cell BK315.out 1).trans rfl, (blk_cell BK315.out 2).trans rfl, (blk_cell BK315.out 3).trans rfl, ((HB.out.cell (World.block_lt_of_cell? w _ hw320_0)).trans hw320_0), ((HB.out.cell (World.block_lt_of_cell? w _ hw320_1)).trans hw320_1), ((HB.out.cell (World.block_lt_of_cell? w _ hw320_2)).trans hw320_2), ((HB.out.cell (World.block_lt_of_cell? w _ hw320_3)).trans hw320_3), ((HB.out.cell (World.block_lt_of_cell? w _ hw321_0)).trans hw321_0), ((HB.out.cell (World.block_lt_of_cell? w _ hw321_1)).trans hw321_1), ((HB.out.cell (World.block_lt_of_cell? w _ hw321_2)).trans hw321_2), ((HB.out.cell (World.block_lt_of_cell? w _ hw321_3)).trans hw321_3)⟩ (fun hHeld => ?_); refine with_tabW sacristanref09_Same.tab18 sacristanref09_Same.bits18 (fun HT_ HW_ => ?_)
                          generalize wr.drew = w50 at BK314 BK315 HB HR320_3 HR321_3 hx320_0 hx320_1 hx320_2 hx320_3 hx321_0 hx321_1 hx321_2 hx321_3 hHeld ⊢
                          refine pure_ (i := 0) (N := some 88) (v := ?_) (a' := ?_) #[true, false, false, false, false, false, false, false, false, false, false, false] rfl rfl (any_of HT_.out (by kernel_rfl)) (fun _ _ _ h => h) (Or.inl ⟨by rfl, ?_⟩) ?_ ?_
                          rotate_left
                          · intro w'
                            go_simp
                            with_reducible rfl
                          rotate_left
                          · simp only [Act.put, List.setIfInBounds_toArray, List.set_cons_zero, List.set_cons_succ, i64_w, i32_w]
                            rfl
                          refine pure_ (i := 2) (N := some 90) (v := ?_) (a' := ?_) #[true, false, true, false, false, false, false, false, false, false, false, false] rfl rfl (any_of HT_.out (by kernel_rfl)) (fun _ _ _ h => h) (Or.inl ⟨by rfl, ?_⟩) ?_ ?_
                          rotate_left
                          · intro w'
                            go_simp
                            with_reducible rfl
                          rotate_left
                          · simp only [Act.put, List.setIfInBounds_toArray, List.set_cons_zero, List.set_cons_succ, i64_w, i32_w]
                            rfl
                          refine pure_ (i := 5) (N := some 93) (v := ?_) (a' := ?_) #[true, false, true, false, false, true, false, false, false, false, false, false] rfl rfl (any_of HT_.out (by kernel_rfl)) (fun _ _ _ h => h) (Or.inl ⟨by rfl, ?_⟩) ?_ ?_
                          rotate_left
                          · intro w'
                            go_simp
                            with_reducible rfl
                          rotate_left
                          · simp only [Act.put, List.setIfInBounds_toArray, List.set_cons_zero, List.set_cons_succ, i64_w, i32_w]
                            rfl
                          refine pure_ (i := 7) (N := some 95) (v := ?_) (a' := ?_) #[true, false, true, false, false, true, false, true, false, false, false, false] rfl rfl (any_of HT_.out (by kernel_rfl)) (fun _ _ _ h => h) (Or.inl ⟨by rfl, ?_⟩) ?_ ?_
                          rotate_left
                          · intro w'
                            go_simp
                            with_reducible rfl
                          rotate_left
                          · simp only [Act.put, List.setIfInBounds_toArray, List.set_cons_zero, List.set_cons_succ, i64_w, i32_w]
                            rfl
                          refine take_ (i := 1) (N := some 89) (v := ?_) (a' := ?_) #[true, true, true, false, false, true, false, true, false, false, false, false] rfl rfl (take_ofW HT_.out HW_.out (by kernel_rfl)) (fun _ _ _ h => h) (Or.inl ⟨by rfl, ?_⟩) hHeld ?_ ?_
                          rotate_left
                          · rintro w' ⟨s0, s1, s2, s3, s4, s5, s6, s7, s8, s9, s10, s11, s12, s13, s14, s15⟩
                            go_simp
                            with_reducible rfl
                          rotate_left
                          · simp only [Act.put, List.setIfInBounds_toArray, List.set_cons_zero, List.set_cons_succ, i64_w, i32_w]
                            rfl
                          refine pure_ (i := 3) (N := some 91) (v := ?_) (a' := ?_) #[true, true, true, true, false, true, false, true, false, false, false, false] rfl rfl (any_of HT_.out (by kernel_rfl)) (fun _ _ _ h => h) (Or.inl ⟨by rfl, ?_⟩) ?_ ?_
                          rotate_left
                          · intro w'
                            go_simp
                            with_reducible rfl
                          rotate_left
                          · simp only [Act.put, List.setIfInBounds_toArray, List.set_cons_zero, List.set_cons_succ, i64_w, i32_w]
                            rfl
                          refine take_ (i := 4) (N := some 92) (v := ?_) (a' := ?_) #[true, true, true, true, true, true, false, true, false, false, false, false] rfl rfl (take_ofW HT_.out HW_.out (by kernel_rfl)) (fun _ _ _ h => h) (Or.inl ⟨by rfl, ?_⟩) hHeld ?_ ?_
                          rotate_left
                          · rintro w' ⟨s0, s1, s2, s3, s4, s5, s6, s7, s8, s9, s10, s11, s12, s13, s14, s15⟩
                            go_simp
                            with_reducible rfl
                          rotate_left
                          · simp only [Act.put, List.setIfInBounds_toArray, List.set_cons_zero, List.set_cons_succ, i64_w, i32_w]
                            rfl
                          refine take_ (i := 6) (N := some 94) (v := ?_) (a' := ?_) #[true, true, true, true, true, true, true, true, false, false, false, false] rfl rfl (take_ofW HT_.out HW_.out (by kernel_rfl)) (fun _ _ _ h => h) (Or.inl ⟨by rfl, ?_⟩) hHeld ?_ ?_
                          rotate_left
                          · rintro w' ⟨s0, s1, s2, s3, s4, s5, s6, s7, s8, s9, s10, s11, s12, s13, s14, s15⟩
                            go_simp
                            with_reducible rfl
                          rotate_left
                          · simp only [Act.put, List.setIfInBounds_toArray, List.set_cons_zero, List.set_cons_succ, i64_w, i32_w]
                            rfl
                          refine pure_ (i := 8) (N := some 96) (v := ?_) (a' := ?_) #[true, true, true, true, true, true, true, true, true, false, false, false] rfl rfl (any_of HT_.out (by kernel_rfl)) (fun _ _ _ h => h) (Or.inl ⟨by rfl, ?_⟩) ?_ ?_
                          rotate_left
                          · intro w'
                            go_simp
                            with_reducible rfl
                          rotate_left
                          · simp only [Act.put, List.setIfInBounds_toArray, List.set_cons_zero, List.set_cons_succ, i64_w, i32_w]
                            rfl
                          refine take_ (i := 9) (N := some 97) (v := ?_) (a' := ?_) #[true, true, true, true, true, true, true, true, true, true, false, false] rfl rfl (take_ofW HT_.out HW_.out (by kernel_rfl)) (fun _ _ _ h => h) (Or.inl ⟨by rfl, ?_⟩) hHeld ?_ ?_
                          rotate_left
                          · rintro w' ⟨s0, s1, s2, s3, s4, s5, s6, s7, s8, s9, s10, s11, s12, s13, s14, s15⟩
                            go_simp
                            with_reducible rfl
                          rotate_left
                          · simp only [Act.put, List.setIfInBounds_toArray, List.set_cons_zero, List.set_cons_succ, i64_w, i32_w]
                            rfl
                          refine one_ (i := 10) (N := some 98) #[true, true, true, true, true, true, true, true, true, true, true, false] rfl rfl (one_of HT_.out (by kernel_rfl)) (by decide) (fun K hK => ?_)
                          refine goes_ Tryd.func66 (by kernel_rfl) rfl #[.agg #[.int .i64 ((rd_T44 l0_2 x85_4).f0), .int .i64 ((rd_T44 l0_2 x85_4).f1), .int .i64 ((rd_T44 l0_2 x85_4).f2), .slice A320_3 ((rd_T44 l0_2 x85_4).f3).length c320_3], .agg #[.int .i64 ((rd_T44 l1_2 x85_4).f0), .int .i64 ((rd_T44 l1_2 x85_4).f1), .int .i64 ((rd_T44 l1_2 x85_4).f2), .slice A321_3 ((rd_T44 l1_2 x85_4).f3).length c321_3]] (by rfl) rfl rfl (by (try simp only [List.map_toArray, List.map_cons, List.map_nil]); rfl) ?_
                          with_reducible refine (sacristanref09_same.calls k4 ((rd_T44 l0_2 x85_4).f0) ((rd_T44 l0_2 x85_4).f1) ((rd_T44 l0_2 x85_4).f2) _ _ ((rd_T44 l0_2 x85_4).f3) ((rd_T44 l1_2 x85_4).f0) ((rd_T44 l1_2 x85_4).f1) ((rd_T44 l1_2 x85_4).f2) _ _ ((rd_T44 l1_2 x85_4).f3) false _ ?side1 ?side2 ?side3 ?side4 A46.out).mono ?_
                          (case side1 => repeat (exact (Kd.C_below HR320_3.out HB.out)))
                          (case side2 => exact HC320_3.out)
                          (case side3 => repeat (exact (Kd.C_below HR321_3.out HB.out)))
                          (case side4 => exact HC321_3.out)
                          rintro e w51 ⟨rfl, hb⟩
                          refine ⟨_, rfl, ?_⟩
                          have n0_ := Aside0.mk (blk_below (g := gb314) (o := .cells #[.slice A0_0 l0_0.length c0_0, .slice A0_1 l0_1.length c0_1, .slice (some ad320) l0_2.length c0_2, .slice A0_3 l0_3.length c0_3] 30 (0, 0)) (by (with_reducible repeat (fail)); exact BK314.out) hb)
                          have n1_ := Aside0.mk (blk_below (g := gb315) (o := .cells #[.slice A1_0 l1_0.length c1_0, .slice A1_1 l1_1.length c1_1, .slice (some ad321) l1_2.length c1_2, .slice A1_3 l1_3.length c1_3] 30 (0, 0)) (by (with_reducible repeat (fail)); exact BK315.out) hb)
                          have n2_ := Aside0.mk (below_step (by repeat ((with_reducible exact HB.out))) hb)
                          clear BK314 BK315 HB
                          have BK314 := n0_
                          have BK315 := n1_
                          have HB := n2_
                          clear n0_ n1_ n2_
                          (try clear hb)
                          refine hK.out _ _ ⟨(blk_cell BK314.out 0).trans rfl, (blk_cell BK314.out 1).trans rfl, (blk_cell BK314.out 2).trans rfl, (blk_cell BK314.out 3).trans rfl, (blk_cell BK315.out 0).trans rfl, (blk_cell BK315.out 1).trans rfl, (blk_cell BK315.out 2).trans rfl, (blk_cell BK315.out 3).trans rfl, ((HB.out.cell (World.block_lt_of_cell? w _ hw320_0)).trans hw320_0), ((HB.out.cell (World.block_lt_of_cell? w _ hw320_1)).trans hw320_1), ((HB.out.cell (World.block_lt_of_cell? w _ hw320_2)).trans hw320_2), ((HB.out.cell (World.block_lt_of_cell? w _ hw320_3)).trans hw320_3), ((HB.out.cell (World.block_lt_of_cell? w _ hw321_0)).trans hw321_0), ((HB.out.cell (World.block_lt_of_cell? w _ hw321_1)).trans hw321_1), ((HB.out.cell (World.block_lt_of_cell? w _ hw321_2)).trans hw321_2), ((HB.out.cell (World.block_lt_of_cell? w _ hw321_3)).trans hw321_3)⟩ (fun hHeld => ?_)
                          clear hK K
                          refine norm_ (a' := ?_) ?_ ?_
                          rotate_left
                          · show Act.put _ (some 98) _ = _
                            simp only [Act.put, List.setIfInBounds_toArray, List.set_cons_zero, List.set_cons_succ, i64_w, i32_w]
                            rfl
                          refine pure_ (i := 11) (N := some 99) (v := ?_) (a' := ?_) #[true, true, true, true, true, true, true, true, true, true, true, true] rfl rfl (any_of HT_.out (by kernel_rfl)) (fun _ _ _ h => h) (Or.inl ⟨by rfl, ?_⟩) ?_ ?_
                          rotate_left
                          · intro w'
                            go_simp
                            with_reducible rfl
                          rotate_left
                          · simp only [Act.put, List.setIfInBounds_toArray, List.set_cons_zero, List.set_cons_succ, i64_w, i32_w]
                            rfl
                          refine done_ (done_of HT_.out (by kernel_rfl)) ?_
                          try go_wp2
                          go_ret
                          exact ⟨by rfl, by repeat ((with_reducible exact HB.out))⟩
                        rw [if_neg c45] at H
                        exact absurd H (by simp)
                      rw [if_neg c44] at H
                      exact absurd H (by simp)
                    rw [if_neg c43] at H
                    exact absurd H (by simp)
                  rw [if_neg c42] at H
                  have c42b0 : decide (x85_4 < (l0_2.length : Int)) = false := decide_eq_false c42
                  clear c42
                  have H' := Aside0.mk H
                  clear H
                  have hnb52 := NB314_315.out
                  have hnc52 := NB315_314.out
                  have hcz53_0 : wr.cell? ⟨gb314, 0, none⟩ = some (.slice A0_0 l0_0.length c0_0) := (blk_cell BK314.out 0).trans rfl
                  have hcz53_1 : wr.cell? ⟨gb314, 1, none⟩ = some (.slice A0_1 l0_1.length c0_1) := (blk_cell BK314.out 1).trans rfl
                  have hcz53_2 : wr.cell? ⟨gb314, 2, none⟩ = some (.slice A0_2 l0_2.length c0_2) := (blk_cell BK314.out 2).trans rfl
                  have hcz53_3 : wr.cell? ⟨gb314, 3, none⟩ = some (.slice A0_3 l0_3.length c0_3) := (blk_cell BK314.out 3).trans rfl
                  have hfz53_0 := blk_frozen BK314.out 0
                  have hfz53_1 := blk_frozen BK314.out 1
                  have hfz53_2 := blk_frozen BK314.out 2
                  have hfz53_3 := blk_frozen BK314.out 3
                  go_wp2
                  go_loopg [104] k4 (fun kq v104 w' => ∃ (x104_5 : Int), v104 = .int .i64 x104_5 ∧ Aside0 (sacristanref09_Same.l3 kq (l0_3.length : Int) x104_5 l0_0 l0_1 l0_2 l0_3 l1_0 l1_1 l1_2 l1_3 = some r) ∧ Aside0 (kq ≤ k4) ∧ Aside0 (w'.heap[gb314]? = some (.cells #[(.slice A0_0 l0_0.length c0_0), (.slice A0_1 l0_1.length c0_1), (.slice A0_2 l0_2.length c0_2), (.slice A0_3 l0_3.length c0_3)] 30 (0, 0))) ∧ Aside0 (w'.heap[gb315]? = some (.cells #[(.slice A1_0 l1_0.length c1_0), (.slice A1_1 l1_1.length c1_1), (.slice A1_2 l1_2.length c1_2), (.slice A1_3 l1_3.length c1_3)] 30 (0, 0))) ∧ Aside0 (Below w.heap.size w w'))
                  case atStart => exact ⟨(0), (by rfl), H', ⟨Nat.le_refl _⟩, ⟨by (with_reducible repeat (fail)); exact BK314.out⟩, ⟨by (with_reducible repeat (fail)); exact BK315.out⟩, ⟨by repeat ((with_reducible exact HB.out))⟩⟩
                  case round =>
                    clear H' c42b0 hcz53_0 hcz53_1 hcz53_2 hcz53_3 hfz53_0 hfz53_1 hfz53_2 hfz53_3
                    obtain ⟨x104_5, rfl, HA, HK5, BK314, BK315, HB⟩ := hrel
                    cases gk with
                    | zero => exact absurd HA.out (by simp [sacristanref09_Same.l3])
                    | succ k5 =>
                      have H := HA.out
                      clear HA
                      simp only [sacristanref09_Same.l3] at H
                      by_cases c54 : x104_5 < (l0_3.length : Int)
                      · rw [if_pos c54] at H
                        have c54b0 : decide (x104_5 < (l0_3.length : Int)) = true := decide_eq_true c54
                        clear c54
                        by_cases c55 : 0 ≤ x104_5
                        · rw [if_pos c55] at H
                          have c55b0 : decide (0 ≤ x104_5) = true := decide_eq_true c55
                          clear c55
                          by_cases c56 : x104_5 < (l0_3.length : Int)
                          · rw [if_pos c56] at H
                            have c56b0 : decide (x104_5 < (l0_3.length : Int)) = true := decide_eq_true c56
                            clear c56
                            by_cases c57 : x104_5 < (l1_3.length : Int)
                            · rw [if_pos c57] at H
                              have c57b0 : decide (x104_5 < (l1_3.length : Int)) = true := decide_eq_true c57
                              clear c57
                              have HC58 := Aside0.mk H
                              clear H
                              have hnb59 := NB314_315.out
                              have hnc59 := NB315_314.out
                              have hcz60_0 : wr.cell? ⟨gb314, 0, none⟩ = some (.slice A0_0 l0_0.length c0_0) := (blk_cell BK314.out 0).trans rfl
                              have hcz60_1 : wr.cell? ⟨gb314, 1, none⟩ = some (.slice A0_1 l0_1.length c0_1) := (blk_cell BK314.out 1).trans rfl
                              have hcz60_2 : wr.cell? ⟨gb314, 2, none⟩ = some (.slice A0_2 l0_2.length c0_2) := (blk_cell BK314.out 2).trans rfl
                              have hcz60_3 : wr.cell? ⟨gb314, 3, none⟩ = some (.slice A0_3 l0_3.length c0_3) := (blk_cell BK314.out 3).trans rfl
                              have hfz60_0 := blk_frozen BK314.out 0
                              have hfz60_1 := blk_frozen BK314.out 1
                              have hfz60_2 := blk_frozen BK314.out 2
                              have hfz60_3 := blk_frozen BK314.out 3
                              have p323 : 0 ≤ (x104_5 : Int) := of_decide_eq_true (by (with_reducible assumption))
                              have q323 : x104_5 < (l0_3.length : Int) := of_decide_eq_true (by (with_reducible assumption))
                              obtain ⟨ad323, A323_0, c323_0, e323, hx323_0, hx323_1, hx323_2, hl323_0, hi323_0⟩ := at_T41 HR0_3.out x104_5 p323 q323
                              cases e323
                              replace hx323_0 := (HB.out.cell (World.block_lt_of_cell? w _ hx323_0)).trans hx323_0
                              replace hx323_1 := (HB.out.cell (World.block_lt_of_cell? w _ hx323_1)).trans hx323_1
                              replace hx323_2 := (HB.out.cell (World.block_lt_of_cell? w _ hx323_2)).trans hx323_2
                              have HR323_0 := Aside0.mk hi323_0
                              have HC323_0 := Aside0.mk hl323_0
                              clear hi323_0 hl323_0
                              replace p323 := eq_true p323
                              replace q323 := eq_true q323
                              go_upto_region 26 with (first | ((with_reducible refine gate_dst (N := 9) rfl ?_); (try (refine gate_guard (by rfl) ?_; dsimp only)); refine box_event ?hg (N := 9) ?hd (cs := #[.slice none 0 0, .bool false, .bool false]) (t := 41) ?hr ?_; (case hd => rfl); (case hg => rfl); (case hr => ((go_simp; done))); intro gb324 hg w61 hbox hb; have n0_ := Aside0.mk (blk_below (g := gb314) (o := .cells #[.slice A0_0 l0_0.length c0_0, .slice A0_1 l0_1.length c0_1, .slice A0_2 l0_2.length c0_2, .slice (some ad323) l0_3.length c0_3] 30 (0, 0)) (by (with_reducible repeat (fail)); exact BK314.out) hb); have n1_ := Aside0.mk (blk_below (g := gb315) (o := .cells #[.slice A1_0 l1_0.length c1_0, .slice A1_1 l1_1.length c1_1, .slice A1_2 l1_2.length c1_2, .slice A1_3 l1_3.length c1_3] 30 (0, 0)) (by (with_reducible repeat (fail)); exact BK315.out) hb); have n2_ := Aside0.mk (below_step (by repeat ((with_reducible exact HB.out))) hb); have n3_ := Aside0.mk (hbox); have n4_ := Aside0.mk ((by rw [hg]; exact (below_size (by repeat ((with_reducible exact HB.out)))) : w.heap.size ≤ gb324)); have n5_ := Aside0.mk ((by rw [hg]; exact (below_size (by repeat ((with_reducible exact HB.out)))) : w.heap.size ≤ gb324)); have n6_ := Aside0.mk ((by rw [hg]; exact Nat.ne_of_lt (blk_lt (g := gb314) (o := .cells #[.slice A0_0 l0_0.length c0_0, .slice A0_1 l0_1.length c0_1, .slice A0_2 l0_2.length c0_2, .slice (some ad323) l0_3.length c0_3] 30 (0, 0)) (by (with_reducible repeat (fail)); exact BK314.out)) : gb314 ≠ gb324)); have n7_ := Aside0.mk ((by rw [hg]; exact Nat.ne_of_gt (blk_lt (g := gb314) (o := .cells #[.slice A0_0 l0_0.length c0_0, .slice A0_1 l0_1.length c0_1, .slice A0_2 l0_2.length c0_2, .slice (some ad323) l0_3.length c0_3] 30 (0, 0)) (by (with_reducible repeat (fail)); exact BK314.out)) : gb324 ≠ gb314)); have n8_ := Aside0.mk ((by rw [hg]; exact Nat.ne_of_lt (blk_lt (g := gb315) (o := .cells #[.slice A1_0 l1_0.length c1_0, .slice A1_1 l1_1.length c1_1, .slice A1_2 l1_2.length c1_2, .slice A1_3 l1_3.length c1_3] 30 (0, 0)) (by (with_reducible repeat (fail)); exact BK315.out)) : gb315 ≠ gb324)); have n9_ := Aside0.mk ((by rw [hg]; exact Nat.ne_of_gt (blk_lt (g := gb315) (o := .cells #[.slice A1_0 l1_0.length c1_0, .slice A1_1 l1_1.length c1_1, .slice A1_2 l1_2.length c1_2, .slice A1_3 l1_3.length c1_3] 30 (0, 0)) (by (with_reducible repeat (fail)); exact BK315.out)) : gb324 ≠ gb315)); clear BK314; clear BK315; clear HB; have BK314 := n0_; have BK315 := n1_; have HB := n2_; have BK324 := n3_; have GW324 := n4_; have GE324 := n5_; have NB314_324 := n6_; have NB324_314 := n7_; have NB315_324 := n8_; have NB324_315 := n9_; clear n0_ n1_ n2_ n3_ n4_ n5_ n6_ n7_ n8_ n9_; clear hb hbox hg; have hnb62 := NB324_314.out; have hnc62 := NB314_324.out; have hnb63 := NB324_315.out; have hnc63 := NB315_324.out; have hcz64_0 : w61.cell? ⟨gb324, 0, none⟩ = some (.slice none 0 0) := (blk_cell BK324.out 0).trans rfl; have hcz64_1 : w61.cell? ⟨gb324, 1, none⟩ = some (.bool false) := (blk_cell BK324.out 1).trans rfl; have hcz64_2 : w61.cell? ⟨gb324, 2, none⟩ = some (.bool false) := (blk_cell BK324.out 2).trans rfl; have hfz64_0 := blk_frozen BK324.out 0; have hfz64_1 := blk_frozen BK324.out 1; have hfz64_2 := blk_frozen BK324.out 2; have hcz65_0 : w61.cell? ⟨gb315, 0, none⟩ = some (.slice A1_0 l1_0.length c1_0) := (blk_cell BK315.out 0).trans rfl; have hcz65_1 : w61.cell? ⟨gb315, 1, none⟩ = some (.slice A1_1 l1_1.length c1_1) := (blk_cell BK315.out 1).trans rfl; have hcz65_2 : w61.cell? ⟨gb315, 2, none⟩ = some (.slice A1_2 l1_2.length c1_2) := (blk_cell BK315.out 2).trans rfl; have hcz65_3 : w61.cell? ⟨gb315, 3, none⟩ = some (.slice A1_3 l1_3.length c1_3) := (blk_cell BK315.out 3).trans rfl; have hfz65_0 := blk_frozen BK315.out 0; have hfz65_1 := blk_frozen BK315.out 1; have hfz65_2 := blk_frozen BK315.out 2; have hfz65_3 := blk_frozen BK315.out 3; have p325 : 0 ≤ (x104_5 : Int) := of_decide_eq_true (by (with_reducible assumption)); have q325 : x104_5 < (l1_3.length : Int) := of_decide_eq_true (by (with_reducible assumption)); obtain ⟨ad325, A325_0, c325_0, e325, hx325_0, hx325_1, hx325_2, hl325_0, hi325_0⟩ := at_T41 HR1_3.out x104_5 p325 q325; cases e325; have hn325_0 : ad325.block ≠ gb324 := Nat.ne_of_lt (Nat.lt_of_lt_of_le (by have := World.block_lt_of_cell? _ _ hx325_0; rwa [add_block] at this) GW324.out); have hn325_1 : ad325.block ≠ gb324 := Nat.ne_of_lt (Nat.lt_of_lt_of_le (by have := World.block_lt_of_cell? _ _ hx325_0; rwa [add_block] at this) GW324.out); have hn325_2 : ad325.block ≠ gb324 := Nat.ne_of_lt (Nat.lt_of_lt_of_le (by have := World.block_lt_of_cell? _ _ hx325_0; rwa [add_block] at this) GW324.out); replace hx325_0 := (HB.out.cell (World.block_lt_of_cell? w _ hx325_0)).trans hx325_0; replace hx325_1 := (HB.out.cell (World.block_lt_of_cell? w _ hx325_1)).trans hx325_1; replace hx325_2 := (HB.out.cell (World.block_lt_of_cell? w _ hx325_2)).trans hx325_2; have HR325_0 := Aside0.mk hi325_0; have HC325_0 := Aside0.mk hl325_0; clear hi325_0 hl325_0; replace hx325_0 := (cell_far (p := ⟨gb324, 0, none⟩) (by ((rw [add_block]; exact hn325_0))) (.slice A323_0 ((rd_T41 l0_3 x104_5).f0).length c323_0)).trans hx325_0; replace hx325_1 := (cell_far (p := ⟨gb324, 0, none⟩) (by ((rw [add_block]; exact hn325_0))) (.slice A323_0 ((rd_T41 l0_3 x104_5).f0).length c323_0)).trans hx325_1; replace hx325_2 := (cell_far (p := ⟨gb324, 0, none⟩) (by ((rw [add_block]; exact hn325_0))) (.slice A323_0 ((rd_T41 l0_3 x104_5).f0).length c323_0)).trans hx325_2; replace hx325_0 := (cell_far (p := ⟨gb324, 1, none⟩) (by ((rw [add_block]; exact hn325_1))) (.bool ((rd_T41 l0_3 x104_5).f1))).trans hx325_0; replace hx325_1 := (cell_far (p := ⟨gb324, 1, none⟩) (by ((rw [add_block]; exact hn325_1))) (.bool ((rd_T41 l0_3 x104_5).f1))).trans hx325_1; replace hx325_2 := (cell_far (p := ⟨gb324, 1, none⟩) (by ((rw [add_block]; exact hn325_1))) (.bool ((rd_T41 l0_3 x104_5).f1))).trans hx325_2; replace hx325_0 := (cell_far (p := ⟨gb324, 2, none⟩) (by ((rw [add_block]; exact hn325_2))) (.bool ((rd_T41 l0_3 x104_5).f2))).trans hx325_0; replace hx325_1 := (cell_far (p := ⟨gb324, 2, none⟩) (by ((rw [add_block]; exact hn325_2))) (.bool ((rd_T41 l0_3 x104_5).f2))).trans hx325_1; replace hx325_2 := (cell_far (p := ⟨gb324, 2, none⟩) (by ((rw [add_block]; exact hn325_2))) (.bool ((rd_T41 l0_3 x104_5).f2))).trans hx325_2; clear hn325_0; clear hn325_1; clear hn325_2; replace p325 := eq_true p325; replace q325 := eq_true q325) | ((with_reducible refine gate_dst (N := 10) rfl ?_); (try (refine gate_guard (by rfl) ?_; dsimp only)); refine box_event ?hg (N := 10) ?hd (cs := #[.slice none 0 0, .bool false, .bool false]) (t := 41) ?hr ?_; (case hd => rfl); (case hg => rfl); (case hr => ((go_simp; done))); intro gb326 hg w66 hbox hb; have n0_ := Aside0.mk (blk_below (g := gb314) (o := .cells #[.slice A0_0 l0_0.length c0_0, .slice A0_1 l0_1.length c0_1, .slice A0_2 l0_2.length c0_2, .slice (some ad323) l0_3.length c0_3] 30 (0, 0)) (by (with_reducible repeat (fail)); refine blk_far ?_ NB314_324.out _; (with_reducible repeat (fail)); refine blk_far ?_ NB314_324.out _; (with_reducible repeat (fail)); refine blk_far ?_ NB314_324.out _; (with_reducible repeat (fail)); exact BK314.out) hb); have n1_ := Aside0.mk (blk_below (g := gb315) (o := .cells #[.slice A1_0 l1_0.length c1_0, .slice A1_1 l1_1.length c1_1, .slice A1_2 l1_2.length c1_2, .slice (some ad325) l1_3.length c1_3] 30 (0, 0)) (by (with_reducible repeat (fail)); refine blk_far ?_ NB315_324.out _; (with_reducible repeat (fail)); refine blk_far ?_ NB315_324.out _; (with_reducible repeat (fail)); refine blk_far ?_ NB315_324.out _; (with_reducible repeat (fail)); exact BK315.out) hb); have n2_ := Aside0.mk (blk_below (g := gb324) (o := .cells #[.slice A323_0 ((rd_T41 l0_3 x104_5).f0).length c323_0, .bool ((rd_T41 l0_3 x104_5).f1), .bool ((rd_T41 l0_3 x104_5).f2)] 41 (0, 0)) (by (with_reducible repeat (fail)); refine blk_put (cs := #[.slice A323_0 ((rd_T41 l0_3 x104_5).f0).length c323_0, .bool ((rd_T41 l0_3 x104_5).f1), .bool false]) ?_ 2 _ rfl; (with_reducible repeat (fail)); refine blk_put (cs := #[.slice A323_0 ((rd_T41 l0_3 x104_5).f0).length c323_0, .bool false, .bool false]) ?_ 1 _ rfl; (with_reducible repeat (fail)); refine blk_put (cs := #[.slice none 0 0, .bool false, .bool false]) ?_ 0 _ rfl; (with_reducible repeat (fail)); exact BK324.out) hb); have n3_ := Aside0.mk (below_step (by repeat ((with_reducible first | exact HB.out | refine below_set ?_ GE324.out))) hb); have n4_ := Aside0.mk (hbox); have n5_ := Aside0.mk ((by rw [hg]; exact (below_size (by repeat ((with_reducible first | exact HB.out | refine below_set ?_ GE324.out)))) : w.heap.size ≤ gb326)); have n6_ := Aside0.mk ((by rw [hg]; exact (below_size (by repeat ((with_reducible first | exact HB.out | refine below_set ?_ GE324.out)))) : w.heap.size ≤ gb326)); have n7_ := Aside0.mk ((by rw [hg]; exact Nat.ne_of_lt (blk_lt (g := gb314) (o := .cells #[.slice A0_0 l0_0.length c0_0, .slice A0_1 l0_1.length c0_1, .slice A0_2 l0_2.length c0_2, .slice (some ad323) l0_3.length c0_3] 30 (0, 0)) (by (with_reducible repeat (fail)); refine blk_far ?_ NB314_324.out _; (with_reducible repeat (fail)); refine blk_far ?_ NB314_324.out _; (with_reducible repeat (fail)); refine blk_far ?_ NB314_324.out _; (with_reducible repeat (fail)); exact BK314.out)) : gb314 ≠ gb326)); have n8_ := Aside0.mk ((by rw [hg]; exact Nat.ne_of_gt (blk_lt (g := gb314) (o := .cells #[.slice A0_0 l0_0.length c0_0, .slice A0_1 l0_1.length c0_1, .slice A0_2 l0_2.length c0_2, .slice (some ad323) l0_3.length c0_3] 30 (0, 0)) (by (with_reducible repeat (fail)); refine blk_far ?_ NB314_324.out _; (with_reducible repeat (fail)); refine blk_far ?_ NB314_324.out _; (with_reducible repeat (fail)); refine blk_far ?_ NB314_324.out _; (with_reducible repeat (fail)); exact BK314.out)) : gb326 ≠ gb314)); have n9_ := Aside0.mk ((by rw [hg]; exact Nat.ne_of_lt (blk_lt (g := gb315) (o := .cells #[.slice A1_0 l1_0.length c1_0, .slice A1_1 l1_1.length c1_1, .slice A1_2 l1_2.length c1_2, .slice (some ad325) l1_3.length c1_3] 30 (0, 0)) (by (with_reducible repeat (fail)); refine blk_far ?_ NB315_324.out _; (with_reducible repeat (fail)); refine blk_far ?_ NB315_324.out _; (with_reducible repeat (fail)); refine blk_far ?_ NB315_324.out _; (with_reducible repeat (fail)); exact BK315.out)) : gb315 ≠ gb326)); have n10_ := Aside0.mk ((by rw [hg]; exact Nat.ne_of_gt (blk_lt (g := gb315) (o := .cells #[.slice A1_0 l1_0.length c1_0, .slice A1_1 l1_1.length c1_1, .slice A1_2 l1_2.length c1_2, .slice (some ad325) l1_3.length c1_3] 30 (0, 0)) (by (with_reducible repeat (fail)); refine blk_far ?_ NB315_324.out _; (with_reducible repeat (fail)); refine blk_far ?_ NB315_324.out _; (with_reducible repeat (fail)); refine blk_far ?_ NB315_324.out _; (with_reducible repeat (fail)); exact BK315.out)) : gb326 ≠ gb315)); have n11_ := Aside0.mk ((by rw [hg]; exact Nat.ne_of_lt (blk_lt (g := gb324) (o := .cells #[.slice A323_0 ((rd_T41 l0_3 x104_5).f0).length c323_0, .bool ((rd_T41 l0_3 x104_5).f1), .bool ((rd_T41 l0_3 x104_5).f2)] 41 (0, 0)) (by (with_reducible repeat (fail)); refine blk_put (cs := #[.slice A323_0 ((rd_T41 l0_3 x104_5).f0).length c323_0, .bool ((rd_T41 l0_3 x104_5).f1), .bool false]) ?_ 2 _ rfl; (with_reducible repeat (fail)); refine blk_put (cs := #[.slice A323_0 ((rd_T41 l0_3 x104_5).f0).length c323_0, .bool false, .bool false]) ?_ 1 _ rfl; (with_reducible repeat (fail)); refine blk_put (cs := #[.slice none 0 0, .bool false, .bool false]) ?_ 0 _ rfl; (with_reducible repeat (fail)); exact BK324.out)) : gb324 ≠ gb326)); have n12_ := Aside0.mk ((by rw [hg]; exact Nat.ne_of_gt (blk_lt (g := gb324) (o := .cells #[.slice A323_0 ((rd_T41 l0_3 x104_5).f0).length c323_0, .bool ((rd_T41 l0_3 x104_5).f1), .bool ((rd_T41 l0_3 x104_5).f2)] 41 (0, 0)) (by (with_reducible repeat (fail)); refine blk_put (cs := #[.slice A323_0 ((rd_T41 l0_3 x104_5).f0).length c323_0, .bool ((rd_T41 l0_3 x104_5).f1), .bool false]) ?_ 2 _ rfl; (with_reducible repeat (fail)); refine blk_put (cs := #[.slice A323_0 ((rd_T41 l0_3 x104_5).f0).length c323_0, .bool false, .bool false]) ?_ 1 _ rfl; (with_reducible repeat (fail)); refine blk_put (cs := #[.slice none 0 0, .bool false, .bool false]) ?_ 0 _ rfl; (with_reducible repeat (fail)); exact BK324.out)) : gb326 ≠ gb324)); clear BK314; clear BK315; clear BK324; clear HB; have BK314 := n0_; have BK315 := n1_; have BK324 := n2_; have HB := n3_; have BK326 := n4_; have GW326 := n5_; have GE326 := n6_; have NB314_326 := n7_; have NB326_314 := n8_; have NB315_326 := n9_; have NB326_315 := n10_; have NB324_326 := n11_; have NB326_324 := n12_; clear n0_ n1_ n2_ n3_ n4_ n5_ n6_ n7_ n8_ n9_ n10_ n11_ n12_; clear hb hbox hg; have hnb67 := NB326_314.out; have hnc67 := NB314_326.out; have hnb68 := NB326_315.out; have hnc68 := NB315_326.out; have hnb69 := NB326_324.out; have hnc69 := NB324_326.out; have hcz70_0 : w66.cell? ⟨gb326, 0, none⟩ = some (.slice none 0 0) := (blk_cell BK326.out 0).trans rfl; have hcz70_1 : w66.cell? ⟨gb326, 1, none⟩ = some (.bool false) := (blk_cell BK326.out 1).trans rfl; have hcz70_2 : w66.cell? ⟨gb326, 2, none⟩ = some (.bool false) := (blk_cell BK326.out 2).trans rfl; have hfz70_0 := blk_frozen BK326.out 0; have hfz70_1 := blk_frozen BK326.out 1; have hfz70_2 := blk_frozen BK326.out 2))
                              go_cut [137] (fun v137 wc => ∃ (kq : Nat) (x137_57 : Bool), v137 = .bool x137_57 ∧ Aside0 (sacristanref09_Same.j5 kq (l0_3.length : Int) x104_5 x137_57 l0_0 l0_1 l0_2 l0_3 l1_0 l1_1 l1_2 l1_3 ((rd_T41 l0_3 x104_5).f0) ((rd_T41 l0_3 x104_5).f1) ((rd_T41 l0_3 x104_5).f2) ((rd_T41 l1_3 x104_5).f0) ((rd_T41 l1_3 x104_5).f1) ((rd_T41 l1_3 x104_5).f2) = some r) ∧ Aside0 (kq ≤ k5) ∧ Aside0 (wc.heap[gb314]? = some (.cells #[(.slice A0_0 l0_0.length c0_0), (.slice A0_1 l0_1.length c0_1), (.slice A0_2 l0_2.length c0_2), (.slice (some ad323) l0_3.length c0_3)] 30 (0, 0))) ∧ Aside0 (wc.heap[gb315]? = some (.cells #[(.slice A1_0 l1_0.length c1_0), (.slice A1_1 l1_1.length c1_1), (.slice A1_2 l1_2.length c1_2), (.slice (some ad325) l1_3.length c1_3)] 30 (0, 0))) ∧ Aside0 (wc.heap[gb324]? = some (.cells #[(.slice A323_0 ((rd_T41 l0_3 x104_5).f0).length c323_0), .bool ((rd_T41 l0_3 x104_5).f1), .bool ((rd_T41 l0_3 x104_5).f2)] 41 (0, 0))) ∧ Aside0 (wc.heap[gb326]? = some (.cells #[(.slice A325_0 ((rd_T41 l1_3 x104_5).f0).length c325_0), .bool ((rd_T41 l1_3 x104_5).f1), .bool ((rd_T41 l1_3 x104_5).f2)] 41 (0, 0))) ∧ Aside0 (Below w.heap.size w wc))
                              case first =>
                                have H := HC58.out
                                clear HC58
                                by_cases c71 : (((rd_T41 l0_3 x104_5).f0).length : Int) = (((rd_T41 l1_3 x104_5).f0).length : Int)
                                · rw [if_pos c71] at H
                                  have c71b0 : ((((rd_T41 l0_3 x104_5).f0).length : Int) == (((rd_T41 l1_3 x104_5).f0).length : Int)) = true := beq_iff_eq.mpr c71
                                  have c71b1 : ((((rd_T41 l0_3 x104_5).f0).length : Int) != (((rd_T41 l1_3 x104_5).f0).length : Int)) = false := bne_eq_false_iff_eq.mpr c71
                                  have c71b2 : (((rd_T41 l0_3 x104_5).f0).length == ((rd_T41 l1_3 x104_5).f0).length) = true := by ((simp at c71 ⊢; omega))
                                  clear c71
                                  (skip)
                                  by_cases c72 : (((rd_T41 l0_3 x104_5).f1) != ((rd_T41 l1_3 x104_5).f1)) = true
                                  · rw [if_pos c72] at H
                                    have c72b0 : (((rd_T41 l0_3 x104_5).f1) != ((rd_T41 l1_3 x104_5).f1)) = true := c72
                                    (try (have c72b1 : decide (((rd_T41 l0_3 x104_5).f1) = ((rd_T41 l1_3 x104_5).f1)) = false := by simpa using c72))
                                    (try (have c72b2 : (((rd_T41 l0_3 x104_5).f1) == ((rd_T41 l1_3 x104_5).f1)) = false := by simpa using c72))
                                    (try (have c72b3 : ¬ (((rd_T41 l0_3 x104_5).f1) = ((rd_T41 l1_3 x104_5).f1)) := by simpa using c72))
                                    clear c72
                                    have H' := Aside0.mk H
                                    clear H
                                    have hnb73 := NB324_314.out
                                    have hnc73 := NB314_324.out
                                    have hnb74 := NB324_315.out
                                    have hnc74 := NB315_324.out
                                    have hnb75 := NB324_326.out
                                    have hnc75 := NB326_324.out
                                    have hcz76_0 : w66.cell? ⟨gb324, 0, none⟩ = some (.slice A323_0 ((rd_T41 l0_3 x104_5).f0).length c323_0) := (blk_cell BK324.out 0).trans rfl
                                    have hcz76_1 : w66.cell? ⟨gb324, 1, none⟩ = some (.bool ((rd_T41 l0_3 x104_5).f1)) := (blk_cell BK324.out 1).trans rfl
                                    have hcz76_2 : w66.cell? ⟨gb324, 2, none⟩ = some (.bool ((rd_T41 l0_3 x104_5).f2)) := (blk_cell BK324.out 2).trans rfl
                                    have hfz76_0 := blk_frozen BK324.out 0
                                    have hfz76_1 := blk_frozen BK324.out 1
                                    have hfz76_2 := blk_frozen BK324.out 2
                                    have hnb77 := NB326_314.out
                                    have hnc77 := NB314_326.out
                                    have hnb78 := NB326_315.out
                                    have hnc78 := NB315_326.out
                                    have hcz79_0 : w66.cell? ⟨gb326, 0, none⟩ = some (.slice none 0 0) := (blk_cell BK326.out 0).trans rfl
                                    have hcz79_1 : w66.cell? ⟨gb326, 1, none⟩ = some (.bool false) := (blk_cell BK326.out 1).trans rfl
                                    have hcz79_2 : w66.cell? ⟨gb326, 2, none⟩ = some (.bool false) := (blk_cell BK326.out 2).trans rfl
                                    have hfz79_0 := blk_frozen BK326.out 0
                                    have hfz79_1 := blk_frozen BK326.out 1
                                    have hfz79_2 := blk_frozen BK326.out 2
                                    go_wp2
                                    go_meet
                                    case rel => exact ⟨_, (true), (by rfl), H', ⟨by have := HJ2.out; have := HK2.out; have := HK3.out; have := HK4.out; have := HK5.out; omega⟩, ⟨by (with_reducible repeat (fail)); refine blk_far ?_ NB314_326.out _; (with_reducible repeat (fail)); refine blk_far ?_ NB314_326.out _; (with_reducible repeat (fail)); refine blk_far ?_ NB314_326.out _; (with_reducible repeat (fail)); exact BK314.out⟩, ⟨by (with_reducible repeat (fail)); refine blk_far ?_ NB315_326.out _; (with_reducible repeat (fail)); refine blk_far ?_ NB315_326.out _; (with_reducible repeat (fail)); refine blk_far ?_ NB315_326.out _; (with_reducible repeat (fail)); exact BK315.out⟩, ⟨by (with_reducible repeat (fail)); refine blk_far ?_ NB324_326.out _; (with_reducible repeat (fail)); refine blk_far ?_ NB324_326.out _; (with_reducible repeat (fail)); refine blk_far ?_ NB324_326.out _; (with_reducible repeat (fail)); exact BK324.out⟩, ⟨by (with_reducible repeat (fail)); refine blk_put (cs := #[.slice A325_0 ((rd_T41 l1_3 x104_5).f0).length c325_0, .bool ((rd_T41 l1_3 x104_5).f1), .bool false]) ?_ 2 _ rfl; (with_reducible repeat (fail)); refine blk_put (cs := #[.slice A325_0 ((rd_T41 l1_3 x104_5).f0).length c325_0, .bool false, .bool false]) ?_ 1 _ rfl; (with_reducible repeat (fail)); refine blk_put (cs := #[.slice none 0 0, .bool false, .bool false]) ?_ 0 _ rfl; (with_reducible repeat (fail)); exact BK326.out⟩, ⟨by repeat ((with_reducible first | exact HB.out | refine below_set ?_ GE326.out))⟩⟩
                                  rw [if_neg c72] at H
                                  have c72b0 : (((rd_T41 l0_3 x104_5).f1) != ((rd_T41 l1_3 x104_5).f1)) = false := by simpa using c72
                                  (try (have c72b1 : decide (((rd_T41 l0_3 x104_5).f1) = ((rd_T41 l1_3 x104_5).f1)) = true := by simpa using c72))
                                  (try (have c72b2 : (((rd_T41 l0_3 x104_5).f1) == ((rd_T41 l1_3 x104_5).f1)) = true := by simpa using c72))
                                  clear c72
                                  have H' := Aside0.mk H
                                  clear H
                                  have hnb80 := NB324_314.out
                                  have hnc80 := NB314_324.out
                                  have hnb81 := NB324_315.out
                                  have hnc81 := NB315_324.out
                                  have hnb82 := NB324_326.out
                                  have hnc82 := NB326_324.out
                                  have hcz83_0 : w66.cell? ⟨gb324, 0, none⟩ = some (.slice A323_0 ((rd_T41 l0_3 x104_5).f0).length c323_0) := (blk_cell BK324.out 0).trans rfl
                                  have hcz83_1 : w66.cell? ⟨gb324, 1, none⟩ = some (.bool ((rd_T41 l0_3 x104_5).f1)) := (blk_cell BK324.out 1).trans rfl
                                  have hcz83_2 : w66.cell? ⟨gb324, 2, none⟩ = some (.bool ((rd_T41 l0_3 x104_5).f2)) := (blk_cell BK324.out 2).trans rfl
                                  have hfz83_0 := blk_frozen BK324.out 0
                                  have hfz83_1 := blk_frozen BK324.out 1
                                  have hfz83_2 := blk_frozen BK324.out 2
                                  have hnb84 := NB326_314.out
                                  have hnc84 := NB314_326.out
                                  have hnb85 := NB326_315.out
                                  have hnc85 := NB315_326.out
                                  have hcz86_0 : w66.cell? ⟨gb326, 0, none⟩ = some (.slice none 0 0) := (blk_cell BK326.out 0).trans rfl
                                  have hcz86_1 : w66.cell? ⟨gb326, 1, none⟩ = some (.bool false) := (blk_cell BK326.out 1).trans rfl
                                  have hcz86_2 : w66.cell? ⟨gb326, 2, none⟩ = some (.bool false) := (blk_cell BK326.out 2).trans rfl
                                  have hfz86_0 := blk_frozen BK326.out 0
                                  have hfz86_1 := blk_frozen BK326.out 1
                                  have hfz86_2 := blk_frozen BK326.out 2
                                  go_wp2
                                  go_meet
                                  case rel => exact ⟨_, ((((rd_T41 l0_3 x104_5).f2) != ((rd_T41 l1_3 x104_5).f2))), (by rfl), H', ⟨by have := HJ2.out; have := HK2.out; have := HK3.out; have := HK4.out; have := HK5.out; omega⟩, ⟨by (with_reducible repeat (fail)); refine blk_far ?_ NB314_326.out _; (with_reducible repeat (fail)); refine blk_far ?_ NB314_326.out _; (with_reducible repeat (fail)); refine blk_far ?_ NB314_326.out _; (with_reducible repeat (fail)); exact BK314.out⟩, ⟨by (with_reducible repeat (fail)); refine blk_far ?_ NB315_326.out _; (with_reducible repeat (fail)); refine blk_far ?_ NB315_326.out _; (with_reducible repeat (fail)); refine blk_far ?_ NB315_326.out _; (with_reducible repeat (fail)); exact BK315.out⟩, ⟨by (with_reducible repeat (fail)); refine blk_far ?_ NB324_326.out _; (with_reducible repeat (fail)); refine blk_far ?_ NB324_326.out _; (with_reducible repeat (fail)); refine blk_far ?_ NB324_326.out _; (with_reducible repeat (fail)); exact BK324.out⟩, ⟨by (with_reducible repeat (fail)); refine blk_put (cs := #[.slice A325_0 ((rd_T41 l1_3 x104_5).f0).length c325_0, .bool ((rd_T41 l1_3 x104_5).f1), .bool false]) ?_ 2 _ rfl; (with_reducible repeat (fail)); refine blk_put (cs := #[.slice A325_0 ((rd_T41 l1_3 x104_5).f0).length c325_0, .bool false, .bool false]) ?_ 1 _ rfl; (with_reducible repeat (fail)); refine blk_put (cs := #[.slice none 0 0, .bool false, .bool false]) ?_ 0 _ rfl; (with_reducible repeat (fail)); exact BK326.out⟩, ⟨by repeat ((with_reducible first | exact HB.out | refine below_set ?_ GE326.out))⟩⟩
                                rw [if_neg c71] at H
                                have c71b0 : ((((rd_T41 l0_3 x104_5).f0).length : Int) == (((rd_T41 l1_3 x104_5).f0).length : Int)) = false := beq_eq_false_iff_ne.mpr c71
                                have c71b1 : ((((rd_T41 l0_3 x104_5).f0).length : Int) != (((rd_T41 l1_3 x104_5).f0).length : Int)) = true := bne_iff_ne.mpr c71
                                have c71b2 : (((rd_T41 l0_3 x104_5).f0).length == ((rd_T41 l1_3 x104_5).f0).length) = false := by ((simp at c71 ⊢; omega))
                                (skip)
                                have H' := Aside0.mk H
                                clear H
                                have hnb87 := NB324_314.out
                                have hnc87 := NB314_324.out
                                have hnb88 := NB324_315.out
                                have hnc88 := NB315_324.out
                                have hnb89 := NB324_326.out
                                have hnc89 := NB326_324.out
                                have hcz90_0 : w66.cell? ⟨gb324, 0, none⟩ = some (.slice A323_0 ((rd_T41 l0_3 x104_5).f0).length c323_0) := (blk_cell BK324.out 0).trans rfl
                                have hcz90_1 : w66.cell? ⟨gb324, 1, none⟩ = some (.bool ((rd_T41 l0_3 x104_5).f1)) := (blk_cell BK324.out 1).trans rfl
                                have hcz90_2 : w66.cell? ⟨gb324, 2, none⟩ = some (.bool ((rd_T41 l0_3 x104_5).f2)) := (blk_cell BK324.out 2).trans rfl
                                have hfz90_0 := blk_frozen BK324.out 0
                                have hfz90_1 := blk_frozen BK324.out 1
                                have hfz90_2 := blk_frozen BK324.out 2
                                have hnb91 := NB326_314.out
                                have hnc91 := NB314_326.out
                                have hnb92 := NB326_315.out
                                have hnc92 := NB315_326.out
                                have hcz93_0 : w66.cell? ⟨gb326, 0, none⟩ = some (.slice none 0 0) := (blk_cell BK326.out 0).trans rfl
                                have hcz93_1 : w66.cell? ⟨gb326, 1, none⟩ = some (.bool false) := (blk_cell BK326.out 1).trans rfl
                                have hcz93_2 : w66.cell? ⟨gb326, 2, none⟩ = some (.bool false) := (blk_cell BK326.out 2).trans rfl
                                have hfz93_0 := blk_frozen BK326.out 0
                                have hfz93_1 := blk_frozen BK326.out 1
                                have hfz93_2 := blk_frozen BK326.out 2
                                go_wp2
                                go_meet
                                case rel => exact ⟨_, (true), (by rfl), H', ⟨by have := HJ2.out; have := HK2.out; have := HK3.out; have := HK4.out; have := HK5.out; omega⟩, ⟨by (with_reducible repeat (fail)); refine blk_far ?_ NB314_326.out _; (with_reducible repeat (fail)); refine blk_far ?_ NB314_326.out _; (with_reducible repeat (fail)); refine blk_far ?_ NB314_326.out _; (with_reducible repeat (fail)); exact BK314.out⟩, ⟨by (with_reducible repeat (fail)); refine blk_far ?_ NB315_326.out _; (with_reducible repeat (fail)); refine blk_far ?_ NB315_326.out _; (with_reducible repeat (fail)); refine blk_far ?_ NB315_326.out _; (with_reducible repeat (fail)); exact BK315.out⟩, ⟨by (with_reducible repeat (fail)); refine blk_far ?_ NB324_326.out _; (with_reducible repeat (fail)); refine blk_far ?_ NB324_326.out _; (with_reducible repeat (fail)); refine blk_far ?_ NB324_326.out _; (with_reducible repeat (fail)); exact BK324.out⟩, ⟨by (with_reducible repeat (fail)); refine blk_put (cs := #[.slice A325_0 ((rd_T41 l1_3 x104_5).f0).length c325_0, .bool ((rd_T41 l1_3 x104_5).f1), .bool false]) ?_ 2 _ rfl; (with_reducible repeat (fail)); refine blk_put (cs := #[.slice A325_0 ((rd_T41 l1_3 x104_5).f0).length c325_0, .bool false, .bool false]) ?_ 1 _ rfl; (with_reducible repeat (fail)); refine blk_put (cs := #[.slice none 0 0, .bool false, .bool false]) ?_ 0 _ rfl; (with_reducible repeat (fail)); exact BK326.out⟩, ⟨by repeat ((with_reducible first | exact HB.out | refine below_set ?_ GE326.out))⟩⟩
                              case rest =>
                                clear HC58 c54b0 c55b0 c56b0 c57b0 hcz60_0 hcz60_1 hcz60_2 hcz60_3 hcz64_0 hcz64_1 hcz64_2 hcz65_0 hcz65_1 hcz65_2 hcz65_3 hcz70_0 hcz70_1 hcz70_2 hfz60_0 hfz60_1 hfz60_2 hfz60_3 hfz64_0 hfz64_1 hfz64_2 hfz65_0 hfz65_1 hfz65_2 hfz65_3 hfz70_0 hfz70_1 hfz70_2 hx323_0 hx323_1 hx323_2 hx325_0 hx325_1 hx325_2 p323 p325 q323 q325
                                obtain ⟨kq, x137_57, rfl, HA, HJ57, BK314, BK315, BK324, BK326, HB⟩ := hcut
                                cases kq with
                                | zero => exact absurd HA.out (by simp [sacristanref09_Same.j5])
                                | succ kj57 =>
                                  have H := HA.out
                                  clear HA
                                  simp only [sacristanref09_Same.j5] at H
                                  by_cases c94 : x137_57 = true
                                  · subst c94
                                    have H1 : (some false) = some r := by rw [if_pos rfl] at H; exact H
                                    clear H
                                    have H := H1
                                    clear H1
                                    obtain rfl := Option.some.inj H
                                    go_wp2
                                    go_ret
                                    exact ⟨by rfl, by repeat ((with_reducible exact HB.out))⟩
                                  replace c94 := Bool.eq_false_iff.mpr c94
                                  subst c94
                                  have H1 : (sacristanref09_Same.l4 kj57 (l0_3.length : Int) x104_5 (((rd_T41 l0_3 x104_5).f0).length : Int) 0 l0_0 l0_1 l0_2 l0_3 l1_0 l1_1 l1_2 l1_3 ((rd_T41 l0_3 x104_5).f0) ((rd_T41 l0_3 x104_5).f1) ((rd_T41 l0_3 x104_5).f2) ((rd_T41 l1_3 x104_5).f0) ((rd_T41 l1_3 x104_5).f1) ((rd_T41 l1_3 x104_5).f2)) = some r := by rw [if_neg (show ¬ (false = true) by decide)] at H; exact H
                                  clear H
                                  have H := H1
                                  clear H1
                                  have H' := Aside0.mk H
                                  clear H
                                  have hnb95 := NB324_314.out
                                  have hnc95 := NB314_324.out
                                  have hnb96 := NB324_315.out
                                  have hnc96 := NB315_324.out
                                  have hnb97 := NB324_326.out
                                  have hnc97 := NB326_324.out
                                  have hcz98_0 : wc.cell? ⟨gb324, 0, none⟩ = some (.slice A323_0 ((rd_T41 l0_3 x104_5).f0).length c323_0) := (blk_cell BK324.out 0).trans rfl
                                  have hcz98_1 : wc.cell? ⟨gb324, 1, none⟩ = some (.bool ((rd_T41 l0_3 x104_5).f1)) := (blk_cell BK324.out 1).trans rfl
                                  have hcz98_2 : wc.cell? ⟨gb324, 2, none⟩ = some (.bool ((rd_T41 l0_3 x104_5).f2)) := (blk_cell BK324.out 2).trans rfl
                                  have hfz98_0 := blk_frozen BK324.out 0
                                  have hfz98_1 := blk_frozen BK324.out 1
                                  have hfz98_2 := blk_frozen BK324.out 2
                                  go_wp2
                                  go_loopg [141] kj57 (fun kq v141 w' => ∃ (x141_7 : Int), v141 = .int .i64 x141_7 ∧ Aside0 (sacristanref09_Same.l4 kq (l0_3.length : Int) x104_5 (((rd_T41 l0_3 x104_5).f0).length : Int) x141_7 l0_0 l0_1 l0_2 l0_3 l1_0 l1_1 l1_2 l1_3 ((rd_T41 l0_3 x104_5).f0) ((rd_T41 l0_3 x104_5).f1) ((rd_T41 l0_3 x104_5).f2) ((rd_T41 l1_3 x104_5).f0) ((rd_T41 l1_3 x104_5).f1) ((rd_T41 l1_3 x104_5).f2) = some r) ∧ Aside0 (kq ≤ kj57) ∧ Aside0 (w'.heap[gb314]? = some (.cells #[(.slice A0_0 l0_0.length c0_0), (.slice A0_1 l0_1.length c0_1), (.slice A0_2 l0_2.length c0_2), (.slice (some ad323) l0_3.length c0_3)] 30 (0, 0))) ∧ Aside0 (w'.heap[gb315]? = some (.cells #[(.slice A1_0 l1_0.length c1_0), (.slice A1_1 l1_1.length c1_1), (.slice A1_2 l1_2.length c1_2), (.slice (some ad325) l1_3.length c1_3)] 30 (0, 0))) ∧ Aside0 (w'.heap[gb324]? = some (.cells #[(.slice A323_0 ((rd_T41 l0_3 x104_5).f0).length c323_0), .bool ((rd_T41 l0_3 x104_5).f1), .bool ((rd_T41 l0_3 x104_5).f2)] 41 (0, 0))) ∧ Aside0 (w'.heap[gb326]? = some (.cells #[(.slice A325_0 ((rd_T41 l1_3 x104_5).f0).length c325_0), .bool ((rd_T41 l1_3 x104_5).f1), .bool ((rd_T41 l1_3 x104_5).f2)] 41 (0, 0))) ∧ Aside0 (Below w.heap.size w w'))
                                  case atStart => exact ⟨(0), (by rfl), H', ⟨Nat.le_refl _⟩, ⟨by (with_reducible repeat (fail)); exact BK314.out⟩, ⟨by (with_reducible repeat (fail)); exact BK315.out⟩, ⟨by (with_reducible repeat (fail)); exact BK324.out⟩, ⟨by (with_reducible repeat (fail)); exact BK326.out⟩, ⟨by repeat ((with_reducible exact HB.out))⟩⟩
                                  case round =>
                                    clear H' hcz98_0 hcz98_1 hcz98_2 hfz98_0 hfz98_1 hfz98_2
                                    obtain ⟨x141_7, rfl, HA, HK7, BK314, BK315, BK324, BK326, HB⟩ := hrel
                                    cases gk with
                                    | zero => exact absurd HA.out (by simp [sacristanref09_Same.l4])
                                    | succ k7 =>
                                      have H := HA.out
                                      clear HA
                                      simp only [sacristanref09_Same.l4] at H
                                      by_cases c99 : x141_7 < (((rd_T41 l0_3 x104_5).f0).length : Int)
                                      · rw [if_pos c99] at H
                                        have c99b0 : decide (x141_7 < (((rd_T41 l0_3 x104_5).f0).length : Int)) = true := decide_eq_true c99
                                        clear c99
                                        by_cases c100 : 0 ≤ x141_7
                                        · rw [if_pos c100] at H
                                          have c100b0 : decide (0 ≤ x141_7) = true := decide_eq_true c100
                                          clear c100
                                          by_cases c101 : x141_7 < (((rd_T41 l0_3 x104_5).f0).length : Int)
                                          · rw [if_pos c101] at H
                                            have c101b0 : decide (x141_7 < (((rd_T41 l0_3 x104_5).f0).length : Int)) = true := decide_eq_true c101
                                            clear c101
                                            by_cases c102 : x141_7 < (((rd_T41 l1_3 x104_5).f0).length : Int)
                                            · rw [if_pos c102] at H
                                              have c102b0 : decide (x141_7 < (((rd_T41 l1_3 x104_5).f0).length : Int)) = true := decide_eq_true c102
                                              clear c102
                                              by_cases c103 : (rd ((rd_T41 l0_3 x104_5).f0) x141_7) = (rd ((rd_T41 l1_3 x104_5).f0) x141_7)
                                              · rw [if_pos c103] at H
                                                have c103b0 : ((rd ((rd_T41 l0_3 x104_5).f0) x141_7) == (rd ((rd_T41 l1_3 x104_5).f0) x141_7)) = true := beq_iff_eq.mpr c103
                                                have c103b1 : ((rd ((rd_T41 l0_3 x104_5).f0) x141_7) != (rd ((rd_T41 l1_3 x104_5).f0) x141_7)) = false := bne_eq_false_iff_eq.mpr c103
                                                clear c103
                                                have H' := Aside0.mk H
                                                clear H
                                                try go_wp2
                                                have n0_ := Aside0.mk (blk_drew BK314.out)
                                                have n1_ := Aside0.mk (blk_drew BK315.out)
                                                have n2_ := Aside0.mk (blk_drew BK324.out)
                                                have n3_ := Aside0.mk (blk_drew BK326.out)
                                                have n4_ := Aside0.mk (below_drew1 HB.out)
                                                clear BK314 BK315 BK324 BK326 HB
                                                have BK314 := n0_
                                                have BK315 := n1_
                                                have BK324 := n2_
                                                have BK326 := n3_
                                                have HB := n4_
                                                clear n0_ n1_ n2_ n3_ n4_
                                                have p327 : 0 ≤ (x141_7 : Int) := of_decide_eq_true (by (with_reducible assumption))
                                                have q327 : x141_7 < (((rd_T41 l0_3 x104_5).f0).length : Int) := of_decide_eq_true (by (with_reducible assumption))
                                                obtain ⟨ad327, e327, hx327_0⟩ := Kd.at_int HR323_0.out x141_7 p327 q327
                                                have hw327_0 := hx327_0
                                                cases e327
                                                replace hx327_0 := (HB.out.cell (World.block_lt_of_cell? w _ hx327_0)).trans hx327_0
                                                replace p327 := eq_true p327
                                                replace q327 := eq_true q327
                                                have p328 : 0 ≤ (x141_7 : Int) := of_decide_eq_true (by (with_reducible assumption))
                                                have q328 : x141_7 < (((rd_T41 l1_3 x104_5).f0).length : Int) := of_decide_eq_true (by (with_reducible assumption))
                                                obtain ⟨ad328, e328, hx328_0⟩ := Kd.at_int HR325_0.out x141_7 p328 q328
                                                have hw328_0 := hx328_0
                                                cases e328
                                                replace hx328_0 := (HB.out.cell (World.block_lt_of_cell? w _ hx328_0)).trans hx328_0
                                                replace p328 := eq_true p328
                                                replace q328 := eq_true q328
                                                refine start_ (n := 11) (S := fun w' => w'.cell? ⟨gb324, 0, none⟩ = some (.slice (some ad327) ((rd_T41 l0_3 x104_5).f0).length c323_0) ∧ w'.cell? ⟨gb324, 1, none⟩ = some (.bool ((rd_T41 l0_3 x104_5).f1)) ∧ w'.cell? ⟨gb324, 2, none⟩ = some (.bool ((rd_T41 l0_3 x104_5).f2)) ∧ w'.cell? ⟨gb326, 0, none⟩ = some (.slice (some ad328) ((rd_T41 l1_3 x104_5).f0).length c325_0) ∧ w'.cell? ⟨gb326, 1, none⟩ = some (.bool ((rd_T41 l1_3 x104_5).f1)) ∧ w'.cell? ⟨gb326, 2, none⟩ = some (.bool ((rd_T41 l1_3 x104_5).f2)) ∧ w'.cell? (ad327.add (x141_7).toNat) = some (.int .i64 (rd ((rd_T41 l0_3 x104_5).f0) x141_7)) ∧ w'.cell? (ad328.add (x141_7).toNat) = some (.int .i64 (rd ((rd_T41 l1_3 x104_5).f0) x141_7))) (ds := []) #[false, false, false, false, false, false, false, false, false, false, false] (by kernel_rfl) rfl rfl ⟨(blk_cell BK324.out 0).trans rfl, (blk_cell BK324.out 1).trans rfl, (blk_cell BK324.out 2).trans rfl, (blk_cell BK326.out 0).trans rfl, (blk_cell BK326.out 1).trans rfl, (blk_cell BK326.out 2).trans rfl, ((HB.out.cell (World.block_lt_of_cell? w _ hw327_0)).trans hw327_0), ((HB.out.cell (World.block_lt_of_cell? w _ hw328_0)).trans hw328_0)⟩ (fun hHeld => ?_); refine with_tabW sacristanref09_Same.tab31 sacristanref09_Same.bits31 (fun HT_ HW_ => ?_)
                                                generalize wr.drew = w104 at BK314 BK315 BK324 BK326 HB hx327_0 hx328_0 hHeld ⊢
                                                refine pure_ (i := 0) (N := some 144) (v := ?_) (a' := ?_) #[true, false, false, false, false, false, false, false, false, false, false] rfl rfl (any_of HT_.out (by kernel_rfl)) (fun _ _ _ h => h) (Or.inl ⟨by rfl, ?_⟩) ?_ ?_
                                                rotate_left
                                                · intro w'
                                                  go_simp
                                                  with_reducible rfl
                                                rotate_left
                                                · simp only [Act.put, List.setIfInBounds_toArray, List.set_cons_zero, List.set_cons_succ, i64_w, i32_w]
                                                  rfl
                                                refine pure_ (i := 2) (N := some 146) (v := ?_) (a' := ?_) #[true, false, true, false, false, false, false, false, false, false, false] rfl rfl (any_of HT_.out (by kernel_rfl)) (fun _ _ _ h => h) (Or.inl ⟨by rfl, ?_⟩) ?_ ?_
                                                rotate_left
                                                · intro w'
                                                  go_simp
                                                  with_reducible rfl
                                                rotate_left
                                                · simp only [Act.put, List.setIfInBounds_toArray, List.set_cons_zero, List.set_cons_succ, i64_w, i32_w]
                                                  rfl
                                                refine pure_ (i := 5) (N := some 149) (v := ?_) (a' := ?_) #[true, false, true, false, false, true, false, false, false, false, false] rfl rfl (any_of HT_.out (by kernel_rfl)) (fun _ _ _ h => h) (Or.inl ⟨by rfl, ?_⟩) ?_ ?_
                                                rotate_left
                                                · intro w'
                                                  go_simp
                                                  with_reducible rfl
                                                rotate_left
                                                · simp only [Act.put, List.setIfInBounds_toArray, List.set_cons_zero, List.set_cons_succ, i64_w, i32_w]
                                                  rfl
                                                refine pure_ (i := 7) (N := some 151) (v := ?_) (a' := ?_) #[true, false, true, false, false, true, false, true, false, false, false] rfl rfl (any_of HT_.out (by kernel_rfl)) (fun _ _ _ h => h) (Or.inl ⟨by rfl, ?_⟩) ?_ ?_
                                                rotate_left
                                                · intro w'
                                                  go_simp
                                                  with_reducible rfl
                                                rotate_left
                                                · simp only [Act.put, List.setIfInBounds_toArray, List.set_cons_zero, List.set_cons_succ, i64_w, i32_w]
                                                  rfl
                                                refine take_ (i := 1) (N := some 145) (v := ?_) (a' := ?_) #[true, true, true, false, false, true, false, true, false, false, false] rfl rfl (take_ofW HT_.out HW_.out (by kernel_rfl)) (fun _ _ _ h => h) (Or.inl ⟨by rfl, ?_⟩) hHeld ?_ ?_
                                                rotate_left
                                                · rintro w' ⟨s0, s1, s2, s3, s4, s5, s6, s7⟩
                                                  go_simp
                                                  with_reducible rfl
                                                rotate_left
                                                · simp only [Act.put, List.setIfInBounds_toArray, List.set_cons_zero, List.set_cons_succ, i64_w, i32_w]
                                                  rfl
                                                refine pure_ (i := 3) (N := some 147) (v := ?_) (a' := ?_) #[true, true, true, true, false, true, false, true, false, false, false] rfl rfl (any_of HT_.out (by kernel_rfl)) (fun _ _ _ h => h) (Or.inl ⟨by rfl, ?_⟩) ?_ ?_
                                                rotate_left
                                                · intro w'
                                                  go_simp
                                                  with_reducible rfl
                                                rotate_left
                                                · simp only [Act.put, List.setIfInBounds_toArray, List.set_cons_zero, List.set_cons_succ, i64_w, i32_w]
                                                  rfl
                                                refine take_ (i := 4) (N := some 148) (v := ?_) (a' := ?_) #[true, true, true, true, true, true, false, true, false, false, false] rfl rfl (take_ofW HT_.out HW_.out (by kernel_rfl)) (fun _ _ _ h => h) (Or.inl ⟨by rfl, ?_⟩) hHeld ?_ ?_
                                                rotate_left
                                                · rintro w' ⟨s0, s1, s2, s3, s4, s5, s6, s7⟩
                                                  go_simp
                                                  with_reducible rfl
                                                rotate_left
                                                · simp only [Act.put, List.setIfInBounds_toArray, List.set_cons_zero, List.set_cons_succ, i64_w, i32_w]
                                                  rfl
                                                refine take_ (i := 6) (N := some 150) (v := ?_) (a' := ?_) #[true, true, true, true, true, true, true, true, false, false, false] rfl rfl (take_ofW HT_.out HW_.out (by kernel_rfl)) (fun _ _ _ h => h) (Or.inl ⟨by rfl, ?_⟩) hHeld ?_ ?_
                                                rotate_left
                                                · rintro w' ⟨s0, s1, s2, s3, s4, s5, s6, s7⟩
                                                  go_simp
                                                  with_reducible rfl
                                                rotate_left
                                                · simp only [Act.put, List.setIfInBounds_toArray, List.set_cons_zero, List.set_cons_succ, i64_w, i32_w]
                                                  rfl
                                                refine pure_ (i := 8) (N := some 152) (v := ?_) (a' := ?_) #[true, true, true, true, true, true, true, true, true, false, false] rfl rfl (any_of HT_.out (by kernel_rfl)) (fun _ _ _ h => h) (Or.inl ⟨by rfl, ?_⟩) ?_ ?_
                                                rotate_left
                                                · intro w'
                                                  go_simp
                                                  with_reducible rfl
                                                rotate_left
                                                · simp only [Act.put, List.setIfInBounds_toArray, List.set_cons_zero, List.set_cons_succ, i64_w, i32_w]
                                                  rfl
                                                refine take_ (i := 9) (N := some 153) (v := ?_) (a' := ?_) #[true, true, true, true, true, true, true, true, true, true, false] rfl rfl (take_ofW HT_.out HW_.out (by kernel_rfl)) (fun _ _ _ h => h) (Or.inl ⟨by rfl, ?_⟩) hHeld ?_ ?_
                                                rotate_left
                                                · rintro w' ⟨s0, s1, s2, s3, s4, s5, s6, s7⟩
                                                  go_simp
                                                  with_reducible rfl
                                                rotate_left
                                                · simp only [Act.put, List.setIfInBounds_toArray, List.set_cons_zero, List.set_cons_succ, i64_w, i32_w]
                                                  rfl
                                                refine pure_ (i := 10) (N := some 154) (v := ?_) (a' := ?_) #[true, true, true, true, true, true, true, true, true, true, true] rfl rfl (any_of HT_.out (by kernel_rfl)) (fun _ _ _ h => h) (Or.inl ⟨by rfl, ?_⟩) ?_ ?_
                                                rotate_left
                                                · intro w'
                                                  go_simp
                                                  with_reducible rfl
                                                rotate_left
                                                · simp only [Act.put, List.setIfInBounds_toArray, List.set_cons_zero, List.set_cons_succ, i64_w, i32_w]
                                                  rfl
                                                refine done_ (done_of HT_.out (by kernel_rfl)) ?_
                                                try go_wp2
                                                go_roundg k7
                                                case measure => have := HJ2.out; have := HK2.out; have := HK3.out; have := HK4.out; have := HK5.out; have := HJ57.out; have := HK7.out; omega
                                                case rel => exact ⟨(wrap64 (x141_7 + 1)), (by rfl), H', ⟨by have := HJ2.out; have := HK2.out; have := HK3.out; have := HK4.out; have := HK5.out; have := HJ57.out; have := HK7.out; omega⟩, ⟨by (with_reducible repeat (fail)); exact BK314.out⟩, ⟨by (with_reducible repeat (fail)); exact BK315.out⟩, ⟨by (with_reducible repeat (fail)); exact BK324.out⟩, ⟨by (with_reducible repeat (fail)); exact BK326.out⟩, ⟨by repeat ((with_reducible exact HB.out))⟩⟩
                                              rw [if_neg c103] at H
                                              have c103b0 : ((rd ((rd_T41 l0_3 x104_5).f0) x141_7) == (rd ((rd_T41 l1_3 x104_5).f0) x141_7)) = false := beq_eq_false_iff_ne.mpr c103
                                              have c103b1 : ((rd ((rd_T41 l0_3 x104_5).f0) x141_7) != (rd ((rd_T41 l1_3 x104_5).f0) x141_7)) = true := bne_iff_ne.mpr c103
                                              obtain rfl := Option.some.inj H
                                              try go_wp2
                                              have n0_ := Aside0.mk (blk_drew BK314.out)
                                              have n1_ := Aside0.mk (blk_drew BK315.out)
                                              have n2_ := Aside0.mk (blk_drew BK324.out)
                                              have n3_ := Aside0.mk (blk_drew BK326.out)
                                              have n4_ := Aside0.mk (below_drew1 HB.out)
                                              clear BK314 BK315 BK324 BK326 HB
                                              have BK314 := n0_
                                              have BK315 := n1_
                                              have BK324 := n2_
                                              have BK326 := n3_
                                              have HB := n4_
                                              clear n0_ n1_ n2_ n3_ n4_
                                              have p327 : 0 ≤ (x141_7 : Int) := of_decide_eq_true (by (with_reducible assumption))
                                              have q327 : x141_7 < (((rd_T41 l0_3 x104_5).f0).length : Int) := of_decide_eq_true (by (with_reducible assumption))
                                              obtain ⟨ad327, e327, hx327_0⟩ := Kd.at_int HR323_0.out x141_7 p327 q327
                                              have hw327_0 := hx327_0
                                              cases e327
                                              replace hx327_0 := (HB.out.cell (World.block_lt_of_cell? w _ hx327_0)).trans hx327_0
                                              replace p327 := eq_true p327
                                              replace q327 := eq_true q327
                                              have p328 : 0 ≤ (x141_7 : Int) := of_decide_eq_true (by (with_reducible assumption))
                                              have q328 : x141_7 < (((rd_T41 l1_3 x104_5).f0).length : Int) := of_decide_eq_true (by (with_reducible assumption))
                                              obtain ⟨ad328, e328, hx328_0⟩ := Kd.at_int HR325_0.out x141_7 p328 q328
                                              have hw328_0 := hx328_0
                                              cases e328
                                              replace hx328_0 := (HB.out.cell (World.block_lt_of_cell? w _ hx328_0)).trans hx328_0
                                              replace p328 := eq_true p328
                                              replace q328 := eq_true q328
                                              refine start_ (n := 11) (S := fun w' => w'.cell? ⟨gb324, 0, none⟩ = some (.slice (some ad327) ((rd_T41 l0_3 x104_5).f0).length c323_0) ∧ w'.cell? ⟨gb324, 1, none⟩ = some (.bool ((rd_T41 l0_3 x104_5).f1)) ∧ w'.cell? ⟨gb324, 2, none⟩ = some (.bool ((rd_T41 l0_3 x104_5).f2)) ∧ w'.cell? ⟨gb326, 0, none⟩ = some (.slice (some ad328) ((rd_T41 l1_3 x104_5).f0).length c325_0) ∧ w'.cell? ⟨gb326, 1, none⟩ = some (.bool ((rd_T41 l1_3 x104_5).f1)) ∧ w'.cell? ⟨gb326, 2, none⟩ = some (.bool ((rd_T41 l1_3 x104_5).f2)) ∧ w'.cell? (ad327.add (x141_7).toNat) = some (.int .i64 (rd ((rd_T41 l0_3 x104_5).f0) x141_7)) ∧ w'.cell? (ad328.add (x141_7).toNat) = some (.int .i64 (rd ((rd_T41 l1_3 x104_5).f0) x141_7))) (ds := []) #[false, false, false, false, false, false, false, false, false, false, false] (by kernel_rfl) rfl rfl ⟨(blk_cell BK324.out 0).trans rfl, (blk_cell BK324.out 1).trans rfl, (blk_cell BK324.out 2).trans rfl, (blk_cell BK326.out 0).trans rfl, (blk_cell BK326.out 1).trans rfl, (blk_cell BK326.out 2).trans rfl, ((HB.out.cell (World.block_lt_of_cell? w _ hw327_0)).trans hw327_0), ((HB.out.cell (World.block_lt_of_cell? w _ hw328_0)).trans hw328_0)⟩ (fun hHeld => ?_); refine with_tabW sacristanref09_Same.tab31 sacristanref09_Same.bits31 (fun HT_ HW_ => ?_)
                                              generalize wr.drew = w105 at BK314 BK315 BK324 BK326 HB hx327_0 hx328_0 hHeld ⊢
                                              refine pure_ (i := 0) (N := some 144) (v := ?_) (a' := ?_) #[true, false, false, false, false, false, false, false, false, false, false] rfl rfl (any_of HT_.out (by kernel_rfl)) (fun _ _ _ h => h) (Or.inl ⟨by rfl, ?_⟩) ?_ ?_
                                              rotate_left
                                              · intro w'
                                                go_simp
                                                with_reducible rfl
                                              rotate_left
                                              · simp only [Act.put, List.setIfInBounds_toArray, List.set_cons_zero, List.set_cons_succ, i64_w, i32_w]
                                                rfl
                                              refine pure_ (i := 2) (N := some 146) (v := ?_) (a' := ?_) #[true, false, true, false, false, false, false, false, false, false, false] rfl rfl (any_of HT_.out (by kernel_rfl)) (fun _ _ _ h => h) (Or.inl ⟨by rfl, ?_⟩) ?_ ?_
                                              rotate_left
                                              · intro w'
                                                go_simp
                                                with_reducible rfl
                                              rotate_left
                                              · simp only [Act.put, List.setIfInBounds_toArray, List.set_cons_zero, List.set_cons_succ, i64_w, i32_w]
                                                rfl
                                              refine pure_ (i := 5) (N := some 149) (v := ?_) (a' := ?_) #[true, false, true, false, false, true, false, false, false, false, false] rfl rfl (any_of HT_.out (by kernel_rfl)) (fun _ _ _ h => h) (Or.inl ⟨by rfl, ?_⟩) ?_ ?_
                                              rotate_left
                                              · intro w'
                                                go_simp
                                                with_reducible rfl
                                              rotate_left
                                              · simp only [Act.put, List.setIfInBounds_toArray, List.set_cons_zero, List.set_cons_succ, i64_w, i32_w]
                                                rfl
                                              refine pure_ (i := 7) (N := some 151) (v := ?_) (a' := ?_) #[true, false, true, false, false, true, false, true, false, false, false] rfl rfl (any_of HT_.out (by kernel_rfl)) (fun _ _ _ h => h) (Or.inl ⟨by rfl, ?_⟩) ?_ ?_
                                              rotate_left
                                              · intro w'
                                                go_simp
                                                with_reducible rfl
                                              rotate_left
                                              · simp only [Act.put, List.setIfInBounds_toArray, List.set_cons_zero, List.set_cons_succ, i64_w, i32_w]
                                                rfl
                                              refine take_ (i := 1) (N := some 145) (v := ?_) (a' := ?_) #[true, true, true, false, false, true, false, true, false, false, false] rfl rfl (take_ofW HT_.out HW_.out (by kernel_rfl)) (fun _ _ _ h => h) (Or.inl ⟨by rfl, ?_⟩) hHeld ?_ ?_
                                              rotate_left
                                              · rintro w' ⟨s0, s1, s2, s3, s4, s5, s6, s7⟩
                                                go_simp
                                                with_reducible rfl
                                              rotate_left
                                              · simp only [Act.put, List.setIfInBounds_toArray, List.set_cons_zero, List.set_cons_succ, i64_w, i32_w]
                                                rfl
                                              refine pure_ (i := 3) (N := some 147) (v := ?_) (a' := ?_) #[true, true, true, true, false, true, false, true, false, false, false] rfl rfl (any_of HT_.out (by kernel_rfl)) (fun _ _ _ h => h) (Or.inl ⟨by rfl, ?_⟩) ?_ ?_
                                              rotate_left
                                              · intro w'
                                                go_simp
                                                with_reducible rfl
                                              rotate_left
                                              · simp only [Act.put, List.setIfInBounds_toArray, List.set_cons_zero, List.set_cons_succ, i64_w, i32_w]
                                                rfl
                                              refine take_ (i := 4) (N := some 148) (v := ?_) (a' := ?_) #[true, true, true, true, true, true, false, true, false, false, false] rfl rfl (take_ofW HT_.out HW_.out (by kernel_rfl)) (fun _ _ _ h => h) (Or.inl ⟨by rfl, ?_⟩) hHeld ?_ ?_
                                              rotate_left
                                              · rintro w' ⟨s0, s1, s2, s3, s4, s5, s6, s7⟩
                                                go_simp
                                                with_reducible rfl
                                              rotate_left
                                              · simp only [Act.put, List.setIfInBounds_toArray, List.set_cons_zero, List.set_cons_succ, i64_w, i32_w]
                                                rfl
                                              refine take_ (i := 6) (N := some 150) (v := ?_) (a' := ?_) #[true, true, true, true, true, true, true, true, false, false, false] rfl rfl (take_ofW HT_.out HW_.out (by kernel_rfl)) (fun _ _ _ h => h) (Or.inl ⟨by rfl, ?_⟩) hHeld ?_ ?_
                                              rotate_left
                                              · rintro w' ⟨s0, s1, s2, s3, s4, s5, s6, s7⟩
                                                go_simp
                                                with_reducible rfl
                                              rotate_left
                                              · simp only [Act.put, List.setIfInBounds_toArray, List.set_cons_zero, List.set_cons_succ, i64_w, i32_w]
                                                rfl
                                              refine pure_ (i := 8) (N := some 152) (v := ?_) (a' := ?_) #[true, true, true, true, true, true, true, true, true, false, false] rfl rfl (any_of HT_.out (by kernel_rfl)) (fun _ _ _ h => h) (Or.inl ⟨by rfl, ?_⟩) ?_ ?_
                                              rotate_left
                                              · intro w'
                                                go_simp
                                                with_reducible rfl
                                              rotate_left
                                              · simp only [Act.put, List.setIfInBounds_toArray, List.set_cons_zero, List.set_cons_succ, i64_w, i32_w]
                                                rfl
                                              refine take_ (i := 9) (N := some 153) (v := ?_) (a' := ?_) #[true, true, true, true, true, true, true, true, true, true, false] rfl rfl (take_ofW HT_.out HW_.out (by kernel_rfl)) (fun _ _ _ h => h) (Or.inl ⟨by rfl, ?_⟩) hHeld ?_ ?_
                                              rotate_left
                                              · rintro w' ⟨s0, s1, s2, s3, s4, s5, s6, s7⟩
                                                go_simp
                                                with_reducible rfl
                                              rotate_left
                                              · simp only [Act.put, List.setIfInBounds_toArray, List.set_cons_zero, List.set_cons_succ, i64_w, i32_w]
                                                rfl
                                              refine pure_ (i := 10) (N := some 154) (v := ?_) (a' := ?_) #[true, true, true, true, true, true, true, true, true, true, true] rfl rfl (any_of HT_.out (by kernel_rfl)) (fun _ _ _ h => h) (Or.inl ⟨by rfl, ?_⟩) ?_ ?_
                                              rotate_left
                                              · intro w'
                                                go_simp
                                                with_reducible rfl
                                              rotate_left
                                              · simp only [Act.put, List.setIfInBounds_toArray, List.set_cons_zero, List.set_cons_succ, i64_w, i32_w]
                                                rfl
                                              refine done_ (done_of HT_.out (by kernel_rfl)) ?_
                                              try go_wp2
                                              go_ret
                                              exact ⟨by rfl, by repeat ((with_reducible exact HB.out))⟩
                                            rw [if_neg c102] at H
                                            exact absurd H (by simp)
                                          rw [if_neg c101] at H
                                          exact absurd H (by simp)
                                        rw [if_neg c100] at H
                                        exact absurd H (by simp)
                                      rw [if_neg c99] at H
                                      have c99b0 : decide (x141_7 < (((rd_T41 l0_3 x104_5).f0).length : Int)) = false := decide_eq_false c99
                                      clear c99
                                      have H' := Aside0.mk H
                                      clear H
                                      go_wp2
                                      go_roundg k7
                                      case measure => have := HJ2.out; have := HK2.out; have := HK3.out; have := HK4.out; have := HK5.out; have := HJ57.out; have := HK7.out; omega
                                      case rel => exact ⟨(wrap64 (x104_5 + 1)), (by rfl), H', ⟨by have := HJ2.out; have := HK2.out; have := HK3.out; have := HK4.out; have := HK5.out; have := HJ57.out; have := HK7.out; omega⟩, ⟨by (with_reducible repeat (fail)); exact BK314.out⟩, ⟨by (with_reducible repeat (fail)); exact BK315.out⟩, ⟨by repeat ((with_reducible exact HB.out))⟩⟩
                            rw [if_neg c57] at H
                            exact absurd H (by simp)
                          rw [if_neg c56] at H
                          exact absurd H (by simp)
                        rw [if_neg c55] at H
                        exact absurd H (by simp)
                      rw [if_neg c54] at H
                      have c54b0 : decide (x104_5 < (l0_3.length : Int)) = false := decide_eq_false c54
                      clear c54
                      obtain rfl := Option.some.inj H
                      go_wp2
                      go_ret
                      exact ⟨by rfl, by repeat ((with_reducible exact HB.out))⟩

end Go.Proofs.YtfncoldcjhkhiaaDoor.PC
