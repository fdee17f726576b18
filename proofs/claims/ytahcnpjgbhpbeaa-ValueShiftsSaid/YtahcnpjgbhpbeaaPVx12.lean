-- Own text: made by this session's variant of the printer (wip/mkpp.py); Lean checks it.
import Derived.Test.YtahcnpjgbhpbeaaPVx0
import Derived.Test.YtahcnpjgbhpbeaaPVx1
import Derived.Test.YtahcnpjgbhpbeaaPVx2
import Derived.Test.YtahcnpjgbhpbeaaPVx4
import Derived.Test.YtahcnpjgbhpbeaaPVx5
namespace Go.Proofs.Ytahcnpjgbhpbeaa.PV
open Go.RowKit Go.Proofs.YtahcnpjgbhpbeaaW.PrintWords Go.Proofs.YtahcnpjgbhpbeaaW.PrintLast Go.Proofs.YtahcnpjgbhpbeaaW.PrintMore Go.Proofs.YtahcnpjgbhpbeaaW.Own
attribute [local go_sem high] own_gtr own_leq own_geq
attribute [local go_sem] max2_int min2_int max_two min_two max_three min_three max_four min_four   -- for this text's walks alone
set_option linter.unusedVariables false
set_option linter.unusedSimpArgs false

attribute [local go_sem high] eqA26
/-! ### sacristanlaw01_ValueShifts: function 10 -/
mutual
def sacristanlaw01_ValueShifts.j0 : Nat → Int → Int → Int → Bool → Option (Bool)
  | 0, _, _, _, _ => none
  | k + 1, x0, x7, x8, x76 => if x76 = true then (some false) else (if (wrap64 (x7 + x8)) > 63 then ((sacristanlaw01_awake.f k).bind fun t479 => (some t479)) else ((value_Of.f x0).bind fun bt480 => ((value_Of.f x7).bind fun bt483 => ((value_Two.f k (⟨#[115, 104, 114]⟩ : ByteArray) bt480.1 bt480.2.1 bt480.2.2 bt483.1 bt483.2.1 bt483.2.2).bind fun bt486 => ((value_Of.f x8).bind fun bt491 => ((value_Two.f k (⟨#[115, 104, 114]⟩ : ByteArray) bt486.1 bt486.2.1 bt486.2.2.1 bt491.1 bt491.2.1 bt491.2.2).bind fun bt494 => ((value_Of.f x0).bind fun bt499 => ((value_Of.f (wrap64 (x7 + x8))).bind fun bt502 => ((value_Two.f k (⟨#[115, 104, 114]⟩ : ByteArray) bt499.1 bt499.2.1 bt499.2.2 bt502.1 bt502.2.1 bt502.2.2).bind fun bt505 => (if (bt494.1 == bt505.1 && (bt494.2.1 == bt505.2.1 && (bt494.2.2.1.toList == bt505.2.2.1.toList))) = true then ((sacristanlaw01_awake.f k).bind fun t510 => (sacristanlaw01_ValueShifts.j1 k t510)) else (sacristanlaw01_ValueShifts.j1 k false)))))))))))
def sacristanlaw01_ValueShifts.j1 : Nat → Bool → Option (Bool)
  | 0, _ => none
  | k + 1, x6 => some x6
end
def sacristanlaw01_ValueShifts.f (k : Nat) (a0 : Int) (a1 : Int) (a2 : Int) : Option (Bool) := (value_Of.f a0).bind fun bt441 => ((value_Of.f (wrap64 (Int.tmod a1 64))).bind fun bt444 => ((value_Two.f k (⟨#[115, 104, 108]⟩ : ByteArray) bt441.1 bt441.2.1 bt441.2.2 bt444.1 bt444.2.1 bt444.2.2).bind fun bt447 => ((value_Of.f (wrap64 (Int.tmod a1 64))).bind fun bt452 => ((value_Two.f k (⟨#[117, 115, 104, 114]⟩ : ByteArray) bt447.1 bt447.2.1 bt447.2.2.1 bt452.1 bt452.2.1 bt452.2.2).bind fun bt455 => ((value_Of.f (-1)).bind fun bt460 => ((value_Of.f (wrap64 (Int.tmod a1 64))).bind fun bt463 => ((value_Two.f k (⟨#[117, 115, 104, 114]⟩ : ByteArray) bt460.1 bt460.2.1 bt460.2.2 bt463.1 bt463.2.1 bt463.2.2).bind fun bt466 => ((value_Of.f a0).bind fun bt471 => ((value_Two.f k (⟨#[97, 110, 100]⟩ : ByteArray) bt471.1 bt471.2.1 bt471.2.2 bt466.1 bt466.2.1 bt466.2.2.1).bind fun bt474 => (if bt447.2.2.2 = 0 then (if bt455.2.2.2 = 0 then (if bt466.2.2.2 = 0 then (if bt474.2.2.2 = 0 then (sacristanlaw01_ValueShifts.j0 k a0 (wrap64 (Int.tmod a1 64)) (wrap64 (Int.tmod a2 64)) (!(bt455.1 == bt474.1) || (!(bt455.2.1 == bt474.2.1) || (!(bt455.2.2.1.toList == bt474.2.2.1.toList))))) else (sacristanlaw01_ValueShifts.j0 k a0 (wrap64 (Int.tmod a1 64)) (wrap64 (Int.tmod a2 64)) true)) else (sacristanlaw01_ValueShifts.j0 k a0 (wrap64 (Int.tmod a1 64)) (wrap64 (Int.tmod a2 64)) true)) else (sacristanlaw01_ValueShifts.j0 k a0 (wrap64 (Int.tmod a1 64)) (wrap64 (Int.tmod a2 64)) true)) else (sacristanlaw01_ValueShifts.j0 k a0 (wrap64 (Int.tmod a1 64)) (wrap64 (Int.tmod a2 64)) true)))))))))))
theorem sacristanlaw01_ValueShifts.mono_l : ∀ k, (∀ y0 y1 y2 y3, LeO (sacristanlaw01_ValueShifts.j0 k y0 y1 y2 y3) (sacristanlaw01_ValueShifts.j0 (k + 1) y0 y1 y2 y3)) ∧ (∀ y0, LeO (sacristanlaw01_ValueShifts.j1 k y0) (sacristanlaw01_ValueShifts.j1 (k + 1) y0))
  | 0 => ⟨fun _ _ _ _ r h => by simp [sacristanlaw01_ValueShifts.j0] at h, fun _ r h => by simp [sacristanlaw01_ValueShifts.j1] at h⟩
  | k + 1 => by
    obtain ⟨ih0, ih1⟩ := sacristanlaw01_ValueShifts.mono_l k
    refine ⟨?_, ?_⟩
    · intro y0 y1 y2 y3
      unfold sacristanlaw01_ValueShifts.j0
      repeat' first
      | (with_reducible exact ih0 _ _ _ _)
      | (with_reducible exact ih1 _)
      | (with_reducible exact sacristanlaw01_awake.mono _)
      | (with_reducible exact value_Two.mono _ _ _ _ _ _ _ _)
      | (with_reducible exact LeO.refl _)
      | (with_reducible exact LeO.none _)
      | (with_reducible refine LeO.ite ?_ ?_)
      | (with_reducible refine LeO.bind ?_ (fun _ => ?_))
      | exact ih0 _ _ _ _
      | exact ih1 _
      | exact sacristanlaw01_awake.mono _
      | exact value_Two.mono _ _ _ _ _ _ _ _
      | exact LeO.none _
      | refine LeO.ite ?_ ?_
      | refine LeO.bind ?_ (fun _ => ?_)
    · intro y0
      unfold sacristanlaw01_ValueShifts.j1
      repeat' first
      | (with_reducible exact ih0 _ _ _ _)
      | (with_reducible exact ih1 _)
      | (with_reducible exact sacristanlaw01_awake.mono _)
      | (with_reducible exact value_Two.mono _ _ _ _ _ _ _ _)
      | (with_reducible exact LeO.refl _)
      | (with_reducible exact LeO.none _)
      | (with_reducible refine LeO.ite ?_ ?_)
      | (with_reducible refine LeO.bind ?_ (fun _ => ?_))
      | exact ih0 _ _ _ _
      | exact ih1 _
      | exact sacristanlaw01_awake.mono _
      | exact value_Two.mono _ _ _ _ _ _ _ _
      | exact LeO.none _
      | refine LeO.ite ?_ ?_
      | refine LeO.bind ?_ (fun _ => ?_)
theorem sacristanlaw01_ValueShifts.mono : ∀ a0 a1 a2 k, LeO (sacristanlaw01_ValueShifts.f k a0 a1 a2) (sacristanlaw01_ValueShifts.f (k + 1) a0 a1 a2) := by
  intro a0 a1 a2 k
  obtain ⟨ih0, ih1⟩ := sacristanlaw01_ValueShifts.mono_l k
  unfold sacristanlaw01_ValueShifts.f
  repeat' first
      | (with_reducible exact ih0 _ _ _ _)
      | (with_reducible exact ih1 _)
      | (with_reducible exact sacristanlaw01_awake.mono _)
      | (with_reducible exact value_Two.mono _ _ _ _ _ _ _ _)
      | (with_reducible exact LeO.refl _)
      | (with_reducible exact LeO.none _)
      | (with_reducible refine LeO.ite ?_ ?_)
      | (with_reducible refine LeO.bind ?_ (fun _ => ?_))
      | exact ih0 _ _ _ _
      | exact ih1 _
      | exact sacristanlaw01_awake.mono _
      | exact value_Two.mono _ _ _ _ _ _ _ _
      | exact LeO.none _
      | refine LeO.ite ?_ ?_
      | refine LeO.bind ?_ (fun _ => ?_)
def sacristanlaw01_ValueShifts.T3 : Bool × List (List Nat × List Nat) := (true, [([], []), ([], []), ([1], [1]), ([0, 2, 2], [0, 2]), ([3], [3]), ([4], [4]), ([4], [4]), ([], []), ([7, 5, 3, 0, 1, 2, 3, 4, 5, 7], [5, 7]), ([6, 8, 0, 1, 2, 3, 4, 5, 6, 7, 8], [6])])
def sacristanlaw01_ValueShifts.B3 : List Nat := [0, 0, 2, 7, 15, 31, 31, 0, 191, 511]
theorem sacristanlaw01_ValueShifts.tab3 : rtab .any (opsOf Try.f10 3) = sacristanlaw01_ValueShifts.T3 := by kernel_rfl
theorem sacristanlaw01_ValueShifts.bits3 : waitsOk sacristanlaw01_ValueShifts.T3.2 sacristanlaw01_ValueShifts.B3 = true := by kernel_rfl
def sacristanlaw01_ValueShifts.T5 : Bool × List (List Nat × List Nat) := (true, [([], []), ([0], [0]), ([], []), ([1, 2, 1], [1, 2]), ([3], [3]), ([4], [4]), ([4], [4]), ([], []), ([7, 5, 3, 0, 1, 2, 3, 4, 5, 7], [5, 7]), ([6, 8, 0, 1, 2, 3, 4, 5, 6, 7, 8], [6])])
def sacristanlaw01_ValueShifts.B5 : List Nat := [0, 1, 0, 7, 15, 31, 31, 0, 191, 511]
theorem sacristanlaw01_ValueShifts.tab5 : rtab .any (opsOf Try.f10 5) = sacristanlaw01_ValueShifts.T5 := by kernel_rfl
theorem sacristanlaw01_ValueShifts.bits5 : waitsOk sacristanlaw01_ValueShifts.T5.2 sacristanlaw01_ValueShifts.B5 = true := by kernel_rfl
def sacristanlaw01_ValueShifts.T11 : Bool × List (List Nat × List Nat) := (true, [([], []), ([], []), ([1], [1]), ([0, 2, 2], [0, 2]), ([3], [3]), ([4], [4]), ([4], [4]), ([], []), ([7, 5, 3, 0, 1, 2, 3, 4, 5, 7], [5, 7]), ([6, 8, 0, 1, 2, 3, 4, 5, 6, 7, 8], [6])])
def sacristanlaw01_ValueShifts.B11 : List Nat := [0, 0, 2, 7, 15, 31, 31, 0, 191, 511]
theorem sacristanlaw01_ValueShifts.tab11 : rtab .any (opsOf Try.f10 11) = sacristanlaw01_ValueShifts.T11 := by kernel_rfl
theorem sacristanlaw01_ValueShifts.bits11 : waitsOk sacristanlaw01_ValueShifts.T11.2 sacristanlaw01_ValueShifts.B11 = true := by kernel_rfl
set_option maxHeartbeats 8000000 in
set_option maxRecDepth 100000 in
theorem sacristanlaw01_ValueShifts.calls (k : Nat) (a0 : Int) (a1 : Int) (a2 : Int) (r : Bool) (w : World) (h : sacristanlaw01_ValueShifts.f k a0 a1 a2 = some r) :
    Calls Try.prog 10 #[.int .i64 a0, .int .u8 a1, .int .u8 a2] w fun e w' => e = .returned (.bool r) ∧ Below w.heap.size w w' := by
  have hu26 := Try.underlying26
  have HB := Aside0.mk (Below.refl w.heap.size w)
  have H : ((value_Of.f a0).bind fun bt441 => ((value_Of.f (wrap64 (Int.tmod a1 64))).bind fun bt444 => ((value_Two.f k (⟨#[115, 104, 108]⟩ : ByteArray) bt441.1 bt441.2.1 bt441.2.2 bt444.1 bt444.2.1 bt444.2.2).bind fun bt447 => ((value_Of.f (wrap64 (Int.tmod a1 64))).bind fun bt452 => ((value_Two.f k (⟨#[117, 115, 104, 114]⟩ : ByteArray) bt447.1 bt447.2.1 bt447.2.2.1 bt452.1 bt452.2.1 bt452.2.2).bind fun bt455 => ((value_Of.f (-1)).bind fun bt460 => ((value_Of.f (wrap64 (Int.tmod a1 64))).bind fun bt463 => ((value_Two.f k (⟨#[117, 115, 104, 114]⟩ : ByteArray) bt460.1 bt460.2.1 bt460.2.2 bt463.1 bt463.2.1 bt463.2.2).bind fun bt466 => ((value_Of.f a0).bind fun bt471 => ((value_Two.f k (⟨#[97, 110, 100]⟩ : ByteArray) bt471.1 bt471.2.1 bt471.2.2 bt466.1 bt466.2.1 bt466.2.2.1).bind fun bt474 => (if bt447.2.2.2 = 0 then (if bt455.2.2.2 = 0 then (if bt466.2.2.2 = 0 then (if bt474.2.2.2 = 0 then (sacristanlaw01_ValueShifts.j0 k a0 (wrap64 (Int.tmod a1 64)) (wrap64 (Int.tmod a2 64)) (!(bt455.1 == bt474.1) || (!(bt455.2.1 == bt474.2.1) || (!(bt455.2.2.1.toList == bt474.2.2.1.toList))))) else (sacristanlaw01_ValueShifts.j0 k a0 (wrap64 (Int.tmod a1 64)) (wrap64 (Int.tmod a2 64)) true)) else (sacristanlaw01_ValueShifts.j0 k a0 (wrap64 (Int.tmod a1 64)) (wrap64 (Int.tmod a2 64)) true)) else (sacristanlaw01_ValueShifts.j0 k a0 (wrap64 (Int.tmod a1 64)) (wrap64 (Int.tmod a2 64)) true)) else (sacristanlaw01_ValueShifts.j0 k a0 (wrap64 (Int.tmod a1 64)) (wrap64 (Int.tmod a2 64)) true)))))))))))) = some r := h
  clear h
  replace H := Option.bind_eq_some_iff.mp H
  obtain ⟨⟨t441, t442, t443⟩, A40, H⟩ := H
  (try dsimp only at H)
  have A4 := Aside0.mk A40
  clear A40
  replace H := Option.bind_eq_some_iff.mp H
  obtain ⟨⟨t444, t445, t446⟩, A50, H⟩ := H
  (try dsimp only at H)
  have A5 := Aside0.mk A50
  clear A50
  replace H := Option.bind_eq_some_iff.mp H
  obtain ⟨⟨t447, t448, t449, t450⟩, A60, H⟩ := H
  (try dsimp only at H)
  have A6 := Aside0.mk A60
  clear A60
  replace H := Option.bind_eq_some_iff.mp H
  obtain ⟨⟨t452, t453, t454⟩, A70, H⟩ := H
  (try dsimp only at H)
  have A7 := Aside0.mk A70
  clear A70
  replace H := Option.bind_eq_some_iff.mp H
  obtain ⟨⟨t455, t456, t457, t458⟩, A80, H⟩ := H
  (try dsimp only at H)
  have A8 := Aside0.mk A80
  clear A80
  replace H := Option.bind_eq_some_iff.mp H
  obtain ⟨⟨t460, t461, t462⟩, A90, H⟩ := H
  (try dsimp only at H)
  have A9 := Aside0.mk A90
  clear A90
  replace H := Option.bind_eq_some_iff.mp H
  obtain ⟨⟨t463, t464, t465⟩, A100, H⟩ := H
  (try dsimp only at H)
  have A10 := Aside0.mk A100
  clear A100
  replace H := Option.bind_eq_some_iff.mp H
  obtain ⟨⟨t466, t467, t468, t469⟩, A110, H⟩ := H
  (try dsimp only at H)
  have A11 := Aside0.mk A110
  clear A110
  replace H := Option.bind_eq_some_iff.mp H
  obtain ⟨⟨t471, t472, t473⟩, A120, H⟩ := H
  (try dsimp only at H)
  have A12 := Aside0.mk A120
  clear A120
  replace H := Option.bind_eq_some_iff.mp H
  obtain ⟨⟨t474, t475, t476, t477⟩, A130, H⟩ := H
  (try dsimp only at H)
  have A13 := Aside0.mk A130
  clear A130
  have HC14 := Aside0.mk H
  clear H
  go_enter Try.func10, Try.ntmps10
  try go_wp2_with (first | ((with_reducible refine gate_callee (f := 33) rfl ?_); refine goesL_ (some 31) rfl rfl Try.func33 (by kernel_rfl) rfl #[.int .i64 a0] rfl (by (try simp only [List.map_toArray, List.map_cons, List.map_nil]); first | done | rfl | (simp only [List.length_drop, List.length_take]; rfl)) ?_; (with_reducible refine (value_Of.calls a0 t441 t442 t443 _ A4.out).mono ?_); rintro e w15 ⟨rfl, hb⟩; refine ⟨_, rfl, ?_⟩; have n0_ := Aside0.mk (below_step (by repeat (first | (with_reducible first | exact HB.out | apply below_alloc | apply pw_below_drewN | apply below_drew1) | exact HB.out)) hb); clear HB; have HB := n0_; clear n0_; (try clear hb); (try clear hb2); (try clear hk); (try clear hi)) | ((with_reducible refine gate_callee (f := 33) rfl ?_); refine goesL_ (some 33) rfl rfl Try.func33 (by kernel_rfl) rfl #[.int .i64 (wrap64 (Int.tmod a1 64))] rfl (by (try simp only [List.map_toArray, List.map_cons, List.map_nil]); first | done | rfl | (simp only [List.length_drop, List.length_take]; rfl)) ?_; (with_reducible refine (value_Of.calls (wrap64 (Int.tmod a1 64)) t444 t445 t446 _ A5.out).mono ?_); rintro e w16 ⟨rfl, hb⟩; refine ⟨_, rfl, ?_⟩; have n0_ := Aside0.mk (below_step (by repeat (first | (with_reducible first | exact HB.out | apply below_alloc | apply pw_below_drewN | apply below_drew1) | exact HB.out)) hb); clear HB; have HB := n0_; clear n0_; (try clear hb); (try clear hb2); (try clear hk); (try clear hi)) | ((with_reducible refine gate_callee (f := 31) rfl ?_); refine goesL_ (some 34) rfl rfl Try.func31 (by kernel_rfl) rfl #[.string (⟨#[115, 104, 108]⟩ : ByteArray), .agg #[.int .u8 t441, .int .i64 t442, .string t443], .agg #[.int .u8 t444, .int .i64 t445, .string t446]] rfl (by (try simp only [List.map_toArray, List.map_cons, List.map_nil]); first | done | rfl | (simp only [List.length_drop, List.length_take]; rfl)) ?_; (with_reducible refine (value_Two.calls k (⟨#[115, 104, 108]⟩ : ByteArray) t441 t442 t443 t444 t445 t446 t447 t448 t449 t450 _ A6.out).mono ?_); rintro e w17 ⟨rfl, hb⟩; refine ⟨_, rfl, ?_⟩; have n0_ := Aside0.mk (below_step (by repeat (first | (with_reducible first | exact HB.out | apply below_alloc | apply pw_below_drewN | apply below_drew1) | exact HB.out)) hb); clear HB; have HB := n0_; clear n0_; (try clear hb); (try clear hb2); (try clear hk); (try clear hi)) | ((with_reducible refine gate_dst (N := 9) rfl ?_); refine box_event ?hg (N := 9) ?hd (cs := #[.int .u8 0, .int .i64 0, .string (⟨#[]⟩ : ByteArray)]) (t := 26) ?hr ?_; (case hd => rfl); (case hg => rfl); (case hr => first | (go_simp; done) | (go_simp; rfl)); intro gb451 hg w18 hbox hb; have n0_ := Aside0.mk (below_step (by repeat (first | (with_reducible first | exact HB.out | apply below_alloc | apply pw_below_drewN | apply below_drew1) | exact HB.out)) hb); have n1_ := Aside0.mk (hbox); have n2_ := Aside0.mk ((by rw [hg]; exact (below_size (by repeat (first | (with_reducible first | exact HB.out | apply below_alloc | apply pw_below_drewN | apply below_drew1) | exact HB.out))) : w.heap.size ≤ gb451)); have n3_ := Aside0.mk ((by rw [hg]; exact (below_size (by repeat (first | (with_reducible first | exact HB.out | apply below_alloc | apply pw_below_drewN | apply below_drew1) | exact HB.out))) : w.heap.size ≤ gb451)); clear HB; have HB := n0_; have BK451 := n1_; have GW451 := n2_; have GE451 := n3_; clear n0_ n1_ n2_ n3_; clear hb hbox hg; have hcz19_0 : w18.cell? ⟨gb451, 0, none⟩ = some (.int .u8 0) := (blk_cell BK451.out 0).trans rfl; have hcz19_1 : w18.cell? ⟨gb451, 1, none⟩ = some (.int .i64 0) := (blk_cell BK451.out 1).trans rfl; have hcz19_2 : w18.cell? ⟨gb451, 2, none⟩ = some (.string (⟨#[]⟩ : ByteArray)) := (blk_cell BK451.out 2).trans rfl; have hfz19_0 := blk_frozen BK451.out 0; have hfz19_1 := blk_frozen BK451.out 1; have hfz19_2 := blk_frozen BK451.out 2))
  have n0_ : Aside0 ((((w18.setCell ⟨gb451, 0, none⟩ (.int .u8 t447)).setCell ⟨gb451, 1, none⟩ (.int .i64 t448)).setCell ⟨gb451, 2, none⟩ (.string t449)).heap[gb451]? = some (.cells #[.int .u8 t447, .int .i64 t448, .string t449] 26 (0, 0))) := ⟨by (with_reducible repeat (first | refine blk_drewN ?_ _ | refine blk_drew ?_ | refine blk_alloc ?_ _)); refine blk_put (cs := #[.int .u8 t447, .int .i64 t448, .string (⟨#[]⟩ : ByteArray)]) ?_ 2 _ rfl; (with_reducible repeat (first | refine blk_drewN ?_ _ | refine blk_drew ?_ | refine blk_alloc ?_ _)); refine blk_put (cs := #[.int .u8 t447, .int .i64 0, .string (⟨#[]⟩ : ByteArray)]) ?_ 1 _ rfl; (with_reducible repeat (first | refine blk_drewN ?_ _ | refine blk_drew ?_ | refine blk_alloc ?_ _)); refine blk_put (cs := #[.int .u8 0, .int .i64 0, .string (⟨#[]⟩ : ByteArray)]) ?_ 0 _ rfl; (with_reducible repeat (first | refine blk_drewN ?_ _ | refine blk_drew ?_ | refine blk_alloc ?_ _)); exact BK451.out⟩
  have n1_ : Aside0 (Below w.heap.size w (((w18.setCell ⟨gb451, 0, none⟩ (.int .u8 t447)).setCell ⟨gb451, 1, none⟩ (.int .i64 t448)).setCell ⟨gb451, 2, none⟩ (.string t449))) := ⟨by repeat (first | (with_reducible first | exact HB.out | apply below_alloc | apply pw_below_drewN | apply below_drew1 | refine below_set ?_ GE451.out) | exact HB.out)⟩
  (try clear BK451)
  (try clear HB)
  generalize (((w18.setCell ⟨gb451, 0, none⟩ (.int .u8 t447)).setCell ⟨gb451, 1, none⟩ (.int .i64 t448)).setCell ⟨gb451, 2, none⟩ (.string t449)) = w20 at n0_ n1_ ⊢
  have BK451 := n0_
  have HB := n1_
  clear n0_ n1_
  have n0_ := Aside0.mk (blk_drew BK451.out)
  have n1_ := Aside0.mk (below_drew1 HB.out)
  clear BK451
  clear HB
  have BK451 := n0_
  have HB := n1_
  clear n0_ n1_
  refine start_ (n := 10) (S := fun w' => w'.cell? ⟨gb451, 0, none⟩ = some (.int .u8 t447) ∧ w'.cell? ⟨gb451, 1, none⟩ = some (.int .i64 t448) ∧ w'.cell? ⟨gb451, 2, none⟩ = some (.string t449)) (ds := []) #[false, false, false, false, false, false, false, false, false, false] (by kernel_rfl) rfl rfl ⟨(blk_cell BK451.out 0).trans rfl, (blk_cell BK451.out 1).trans rfl, (blk_cell BK451.out 2).trans rfl⟩ (fun hHeld => ?_); refine with_tabW sacristanlaw01_ValueShifts.tab3 sacristanlaw01_ValueShifts.bits3 (fun HT_ HW_ => ?_)
  generalize w20.drew = w21 at BK451 HB hHeld ⊢
  refine pure_ (i := 1) (N := some 39) (v := ?_) (a' := ?_) #[false, true, false, false, false, false, false, false, false, false] rfl rfl (any_of HT_.out (by kernel_rfl)) (fun _ _ _ h => h) (Or.inl ⟨by rfl, ?_⟩) ?_ ?_
  rotate_left
  · intro w'
    go_simp
    with_reducible rfl
  rotate_left
  · simp only [Act.put, List.setIfInBounds_toArray, List.set_cons_zero, List.set_cons_succ, i64_w, i32_w]
    rfl
  refine take_ (i := 0) (N := some 38) (v := ?_) (a' := ?_) #[true, true, false, false, false, false, false, false, false, false] rfl rfl (take_ofW HT_.out HW_.out (by kernel_rfl)) (fun _ _ _ h => h) (Or.inl ⟨by rfl, ?_⟩) hHeld ?_ ?_
  rotate_left
  · rintro w' ⟨s0, s1, s2⟩
    go_simp
    with_reducible rfl
  rotate_left
  · simp only [Act.put, List.setIfInBounds_toArray, List.set_cons_zero, List.set_cons_succ, i64_w, i32_w]
    rfl
  refine join_ (σ := Nat) 2 #[true, true, true, true, true, true, true, true, false, false] (fun s_ => [(40, .agg #[.int .u8 t452, .int .i64 t453, .string t454]), (41, .tuple #[.agg #[.int .u8 t455, .int .i64 t456, .string t457], .int .i64 t458]), (11, .pointer (some ⟨s_, 0, none⟩)), (37, .tuple #[.agg #[.int .u8 t455, .int .i64 t456, .string t457], .int .i64 t458]), (42, .agg #[.int .u8 t455, .int .i64 t456, .string t457]), (43, .int .i64 t458)]) (fun s_ w' => (w'.cell? ⟨gb451, 0, none⟩ = some (.int .u8 t447) ∧ w'.cell? ⟨gb451, 1, none⟩ = some (.int .i64 t448) ∧ w'.cell? ⟨gb451, 2, none⟩ = some (.string t449)) ∧ (w'.heap[gb451]? = some (.cells #[.int .u8 t447, .int .i64 t448, .string t449] 26 (0, 0))) ∧ (w'.heap[s_]? = some (.cells #[.int .u8 0, .int .i64 0, .string (⟨#[]⟩ : ByteArray)] 26 (0, 0))) ∧ (w.heap.size ≤ s_) ∧ (w.heap.size ≤ s_) ∧ (gb451 ≠ s_) ∧ (s_ ≠ gb451) ∧ (Below w.heap.size w w')) ?_ ?_
  rotate_left
  · intro hCont
    refine two_ (i := 2) (j := 7) (Ni := some 40) (Nj := some 11) #[true, true, true, false, false, false, false, false, false, false] #[true, true, false, false, false, false, false, true, false, false] rfl rfl rfl rfl (two_of HT_.out (by kernel_rfl)) (by decide) (by decide) (fun K hK => ?_) (fun K hK => ?_)
    · skip
      refine goes_ Try.func33 (by kernel_rfl) rfl #[.int .i64 (wrap64 (Int.tmod a1 64))] (by rfl) rfl rfl (by (try simp only [List.map_toArray, List.map_cons, List.map_nil]); first | done | rfl | (simp only [List.length_drop, List.length_take]; rfl)) ?_
      with_reducible refine (value_Of.calls (wrap64 (Int.tmod a1 64)) t452 t453 t454 _ A7.out).mono ?_
      rintro e w22 ⟨rfl, hb⟩
      refine ⟨_, rfl, ?_⟩
      have n0_ := Aside0.mk (blk_below (g := gb451) (o := .cells #[.int .u8 t447, .int .i64 t448, .string t449] 26 (0, 0)) (by (with_reducible repeat (first | refine blk_drewN ?_ _ | refine blk_drew ?_ | refine blk_alloc ?_ _)); exact BK451.out) hb)
      have n1_ := Aside0.mk (below_step (by repeat (first | (with_reducible first | exact HB.out | apply below_alloc | apply pw_below_drewN | apply below_drew1 | refine below_set ?_ GE451.out) | exact HB.out)) hb)
      clear BK451
      clear HB
      have BK451 := n0_
      have HB := n1_
      clear n0_ n1_
      (try clear hb)
      (try clear hb2)
      (try clear hk)
      (try clear hi)
      refine hK.out _ _ ⟨(blk_cell BK451.out 0).trans rfl, (blk_cell BK451.out 1).trans rfl, (blk_cell BK451.out 2).trans rfl⟩ (fun hHeld => ?_)
      clear hK K
      refine norm_ (a' := ?_) ?_ ?_
      rotate_left
      · show Act.put _ (some 40) _ = _
        simp only [Act.put, List.setIfInBounds_toArray, List.set_cons_zero, List.set_cons_succ, i64_w, i32_w]
        rfl
      refine two_ (i := 3) (j := 7) (Ni := some 41) (Nj := some 11) #[true, true, true, true, false, false, false, false, false, false] #[true, true, true, false, false, false, false, true, false, false] rfl rfl rfl rfl (two_of HT_.out (by kernel_rfl)) (by decide) (by decide) (fun K hK => ?_) (fun K hK => ?_)
      · skip
        refine goes_ Try.func31 (by kernel_rfl) rfl #[.string (⟨#[117, 115, 104, 114]⟩ : ByteArray), .agg #[.int .u8 t447, .int .i64 t448, .string t449], .agg #[.int .u8 t452, .int .i64 t453, .string t454]] (by rfl) rfl rfl (by (try simp only [List.map_toArray, List.map_cons, List.map_nil]); first | done | rfl | (simp only [List.length_drop, List.length_take]; rfl)) ?_
        with_reducible refine (value_Two.calls k (⟨#[117, 115, 104, 114]⟩ : ByteArray) t447 t448 t449 t452 t453 t454 t455 t456 t457 t458 _ A8.out).mono ?_
        rintro e w23 ⟨rfl, hb⟩
        refine ⟨_, rfl, ?_⟩
        have n0_ := Aside0.mk (blk_below (g := gb451) (o := .cells #[.int .u8 t447, .int .i64 t448, .string t449] 26 (0, 0)) (by (with_reducible repeat (first | refine blk_drewN ?_ _ | refine blk_drew ?_ | refine blk_alloc ?_ _)); exact BK451.out) hb)
        have n1_ := Aside0.mk (below_step (by repeat (first | (with_reducible first | exact HB.out | apply below_alloc | apply pw_below_drewN | apply below_drew1 | refine below_set ?_ GE451.out) | exact HB.out)) hb)
        clear BK451
        clear HB
        have BK451 := n0_
        have HB := n1_
        clear n0_ n1_
        (try clear hb)
        (try clear hb2)
        (try clear hk)
        (try clear hi)
        refine hK.out _ _ ⟨(blk_cell BK451.out 0).trans rfl, (blk_cell BK451.out 1).trans rfl, (blk_cell BK451.out 2).trans rfl⟩ (fun hHeld => ?_)
        clear hK K
        refine norm_ (a' := ?_) ?_ ?_
        rotate_left
        · show Act.put _ (some 41) _ = _
          simp only [Act.put, List.setIfInBounds_toArray, List.set_cons_zero, List.set_cons_succ, i64_w, i32_w]
          rfl
        refine pure_ (i := 4) (N := some 37) (v := ?_) (a' := ?_) #[true, true, true, true, true, false, false, false, false, false] rfl rfl (any_of HT_.out (by kernel_rfl)) (fun _ _ _ h => h) (Or.inl ⟨by rfl, ?_⟩) ?_ ?_
        rotate_left
        · intro w'
          go_simp
          with_reducible rfl
        rotate_left
        · simp only [Act.put, List.setIfInBounds_toArray, List.set_cons_zero, List.set_cons_succ, i64_w, i32_w]
          rfl
        refine pure_ (i := 5) (N := some 42) (v := ?_) (a' := ?_) #[true, true, true, true, true, true, false, false, false, false] rfl rfl (any_of HT_.out (by kernel_rfl)) (fun _ _ _ h => h) (Or.inl ⟨by rfl, ?_⟩) ?_ ?_
        rotate_left
        · intro w'
          go_simp
          with_reducible rfl
        rotate_left
        · simp only [Act.put, List.setIfInBounds_toArray, List.set_cons_zero, List.set_cons_succ, i64_w, i32_w]
          rfl
        refine pure_ (i := 6) (N := some 43) (v := ?_) (a' := ?_) #[true, true, true, true, true, true, true, false, false, false] rfl rfl (any_of HT_.out (by kernel_rfl)) (fun _ _ _ h => h) (Or.inl ⟨by rfl, ?_⟩) ?_ ?_
        rotate_left
        · intro w'
          go_simp
          with_reducible rfl
        rotate_left
        · simp only [Act.put, List.setIfInBounds_toArray, List.set_cons_zero, List.set_cons_succ, i64_w, i32_w]
          rfl
        refine one_ (i := 7) (N := some 11) #[true, true, true, true, true, true, true, true, false, false] rfl rfl (one_of HT_.out (by kernel_rfl)) (by decide) (fun K hK => ?_)
        refine box_step ?hg (N := 11) ?hd (cs := #[.int .u8 0, .int .i64 0, .string (⟨#[]⟩ : ByteArray)]) (t := 26) ?hr ?_; (case hd => rfl); (case hg => rfl); (case hr => first | (go_simp; done) | (go_simp; rfl))
        intro gb459 hg w24 hbox hb
        have n0_ := Aside0.mk (blk_below (g := gb451) (o := .cells #[.int .u8 t447, .int .i64 t448, .string t449] 26 (0, 0)) (by (with_reducible repeat (first | refine blk_drewN ?_ _ | refine blk_drew ?_ | refine blk_alloc ?_ _)); exact BK451.out) hb)
        have n1_ := Aside0.mk (below_step (by repeat (first | (with_reducible first | exact HB.out | apply below_alloc | apply pw_below_drewN | apply below_drew1 | refine below_set ?_ GE451.out) | exact HB.out)) hb)
        have n2_ := Aside0.mk (hbox)
        have n3_ := Aside0.mk ((by rw [hg]; exact (below_size (by repeat (first | (with_reducible first | exact HB.out | apply below_alloc | apply pw_below_drewN | apply below_drew1 | refine below_set ?_ GE451.out) | exact HB.out))) : w.heap.size ≤ gb459))
        have n4_ := Aside0.mk ((by rw [hg]; exact (below_size (by repeat (first | (with_reducible first | exact HB.out | apply below_alloc | apply pw_below_drewN | apply below_drew1 | refine below_set ?_ GE451.out) | exact HB.out))) : w.heap.size ≤ gb459))
        have n5_ := Aside0.mk ((by rw [hg]; exact Nat.ne_of_lt (blk_lt (g := gb451) (o := .cells #[.int .u8 t447, .int .i64 t448, .string t449] 26 (0, 0)) (by (with_reducible repeat (first | refine blk_drewN ?_ _ | refine blk_drew ?_ | refine blk_alloc ?_ _)); exact BK451.out)) : gb451 ≠ gb459))
        have n6_ := Aside0.mk ((by rw [hg]; exact Nat.ne_of_gt (blk_lt (g := gb451) (o := .cells #[.int .u8 t447, .int .i64 t448, .string t449] 26 (0, 0)) (by (with_reducible repeat (first | refine blk_drewN ?_ _ | refine blk_drew ?_ | refine blk_alloc ?_ _)); exact BK451.out)) : gb459 ≠ gb451))
        clear BK451
        clear HB
        have BK451 := n0_
        have HB := n1_
        have BK459 := n2_
        have GW459 := n3_
        have GE459 := n4_
        have NB451_459 := n5_
        have NB459_451 := n6_
        clear n0_ n1_ n2_ n3_ n4_ n5_ n6_
        clear hb hbox hg
        refine hK.out _ _ ⟨(blk_cell BK451.out 0).trans rfl, (blk_cell BK451.out 1).trans rfl, (blk_cell BK451.out 2).trans rfl⟩ (fun hHeld => ?_)
        clear hK K
        refine norm_ (a' := ?_) ?_ ?_
        rotate_left
        · show Act.put _ (some 11) _ = _
          simp only [Act.put, List.setIfInBounds_toArray, List.set_cons_zero, List.set_cons_succ, i64_w, i32_w]
          rfl
        exact norm_ (by simp only [putAll, Act.put, List.setIfInBounds_toArray, List.set_cons_zero, List.set_cons_succ]) (hCont (gb459) _ ⟨hHeld, (by (with_reducible repeat (first | refine blk_drewN ?_ _ | refine blk_drew ?_ | refine blk_alloc ?_ _)); exact BK451.out), (by (with_reducible repeat (first | refine blk_drewN ?_ _ | refine blk_drew ?_ | refine blk_alloc ?_ _)); exact BK459.out), GW459.out, GE459.out, NB451_459.out, NB459_451.out, (by repeat (first | (with_reducible first | exact HB.out | apply below_alloc | apply pw_below_drewN | apply below_drew1 | refine below_set ?_ GE451.out | refine below_set ?_ GE459.out) | exact HB.out))⟩)
      · skip
        refine box_step ?hg (N := 11) ?hd (cs := #[.int .u8 0, .int .i64 0, .string (⟨#[]⟩ : ByteArray)]) (t := 26) ?hr ?_; (case hd => rfl); (case hg => rfl); (case hr => first | (go_simp; done) | (go_simp; rfl))
        intro gb459 hg w23 hbox hb
        have n0_ := Aside0.mk (blk_below (g := gb451) (o := .cells #[.int .u8 t447, .int .i64 t448, .string t449] 26 (0, 0)) (by (with_reducible repeat (first | refine blk_drewN ?_ _ | refine blk_drew ?_ | refine blk_alloc ?_ _)); exact BK451.out) hb)
        have n1_ := Aside0.mk (below_step (by repeat (first | (with_reducible first | exact HB.out | apply below_alloc | apply pw_below_drewN | apply below_drew1 | refine below_set ?_ GE451.out) | exact HB.out)) hb)
        have n2_ := Aside0.mk (hbox)
        have n3_ := Aside0.mk ((by rw [hg]; exact (below_size (by repeat (first | (with_reducible first | exact HB.out | apply below_alloc | apply pw_below_drewN | apply below_drew1 | refine below_set ?_ GE451.out) | exact HB.out))) : w.heap.size ≤ gb459))
        have n4_ := Aside0.mk ((by rw [hg]; exact (below_size (by repeat (first | (with_reducible first | exact HB.out | apply below_alloc | apply pw_below_drewN | apply below_drew1 | refine below_set ?_ GE451.out) | exact HB.out))) : w.heap.size ≤ gb459))
        have n5_ := Aside0.mk ((by rw [hg]; exact Nat.ne_of_lt (blk_lt (g := gb451) (o := .cells #[.int .u8 t447, .int .i64 t448, .string t449] 26 (0, 0)) (by (with_reducible repeat (first | refine blk_drewN ?_ _ | refine blk_drew ?_ | refine blk_alloc ?_ _)); exact BK451.out)) : gb451 ≠ gb459))
        have n6_ := Aside0.mk ((by rw [hg]; exact Nat.ne_of_gt (blk_lt (g := gb451) (o := .cells #[.int .u8 t447, .int .i64 t448, .string t449] 26 (0, 0)) (by (with_reducible repeat (first | refine blk_drewN ?_ _ | refine blk_drew ?_ | refine blk_alloc ?_ _)); exact BK451.out)) : gb459 ≠ gb451))
        clear BK451
        clear HB
        have BK451 := n0_
        have HB := n1_
        have BK459 := n2_
        have GW459 := n3_
        have GE459 := n4_
        have NB451_459 := n5_
        have NB459_451 := n6_
        clear n0_ n1_ n2_ n3_ n4_ n5_ n6_
        clear hb hbox hg
        refine hK.out _ _ ⟨(blk_cell BK451.out 0).trans rfl, (blk_cell BK451.out 1).trans rfl, (blk_cell BK451.out 2).trans rfl⟩ (fun hHeld => ?_)
        clear hK K
        refine norm_ (a' := ?_) ?_ ?_
        rotate_left
        · show Act.put _ (some 11) _ = _
          simp only [Act.put, List.setIfInBounds_toArray, List.set_cons_zero, List.set_cons_succ, i64_w, i32_w]
          rfl
        refine one_ (i := 3) (N := some 41) #[true, true, true, true, false, false, false, true, false, false] rfl rfl (one_of HT_.out (by kernel_rfl)) (by decide) (fun K hK => ?_)
        refine goes_ Try.func31 (by kernel_rfl) rfl #[.string (⟨#[117, 115, 104, 114]⟩ : ByteArray), .agg #[.int .u8 t447, .int .i64 t448, .string t449], .agg #[.int .u8 t452, .int .i64 t453, .string t454]] (by rfl) rfl rfl (by (try simp only [List.map_toArray, List.map_cons, List.map_nil]); first | done | rfl | (simp only [List.length_drop, List.length_take]; rfl)) ?_
        with_reducible refine (value_Two.calls k (⟨#[117, 115, 104, 114]⟩ : ByteArray) t447 t448 t449 t452 t453 t454 t455 t456 t457 t458 _ A8.out).mono ?_
        rintro e w24 ⟨rfl, hb⟩
        refine ⟨_, rfl, ?_⟩
        have n0_ := Aside0.mk (blk_below (g := gb451) (o := .cells #[.int .u8 t447, .int .i64 t448, .string t449] 26 (0, 0)) (by (with_reducible repeat (first | refine blk_drewN ?_ _ | refine blk_drew ?_ | refine blk_alloc ?_ _)); exact BK451.out) hb)
        have n1_ := Aside0.mk (blk_below (g := gb459) (o := .cells #[.int .u8 0, .int .i64 0, .string (⟨#[]⟩ : ByteArray)] 26 (0, 0)) (by (with_reducible repeat (first | refine blk_drewN ?_ _ | refine blk_drew ?_ | refine blk_alloc ?_ _)); exact BK459.out) hb)
        have n2_ := Aside0.mk (below_step (by repeat (first | (with_reducible first | exact HB.out | apply below_alloc | apply pw_below_drewN | apply below_drew1 | refine below_set ?_ GE451.out | refine below_set ?_ GE459.out) | exact HB.out)) hb)
        clear BK451
        clear BK459
        clear HB
        have BK451 := n0_
        have BK459 := n1_
        have HB := n2_
        clear n0_ n1_ n2_
        (try clear hb)
        (try clear hb2)
        (try clear hk)
        (try clear hi)
        refine hK.out _ _ ⟨(blk_cell BK451.out 0).trans rfl, (blk_cell BK451.out 1).trans rfl, (blk_cell BK451.out 2).trans rfl⟩ (fun hHeld => ?_)
        clear hK K
        refine norm_ (a' := ?_) ?_ ?_
        rotate_left
        · show Act.put _ (some 41) _ = _
          simp only [Act.put, List.setIfInBounds_toArray, List.set_cons_zero, List.set_cons_succ, i64_w, i32_w]
          rfl
        refine pure_ (i := 4) (N := some 37) (v := ?_) (a' := ?_) #[true, true, true, true, true, false, false, true, false, false] rfl rfl (any_of HT_.out (by kernel_rfl)) (fun _ _ _ h => h) (Or.inl ⟨by rfl, ?_⟩) ?_ ?_
        rotate_left
        · intro w'
          go_simp
          with_reducible rfl
        rotate_left
        · simp only [Act.put, List.setIfInBounds_toArray, List.set_cons_zero, List.set_cons_succ, i64_w, i32_w]
          rfl
        refine pure_ (i := 5) (N := some 42) (v := ?_) (a' := ?_) #[true, true, true, true, true, true, false, true, false, false] rfl rfl (any_of HT_.out (by kernel_rfl)) (fun _ _ _ h => h) (Or.inl ⟨by rfl, ?_⟩) ?_ ?_
        rotate_left
        · intro w'
          go_simp
          with_reducible rfl
        rotate_left
        · simp only [Act.put, List.setIfInBounds_toArray, List.set_cons_zero, List.set_cons_succ, i64_w, i32_w]
          rfl
        refine pure_ (i := 6) (N := some 43) (v := ?_) (a' := ?_) #[true, true, true, true, true, true, true, true, false, false] rfl rfl (any_of HT_.out (by kernel_rfl)) (fun _ _ _ h => h) (Or.inl ⟨by rfl, ?_⟩) ?_ ?_
        rotate_left
        · intro w'
          go_simp
          with_reducible rfl
        rotate_left
        · simp only [Act.put, List.setIfInBounds_toArray, List.set_cons_zero, List.set_cons_succ, i64_w, i32_w]
          rfl
        exact norm_ (by simp only [putAll, Act.put, List.setIfInBounds_toArray, List.set_cons_zero, List.set_cons_succ]) (hCont (gb459) _ ⟨hHeld, (by (with_reducible repeat (first | refine blk_drewN ?_ _ | refine blk_drew ?_ | refine blk_alloc ?_ _)); exact BK451.out), (by (with_reducible repeat (first | refine blk_drewN ?_ _ | refine blk_drew ?_ | refine blk_alloc ?_ _)); exact BK459.out), GW459.out, GE459.out, NB451_459.out, NB459_451.out, (by repeat (first | (with_reducible first | exact HB.out | apply below_alloc | apply pw_below_drewN | apply below_drew1 | refine below_set ?_ GE451.out | refine below_set ?_ GE459.out) | exact HB.out))⟩)
    · skip
      refine box_step ?hg (N := 11) ?hd (cs := #[.int .u8 0, .int .i64 0, .string (⟨#[]⟩ : ByteArray)]) (t := 26) ?hr ?_; (case hd => rfl); (case hg => rfl); (case hr => first | (go_simp; done) | (go_simp; rfl))
      intro gb459 hg w22 hbox hb
      have n0_ := Aside0.mk (blk_below (g := gb451) (o := .cells #[.int .u8 t447, .int .i64 t448, .string t449] 26 (0, 0)) (by (with_reducible repeat (first | refine blk_drewN ?_ _ | refine blk_drew ?_ | refine blk_alloc ?_ _)); exact BK451.out) hb)
      have n1_ := Aside0.mk (below_step (by repeat (first | (with_reducible first | exact HB.out | apply below_alloc | apply pw_below_drewN | apply below_drew1 | refine below_set ?_ GE451.out) | exact HB.out)) hb)
      have n2_ := Aside0.mk (hbox)
      have n3_ := Aside0.mk ((by rw [hg]; exact (below_size (by repeat (first | (with_reducible first | exact HB.out | apply below_alloc | apply pw_below_drewN | apply below_drew1 | refine below_set ?_ GE451.out) | exact HB.out))) : w.heap.size ≤ gb459))
      have n4_ := Aside0.mk ((by rw [hg]; exact (below_size (by repeat (first | (with_reducible first | exact HB.out | apply below_alloc | apply pw_below_drewN | apply below_drew1 | refine below_set ?_ GE451.out) | exact HB.out))) : w.heap.size ≤ gb459))
      have n5_ := Aside0.mk ((by rw [hg]; exact Nat.ne_of_lt (blk_lt (g := gb451) (o := .cells #[.int .u8 t447, .int .i64 t448, .string t449] 26 (0, 0)) (by (with_reducible repeat (first | refine blk_drewN ?_ _ | refine blk_drew ?_ | refine blk_alloc ?_ _)); exact BK451.out)) : gb451 ≠ gb459))
      have n6_ := Aside0.mk ((by rw [hg]; exact Nat.ne_of_gt (blk_lt (g := gb451) (o := .cells #[.int .u8 t447, .int .i64 t448, .string t449] 26 (0, 0)) (by (with_reducible repeat (first | refine blk_drewN ?_ _ | refine blk_drew ?_ | refine blk_alloc ?_ _)); exact BK451.out)) : gb459 ≠ gb451))
      clear BK451
      clear HB
      have BK451 := n0_
      have HB := n1_
      have BK459 := n2_
      have GW459 := n3_
      have GE459 := n4_
      have NB451_459 := n5_
      have NB459_451 := n6_
      clear n0_ n1_ n2_ n3_ n4_ n5_ n6_
      clear hb hbox hg
      refine hK.out _ _ ⟨(blk_cell BK451.out 0).trans rfl, (blk_cell BK451.out 1).trans rfl, (blk_cell BK451.out 2).trans rfl⟩ (fun hHeld => ?_)
      clear hK K
      refine norm_ (a' := ?_) ?_ ?_
      rotate_left
      · show Act.put _ (some 11) _ = _
        simp only [Act.put, List.setIfInBounds_toArray, List.set_cons_zero, List.set_cons_succ, i64_w, i32_w]
        rfl
      refine one_ (i := 2) (N := some 40) #[true, true, true, false, false, false, false, true, false, false] rfl rfl (one_of HT_.out (by kernel_rfl)) (by decide) (fun K hK => ?_)
      refine goes_ Try.func33 (by kernel_rfl) rfl #[.int .i64 (wrap64 (Int.tmod a1 64))] (by rfl) rfl rfl (by (try simp only [List.map_toArray, List.map_cons, List.map_nil]); first | done | rfl | (simp only [List.length_drop, List.length_take]; rfl)) ?_
      with_reducible refine (value_Of.calls (wrap64 (Int.tmod a1 64)) t452 t453 t454 _ A7.out).mono ?_
      rintro e w23 ⟨rfl, hb⟩
      refine ⟨_, rfl, ?_⟩
      have n0_ := Aside0.mk (blk_below (g := gb451) (o := .cells #[.int .u8 t447, .int .i64 t448, .string t449] 26 (0, 0)) (by (with_reducible repeat (first | refine blk_drewN ?_ _ | refine blk_drew ?_ | refine blk_alloc ?_ _)); exact BK451.out) hb)
      have n1_ := Aside0.mk (blk_below (g := gb459) (o := .cells #[.int .u8 0, .int .i64 0, .string (⟨#[]⟩ : ByteArray)] 26 (0, 0)) (by (with_reducible repeat (first | refine blk_drewN ?_ _ | refine blk_drew ?_ | refine blk_alloc ?_ _)); exact BK459.out) hb)
      have n2_ := Aside0.mk (below_step (by repeat (first | (with_reducible first | exact HB.out | apply below_alloc | apply pw_below_drewN | apply below_drew1 | refine below_set ?_ GE451.out | refine below_set ?_ GE459.out) | exact HB.out)) hb)
      clear BK451
      clear BK459
      clear HB
      have BK451 := n0_
      have BK459 := n1_
      have HB := n2_
      clear n0_ n1_ n2_
      (try clear hb)
      (try clear hb2)
      (try clear hk)
      (try clear hi)
      refine hK.out _ _ ⟨(blk_cell BK451.out 0).trans rfl, (blk_cell BK451.out 1).trans rfl, (blk_cell BK451.out 2).trans rfl⟩ (fun hHeld => ?_)
      clear hK K
      refine norm_ (a' := ?_) ?_ ?_
      rotate_left
      · show Act.put _ (some 40) _ = _
        simp only [Act.put, List.setIfInBounds_toArray, List.set_cons_zero, List.set_cons_succ, i64_w, i32_w]
        rfl
      refine one_ (i := 3) (N := some 41) #[true, true, true, true, false, false, false, true, false, false] rfl rfl (one_of HT_.out (by kernel_rfl)) (by decide) (fun K hK => ?_)
      refine goes_ Try.func31 (by kernel_rfl) rfl #[.string (⟨#[117, 115, 104, 114]⟩ : ByteArray), .agg #[.int .u8 t447, .int .i64 t448, .string t449], .agg #[.int .u8 t452, .int .i64 t453, .string t454]] (by rfl) rfl rfl (by (try simp only [List.map_toArray, List.map_cons, List.map_nil]); first | done | rfl | (simp only [List.length_drop, List.length_take]; rfl)) ?_
      with_reducible refine (value_Two.calls k (⟨#[117, 115, 104, 114]⟩ : ByteArray) t447 t448 t449 t452 t453 t454 t455 t456 t457 t458 _ A8.out).mono ?_
      rintro e w24 ⟨rfl, hb⟩
      refine ⟨_, rfl, ?_⟩
      have n0_ := Aside0.mk (blk_below (g := gb451) (o := .cells #[.int .u8 t447, .int .i64 t448, .string t449] 26 (0, 0)) (by (with_reducible repeat (first | refine blk_drewN ?_ _ | refine blk_drew ?_ | refine blk_alloc ?_ _)); exact BK451.out) hb)
      have n1_ := Aside0.mk (blk_below (g := gb459) (o := .cells #[.int .u8 0, .int .i64 0, .string (⟨#[]⟩ : ByteArray)] 26 (0, 0)) (by (with_reducible repeat (first | refine blk_drewN ?_ _ | refine blk_drew ?_ | refine blk_alloc ?_ _)); exact BK459.out) hb)
      have n2_ := Aside0.mk (below_step (by repeat (first | (with_reducible first | exact HB.out | apply below_alloc | apply pw_below_drewN | apply below_drew1 | refine below_set ?_ GE451.out | refine below_set ?_ GE459.out) | exact HB.out)) hb)
      clear BK451
      clear BK459
      clear HB
      have BK451 := n0_
      have BK459 := n1_
      have HB := n2_
      clear n0_ n1_ n2_
      (try clear hb)
      (try clear hb2)
      (try clear hk)
      (try clear hi)
      refine hK.out _ _ ⟨(blk_cell BK451.out 0).trans rfl, (blk_cell BK451.out 1).trans rfl, (blk_cell BK451.out 2).trans rfl⟩ (fun hHeld => ?_)
      clear hK K
      refine norm_ (a' := ?_) ?_ ?_
      rotate_left
      · show Act.put _ (some 41) _ = _
        simp only [Act.put, List.setIfInBounds_toArray, List.set_cons_zero, List.set_cons_succ, i64_w, i32_w]
        rfl
      refine pure_ (i := 4) (N := some 37) (v := ?_) (a' := ?_) #[true, true, true, true, true, false, false, true, false, false] rfl rfl (any_of HT_.out (by kernel_rfl)) (fun _ _ _ h => h) (Or.inl ⟨by rfl, ?_⟩) ?_ ?_
      rotate_left
      · intro w'
        go_simp
        with_reducible rfl
      rotate_left
      · simp only [Act.put, List.setIfInBounds_toArray, List.set_cons_zero, List.set_cons_succ, i64_w, i32_w]
        rfl
      refine pure_ (i := 5) (N := some 42) (v := ?_) (a' := ?_) #[true, true, true, true, true, true, false, true, false, false] rfl rfl (any_of HT_.out (by kernel_rfl)) (fun _ _ _ h => h) (Or.inl ⟨by rfl, ?_⟩) ?_ ?_
      rotate_left
      · intro w'
        go_simp
        with_reducible rfl
      rotate_left
      · simp only [Act.put, List.setIfInBounds_toArray, List.set_cons_zero, List.set_cons_succ, i64_w, i32_w]
        rfl
      refine pure_ (i := 6) (N := some 43) (v := ?_) (a' := ?_) #[true, true, true, true, true, true, true, true, false, false] rfl rfl (any_of HT_.out (by kernel_rfl)) (fun _ _ _ h => h) (Or.inl ⟨by rfl, ?_⟩) ?_ ?_
      rotate_left
      · intro w'
        go_simp
        with_reducible rfl
      rotate_left
      · simp only [Act.put, List.setIfInBounds_toArray, List.set_cons_zero, List.set_cons_succ, i64_w, i32_w]
        rfl
      exact norm_ (by simp only [putAll, Act.put, List.setIfInBounds_toArray, List.set_cons_zero, List.set_cons_succ]) (hCont (gb459) _ ⟨hHeld, (by (with_reducible repeat (first | refine blk_drewN ?_ _ | refine blk_drew ?_ | refine blk_alloc ?_ _)); exact BK451.out), (by (with_reducible repeat (first | refine blk_drewN ?_ _ | refine blk_drew ?_ | refine blk_alloc ?_ _)); exact BK459.out), GW459.out, GE459.out, NB451_459.out, NB459_451.out, (by repeat (first | (with_reducible first | exact HB.out | apply below_alloc | apply pw_below_drewN | apply below_drew1 | refine below_set ?_ GE451.out | refine below_set ?_ GE459.out) | exact HB.out))⟩)
  rintro gb459 w25 ⟨hS_, h0_, h1_, h2_, h3_, h4_, h5_, h6_⟩
  have n0_ : Aside0 (w25.heap[gb451]? = some (.cells #[.int .u8 t447, .int .i64 t448, .string t449] 26 (0, 0))) := ⟨h0_⟩
  have n1_ : Aside0 (w25.heap[gb459]? = some (.cells #[.int .u8 0, .int .i64 0, .string (⟨#[]⟩ : ByteArray)] 26 (0, 0))) := ⟨h1_⟩
  have n2_ : Aside0 (w.heap.size ≤ gb459) := ⟨h2_⟩
  have n3_ : Aside0 (w.heap.size ≤ gb459) := ⟨h3_⟩
  have n4_ : Aside0 (gb451 ≠ gb459) := ⟨h4_⟩
  have n5_ : Aside0 (gb459 ≠ gb451) := ⟨h5_⟩
  have n6_ : Aside0 (Below w.heap.size w w25) := ⟨h6_⟩
  clear BK451
  clear HB
  clear h0_ h1_ h2_ h3_ h4_ h5_ h6_
  have BK451 := n0_
  have BK459 := n1_
  have GW459 := n2_
  have GE459 := n3_
  have NB451_459 := n4_
  have NB459_451 := n5_
  have HB := n6_
  clear n0_ n1_ n2_ n3_ n4_ n5_ n6_
  have hHeld : w25.cell? ⟨gb451, 0, none⟩ = some (.int .u8 t447) ∧ w25.cell? ⟨gb451, 1, none⟩ = some (.int .i64 t448) ∧ w25.cell? ⟨gb451, 2, none⟩ = some (.string t449) := hS_
  refine norm_ (a' := ?_) ?_ ?_
  rotate_left
  · simp only [putAll, Act.put, List.setIfInBounds_toArray, List.set_cons_zero, List.set_cons_succ]
    rfl
  refine one_ (i := 8) (N := none) #[true, true, true, true, true, true, true, true, true, false] rfl rfl (one_of HT_.out (by kernel_rfl)) (by decide) (fun K hK => ?_)
  have hs26 : w25.cell? ⟨gb459, 0, none⟩ = some (.int .u8 0) := (blk_cell BK459.out 0).trans rfl
  have hfs26 := blk_frozen BK459.out 0
  have hns26_0 := NB451_459.out
  have hms26_0 := NB459_451.out
  have hs27 : w25.cell? ⟨gb459, 1, none⟩ = some (.int .i64 0) := (blk_cell BK459.out 1).trans rfl
  have hfs27 := blk_frozen BK459.out 1
  have hns27_0 := NB451_459.out
  have hms27_0 := NB459_451.out
  have hs28 : w25.cell? ⟨gb459, 2, none⟩ = some (.string (⟨#[]⟩ : ByteArray)) := (blk_cell BK459.out 2).trans rfl
  have hfs28 := blk_frozen BK459.out 2
  have hns28_0 := NB451_459.out
  have hms28_0 := NB459_451.out
  refine skip_ (w1 := ?_) (by rfl) rfl ?_ ?_
  rotate_left
  · go_simp
    rfl
  refine hK.out _ _ ⟨((cell_far (p := ⟨gb459, _, none⟩) NB451_459.out _).trans (((cell_far (p := ⟨gb459, _, none⟩) NB451_459.out _).trans (((cell_far (p := ⟨gb459, _, none⟩) NB451_459.out _).trans (hHeld.1)))))), ((cell_far (p := ⟨gb459, _, none⟩) NB451_459.out _).trans (((cell_far (p := ⟨gb459, _, none⟩) NB451_459.out _).trans (((cell_far (p := ⟨gb459, _, none⟩) NB451_459.out _).trans (hHeld.2.1)))))), ((cell_far (p := ⟨gb459, _, none⟩) NB451_459.out _).trans (((cell_far (p := ⟨gb459, _, none⟩) NB451_459.out _).trans (((cell_far (p := ⟨gb459, _, none⟩) NB451_459.out _).trans (hHeld.2.2))))))⟩ (fun hHeld => ?_)
  clear hK K
  refine pure_ (i := 9) (N := some 12) (v := ?_) (a' := ?_) #[true, true, true, true, true, true, true, true, true, true] rfl rfl (any_of HT_.out (by kernel_rfl)) (fun _ _ _ h => h) (Or.inl ⟨by rfl, ?_⟩) ?_ ?_
  rotate_left
  · intro w'
    go_simp
    with_reducible rfl
  rotate_left
  · simp only [Act.put, List.setIfInBounds_toArray, List.set_cons_zero, List.set_cons_succ, i64_w, i32_w]
    rfl
  refine done_ (done_of HT_.out (by kernel_rfl)) ?_
  try go_wp2_with (first | ((with_reducible refine gate_callee (f := 33) rfl ?_); refine goesL_ (some 45) rfl rfl Try.func33 (by kernel_rfl) rfl #[.int .i64 (-1)] rfl (by (try simp only [List.map_toArray, List.map_cons, List.map_nil]); first | done | rfl | (simp only [List.length_drop, List.length_take]; rfl)) ?_; (with_reducible refine (value_Of.calls (-1) t460 t461 t462 _ A9.out).mono ?_); rintro e w29 ⟨rfl, hb⟩; refine ⟨_, rfl, ?_⟩; have n0_ := Aside0.mk (blk_below (g := gb451) (o := .cells #[.int .u8 t447, .int .i64 t448, .string t449] 26 (0, 0)) (by (with_reducible repeat (first | refine blk_drewN ?_ _ | refine blk_drew ?_ | refine blk_alloc ?_ _)); refine blk_far ?_ NB451_459.out _; (with_reducible repeat (first | refine blk_drewN ?_ _ | refine blk_drew ?_ | refine blk_alloc ?_ _)); refine blk_far ?_ NB451_459.out _; (with_reducible repeat (first | refine blk_drewN ?_ _ | refine blk_drew ?_ | refine blk_alloc ?_ _)); refine blk_far ?_ NB451_459.out _; (with_reducible repeat (first | refine blk_drewN ?_ _ | refine blk_drew ?_ | refine blk_alloc ?_ _)); exact BK451.out) hb); have n1_ := Aside0.mk (blk_below (g := gb459) (o := .cells #[.int .u8 t455, .int .i64 t456, .string t457] 26 (0, 0)) (by (with_reducible repeat (first | refine blk_drewN ?_ _ | refine blk_drew ?_ | refine blk_alloc ?_ _)); refine blk_put (cs := #[.int .u8 t455, .int .i64 t456, .string (⟨#[]⟩ : ByteArray)]) ?_ 2 _ rfl; (with_reducible repeat (first | refine blk_drewN ?_ _ | refine blk_drew ?_ | refine blk_alloc ?_ _)); refine blk_put (cs := #[.int .u8 t455, .int .i64 0, .string (⟨#[]⟩ : ByteArray)]) ?_ 1 _ rfl; (with_reducible repeat (first | refine blk_drewN ?_ _ | refine blk_drew ?_ | refine blk_alloc ?_ _)); refine blk_put (cs := #[.int .u8 0, .int .i64 0, .string (⟨#[]⟩ : ByteArray)]) ?_ 0 _ rfl; (with_reducible repeat (first | refine blk_drewN ?_ _ | refine blk_drew ?_ | refine blk_alloc ?_ _)); exact BK459.out) hb); have n2_ := Aside0.mk (below_step (by repeat (first | (with_reducible first | exact HB.out | apply below_alloc | apply pw_below_drewN | apply below_drew1 | refine below_set ?_ GE451.out | refine below_set ?_ GE459.out) | exact HB.out)) hb); clear BK451; clear BK459; clear HB; have BK451 := n0_; have BK459 := n1_; have HB := n2_; clear n0_ n1_ n2_; (try clear hb); (try clear hb2); (try clear hk); (try clear hi)) | ((with_reducible refine gate_callee (f := 33) rfl ?_); refine goesL_ (some 47) rfl rfl Try.func33 (by kernel_rfl) rfl #[.int .i64 (wrap64 (Int.tmod a1 64))] rfl (by (try simp only [List.map_toArray, List.map_cons, List.map_nil]); first | done | rfl | (simp only [List.length_drop, List.length_take]; rfl)) ?_; (with_reducible refine (value_Of.calls (wrap64 (Int.tmod a1 64)) t463 t464 t465 _ A10.out).mono ?_); rintro e w30 ⟨rfl, hb⟩; refine ⟨_, rfl, ?_⟩; have n0_ := Aside0.mk (blk_below (g := gb451) (o := .cells #[.int .u8 t447, .int .i64 t448, .string t449] 26 (0, 0)) (by (with_reducible repeat (first | refine blk_drewN ?_ _ | refine blk_drew ?_ | refine blk_alloc ?_ _)); exact BK451.out) hb); have n1_ := Aside0.mk (blk_below (g := gb459) (o := .cells #[.int .u8 t455, .int .i64 t456, .string t457] 26 (0, 0)) (by (with_reducible repeat (first | refine blk_drewN ?_ _ | refine blk_drew ?_ | refine blk_alloc ?_ _)); exact BK459.out) hb); have n2_ := Aside0.mk (below_step (by repeat (first | (with_reducible first | exact HB.out | apply below_alloc | apply pw_below_drewN | apply below_drew1 | refine below_set ?_ GE451.out | refine below_set ?_ GE459.out) | exact HB.out)) hb); clear BK451; clear BK459; clear HB; have BK451 := n0_; have BK459 := n1_; have HB := n2_; clear n0_ n1_ n2_; (try clear hb); (try clear hb2); (try clear hk); (try clear hi)) | ((with_reducible refine gate_callee (f := 31) rfl ?_); refine goesL_ (some 48) rfl rfl Try.func31 (by kernel_rfl) rfl #[.string (⟨#[117, 115, 104, 114]⟩ : ByteArray), .agg #[.int .u8 t460, .int .i64 t461, .string t462], .agg #[.int .u8 t463, .int .i64 t464, .string t465]] rfl (by (try simp only [List.map_toArray, List.map_cons, List.map_nil]); first | done | rfl | (simp only [List.length_drop, List.length_take]; rfl)) ?_; (with_reducible refine (value_Two.calls k (⟨#[117, 115, 104, 114]⟩ : ByteArray) t460 t461 t462 t463 t464 t465 t466 t467 t468 t469 _ A11.out).mono ?_); rintro e w31 ⟨rfl, hb⟩; refine ⟨_, rfl, ?_⟩; have n0_ := Aside0.mk (blk_below (g := gb451) (o := .cells #[.int .u8 t447, .int .i64 t448, .string t449] 26 (0, 0)) (by (with_reducible repeat (first | refine blk_drewN ?_ _ | refine blk_drew ?_ | refine blk_alloc ?_ _)); exact BK451.out) hb); have n1_ := Aside0.mk (blk_below (g := gb459) (o := .cells #[.int .u8 t455, .int .i64 t456, .string t457] 26 (0, 0)) (by (with_reducible repeat (first | refine blk_drewN ?_ _ | refine blk_drew ?_ | refine blk_alloc ?_ _)); exact BK459.out) hb); have n2_ := Aside0.mk (below_step (by repeat (first | (with_reducible first | exact HB.out | apply below_alloc | apply pw_below_drewN | apply below_drew1 | refine below_set ?_ GE451.out | refine below_set ?_ GE459.out) | exact HB.out)) hb); clear BK451; clear BK459; clear HB; have BK451 := n0_; have BK459 := n1_; have HB := n2_; clear n0_ n1_ n2_; (try clear hb); (try clear hb2); (try clear hk); (try clear hi)) | ((with_reducible refine gate_dst (N := 13) rfl ?_); refine box_event ?hg (N := 13) ?hd (cs := #[.int .u8 0, .int .i64 0, .string (⟨#[]⟩ : ByteArray)]) (t := 26) ?hr ?_; (case hd => rfl); (case hg => rfl); (case hr => first | (go_simp; done) | (go_simp; rfl)); intro gb470 hg w32 hbox hb; have n0_ := Aside0.mk (blk_below (g := gb451) (o := .cells #[.int .u8 t447, .int .i64 t448, .string t449] 26 (0, 0)) (by (with_reducible repeat (first | refine blk_drewN ?_ _ | refine blk_drew ?_ | refine blk_alloc ?_ _)); exact BK451.out) hb); have n1_ := Aside0.mk (blk_below (g := gb459) (o := .cells #[.int .u8 t455, .int .i64 t456, .string t457] 26 (0, 0)) (by (with_reducible repeat (first | refine blk_drewN ?_ _ | refine blk_drew ?_ | refine blk_alloc ?_ _)); exact BK459.out) hb); have n2_ := Aside0.mk (below_step (by repeat (first | (with_reducible first | exact HB.out | apply below_alloc | apply pw_below_drewN | apply below_drew1 | refine below_set ?_ GE451.out | refine below_set ?_ GE459.out) | exact HB.out)) hb); have n3_ := Aside0.mk (hbox); have n4_ := Aside0.mk ((by rw [hg]; exact (below_size (by repeat (first | (with_reducible first | exact HB.out | apply below_alloc | apply pw_below_drewN | apply below_drew1 | refine below_set ?_ GE451.out | refine below_set ?_ GE459.out) | exact HB.out))) : w.heap.size ≤ gb470)); have n5_ := Aside0.mk ((by rw [hg]; exact (below_size (by repeat (first | (with_reducible first | exact HB.out | apply below_alloc | apply pw_below_drewN | apply below_drew1 | refine below_set ?_ GE451.out | refine below_set ?_ GE459.out) | exact HB.out))) : w.heap.size ≤ gb470)); have n6_ := Aside0.mk ((by rw [hg]; exact Nat.ne_of_lt (blk_lt (g := gb451) (o := .cells #[.int .u8 t447, .int .i64 t448, .string t449] 26 (0, 0)) (by (with_reducible repeat (first | refine blk_drewN ?_ _ | refine blk_drew ?_ | refine blk_alloc ?_ _)); exact BK451.out)) : gb451 ≠ gb470)); have n7_ := Aside0.mk ((by rw [hg]; exact Nat.ne_of_gt (blk_lt (g := gb451) (o := .cells #[.int .u8 t447, .int .i64 t448, .string t449] 26 (0, 0)) (by (with_reducible repeat (first | refine blk_drewN ?_ _ | refine blk_drew ?_ | refine blk_alloc ?_ _)); exact BK451.out)) : gb470 ≠ gb451)); have n8_ := Aside0.mk ((by rw [hg]; exact Nat.ne_of_lt (blk_lt (g := gb459) (o := .cells #[.int .u8 t455, .int .i64 t456, .string t457] 26 (0, 0)) (by (with_reducible repeat (first | refine blk_drewN ?_ _ | refine blk_drew ?_ | refine blk_alloc ?_ _)); exact BK459.out)) : gb459 ≠ gb470)); have n9_ := Aside0.mk ((by rw [hg]; exact Nat.ne_of_gt (blk_lt (g := gb459) (o := .cells #[.int .u8 t455, .int .i64 t456, .string t457] 26 (0, 0)) (by (with_reducible repeat (first | refine blk_drewN ?_ _ | refine blk_drew ?_ | refine blk_alloc ?_ _)); exact BK459.out)) : gb470 ≠ gb459)); clear BK451; clear BK459; clear HB; have BK451 := n0_; have BK459 := n1_; have HB := n2_; have BK470 := n3_; have GW470 := n4_; have GE470 := n5_; have NB451_470 := n6_; have NB470_451 := n7_; have NB459_470 := n8_; have NB470_459 := n9_; clear n0_ n1_ n2_ n3_ n4_ n5_ n6_ n7_ n8_ n9_; clear hb hbox hg; have hnb33 := NB470_451.out; have hnc33 := NB451_470.out; have hnb34 := NB470_459.out; have hnc34 := NB459_470.out; have hcz35_0 : w32.cell? ⟨gb470, 0, none⟩ = some (.int .u8 0) := (blk_cell BK470.out 0).trans rfl; have hcz35_1 : w32.cell? ⟨gb470, 1, none⟩ = some (.int .i64 0) := (blk_cell BK470.out 1).trans rfl; have hcz35_2 : w32.cell? ⟨gb470, 2, none⟩ = some (.string (⟨#[]⟩ : ByteArray)) := (blk_cell BK470.out 2).trans rfl; have hfz35_0 := blk_frozen BK470.out 0; have hfz35_1 := blk_frozen BK470.out 1; have hfz35_2 := blk_frozen BK470.out 2))
  have n0_ : Aside0 ((((w32.setCell ⟨gb470, 0, none⟩ (.int .u8 t466)).setCell ⟨gb470, 1, none⟩ (.int .i64 t467)).setCell ⟨gb470, 2, none⟩ (.string t468)).heap[gb451]? = some (.cells #[.int .u8 t447, .int .i64 t448, .string t449] 26 (0, 0))) := ⟨by (with_reducible repeat (first | refine blk_drewN ?_ _ | refine blk_drew ?_ | refine blk_alloc ?_ _)); refine blk_far ?_ NB451_470.out _; (with_reducible repeat (first | refine blk_drewN ?_ _ | refine blk_drew ?_ | refine blk_alloc ?_ _)); refine blk_far ?_ NB451_470.out _; (with_reducible repeat (first | refine blk_drewN ?_ _ | refine blk_drew ?_ | refine blk_alloc ?_ _)); refine blk_far ?_ NB451_470.out _; (with_reducible repeat (first | refine blk_drewN ?_ _ | refine blk_drew ?_ | refine blk_alloc ?_ _)); exact BK451.out⟩
  have n1_ : Aside0 ((((w32.setCell ⟨gb470, 0, none⟩ (.int .u8 t466)).setCell ⟨gb470, 1, none⟩ (.int .i64 t467)).setCell ⟨gb470, 2, none⟩ (.string t468)).heap[gb459]? = some (.cells #[.int .u8 t455, .int .i64 t456, .string t457] 26 (0, 0))) := ⟨by (with_reducible repeat (first | refine blk_drewN ?_ _ | refine blk_drew ?_ | refine blk_alloc ?_ _)); refine blk_far ?_ NB459_470.out _; (with_reducible repeat (first | refine blk_drewN ?_ _ | refine blk_drew ?_ | refine blk_alloc ?_ _)); refine blk_far ?_ NB459_470.out _; (with_reducible repeat (first | refine blk_drewN ?_ _ | refine blk_drew ?_ | refine blk_alloc ?_ _)); refine blk_far ?_ NB459_470.out _; (with_reducible repeat (first | refine blk_drewN ?_ _ | refine blk_drew ?_ | refine blk_alloc ?_ _)); exact BK459.out⟩
  have n2_ : Aside0 ((((w32.setCell ⟨gb470, 0, none⟩ (.int .u8 t466)).setCell ⟨gb470, 1, none⟩ (.int .i64 t467)).setCell ⟨gb470, 2, none⟩ (.string t468)).heap[gb470]? = some (.cells #[.int .u8 t466, .int .i64 t467, .string t468] 26 (0, 0))) := ⟨by (with_reducible repeat (first | refine blk_drewN ?_ _ | refine blk_drew ?_ | refine blk_alloc ?_ _)); refine blk_put (cs := #[.int .u8 t466, .int .i64 t467, .string (⟨#[]⟩ : ByteArray)]) ?_ 2 _ rfl; (with_reducible repeat (first | refine blk_drewN ?_ _ | refine blk_drew ?_ | refine blk_alloc ?_ _)); refine blk_put (cs := #[.int .u8 t466, .int .i64 0, .string (⟨#[]⟩ : ByteArray)]) ?_ 1 _ rfl; (with_reducible repeat (first | refine blk_drewN ?_ _ | refine blk_drew ?_ | refine blk_alloc ?_ _)); refine blk_put (cs := #[.int .u8 0, .int .i64 0, .string (⟨#[]⟩ : ByteArray)]) ?_ 0 _ rfl; (with_reducible repeat (first | refine blk_drewN ?_ _ | refine blk_drew ?_ | refine blk_alloc ?_ _)); exact BK470.out⟩
  have n3_ : Aside0 (Below w.heap.size w (((w32.setCell ⟨gb470, 0, none⟩ (.int .u8 t466)).setCell ⟨gb470, 1, none⟩ (.int .i64 t467)).setCell ⟨gb470, 2, none⟩ (.string t468))) := ⟨by repeat (first | (with_reducible first | exact HB.out | apply below_alloc | apply pw_below_drewN | apply below_drew1 | refine below_set ?_ GE451.out | refine below_set ?_ GE459.out | refine below_set ?_ GE470.out) | exact HB.out)⟩
  (try clear BK451)
  (try clear BK459)
  (try clear BK470)
  (try clear HB)
  generalize (((w32.setCell ⟨gb470, 0, none⟩ (.int .u8 t466)).setCell ⟨gb470, 1, none⟩ (.int .i64 t467)).setCell ⟨gb470, 2, none⟩ (.string t468)) = w36 at n0_ n1_ n2_ n3_ ⊢
  have BK451 := n0_
  have BK459 := n1_
  have BK470 := n2_
  have HB := n3_
  clear n0_ n1_ n2_ n3_
  have n0_ := Aside0.mk (blk_drew BK451.out)
  have n1_ := Aside0.mk (blk_drew BK459.out)
  have n2_ := Aside0.mk (blk_drew BK470.out)
  have n3_ := Aside0.mk (below_drew1 HB.out)
  clear BK451
  clear BK459
  clear BK470
  clear HB
  have BK451 := n0_
  have BK459 := n1_
  have BK470 := n2_
  have HB := n3_
  clear n0_ n1_ n2_ n3_
  refine start_ (n := 10) (S := fun w' => w'.cell? ⟨gb470, 0, none⟩ = some (.int .u8 t466) ∧ w'.cell? ⟨gb470, 1, none⟩ = some (.int .i64 t467) ∧ w'.cell? ⟨gb470, 2, none⟩ = some (.string t468)) (ds := []) #[false, false, false, false, false, false, false, false, false, false] (by kernel_rfl) rfl rfl ⟨(blk_cell BK470.out 0).trans rfl, (blk_cell BK470.out 1).trans rfl, (blk_cell BK470.out 2).trans rfl⟩ (fun hHeld => ?_); refine with_tabW sacristanlaw01_ValueShifts.tab5 sacristanlaw01_ValueShifts.bits5 (fun HT_ HW_ => ?_)
  generalize w36.drew = w37 at BK451 BK459 BK470 HB hHeld ⊢
  refine pure_ (i := 0) (N := some 52) (v := ?_) (a' := ?_) #[true, false, false, false, false, false, false, false, false, false] rfl rfl (any_of HT_.out (by kernel_rfl)) (fun _ _ _ h => h) (Or.inl ⟨by rfl, ?_⟩) ?_ ?_
  rotate_left
  · intro w'
    go_simp
    with_reducible rfl
  rotate_left
  · simp only [Act.put, List.setIfInBounds_toArray, List.set_cons_zero, List.set_cons_succ, i64_w, i32_w]
    rfl
  refine take_ (i := 2) (N := some 54) (v := ?_) (a' := ?_) #[true, false, true, false, false, false, false, false, false, false] rfl rfl (take_ofW HT_.out HW_.out (by kernel_rfl)) (fun _ _ _ h => h) (Or.inl ⟨by rfl, ?_⟩) hHeld ?_ ?_
  rotate_left
  · rintro w' ⟨s0, s1, s2⟩
    go_simp
    with_reducible rfl
  rotate_left
  · simp only [Act.put, List.setIfInBounds_toArray, List.set_cons_zero, List.set_cons_succ, i64_w, i32_w]
    rfl
  refine join_ (σ := Nat) 2 #[true, true, true, true, true, true, true, true, false, false] (fun s_ => [(53, .agg #[.int .u8 t471, .int .i64 t472, .string t473]), (55, .tuple #[.agg #[.int .u8 t474, .int .i64 t475, .string t476], .int .i64 t477]), (15, .pointer (some ⟨s_, 0, none⟩)), (51, .tuple #[.agg #[.int .u8 t474, .int .i64 t475, .string t476], .int .i64 t477]), (56, .agg #[.int .u8 t474, .int .i64 t475, .string t476]), (57, .int .i64 t477)]) (fun s_ w' => (w'.cell? ⟨gb470, 0, none⟩ = some (.int .u8 t466) ∧ w'.cell? ⟨gb470, 1, none⟩ = some (.int .i64 t467) ∧ w'.cell? ⟨gb470, 2, none⟩ = some (.string t468)) ∧ (w'.heap[gb451]? = some (.cells #[.int .u8 t447, .int .i64 t448, .string t449] 26 (0, 0))) ∧ (w'.heap[gb459]? = some (.cells #[.int .u8 t455, .int .i64 t456, .string t457] 26 (0, 0))) ∧ (w'.heap[gb470]? = some (.cells #[.int .u8 t466, .int .i64 t467, .string t468] 26 (0, 0))) ∧ (w'.heap[s_]? = some (.cells #[.int .u8 0, .int .i64 0, .string (⟨#[]⟩ : ByteArray)] 26 (0, 0))) ∧ (w.heap.size ≤ s_) ∧ (w.heap.size ≤ s_) ∧ (gb451 ≠ s_) ∧ (s_ ≠ gb451) ∧ (gb459 ≠ s_) ∧ (s_ ≠ gb459) ∧ (gb470 ≠ s_) ∧ (s_ ≠ gb470) ∧ (Below w.heap.size w w')) ?_ ?_
  rotate_left
  · intro hCont
    refine two_ (i := 1) (j := 7) (Ni := some 53) (Nj := some 15) #[true, true, true, false, false, false, false, false, false, false] #[true, false, true, false, false, false, false, true, false, false] rfl rfl rfl rfl (two_of HT_.out (by kernel_rfl)) (by decide) (by decide) (fun K hK => ?_) (fun K hK => ?_)
    · skip
      refine goes_ Try.func33 (by kernel_rfl) rfl #[.int .i64 a0] (by rfl) rfl rfl (by (try simp only [List.map_toArray, List.map_cons, List.map_nil]); first | done | rfl | (simp only [List.length_drop, List.length_take]; rfl)) ?_
      with_reducible refine (value_Of.calls a0 t471 t472 t473 _ A12.out).mono ?_
      rintro e w38 ⟨rfl, hb⟩
      refine ⟨_, rfl, ?_⟩
      have n0_ := Aside0.mk (blk_below (g := gb451) (o := .cells #[.int .u8 t447, .int .i64 t448, .string t449] 26 (0, 0)) (by (with_reducible repeat (first | refine blk_drewN ?_ _ | refine blk_drew ?_ | refine blk_alloc ?_ _)); exact BK451.out) hb)
      have n1_ := Aside0.mk (blk_below (g := gb459) (o := .cells #[.int .u8 t455, .int .i64 t456, .string t457] 26 (0, 0)) (by (with_reducible repeat (first | refine blk_drewN ?_ _ | refine blk_drew ?_ | refine blk_alloc ?_ _)); exact BK459.out) hb)
      have n2_ := Aside0.mk (blk_below (g := gb470) (o := .cells #[.int .u8 t466, .int .i64 t467, .string t468] 26 (0, 0)) (by (with_reducible repeat (first | refine blk_drewN ?_ _ | refine blk_drew ?_ | refine blk_alloc ?_ _)); exact BK470.out) hb)
      have n3_ := Aside0.mk (below_step (by repeat (first | (with_reducible first | exact HB.out | apply below_alloc | apply pw_below_drewN | apply below_drew1 | refine below_set ?_ GE451.out | refine below_set ?_ GE459.out | refine below_set ?_ GE470.out) | exact HB.out)) hb)
      clear BK451
      clear BK459
      clear BK470
      clear HB
      have BK451 := n0_
      have BK459 := n1_
      have BK470 := n2_
      have HB := n3_
      clear n0_ n1_ n2_ n3_
      (try clear hb)
      (try clear hb2)
      (try clear hk)
      (try clear hi)
      refine hK.out _ _ ⟨(blk_cell BK470.out 0).trans rfl, (blk_cell BK470.out 1).trans rfl, (blk_cell BK470.out 2).trans rfl⟩ (fun hHeld => ?_)
      clear hK K
      refine norm_ (a' := ?_) ?_ ?_
      rotate_left
      · show Act.put _ (some 53) _ = _
        simp only [Act.put, List.setIfInBounds_toArray, List.set_cons_zero, List.set_cons_succ, i64_w, i32_w]
        rfl
      refine two_ (i := 3) (j := 7) (Ni := some 55) (Nj := some 15) #[true, true, true, true, false, false, false, false, false, false] #[true, true, true, false, false, false, false, true, false, false] rfl rfl rfl rfl (two_of HT_.out (by kernel_rfl)) (by decide) (by decide) (fun K hK => ?_) (fun K hK => ?_)
      · skip
        refine goes_ Try.func31 (by kernel_rfl) rfl #[.string (⟨#[97, 110, 100]⟩ : ByteArray), .agg #[.int .u8 t471, .int .i64 t472, .string t473], .agg #[.int .u8 t466, .int .i64 t467, .string t468]] (by rfl) rfl rfl (by (try simp only [List.map_toArray, List.map_cons, List.map_nil]); first | done | rfl | (simp only [List.length_drop, List.length_take]; rfl)) ?_
        with_reducible refine (value_Two.calls k (⟨#[97, 110, 100]⟩ : ByteArray) t471 t472 t473 t466 t467 t468 t474 t475 t476 t477 _ A13.out).mono ?_
        rintro e w39 ⟨rfl, hb⟩
        refine ⟨_, rfl, ?_⟩
        have n0_ := Aside0.mk (blk_below (g := gb451) (o := .cells #[.int .u8 t447, .int .i64 t448, .string t449] 26 (0, 0)) (by (with_reducible repeat (first | refine blk_drewN ?_ _ | refine blk_drew ?_ | refine blk_alloc ?_ _)); exact BK451.out) hb)
        have n1_ := Aside0.mk (blk_below (g := gb459) (o := .cells #[.int .u8 t455, .int .i64 t456, .string t457] 26 (0, 0)) (by (with_reducible repeat (first | refine blk_drewN ?_ _ | refine blk_drew ?_ | refine blk_alloc ?_ _)); exact BK459.out) hb)
        have n2_ := Aside0.mk (blk_below (g := gb470) (o := .cells #[.int .u8 t466, .int .i64 t467, .string t468] 26 (0, 0)) (by (with_reducible repeat (first | refine blk_drewN ?_ _ | refine blk_drew ?_ | refine blk_alloc ?_ _)); exact BK470.out) hb)
        have n3_ := Aside0.mk (below_step (by repeat (first | (with_reducible first | exact HB.out | apply below_alloc | apply pw_below_drewN | apply below_drew1 | refine below_set ?_ GE451.out | refine below_set ?_ GE459.out | refine below_set ?_ GE470.out) | exact HB.out)) hb)
        clear BK451
        clear BK459
        clear BK470
        clear HB
        have BK451 := n0_
        have BK459 := n1_
        have BK470 := n2_
        have HB := n3_
        clear n0_ n1_ n2_ n3_
        (try clear hb)
        (try clear hb2)
        (try clear hk)
        (try clear hi)
        refine hK.out _ _ ⟨(blk_cell BK470.out 0).trans rfl, (blk_cell BK470.out 1).trans rfl, (blk_cell BK470.out 2).trans rfl⟩ (fun hHeld => ?_)
        clear hK K
        refine norm_ (a' := ?_) ?_ ?_
        rotate_left
        · show Act.put _ (some 55) _ = _
          simp only [Act.put, List.setIfInBounds_toArray, List.set_cons_zero, List.set_cons_succ, i64_w, i32_w]
          rfl
        refine pure_ (i := 4) (N := some 51) (v := ?_) (a' := ?_) #[true, true, true, true, true, false, false, false, false, false] rfl rfl (any_of HT_.out (by kernel_rfl)) (fun _ _ _ h => h) (Or.inl ⟨by rfl, ?_⟩) ?_ ?_
        rotate_left
        · intro w'
          go_simp
          with_reducible rfl
        rotate_left
        · simp only [Act.put, List.setIfInBounds_toArray, List.set_cons_zero, List.set_cons_succ, i64_w, i32_w]
          rfl
        refine pure_ (i := 5) (N := some 56) (v := ?_) (a' := ?_) #[true, true, true, true, true, true, false, false, false, false] rfl rfl (any_of HT_.out (by kernel_rfl)) (fun _ _ _ h => h) (Or.inl ⟨by rfl, ?_⟩) ?_ ?_
        rotate_left
        · intro w'
          go_simp
          with_reducible rfl
        rotate_left
        · simp only [Act.put, List.setIfInBounds_toArray, List.set_cons_zero, List.set_cons_succ, i64_w, i32_w]
          rfl
        refine pure_ (i := 6) (N := some 57) (v := ?_) (a' := ?_) #[true, true, true, true, true, true, true, false, false, false] rfl rfl (any_of HT_.out (by kernel_rfl)) (fun _ _ _ h => h) (Or.inl ⟨by rfl, ?_⟩) ?_ ?_
        rotate_left
        · intro w'
          go_simp
          with_reducible rfl
        rotate_left
        · simp only [Act.put, List.setIfInBounds_toArray, List.set_cons_zero, List.set_cons_succ, i64_w, i32_w]
          rfl
        refine one_ (i := 7) (N := some 15) #[true, true, true, true, true, true, true, true, false, false] rfl rfl (one_of HT_.out (by kernel_rfl)) (by decide) (fun K hK => ?_)
        refine box_step ?hg (N := 15) ?hd (cs := #[.int .u8 0, .int .i64 0, .string (⟨#[]⟩ : ByteArray)]) (t := 26) ?hr ?_; (case hd => rfl); (case hg => rfl); (case hr => first | (go_simp; done) | (go_simp; rfl))
        intro gb478 hg w40 hbox hb
        have n0_ := Aside0.mk (blk_below (g := gb451) (o := .cells #[.int .u8 t447, .int .i64 t448, .string t449] 26 (0, 0)) (by (with_reducible repeat (first | refine blk_drewN ?_ _ | refine blk_drew ?_ | refine blk_alloc ?_ _)); exact BK451.out) hb)
        have n1_ := Aside0.mk (blk_below (g := gb459) (o := .cells #[.int .u8 t455, .int .i64 t456, .string t457] 26 (0, 0)) (by (with_reducible repeat (first | refine blk_drewN ?_ _ | refine blk_drew ?_ | refine blk_alloc ?_ _)); exact BK459.out) hb)
        have n2_ := Aside0.mk (blk_below (g := gb470) (o := .cells #[.int .u8 t466, .int .i64 t467, .string t468] 26 (0, 0)) (by (with_reducible repeat (first | refine blk_drewN ?_ _ | refine blk_drew ?_ | refine blk_alloc ?_ _)); exact BK470.out) hb)
        have n3_ := Aside0.mk (below_step (by repeat (first | (with_reducible first | exact HB.out | apply below_alloc | apply pw_below_drewN | apply below_drew1 | refine below_set ?_ GE451.out | refine below_set ?_ GE459.out | refine below_set ?_ GE470.out) | exact HB.out)) hb)
        have n4_ := Aside0.mk (hbox)
        have n5_ := Aside0.mk ((by rw [hg]; exact (below_size (by repeat (first | (with_reducible first | exact HB.out | apply below_alloc | apply pw_below_drewN | apply below_drew1 | refine below_set ?_ GE451.out | refine below_set ?_ GE459.out | refine below_set ?_ GE470.out) | exact HB.out))) : w.heap.size ≤ gb478))
        have n6_ := Aside0.mk ((by rw [hg]; exact (below_size (by repeat (first | (with_reducible first | exact HB.out | apply below_alloc | apply pw_below_drewN | apply below_drew1 | refine below_set ?_ GE451.out | refine below_set ?_ GE459.out | refine below_set ?_ GE470.out) | exact HB.out))) : w.heap.size ≤ gb478))
        have n7_ := Aside0.mk ((by rw [hg]; exact Nat.ne_of_lt (blk_lt (g := gb451) (o := .cells #[.int .u8 t447, .int .i64 t448, .string t449] 26 (0, 0)) (by (with_reducible repeat (first | refine blk_drewN ?_ _ | refine blk_drew ?_ | refine blk_alloc ?_ _)); exact BK451.out)) : gb451 ≠ gb478))
        have n8_ := Aside0.mk ((by rw [hg]; exact Nat.ne_of_gt (blk_lt (g := gb451) (o := .cells #[.int .u8 t447, .int .i64 t448, .string t449] 26 (0, 0)) (by (with_reducible repeat (first | refine blk_drewN ?_ _ | refine blk_drew ?_ | refine blk_alloc ?_ _)); exact BK451.out)) : gb478 ≠ gb451))
        have n9_ := Aside0.mk ((by rw [hg]; exact Nat.ne_of_lt (blk_lt (g := gb459) (o := .cells #[.int .u8 t455, .int .i64 t456, .string t457] 26 (0, 0)) (by (with_reducible repeat (first | refine blk_drewN ?_ _ | refine blk_drew ?_ | refine blk_alloc ?_ _)); exact BK459.out)) : gb459 ≠ gb478))
        have n10_ := Aside0.mk ((by rw [hg]; exact Nat.ne_of_gt (blk_lt (g := gb459) (o := .cells #[.int .u8 t455, .int .i64 t456, .string t457] 26 (0, 0)) (by (with_reducible repeat (first | refine blk_drewN ?_ _ | refine blk_drew ?_ | refine blk_alloc ?_ _)); exact BK459.out)) : gb478 ≠ gb459))
        have n11_ := Aside0.mk ((by rw [hg]; exact Nat.ne_of_lt (blk_lt (g := gb470) (o := .cells #[.int .u8 t466, .int .i64 t467, .string t468] 26 (0, 0)) (by (with_reducible repeat (first | refine blk_drewN ?_ _ | refine blk_drew ?_ | refine blk_alloc ?_ _)); exact BK470.out)) : gb470 ≠ gb478))
        have n12_ := Aside0.mk ((by rw [hg]; exact Nat.ne_of_gt (blk_lt (g := gb470) (o := .cells #[.int .u8 t466, .int .i64 t467, .string t468] 26 (0, 0)) (by (with_reducible repeat (first | refine blk_drewN ?_ _ | refine blk_drew ?_ | refine blk_alloc ?_ _)); exact BK470.out)) : gb478 ≠ gb470))
        clear BK451
        clear BK459
        clear BK470
        clear HB
        have BK451 := n0_
        have BK459 := n1_
        have BK470 := n2_
        have HB := n3_
        have BK478 := n4_
        have GW478 := n5_
        have GE478 := n6_
        have NB451_478 := n7_
        have NB478_451 := n8_
        have NB459_478 := n9_
        have NB478_459 := n10_
        have NB470_478 := n11_
        have NB478_470 := n12_
        clear n0_ n1_ n2_ n3_ n4_ n5_ n6_ n7_ n8_ n9_ n10_ n11_ n12_
        clear hb hbox hg
        refine hK.out _ _ ⟨(blk_cell BK470.out 0).trans rfl, (blk_cell BK470.out 1).trans rfl, (blk_cell BK470.out 2).trans rfl⟩ (fun hHeld => ?_)
        clear hK K
        refine norm_ (a' := ?_) ?_ ?_
        rotate_left
        · show Act.put _ (some 15) _ = _
          simp only [Act.put, List.setIfInBounds_toArray, List.set_cons_zero, List.set_cons_succ, i64_w, i32_w]
          rfl
        exact norm_ (by simp only [putAll, Act.put, List.setIfInBounds_toArray, List.set_cons_zero, List.set_cons_succ]) (hCont (gb478) _ ⟨hHeld, (by (with_reducible repeat (first | refine blk_drewN ?_ _ | refine blk_drew ?_ | refine blk_alloc ?_ _)); exact BK451.out), (by (with_reducible repeat (first | refine blk_drewN ?_ _ | refine blk_drew ?_ | refine blk_alloc ?_ _)); exact BK459.out), (by (with_reducible repeat (first | refine blk_drewN ?_ _ | refine blk_drew ?_ | refine blk_alloc ?_ _)); exact BK470.out), (by (with_reducible repeat (first | refine blk_drewN ?_ _ | refine blk_drew ?_ | refine blk_alloc ?_ _)); exact BK478.out), GW478.out, GE478.out, NB451_478.out, NB478_451.out, NB459_478.out, NB478_459.out, NB470_478.out, NB478_470.out, (by repeat (first | (with_reducible first | exact HB.out | apply below_alloc | apply pw_below_drewN | apply below_drew1 | refine below_set ?_ GE451.out | refine below_set ?_ GE459.out | refine below_set ?_ GE470.out | refine below_set ?_ GE478.out) | exact HB.out))⟩)
      · skip
        refine box_step ?hg (N := 15) ?hd (cs := #[.int .u8 0, .int .i64 0, .string (⟨#[]⟩ : ByteArray)]) (t := 26) ?hr ?_; (case hd => rfl); (case hg => rfl); (case hr => first | (go_simp; done) | (go_simp; rfl))
        intro gb478 hg w39 hbox hb
        have n0_ := Aside0.mk (blk_below (g := gb451) (o := .cells #[.int .u8 t447, .int .i64 t448, .string t449] 26 (0, 0)) (by (with_reducible repeat (first | refine blk_drewN ?_ _ | refine blk_drew ?_ | refine blk_alloc ?_ _)); exact BK451.out) hb)
        have n1_ := Aside0.mk (blk_below (g := gb459) (o := .cells #[.int .u8 t455, .int .i64 t456, .string t457] 26 (0, 0)) (by (with_reducible repeat (first | refine blk_drewN ?_ _ | refine blk_drew ?_ | refine blk_alloc ?_ _)); exact BK459.out) hb)
        have n2_ := Aside0.mk (blk_below (g := gb470) (o := .cells #[.int .u8 t466, .int .i64 t467, .string t468] 26 (0, 0)) (by (with_reducible repeat (first | refine blk_drewN ?_ _ | refine blk_drew ?_ | refine blk_alloc ?_ _)); exact BK470.out) hb)
        have n3_ := Aside0.mk (below_step (by repeat (first | (with_reducible first | exact HB.out | apply below_alloc | apply pw_below_drewN | apply below_drew1 | refine below_set ?_ GE451.out | refine below_set ?_ GE459.out | refine below_set ?_ GE470.out) | exact HB.out)) hb)
        have n4_ := Aside0.mk (hbox)
        have n5_ := Aside0.mk ((by rw [hg]; exact (below_size (by repeat (first | (with_reducible first | exact HB.out | apply below_alloc | apply pw_below_drewN | apply below_drew1 | refine below_set ?_ GE451.out | refine below_set ?_ GE459.out | refine below_set ?_ GE470.out) | exact HB.out))) : w.heap.size ≤ gb478))
        have n6_ := Aside0.mk ((by rw [hg]; exact (below_size (by repeat (first | (with_reducible first | exact HB.out | apply below_alloc | apply pw_below_drewN | apply below_drew1 | refine below_set ?_ GE451.out | refine below_set ?_ GE459.out | refine below_set ?_ GE470.out) | exact HB.out))) : w.heap.size ≤ gb478))
        have n7_ := Aside0.mk ((by rw [hg]; exact Nat.ne_of_lt (blk_lt (g := gb451) (o := .cells #[.int .u8 t447, .int .i64 t448, .string t449] 26 (0, 0)) (by (with_reducible repeat (first | refine blk_drewN ?_ _ | refine blk_drew ?_ | refine blk_alloc ?_ _)); exact BK451.out)) : gb451 ≠ gb478))
        have n8_ := Aside0.mk ((by rw [hg]; exact Nat.ne_of_gt (blk_lt (g := gb451) (o := .cells #[.int .u8 t447, .int .i64 t448, .string t449] 26 (0, 0)) (by (with_reducible repeat (first | refine blk_drewN ?_ _ | refine blk_drew ?_ | refine blk_alloc ?_ _)); exact BK451.out)) : gb478 ≠ gb451))
        have n9_ := Aside0.mk ((by rw [hg]; exact Nat.ne_of_lt (blk_lt (g := gb459) (o := .cells #[.int .u8 t455, .int .i64 t456, .string t457] 26 (0, 0)) (by (with_reducible repeat (first | refine blk_drewN ?_ _ | refine blk_drew ?_ | refine blk_alloc ?_ _)); exact BK459.out)) : gb459 ≠ gb478))
        have n10_ := Aside0.mk ((by rw [hg]; exact Nat.ne_of_gt (blk_lt (g := gb459) (o := .cells #[.int .u8 t455, .int .i64 t456, .string t457] 26 (0, 0)) (by (with_reducible repeat (first | refine blk_drewN ?_ _ | refine blk_drew ?_ | refine blk_alloc ?_ _)); exact BK459.out)) : gb478 ≠ gb459))
        have n11_ := Aside0.mk ((by rw [hg]; exact Nat.ne_of_lt (blk_lt (g := gb470) (o := .cells #[.int .u8 t466, .int .i64 t467, .string t468] 26 (0, 0)) (by (with_reducible repeat (first | refine blk_drewN ?_ _ | refine blk_drew ?_ | refine blk_alloc ?_ _)); exact BK470.out)) : gb470 ≠ gb478))
        have n12_ := Aside0.mk ((by rw [hg]; exact Nat.ne_of_gt (blk_lt (g := gb470) (o := .cells #[.int .u8 t466, .int .i64 t467, .string t468] 26 (0, 0)) (by (with_reducible repeat (first | refine blk_drewN ?_ _ | refine blk_drew ?_ | refine blk_alloc ?_ _)); exact BK470.out)) : gb478 ≠ gb470))
        clear BK451
        clear BK459
        clear BK470
        clear HB
        have BK451 := n0_
        have BK459 := n1_
        have BK470 := n2_
        have HB := n3_
        have BK478 := n4_
        have GW478 := n5_
        have GE478 := n6_
        have NB451_478 := n7_
        have NB478_451 := n8_
        have NB459_478 := n9_
        have NB478_459 := n10_
        have NB470_478 := n11_
        have NB478_470 := n12_
        clear n0_ n1_ n2_ n3_ n4_ n5_ n6_ n7_ n8_ n9_ n10_ n11_ n12_
        clear hb hbox hg
        refine hK.out _ _ ⟨(blk_cell BK470.out 0).trans rfl, (blk_cell BK470.out 1).trans rfl, (blk_cell BK470.out 2).trans rfl⟩ (fun hHeld => ?_)
        clear hK K
        refine norm_ (a' := ?_) ?_ ?_
        rotate_left
        · show Act.put _ (some 15) _ = _
          simp only [Act.put, List.setIfInBounds_toArray, List.set_cons_zero, List.set_cons_succ, i64_w, i32_w]
          rfl
        refine one_ (i := 3) (N := some 55) #[true, true, true, true, false, false, false, true, false, false] rfl rfl (one_of HT_.out (by kernel_rfl)) (by decide) (fun K hK => ?_)
        refine goes_ Try.func31 (by kernel_rfl) rfl #[.string (⟨#[97, 110, 100]⟩ : ByteArray), .agg #[.int .u8 t471, .int .i64 t472, .string t473], .agg #[.int .u8 t466, .int .i64 t467, .string t468]] (by rfl) rfl rfl (by (try simp only [List.map_toArray, List.map_cons, List.map_nil]); first | done | rfl | (simp only [List.length_drop, List.length_take]; rfl)) ?_
        with_reducible refine (value_Two.calls k (⟨#[97, 110, 100]⟩ : ByteArray) t471 t472 t473 t466 t467 t468 t474 t475 t476 t477 _ A13.out).mono ?_
        rintro e w40 ⟨rfl, hb⟩
        refine ⟨_, rfl, ?_⟩
        have n0_ := Aside0.mk (blk_below (g := gb451) (o := .cells #[.int .u8 t447, .int .i64 t448, .string t449] 26 (0, 0)) (by (with_reducible repeat (first | refine blk_drewN ?_ _ | refine blk_drew ?_ | refine blk_alloc ?_ _)); exact BK451.out) hb)
        have n1_ := Aside0.mk (blk_below (g := gb459) (o := .cells #[.int .u8 t455, .int .i64 t456, .string t457] 26 (0, 0)) (by (with_reducible repeat (first | refine blk_drewN ?_ _ | refine blk_drew ?_ | refine blk_alloc ?_ _)); exact BK459.out) hb)
        have n2_ := Aside0.mk (blk_below (g := gb470) (o := .cells #[.int .u8 t466, .int .i64 t467, .string t468] 26 (0, 0)) (by (with_reducible repeat (first | refine blk_drewN ?_ _ | refine blk_drew ?_ | refine blk_alloc ?_ _)); exact BK470.out) hb)
        have n3_ := Aside0.mk (blk_below (g := gb478) (o := .cells #[.int .u8 0, .int .i64 0, .string (⟨#[]⟩ : ByteArray)] 26 (0, 0)) (by (with_reducible repeat (first | refine blk_drewN ?_ _ | refine blk_drew ?_ | refine blk_alloc ?_ _)); exact BK478.out) hb)
        have n4_ := Aside0.mk (below_step (by repeat (first | (with_reducible first | exact HB.out | apply below_alloc | apply pw_below_drewN | apply below_drew1 | refine below_set ?_ GE451.out | refine below_set ?_ GE459.out | refine below_set ?_ GE470.out | refine below_set ?_ GE478.out) | exact HB.out)) hb)
        clear BK451
        clear BK459
        clear BK470
        clear BK478
        clear HB
        have BK451 := n0_
        have BK459 := n1_
        have BK470 := n2_
        have BK478 := n3_
        have HB := n4_
        clear n0_ n1_ n2_ n3_ n4_
        (try clear hb)
        (try clear hb2)
        (try clear hk)
        (try clear hi)
        refine hK.out _ _ ⟨(blk_cell BK470.out 0).trans rfl, (blk_cell BK470.out 1).trans rfl, (blk_cell BK470.out 2).trans rfl⟩ (fun hHeld => ?_)
        clear hK K
        refine norm_ (a' := ?_) ?_ ?_
        rotate_left
        · show Act.put _ (some 55) _ = _
          simp only [Act.put, List.setIfInBounds_toArray, List.set_cons_zero, List.set_cons_succ, i64_w, i32_w]
          rfl
        refine pure_ (i := 4) (N := some 51) (v := ?_) (a' := ?_) #[true, true, true, true, true, false, false, true, false, false] rfl rfl (any_of HT_.out (by kernel_rfl)) (fun _ _ _ h => h) (Or.inl ⟨by rfl, ?_⟩) ?_ ?_
        rotate_left
        · intro w'
          go_simp
          with_reducible rfl
        rotate_left
        · simp only [Act.put, List.setIfInBounds_toArray, List.set_cons_zero, List.set_cons_succ, i64_w, i32_w]
          rfl
        refine pure_ (i := 5) (N := some 56) (v := ?_) (a' := ?_) #[true, true, true, true, true, true, false, true, false, false] rfl rfl (any_of HT_.out (by kernel_rfl)) (fun _ _ _ h => h) (Or.inl ⟨by rfl, ?_⟩) ?_ ?_
        rotate_left
        · intro w'
          go_simp
          with_reducible rfl
        rotate_left
        · simp only [Act.put, List.setIfInBounds_toArray, List.set_cons_zero, List.set_cons_succ, i64_w, i32_w]
          rfl
        refine pure_ (i := 6) (N := some 57) (v := ?_) (a' := ?_) #[true, true, true, true, true, true, true, true, false, false] rfl rfl (any_of HT_.out (by kernel_rfl)) (fun _ _ _ h => h) (Or.inl ⟨by rfl, ?_⟩) ?_ ?_
        rotate_left
        · intro w'
          go_simp
          with_reducible rfl
        rotate_left
        · simp only [Act.put, List.setIfInBounds_toArray, List.set_cons_zero, List.set_cons_succ, i64_w, i32_w]
          rfl
        exact norm_ (by simp only [putAll, Act.put, List.setIfInBounds_toArray, List.set_cons_zero, List.set_cons_succ]) (hCont (gb478) _ ⟨hHeld, (by (with_reducible repeat (first | refine blk_drewN ?_ _ | refine blk_drew ?_ | refine blk_alloc ?_ _)); exact BK451.out), (by (with_reducible repeat (first | refine blk_drewN ?_ _ | refine blk_drew ?_ | refine blk_alloc ?_ _)); exact BK459.out), (by (with_reducible repeat (first | refine blk_drewN ?_ _ | refine blk_drew ?_ | refine blk_alloc ?_ _)); exact BK470.out), (by (with_reducible repeat (first | refine blk_drewN ?_ _ | refine blk_drew ?_ | refine blk_alloc ?_ _)); exact BK478.out), GW478.out, GE478.out, NB451_478.out, NB478_451.out, NB459_478.out, NB478_459.out, NB470_478.out, NB478_470.out, (by repeat (first | (with_reducible first | exact HB.out | apply below_alloc | apply pw_below_drewN | apply below_drew1 | refine below_set ?_ GE451.out | refine below_set ?_ GE459.out | refine below_set ?_ GE470.out | refine below_set ?_ GE478.out) | exact HB.out))⟩)
    · skip
      refine box_step ?hg (N := 15) ?hd (cs := #[.int .u8 0, .int .i64 0, .string (⟨#[]⟩ : ByteArray)]) (t := 26) ?hr ?_; (case hd => rfl); (case hg => rfl); (case hr => first | (go_simp; done) | (go_simp; rfl))
      intro gb478 hg w38 hbox hb
      have n0_ := Aside0.mk (blk_below (g := gb451) (o := .cells #[.int .u8 t447, .int .i64 t448, .string t449] 26 (0, 0)) (by (with_reducible repeat (first | refine blk_drewN ?_ _ | refine blk_drew ?_ | refine blk_alloc ?_ _)); exact BK451.out) hb)
      have n1_ := Aside0.mk (blk_below (g := gb459) (o := .cells #[.int .u8 t455, .int .i64 t456, .string t457] 26 (0, 0)) (by (with_reducible repeat (first | refine blk_drewN ?_ _ | refine blk_drew ?_ | refine blk_alloc ?_ _)); exact BK459.out) hb)
      have n2_ := Aside0.mk (blk_below (g := gb470) (o := .cells #[.int .u8 t466, .int .i64 t467, .string t468] 26 (0, 0)) (by (with_reducible repeat (first | refine blk_drewN ?_ _ | refine blk_drew ?_ | refine blk_alloc ?_ _)); exact BK470.out) hb)
      have n3_ := Aside0.mk (below_step (by repeat (first | (with_reducible first | exact HB.out | apply below_alloc | apply pw_below_drewN | apply below_drew1 | refine below_set ?_ GE451.out | refine below_set ?_ GE459.out | refine below_set ?_ GE470.out) | exact HB.out)) hb)
      have n4_ := Aside0.mk (hbox)
      have n5_ := Aside0.mk ((by rw [hg]; exact (below_size (by repeat (first | (with_reducible first | exact HB.out | apply below_alloc | apply pw_below_drewN | apply below_drew1 | refine below_set ?_ GE451.out | refine below_set ?_ GE459.out | refine below_set ?_ GE470.out) | exact HB.out))) : w.heap.size ≤ gb478))
      have n6_ := Aside0.mk ((by rw [hg]; exact (below_size (by repeat (first | (with_reducible first | exact HB.out | apply below_alloc | apply pw_below_drewN | apply below_drew1 | refine below_set ?_ GE451.out | refine below_set ?_ GE459.out | refine below_set ?_ GE470.out) | exact HB.out))) : w.heap.size ≤ gb478))
      have n7_ := Aside0.mk ((by rw [hg]; exact Nat.ne_of_lt (blk_lt (g := gb451) (o := .cells #[.int .u8 t447, .int .i64 t448, .string t449] 26 (0, 0)) (by (with_reducible repeat (first | refine blk_drewN ?_ _ | refine blk_drew ?_ | refine blk_alloc ?_ _)); exact BK451.out)) : gb451 ≠ gb478))
      have n8_ := Aside0.mk ((by rw [hg]; exact Nat.ne_of_gt (blk_lt (g := gb451) (o := .cells #[.int .u8 t447, .int .i64 t448, .string t449] 26 (0, 0)) (by (with_reducible repeat (first | refine blk_drewN ?_ _ | refine blk_drew ?_ | refine blk_alloc ?_ _)); exact BK451.out)) : gb478 ≠ gb451))
      have n9_ := Aside0.mk ((by rw [hg]; exact Nat.ne_of_lt (blk_lt (g := gb459) (o := .cells #[.int .u8 t455, .int .i64 t456, .string t457] 26 (0, 0)) (by (with_reducible repeat (first | refine blk_drewN ?_ _ | refine blk_drew ?_ | refine blk_alloc ?_ _)); exact BK459.out)) : gb459 ≠ gb478))
      have n10_ := Aside0.mk ((by rw [hg]; exact Nat.ne_of_gt (blk_lt (g := gb459) (o := .cells #[.int .u8 t455, .int .i64 t456, .string t457] 26 (0, 0)) (by (with_reducible repeat (first | refine blk_drewN ?_ _ | refine blk_drew ?_ | refine blk_alloc ?_ _)); exact BK459.out)) : gb478 ≠ gb459))
      have n11_ := Aside0.mk ((by rw [hg]; exact Nat.ne_of_lt (blk_lt (g := gb470) (o := .cells #[.int .u8 t466, .int .i64 t467, .string t468] 26 (0, 0)) (by (with_reducible repeat (first | refine blk_drewN ?_ _ | refine blk_drew ?_ | refine blk_alloc ?_ _)); exact BK470.out)) : gb470 ≠ gb478))
      have n12_ := Aside0.mk ((by rw [hg]; exact Nat.ne_of_gt (blk_lt (g := gb470) (o := .cells #[.int .u8 t466, .int .i64 t467, .string t468] 26 (0, 0)) (by (with_reducible repeat (first | refine blk_drewN ?_ _ | refine blk_drew ?_ | refine blk_alloc ?_ _)); exact BK470.out)) : gb478 ≠ gb470))
      clear BK451
      clear BK459
      clear BK470
      clear HB
      have BK451 := n0_
      have BK459 := n1_
      have BK470 := n2_
      have HB := n3_
      have BK478 := n4_
      have GW478 := n5_
      have GE478 := n6_
      have NB451_478 := n7_
      have NB478_451 := n8_
      have NB459_478 := n9_
      have NB478_459 := n10_
      have NB470_478 := n11_
      have NB478_470 := n12_
      clear n0_ n1_ n2_ n3_ n4_ n5_ n6_ n7_ n8_ n9_ n10_ n11_ n12_
      clear hb hbox hg
      refine hK.out _ _ ⟨(blk_cell BK470.out 0).trans rfl, (blk_cell BK470.out 1).trans rfl, (blk_cell BK470.out 2).trans rfl⟩ (fun hHeld => ?_)
      clear hK K
      refine norm_ (a' := ?_) ?_ ?_
      rotate_left
      · show Act.put _ (some 15) _ = _
        simp only [Act.put, List.setIfInBounds_toArray, List.set_cons_zero, List.set_cons_succ, i64_w, i32_w]
        rfl
      refine one_ (i := 1) (N := some 53) #[true, true, true, false, false, false, false, true, false, false] rfl rfl (one_of HT_.out (by kernel_rfl)) (by decide) (fun K hK => ?_)
      refine goes_ Try.func33 (by kernel_rfl) rfl #[.int .i64 a0] (by rfl) rfl rfl (by (try simp only [List.map_toArray, List.map_cons, List.map_nil]); first | done | rfl | (simp only [List.length_drop, List.length_take]; rfl)) ?_
      with_reducible refine (value_Of.calls a0 t471 t472 t473 _ A12.out).mono ?_
      rintro e w39 ⟨rfl, hb⟩
      refine ⟨_, rfl, ?_⟩
      have n0_ := Aside0.mk (blk_below (g := gb451) (o := .cells #[.int .u8 t447, .int .i64 t448, .string t449] 26 (0, 0)) (by (with_reducible repeat (first | refine blk_drewN ?_ _ | refine blk_drew ?_ | refine blk_alloc ?_ _)); exact BK451.out) hb)
      have n1_ := Aside0.mk (blk_below (g := gb459) (o := .cells #[.int .u8 t455, .int .i64 t456, .string t457] 26 (0, 0)) (by (with_reducible repeat (first | refine blk_drewN ?_ _ | refine blk_drew ?_ | refine blk_alloc ?_ _)); exact BK459.out) hb)
      have n2_ := Aside0.mk (blk_below (g := gb470) (o := .cells #[.int .u8 t466, .int .i64 t467, .string t468] 26 (0, 0)) (by (with_reducible repeat (first | refine blk_drewN ?_ _ | refine blk_drew ?_ | refine blk_alloc ?_ _)); exact BK470.out) hb)
      have n3_ := Aside0.mk (blk_below (g := gb478) (o := .cells #[.int .u8 0, .int .i64 0, .string (⟨#[]⟩ : ByteArray)] 26 (0, 0)) (by (with_reducible repeat (first | refine blk_drewN ?_ _ | refine blk_drew ?_ | refine blk_alloc ?_ _)); exact BK478.out) hb)
      have n4_ := Aside0.mk (below_step (by repeat (first | (with_reducible first | exact HB.out | apply below_alloc | apply pw_below_drewN | apply below_drew1 | refine below_set ?_ GE451.out | refine below_set ?_ GE459.out | refine below_set ?_ GE470.out | refine below_set ?_ GE478.out) | exact HB.out)) hb)
      clear BK451
      clear BK459
      clear BK470
      clear BK478
      clear HB
      have BK451 := n0_
      have BK459 := n1_
      have BK470 := n2_
      have BK478 := n3_
      have HB := n4_
      clear n0_ n1_ n2_ n3_ n4_
      (try clear hb)
      (try clear hb2)
      (try clear hk)
      (try clear hi)
      refine hK.out _ _ ⟨(blk_cell BK470.out 0).trans rfl, (blk_cell BK470.out 1).trans rfl, (blk_cell BK470.out 2).trans rfl⟩ (fun hHeld => ?_)
      clear hK K
      refine norm_ (a' := ?_) ?_ ?_
      rotate_left
      · show Act.put _ (some 53) _ = _
        simp only [Act.put, List.setIfInBounds_toArray, List.set_cons_zero, List.set_cons_succ, i64_w, i32_w]
        rfl
      refine one_ (i := 3) (N := some 55) #[true, true, true, true, false, false, false, true, false, false] rfl rfl (one_of HT_.out (by kernel_rfl)) (by decide) (fun K hK => ?_)
      refine goes_ Try.func31 (by kernel_rfl) rfl #[.string (⟨#[97, 110, 100]⟩ : ByteArray), .agg #[.int .u8 t471, .int .i64 t472, .string t473], .agg #[.int .u8 t466, .int .i64 t467, .string t468]] (by rfl) rfl rfl (by (try simp only [List.map_toArray, List.map_cons, List.map_nil]); first | done | rfl | (simp only [List.length_drop, List.length_take]; rfl)) ?_
      with_reducible refine (value_Two.calls k (⟨#[97, 110, 100]⟩ : ByteArray) t471 t472 t473 t466 t467 t468 t474 t475 t476 t477 _ A13.out).mono ?_
      rintro e w40 ⟨rfl, hb⟩
      refine ⟨_, rfl, ?_⟩
      have n0_ := Aside0.mk (blk_below (g := gb451) (o := .cells #[.int .u8 t447, .int .i64 t448, .string t449] 26 (0, 0)) (by (with_reducible repeat (first | refine blk_drewN ?_ _ | refine blk_drew ?_ | refine blk_alloc ?_ _)); exact BK451.out) hb)
      have n1_ := Aside0.mk (blk_below (g := gb459) (o := .cells #[.int .u8 t455, .int .i64 t456, .string t457] 26 (0, 0)) (by (with_reducible repeat (first | refine blk_drewN ?_ _ | refine blk_drew ?_ | refine blk_alloc ?_ _)); exact BK459.out) hb)
      have n2_ := Aside0.mk (blk_below (g := gb470) (o := .cells #[.int .u8 t466, .int .i64 t467, .string t468] 26 (0, 0)) (by (with_reducible repeat (first | refine blk_drewN ?_ _ | refine blk_drew ?_ | refine blk_alloc ?_ _)); exact BK470.out) hb)
      have n3_ := Aside0.mk (blk_below (g := gb478) (o := .cells #[.int .u8 0, .int .i64 0, .string (⟨#[]⟩ : ByteArray)] 26 (0, 0)) (by (with_reducible repeat (first | refine blk_drewN ?_ _ | refine blk_drew ?_ | refine blk_alloc ?_ _)); exact BK478.out) hb)
      have n4_ := Aside0.mk (below_step (by repeat (first | (with_reducible first | exact HB.out | apply below_alloc | apply pw_below_drewN | apply below_drew1 | refine below_set ?_ GE451.out | refine below_set ?_ GE459.out | refine below_set ?_ GE470.out | refine below_set ?_ GE478.out) | exact HB.out)) hb)
      clear BK451
      clear BK459
      clear BK470
      clear BK478
      clear HB
      have BK451 := n0_
      have BK459 := n1_
      have BK470 := n2_
      have BK478 := n3_
      have HB := n4_
      clear n0_ n1_ n2_ n3_ n4_
      (try clear hb)
      (try clear hb2)
      (try clear hk)
      (try clear hi)
      refine hK.out _ _ ⟨(blk_cell BK470.out 0).trans rfl, (blk_cell BK470.out 1).trans rfl, (blk_cell BK470.out 2).trans rfl⟩ (fun hHeld => ?_)
      clear hK K
      refine norm_ (a' := ?_) ?_ ?_
      rotate_left
      · show Act.put _ (some 55) _ = _
        simp only [Act.put, List.setIfInBounds_toArray, List.set_cons_zero, List.set_cons_succ, i64_w, i32_w]
        rfl
      refine pure_ (i := 4) (N := some 51) (v := ?_) (a' := ?_) #[true, true, true, true, true, false, false, true, false, false] rfl rfl (any_of HT_.out (by kernel_rfl)) (fun _ _ _ h => h) (Or.inl ⟨by rfl, ?_⟩) ?_ ?_
      rotate_left
      · intro w'
        go_simp
        with_reducible rfl
      rotate_left
      · simp only [Act.put, List.setIfInBounds_toArray, List.set_cons_zero, List.set_cons_succ, i64_w, i32_w]
        rfl
      refine pure_ (i := 5) (N := some 56) (v := ?_) (a' := ?_) #[true, true, true, true, true, true, false, true, false, false] rfl rfl (any_of HT_.out (by kernel_rfl)) (fun _ _ _ h => h) (Or.inl ⟨by rfl, ?_⟩) ?_ ?_
      rotate_left
      · intro w'
        go_simp
        with_reducible rfl
      rotate_left
      · simp only [Act.put, List.setIfInBounds_toArray, List.set_cons_zero, List.set_cons_succ, i64_w, i32_w]
        rfl
      refine pure_ (i := 6) (N := some 57) (v := ?_) (a' := ?_) #[true, true, true, true, true, true, true, true, false, false] rfl rfl (any_of HT_.out (by kernel_rfl)) (fun _ _ _ h => h) (Or.inl ⟨by rfl, ?_⟩) ?_ ?_
      rotate_left
      · intro w'
        go_simp
        with_reducible rfl
      rotate_left
      · simp only [Act.put, List.setIfInBounds_toArray, List.set_cons_zero, List.set_cons_succ, i64_w, i32_w]
        rfl
      exact norm_ (by simp only [putAll, Act.put, List.setIfInBounds_toArray, List.set_cons_zero, List.set_cons_succ]) (hCont (gb478) _ ⟨hHeld, (by (with_reducible repeat (first | refine blk_drewN ?_ _ | refine blk_drew ?_ | refine blk_alloc ?_ _)); exact BK451.out), (by (with_reducible repeat (first | refine blk_drewN ?_ _ | refine blk_drew ?_ | refine blk_alloc ?_ _)); exact BK459.out), (by (with_reducible repeat (first | refine blk_drewN ?_ _ | refine blk_drew ?_ | refine blk_alloc ?_ _)); exact BK470.out), (by (with_reducible repeat (first | refine blk_drewN ?_ _ | refine blk_drew ?_ | refine blk_alloc ?_ _)); exact BK478.out), GW478.out, GE478.out, NB451_478.out, NB478_451.out, NB459_478.out, NB478_459.out, NB470_478.out, NB478_470.out, (by repeat (first | (with_reducible first | exact HB.out | apply below_alloc | apply pw_below_drewN | apply below_drew1 | refine below_set ?_ GE451.out | refine below_set ?_ GE459.out | refine below_set ?_ GE470.out | refine below_set ?_ GE478.out) | exact HB.out))⟩)
  rintro gb478 w41 ⟨hS_, h0_, h1_, h2_, h3_, h4_, h5_, h6_, h7_, h8_, h9_, h10_, h11_, h12_⟩
  have n0_ : Aside0 (w41.heap[gb451]? = some (.cells #[.int .u8 t447, .int .i64 t448, .string t449] 26 (0, 0))) := ⟨h0_⟩
  have n1_ : Aside0 (w41.heap[gb459]? = some (.cells #[.int .u8 t455, .int .i64 t456, .string t457] 26 (0, 0))) := ⟨h1_⟩
  have n2_ : Aside0 (w41.heap[gb470]? = some (.cells #[.int .u8 t466, .int .i64 t467, .string t468] 26 (0, 0))) := ⟨h2_⟩
  have n3_ : Aside0 (w41.heap[gb478]? = some (.cells #[.int .u8 0, .int .i64 0, .string (⟨#[]⟩ : ByteArray)] 26 (0, 0))) := ⟨h3_⟩
  have n4_ : Aside0 (w.heap.size ≤ gb478) := ⟨h4_⟩
  have n5_ : Aside0 (w.heap.size ≤ gb478) := ⟨h5_⟩
  have n6_ : Aside0 (gb451 ≠ gb478) := ⟨h6_⟩
  have n7_ : Aside0 (gb478 ≠ gb451) := ⟨h7_⟩
  have n8_ : Aside0 (gb459 ≠ gb478) := ⟨h8_⟩
  have n9_ : Aside0 (gb478 ≠ gb459) := ⟨h9_⟩
  have n10_ : Aside0 (gb470 ≠ gb478) := ⟨h10_⟩
  have n11_ : Aside0 (gb478 ≠ gb470) := ⟨h11_⟩
  have n12_ : Aside0 (Below w.heap.size w w41) := ⟨h12_⟩
  clear BK451
  clear BK459
  clear BK470
  clear HB
  clear h0_ h1_ h2_ h3_ h4_ h5_ h6_ h7_ h8_ h9_ h10_ h11_ h12_
  have BK451 := n0_
  have BK459 := n1_
  have BK470 := n2_
  have BK478 := n3_
  have GW478 := n4_
  have GE478 := n5_
  have NB451_478 := n6_
  have NB478_451 := n7_
  have NB459_478 := n8_
  have NB478_459 := n9_
  have NB470_478 := n10_
  have NB478_470 := n11_
  have HB := n12_
  clear n0_ n1_ n2_ n3_ n4_ n5_ n6_ n7_ n8_ n9_ n10_ n11_ n12_
  have hHeld : w41.cell? ⟨gb470, 0, none⟩ = some (.int .u8 t466) ∧ w41.cell? ⟨gb470, 1, none⟩ = some (.int .i64 t467) ∧ w41.cell? ⟨gb470, 2, none⟩ = some (.string t468) := hS_
  refine norm_ (a' := ?_) ?_ ?_
  rotate_left
  · simp only [putAll, Act.put, List.setIfInBounds_toArray, List.set_cons_zero, List.set_cons_succ]
    rfl
  refine one_ (i := 8) (N := none) #[true, true, true, true, true, true, true, true, true, false] rfl rfl (one_of HT_.out (by kernel_rfl)) (by decide) (fun K hK => ?_)
  have hs42 : w41.cell? ⟨gb478, 0, none⟩ = some (.int .u8 0) := (blk_cell BK478.out 0).trans rfl
  have hfs42 := blk_frozen BK478.out 0
  have hns42_0 := NB451_478.out
  have hns42_1 := NB459_478.out
  have hns42_2 := NB470_478.out
  have hms42_0 := NB478_451.out
  have hms42_1 := NB478_459.out
  have hms42_2 := NB478_470.out
  have hs43 : w41.cell? ⟨gb478, 1, none⟩ = some (.int .i64 0) := (blk_cell BK478.out 1).trans rfl
  have hfs43 := blk_frozen BK478.out 1
  have hns43_0 := NB451_478.out
  have hns43_1 := NB459_478.out
  have hns43_2 := NB470_478.out
  have hms43_0 := NB478_451.out
  have hms43_1 := NB478_459.out
  have hms43_2 := NB478_470.out
  have hs44 : w41.cell? ⟨gb478, 2, none⟩ = some (.string (⟨#[]⟩ : ByteArray)) := (blk_cell BK478.out 2).trans rfl
  have hfs44 := blk_frozen BK478.out 2
  have hns44_0 := NB451_478.out
  have hns44_1 := NB459_478.out
  have hns44_2 := NB470_478.out
  have hms44_0 := NB478_451.out
  have hms44_1 := NB478_459.out
  have hms44_2 := NB478_470.out
  refine skip_ (w1 := ?_) (by rfl) rfl ?_ ?_
  rotate_left
  · go_simp
    rfl
  refine hK.out _ _ ⟨((cell_far (p := ⟨gb478, _, none⟩) NB470_478.out _).trans (((cell_far (p := ⟨gb478, _, none⟩) NB470_478.out _).trans (((cell_far (p := ⟨gb478, _, none⟩) NB470_478.out _).trans (hHeld.1)))))), ((cell_far (p := ⟨gb478, _, none⟩) NB470_478.out _).trans (((cell_far (p := ⟨gb478, _, none⟩) NB470_478.out _).trans (((cell_far (p := ⟨gb478, _, none⟩) NB470_478.out _).trans (hHeld.2.1)))))), ((cell_far (p := ⟨gb478, _, none⟩) NB470_478.out _).trans (((cell_far (p := ⟨gb478, _, none⟩) NB470_478.out _).trans (((cell_far (p := ⟨gb478, _, none⟩) NB470_478.out _).trans (hHeld.2.2))))))⟩ (fun hHeld => ?_)
  clear hK K
  refine pure_ (i := 9) (N := some 16) (v := ?_) (a' := ?_) #[true, true, true, true, true, true, true, true, true, true] rfl rfl (any_of HT_.out (by kernel_rfl)) (fun _ _ _ h => h) (Or.inl ⟨by rfl, ?_⟩) ?_ ?_
  rotate_left
  · intro w'
    go_simp
    with_reducible rfl
  rotate_left
  · simp only [Act.put, List.setIfInBounds_toArray, List.set_cons_zero, List.set_cons_succ, i64_w, i32_w]
    rfl
  refine done_ (done_of HT_.out (by kernel_rfl)) ?_
  go_upto_region 6 with (fail)
  go_cut [76] (fun v76 wc => ∃ (kq : Nat) (x76_13 : Bool), v76 = .bool x76_13 ∧ Aside0 (sacristanlaw01_ValueShifts.j0 kq a0 (wrap64 (Int.tmod a1 64)) (wrap64 (Int.tmod a2 64)) x76_13 = some r) ∧ Aside0 (kq ≤ k) ∧ Aside0 (wc.heap[gb451]? = some (.cells #[.int .u8 t447, .int .i64 t448, .string t449] 26 (0, 0))) ∧ Aside0 (wc.heap[gb459]? = some (.cells #[.int .u8 t455, .int .i64 t456, .string t457] 26 (0, 0))) ∧ Aside0 (wc.heap[gb470]? = some (.cells #[.int .u8 t466, .int .i64 t467, .string t468] 26 (0, 0))) ∧ Aside0 (wc.heap[gb478]? = some (.cells #[.int .u8 t474, .int .i64 t475, .string t476] 26 (0, 0))) ∧ Aside0 (Below w.heap.size w wc))
  case first =>
    have H := HC14.out
    clear HC14
    by_cases c45 : t450 = 0
    · rw [if_pos c45] at H
      have c45b0 : (t450 == 0) = true := beq_iff_eq.mpr c45
      have c45b1 : (t450 != 0) = false := bne_eq_false_iff_eq.mpr c45
      clear c45
      (first | rw [c45b0] | (simp only [i64_w, i32_w]; rw [c45b0]) | skip)
      by_cases c46 : t458 = 0
      · rw [if_pos c46] at H
        have c46b0 : (t458 == 0) = true := beq_iff_eq.mpr c46
        have c46b1 : (t458 != 0) = false := bne_eq_false_iff_eq.mpr c46
        clear c46
        by_cases c47 : t469 = 0
        · rw [if_pos c47] at H
          have c47b0 : (t469 == 0) = true := beq_iff_eq.mpr c47
          have c47b1 : (t469 != 0) = false := bne_eq_false_iff_eq.mpr c47
          clear c47
          by_cases c48 : t477 = 0
          · rw [if_pos c48] at H
            have c48b0 : (t477 == 0) = true := beq_iff_eq.mpr c48
            have c48b1 : (t477 != 0) = false := bne_eq_false_iff_eq.mpr c48
            clear c48
            have H' := Aside0.mk H
            clear H
            have hnb49 := NB459_451.out
            have hnc49 := NB451_459.out
            have hnb50 := NB459_470.out
            have hnc50 := NB470_459.out
            have hnb51 := NB459_478.out
            have hnc51 := NB478_459.out
            have hcz52_0 : w41.cell? ⟨gb459, 0, none⟩ = some (.int .u8 t455) := (blk_cell BK459.out 0).trans rfl
            have hcz52_1 : w41.cell? ⟨gb459, 1, none⟩ = some (.int .i64 t456) := (blk_cell BK459.out 1).trans rfl
            have hcz52_2 : w41.cell? ⟨gb459, 2, none⟩ = some (.string t457) := (blk_cell BK459.out 2).trans rfl
            have hfz52_0 := blk_frozen BK459.out 0
            have hfz52_1 := blk_frozen BK459.out 1
            have hfz52_2 := blk_frozen BK459.out 2
            have hnb53 := NB478_451.out
            have hnc53 := NB451_478.out
            have hnb54 := NB478_470.out
            have hnc54 := NB470_478.out
            have hcz55_0 : w41.cell? ⟨gb478, 0, none⟩ = some (.int .u8 0) := (blk_cell BK478.out 0).trans rfl
            have hcz55_1 : w41.cell? ⟨gb478, 1, none⟩ = some (.int .i64 0) := (blk_cell BK478.out 1).trans rfl
            have hcz55_2 : w41.cell? ⟨gb478, 2, none⟩ = some (.string (⟨#[]⟩ : ByteArray)) := (blk_cell BK478.out 2).trans rfl
            have hfz55_0 := blk_frozen BK478.out 0
            have hfz55_1 := blk_frozen BK478.out 1
            have hfz55_2 := blk_frozen BK478.out 2
            go_wp2
            go_meet
            case rel => exact ⟨_, ((!(t455 == t474) || (!(t456 == t475) || (!(t457.toList == t476.toList))))), (by first | rfl | (simp; done) | (simp [*]; done)), H', ⟨by first | omega | exact Nat.le_refl _⟩, ⟨by (with_reducible repeat (first | refine blk_drewN ?_ _ | refine blk_drew ?_ | refine blk_alloc ?_ _)); refine blk_far ?_ NB451_478.out _; (with_reducible repeat (first | refine blk_drewN ?_ _ | refine blk_drew ?_ | refine blk_alloc ?_ _)); refine blk_far ?_ NB451_478.out _; (with_reducible repeat (first | refine blk_drewN ?_ _ | refine blk_drew ?_ | refine blk_alloc ?_ _)); refine blk_far ?_ NB451_478.out _; (with_reducible repeat (first | refine blk_drewN ?_ _ | refine blk_drew ?_ | refine blk_alloc ?_ _)); exact BK451.out⟩, ⟨by (with_reducible repeat (first | refine blk_drewN ?_ _ | refine blk_drew ?_ | refine blk_alloc ?_ _)); refine blk_far ?_ NB459_478.out _; (with_reducible repeat (first | refine blk_drewN ?_ _ | refine blk_drew ?_ | refine blk_alloc ?_ _)); refine blk_far ?_ NB459_478.out _; (with_reducible repeat (first | refine blk_drewN ?_ _ | refine blk_drew ?_ | refine blk_alloc ?_ _)); refine blk_far ?_ NB459_478.out _; (with_reducible repeat (first | refine blk_drewN ?_ _ | refine blk_drew ?_ | refine blk_alloc ?_ _)); exact BK459.out⟩, ⟨by (with_reducible repeat (first | refine blk_drewN ?_ _ | refine blk_drew ?_ | refine blk_alloc ?_ _)); refine blk_far ?_ NB470_478.out _; (with_reducible repeat (first | refine blk_drewN ?_ _ | refine blk_drew ?_ | refine blk_alloc ?_ _)); refine blk_far ?_ NB470_478.out _; (with_reducible repeat (first | refine blk_drewN ?_ _ | refine blk_drew ?_ | refine blk_alloc ?_ _)); refine blk_far ?_ NB470_478.out _; (with_reducible repeat (first | refine blk_drewN ?_ _ | refine blk_drew ?_ | refine blk_alloc ?_ _)); exact BK470.out⟩, ⟨by (with_reducible repeat (first | refine blk_drewN ?_ _ | refine blk_drew ?_ | refine blk_alloc ?_ _)); refine blk_put (cs := #[.int .u8 t474, .int .i64 t475, .string (⟨#[]⟩ : ByteArray)]) ?_ 2 _ rfl; (with_reducible repeat (first | refine blk_drewN ?_ _ | refine blk_drew ?_ | refine blk_alloc ?_ _)); refine blk_put (cs := #[.int .u8 t474, .int .i64 0, .string (⟨#[]⟩ : ByteArray)]) ?_ 1 _ rfl; (with_reducible repeat (first | refine blk_drewN ?_ _ | refine blk_drew ?_ | refine blk_alloc ?_ _)); refine blk_put (cs := #[.int .u8 0, .int .i64 0, .string (⟨#[]⟩ : ByteArray)]) ?_ 0 _ rfl; (with_reducible repeat (first | refine blk_drewN ?_ _ | refine blk_drew ?_ | refine blk_alloc ?_ _)); exact BK478.out⟩, ⟨by repeat (first | (with_reducible first | exact HB.out | apply below_alloc | apply pw_below_drewN | apply below_drew1 | refine below_set ?_ GE451.out | refine below_set ?_ GE459.out | refine below_set ?_ GE470.out | refine below_set ?_ GE478.out) | exact HB.out)⟩⟩
          · rw [if_neg c48] at H
            have c48b0 : (t477 == 0) = false := beq_eq_false_iff_ne.mpr c48
            have c48b1 : (t477 != 0) = true := bne_iff_ne.mpr c48
            have H' := Aside0.mk H
            clear H
            go_wp2
            go_meet
            case rel => exact ⟨_, (true), (by first | rfl | (simp; done) | (simp [*]; done)), H', ⟨by first | omega | exact Nat.le_refl _⟩, ⟨by (with_reducible repeat (first | refine blk_drewN ?_ _ | refine blk_drew ?_ | refine blk_alloc ?_ _)); refine blk_far ?_ NB451_478.out _; (with_reducible repeat (first | refine blk_drewN ?_ _ | refine blk_drew ?_ | refine blk_alloc ?_ _)); refine blk_far ?_ NB451_478.out _; (with_reducible repeat (first | refine blk_drewN ?_ _ | refine blk_drew ?_ | refine blk_alloc ?_ _)); refine blk_far ?_ NB451_478.out _; (with_reducible repeat (first | refine blk_drewN ?_ _ | refine blk_drew ?_ | refine blk_alloc ?_ _)); exact BK451.out⟩, ⟨by (with_reducible repeat (first | refine blk_drewN ?_ _ | refine blk_drew ?_ | refine blk_alloc ?_ _)); refine blk_far ?_ NB459_478.out _; (with_reducible repeat (first | refine blk_drewN ?_ _ | refine blk_drew ?_ | refine blk_alloc ?_ _)); refine blk_far ?_ NB459_478.out _; (with_reducible repeat (first | refine blk_drewN ?_ _ | refine blk_drew ?_ | refine blk_alloc ?_ _)); refine blk_far ?_ NB459_478.out _; (with_reducible repeat (first | refine blk_drewN ?_ _ | refine blk_drew ?_ | refine blk_alloc ?_ _)); exact BK459.out⟩, ⟨by (with_reducible repeat (first | refine blk_drewN ?_ _ | refine blk_drew ?_ | refine blk_alloc ?_ _)); refine blk_far ?_ NB470_478.out _; (with_reducible repeat (first | refine blk_drewN ?_ _ | refine blk_drew ?_ | refine blk_alloc ?_ _)); refine blk_far ?_ NB470_478.out _; (with_reducible repeat (first | refine blk_drewN ?_ _ | refine blk_drew ?_ | refine blk_alloc ?_ _)); refine blk_far ?_ NB470_478.out _; (with_reducible repeat (first | refine blk_drewN ?_ _ | refine blk_drew ?_ | refine blk_alloc ?_ _)); exact BK470.out⟩, ⟨by (with_reducible repeat (first | refine blk_drewN ?_ _ | refine blk_drew ?_ | refine blk_alloc ?_ _)); refine blk_put (cs := #[.int .u8 t474, .int .i64 t475, .string (⟨#[]⟩ : ByteArray)]) ?_ 2 _ rfl; (with_reducible repeat (first | refine blk_drewN ?_ _ | refine blk_drew ?_ | refine blk_alloc ?_ _)); refine blk_put (cs := #[.int .u8 t474, .int .i64 0, .string (⟨#[]⟩ : ByteArray)]) ?_ 1 _ rfl; (with_reducible repeat (first | refine blk_drewN ?_ _ | refine blk_drew ?_ | refine blk_alloc ?_ _)); refine blk_put (cs := #[.int .u8 0, .int .i64 0, .string (⟨#[]⟩ : ByteArray)]) ?_ 0 _ rfl; (with_reducible repeat (first | refine blk_drewN ?_ _ | refine blk_drew ?_ | refine blk_alloc ?_ _)); exact BK478.out⟩, ⟨by repeat (first | (with_reducible first | exact HB.out | apply below_alloc | apply pw_below_drewN | apply below_drew1 | refine below_set ?_ GE451.out | refine below_set ?_ GE459.out | refine below_set ?_ GE470.out | refine below_set ?_ GE478.out) | exact HB.out)⟩⟩
        · rw [if_neg c47] at H
          have c47b0 : (t469 == 0) = false := beq_eq_false_iff_ne.mpr c47
          have c47b1 : (t469 != 0) = true := bne_iff_ne.mpr c47
          have H' := Aside0.mk H
          clear H
          go_wp2
          go_meet
          case rel => exact ⟨_, (true), (by first | rfl | (simp; done) | (simp [*]; done)), H', ⟨by first | omega | exact Nat.le_refl _⟩, ⟨by (with_reducible repeat (first | refine blk_drewN ?_ _ | refine blk_drew ?_ | refine blk_alloc ?_ _)); refine blk_far ?_ NB451_478.out _; (with_reducible repeat (first | refine blk_drewN ?_ _ | refine blk_drew ?_ | refine blk_alloc ?_ _)); refine blk_far ?_ NB451_478.out _; (with_reducible repeat (first | refine blk_drewN ?_ _ | refine blk_drew ?_ | refine blk_alloc ?_ _)); refine blk_far ?_ NB451_478.out _; (with_reducible repeat (first | refine blk_drewN ?_ _ | refine blk_drew ?_ | refine blk_alloc ?_ _)); exact BK451.out⟩, ⟨by (with_reducible repeat (first | refine blk_drewN ?_ _ | refine blk_drew ?_ | refine blk_alloc ?_ _)); refine blk_far ?_ NB459_478.out _; (with_reducible repeat (first | refine blk_drewN ?_ _ | refine blk_drew ?_ | refine blk_alloc ?_ _)); refine blk_far ?_ NB459_478.out _; (with_reducible repeat (first | refine blk_drewN ?_ _ | refine blk_drew ?_ | refine blk_alloc ?_ _)); refine blk_far ?_ NB459_478.out _; (with_reducible repeat (first | refine blk_drewN ?_ _ | refine blk_drew ?_ | refine blk_alloc ?_ _)); exact BK459.out⟩, ⟨by (with_reducible repeat (first | refine blk_drewN ?_ _ | refine blk_drew ?_ | refine blk_alloc ?_ _)); refine blk_far ?_ NB470_478.out _; (with_reducible repeat (first | refine blk_drewN ?_ _ | refine blk_drew ?_ | refine blk_alloc ?_ _)); refine blk_far ?_ NB470_478.out _; (with_reducible repeat (first | refine blk_drewN ?_ _ | refine blk_drew ?_ | refine blk_alloc ?_ _)); refine blk_far ?_ NB470_478.out _; (with_reducible repeat (first | refine blk_drewN ?_ _ | refine blk_drew ?_ | refine blk_alloc ?_ _)); exact BK470.out⟩, ⟨by (with_reducible repeat (first | refine blk_drewN ?_ _ | refine blk_drew ?_ | refine blk_alloc ?_ _)); refine blk_put (cs := #[.int .u8 t474, .int .i64 t475, .string (⟨#[]⟩ : ByteArray)]) ?_ 2 _ rfl; (with_reducible repeat (first | refine blk_drewN ?_ _ | refine blk_drew ?_ | refine blk_alloc ?_ _)); refine blk_put (cs := #[.int .u8 t474, .int .i64 0, .string (⟨#[]⟩ : ByteArray)]) ?_ 1 _ rfl; (with_reducible repeat (first | refine blk_drewN ?_ _ | refine blk_drew ?_ | refine blk_alloc ?_ _)); refine blk_put (cs := #[.int .u8 0, .int .i64 0, .string (⟨#[]⟩ : ByteArray)]) ?_ 0 _ rfl; (with_reducible repeat (first | refine blk_drewN ?_ _ | refine blk_drew ?_ | refine blk_alloc ?_ _)); exact BK478.out⟩, ⟨by repeat (first | (with_reducible first | exact HB.out | apply below_alloc | apply pw_below_drewN | apply below_drew1 | refine below_set ?_ GE451.out | refine below_set ?_ GE459.out | refine below_set ?_ GE470.out | refine below_set ?_ GE478.out) | exact HB.out)⟩⟩
      · rw [if_neg c46] at H
        have c46b0 : (t458 == 0) = false := beq_eq_false_iff_ne.mpr c46
        have c46b1 : (t458 != 0) = true := bne_iff_ne.mpr c46
        have H' := Aside0.mk H
        clear H
        go_wp2
        go_meet
        case rel => exact ⟨_, (true), (by first | rfl | (simp; done) | (simp [*]; done)), H', ⟨by first | omega | exact Nat.le_refl _⟩, ⟨by (with_reducible repeat (first | refine blk_drewN ?_ _ | refine blk_drew ?_ | refine blk_alloc ?_ _)); refine blk_far ?_ NB451_478.out _; (with_reducible repeat (first | refine blk_drewN ?_ _ | refine blk_drew ?_ | refine blk_alloc ?_ _)); refine blk_far ?_ NB451_478.out _; (with_reducible repeat (first | refine blk_drewN ?_ _ | refine blk_drew ?_ | refine blk_alloc ?_ _)); refine blk_far ?_ NB451_478.out _; (with_reducible repeat (first | refine blk_drewN ?_ _ | refine blk_drew ?_ | refine blk_alloc ?_ _)); exact BK451.out⟩, ⟨by (with_reducible repeat (first | refine blk_drewN ?_ _ | refine blk_drew ?_ | refine blk_alloc ?_ _)); refine blk_far ?_ NB459_478.out _; (with_reducible repeat (first | refine blk_drewN ?_ _ | refine blk_drew ?_ | refine blk_alloc ?_ _)); refine blk_far ?_ NB459_478.out _; (with_reducible repeat (first | refine blk_drewN ?_ _ | refine blk_drew ?_ | refine blk_alloc ?_ _)); refine blk_far ?_ NB459_478.out _; (with_reducible repeat (first | refine blk_drewN ?_ _ | refine blk_drew ?_ | refine blk_alloc ?_ _)); exact BK459.out⟩, ⟨by (with_reducible repeat (first | refine blk_drewN ?_ _ | refine blk_drew ?_ | refine blk_alloc ?_ _)); refine blk_far ?_ NB470_478.out _; (with_reducible repeat (first | refine blk_drewN ?_ _ | refine blk_drew ?_ | refine blk_alloc ?_ _)); refine blk_far ?_ NB470_478.out _; (with_reducible repeat (first | refine blk_drewN ?_ _ | refine blk_drew ?_ | refine blk_alloc ?_ _)); refine blk_far ?_ NB470_478.out _; (with_reducible repeat (first | refine blk_drewN ?_ _ | refine blk_drew ?_ | refine blk_alloc ?_ _)); exact BK470.out⟩, ⟨by (with_reducible repeat (first | refine blk_drewN ?_ _ | refine blk_drew ?_ | refine blk_alloc ?_ _)); refine blk_put (cs := #[.int .u8 t474, .int .i64 t475, .string (⟨#[]⟩ : ByteArray)]) ?_ 2 _ rfl; (with_reducible repeat (first | refine blk_drewN ?_ _ | refine blk_drew ?_ | refine blk_alloc ?_ _)); refine blk_put (cs := #[.int .u8 t474, .int .i64 0, .string (⟨#[]⟩ : ByteArray)]) ?_ 1 _ rfl; (with_reducible repeat (first | refine blk_drewN ?_ _ | refine blk_drew ?_ | refine blk_alloc ?_ _)); refine blk_put (cs := #[.int .u8 0, .int .i64 0, .string (⟨#[]⟩ : ByteArray)]) ?_ 0 _ rfl; (with_reducible repeat (first | refine blk_drewN ?_ _ | refine blk_drew ?_ | refine blk_alloc ?_ _)); exact BK478.out⟩, ⟨by repeat (first | (with_reducible first | exact HB.out | apply below_alloc | apply pw_below_drewN | apply below_drew1 | refine below_set ?_ GE451.out | refine below_set ?_ GE459.out | refine below_set ?_ GE470.out | refine below_set ?_ GE478.out) | exact HB.out)⟩⟩
    · rw [if_neg c45] at H
      have c45b0 : (t450 == 0) = false := beq_eq_false_iff_ne.mpr c45
      have c45b1 : (t450 != 0) = true := bne_iff_ne.mpr c45
      (first | rw [c45b0] | (simp only [i64_w, i32_w]; rw [c45b0]) | skip)
      have H' := Aside0.mk H
      clear H
      go_wp2
      go_meet
      case rel => exact ⟨_, (true), (by first | rfl | (simp; done) | (simp [*]; done)), H', ⟨by first | omega | exact Nat.le_refl _⟩, ⟨by (with_reducible repeat (first | refine blk_drewN ?_ _ | refine blk_drew ?_ | refine blk_alloc ?_ _)); refine blk_far ?_ NB451_478.out _; (with_reducible repeat (first | refine blk_drewN ?_ _ | refine blk_drew ?_ | refine blk_alloc ?_ _)); refine blk_far ?_ NB451_478.out _; (with_reducible repeat (first | refine blk_drewN ?_ _ | refine blk_drew ?_ | refine blk_alloc ?_ _)); refine blk_far ?_ NB451_478.out _; (with_reducible repeat (first | refine blk_drewN ?_ _ | refine blk_drew ?_ | refine blk_alloc ?_ _)); exact BK451.out⟩, ⟨by (with_reducible repeat (first | refine blk_drewN ?_ _ | refine blk_drew ?_ | refine blk_alloc ?_ _)); refine blk_far ?_ NB459_478.out _; (with_reducible repeat (first | refine blk_drewN ?_ _ | refine blk_drew ?_ | refine blk_alloc ?_ _)); refine blk_far ?_ NB459_478.out _; (with_reducible repeat (first | refine blk_drewN ?_ _ | refine blk_drew ?_ | refine blk_alloc ?_ _)); refine blk_far ?_ NB459_478.out _; (with_reducible repeat (first | refine blk_drewN ?_ _ | refine blk_drew ?_ | refine blk_alloc ?_ _)); exact BK459.out⟩, ⟨by (with_reducible repeat (first | refine blk_drewN ?_ _ | refine blk_drew ?_ | refine blk_alloc ?_ _)); refine blk_far ?_ NB470_478.out _; (with_reducible repeat (first | refine blk_drewN ?_ _ | refine blk_drew ?_ | refine blk_alloc ?_ _)); refine blk_far ?_ NB470_478.out _; (with_reducible repeat (first | refine blk_drewN ?_ _ | refine blk_drew ?_ | refine blk_alloc ?_ _)); refine blk_far ?_ NB470_478.out _; (with_reducible repeat (first | refine blk_drewN ?_ _ | refine blk_drew ?_ | refine blk_alloc ?_ _)); exact BK470.out⟩, ⟨by (with_reducible repeat (first | refine blk_drewN ?_ _ | refine blk_drew ?_ | refine blk_alloc ?_ _)); refine blk_put (cs := #[.int .u8 t474, .int .i64 t475, .string (⟨#[]⟩ : ByteArray)]) ?_ 2 _ rfl; (with_reducible repeat (first | refine blk_drewN ?_ _ | refine blk_drew ?_ | refine blk_alloc ?_ _)); refine blk_put (cs := #[.int .u8 t474, .int .i64 0, .string (⟨#[]⟩ : ByteArray)]) ?_ 1 _ rfl; (with_reducible repeat (first | refine blk_drewN ?_ _ | refine blk_drew ?_ | refine blk_alloc ?_ _)); refine blk_put (cs := #[.int .u8 0, .int .i64 0, .string (⟨#[]⟩ : ByteArray)]) ?_ 0 _ rfl; (with_reducible repeat (first | refine blk_drewN ?_ _ | refine blk_drew ?_ | refine blk_alloc ?_ _)); exact BK478.out⟩, ⟨by repeat (first | (with_reducible first | exact HB.out | apply below_alloc | apply pw_below_drewN | apply below_drew1 | refine below_set ?_ GE451.out | refine below_set ?_ GE459.out | refine below_set ?_ GE470.out | refine below_set ?_ GE478.out) | exact HB.out)⟩⟩
  case rest =>
    clear HC14
    try clear p2
    try clear c3
    try clear c4
    try clear c5
    try clear p6
    try clear c31
    try clear c33
    try clear c34
    try clear c45
    try clear c45b0
    try clear c45b1
    try clear c46
    try clear c46b0
    try clear c46b1
    try clear c47
    try clear c47b0
    try clear c47b1
    try clear c48
    try clear c48b0
    try clear c48b1
    try clear c49
    try clear c50
    try clear c51
    try clear c53
    try clear c54
    try clear hcz35_0
    try clear hcz35_1
    try clear hcz35_2
    try clear hcz52_0
    try clear hcz52_1
    try clear hcz52_2
    try clear hcz55_0
    try clear hcz55_1
    try clear hcz55_2
    try clear hfz35_0
    try clear hfz35_1
    try clear hfz35_2
    try clear hfz52_0
    try clear hfz52_1
    try clear hfz52_2
    try clear hfz55_0
    try clear hfz55_1
    try clear hfz55_2
    obtain ⟨kq, x76_13, rfl, HA, HJ13, BK451, BK459, BK470, BK478, HB⟩ := hcut
    cases kq with
    | zero => exact absurd HA.out (by simp [sacristanlaw01_ValueShifts.j0])
    | succ kj13 =>
      have H := HA.out
      clear HA
      simp only [sacristanlaw01_ValueShifts.j0] at H
      by_cases c56 : x76_13 = true
      · subst c56
        have H1 : (some false) = some r := by rw [if_pos rfl] at H; exact H
        clear H
        have H := H1
        clear H1
        obtain rfl := Option.some.inj H
        go_wp2
        go_ret
        exact ⟨by first | rfl | (simp [errW_none, errW_some] <;> rfl) | (simp [*, errW_none, errW_some] <;> rfl), by repeat (first | (with_reducible first | exact HB.out | apply below_alloc | apply pw_below_drewN | apply below_drew1 | refine below_set ?_ GE451.out | refine below_set ?_ GE459.out | refine below_set ?_ GE470.out | refine below_set ?_ GE478.out) | exact HB.out)⟩
      · replace c56 := Bool.eq_false_iff.mpr c56
        subst c56
        have H1 : (if (wrap64 ((wrap64 (Int.tmod a1 64)) + (wrap64 (Int.tmod a2 64)))) > 63 then ((sacristanlaw01_awake.f kj13).bind fun t479 => (some t479)) else ((value_Of.f a0).bind fun bt480 => ((value_Of.f (wrap64 (Int.tmod a1 64))).bind fun bt483 => ((value_Two.f kj13 (⟨#[115, 104, 114]⟩ : ByteArray) bt480.1 bt480.2.1 bt480.2.2 bt483.1 bt483.2.1 bt483.2.2).bind fun bt486 => ((value_Of.f (wrap64 (Int.tmod a2 64))).bind fun bt491 => ((value_Two.f kj13 (⟨#[115, 104, 114]⟩ : ByteArray) bt486.1 bt486.2.1 bt486.2.2.1 bt491.1 bt491.2.1 bt491.2.2).bind fun bt494 => ((value_Of.f a0).bind fun bt499 => ((value_Of.f (wrap64 ((wrap64 (Int.tmod a1 64)) + (wrap64 (Int.tmod a2 64))))).bind fun bt502 => ((value_Two.f kj13 (⟨#[115, 104, 114]⟩ : ByteArray) bt499.1 bt499.2.1 bt499.2.2 bt502.1 bt502.2.1 bt502.2.2).bind fun bt505 => (if (bt494.1 == bt505.1 && (bt494.2.1 == bt505.2.1 && (bt494.2.2.1.toList == bt505.2.2.1.toList))) = true then ((sacristanlaw01_awake.f kj13).bind fun t510 => (sacristanlaw01_ValueShifts.j1 kj13 t510)) else (sacristanlaw01_ValueShifts.j1 kj13 false))))))))))) = some r := by rw [if_neg (show ¬ (false = true) by decide)] at H; exact H
        clear H
        have H := H1
        clear H1
        by_cases c57 : (wrap64 ((wrap64 (Int.tmod a1 64)) + (wrap64 (Int.tmod a2 64)))) > 63
        · rw [if_pos c57] at H
          have c57b0 : decide (63 < (wrap64 ((wrap64 (Int.tmod a1 64)) + (wrap64 (Int.tmod a2 64))))) = true := decide_eq_true c57
          clear c57
          replace H := Option.bind_eq_some_iff.mp H
          obtain ⟨t479, A580, H⟩ := H
          replace H : (some t479) = some r := H
          have A58 := Aside0.mk A580
          clear A580
          obtain rfl := Option.some.inj H
          go_wp2_with (first | ((with_reducible refine gate_callee (f := 28) rfl ?_); refine goesL_ (some 81) rfl rfl Try.func28 (by kernel_rfl) rfl #[] rfl (by (try simp only [List.map_toArray, List.map_cons, List.map_nil]); first | done | rfl | (simp only [List.length_drop, List.length_take]; rfl)) ?_; (with_reducible refine (sacristanlaw01_awake.calls kj13  t479 _ A58.out).mono ?_); rintro e w59 ⟨rfl, hb⟩; refine ⟨_, rfl, ?_⟩; have n0_ := Aside0.mk (blk_below (g := gb451) (o := .cells #[.int .u8 t447, .int .i64 t448, .string t449] 26 (0, 0)) (by (with_reducible repeat (first | refine blk_drewN ?_ _ | refine blk_drew ?_ | refine blk_alloc ?_ _)); exact BK451.out) hb); have n1_ := Aside0.mk (blk_below (g := gb459) (o := .cells #[.int .u8 t455, .int .i64 t456, .string t457] 26 (0, 0)) (by (with_reducible repeat (first | refine blk_drewN ?_ _ | refine blk_drew ?_ | refine blk_alloc ?_ _)); exact BK459.out) hb); have n2_ := Aside0.mk (blk_below (g := gb470) (o := .cells #[.int .u8 t466, .int .i64 t467, .string t468] 26 (0, 0)) (by (with_reducible repeat (first | refine blk_drewN ?_ _ | refine blk_drew ?_ | refine blk_alloc ?_ _)); exact BK470.out) hb); have n3_ := Aside0.mk (blk_below (g := gb478) (o := .cells #[.int .u8 t474, .int .i64 t475, .string t476] 26 (0, 0)) (by (with_reducible repeat (first | refine blk_drewN ?_ _ | refine blk_drew ?_ | refine blk_alloc ?_ _)); exact BK478.out) hb); have n4_ := Aside0.mk (below_step (by repeat (first | (with_reducible first | exact HB.out | apply below_alloc | apply pw_below_drewN | apply below_drew1 | refine below_set ?_ GE451.out | refine below_set ?_ GE459.out | refine below_set ?_ GE470.out | refine below_set ?_ GE478.out) | exact HB.out)) hb); clear BK451; clear BK459; clear BK470; clear BK478; clear HB; have BK451 := n0_; have BK459 := n1_; have BK470 := n2_; have BK478 := n3_; have HB := n4_; clear n0_ n1_ n2_ n3_ n4_; (try clear hb); (try clear hb2); (try clear hk); (try clear hi)))
          go_ret
          exact ⟨by first | rfl | (simp [errW_none, errW_some] <;> rfl) | (simp [*, errW_none, errW_some] <;> rfl), by repeat (first | (with_reducible first | exact HB.out | apply below_alloc | apply pw_below_drewN | apply below_drew1 | refine below_set ?_ GE451.out | refine below_set ?_ GE459.out | refine below_set ?_ GE470.out | refine below_set ?_ GE478.out) | exact HB.out)⟩
        · rw [if_neg c57] at H
          have c57b0 : decide (63 < (wrap64 ((wrap64 (Int.tmod a1 64)) + (wrap64 (Int.tmod a2 64))))) = false := decide_eq_false c57
          clear c57
          replace H := Option.bind_eq_some_iff.mp H
          obtain ⟨⟨t480, t481, t482⟩, A600, H⟩ := H
          (try dsimp only at H)
          have A60 := Aside0.mk A600
          clear A600
          replace H := Option.bind_eq_some_iff.mp H
          obtain ⟨⟨t483, t484, t485⟩, A610, H⟩ := H
          (try dsimp only at H)
          have A61 := Aside0.mk A610
          clear A610
          replace H := Option.bind_eq_some_iff.mp H
          obtain ⟨⟨t486, t487, t488, t489⟩, A620, H⟩ := H
          (try dsimp only at H)
          have A62 := Aside0.mk A620
          clear A620
          replace H := Option.bind_eq_some_iff.mp H
          obtain ⟨⟨t491, t492, t493⟩, A630, H⟩ := H
          (try dsimp only at H)
          have A63 := Aside0.mk A630
          clear A630
          replace H := Option.bind_eq_some_iff.mp H
          obtain ⟨⟨t494, t495, t496, t497⟩, A640, H⟩ := H
          (try dsimp only at H)
          have A64 := Aside0.mk A640
          clear A640
          replace H := Option.bind_eq_some_iff.mp H
          obtain ⟨⟨t499, t500, t501⟩, A650, H⟩ := H
          (try dsimp only at H)
          have A65 := Aside0.mk A650
          clear A650
          replace H := Option.bind_eq_some_iff.mp H
          obtain ⟨⟨t502, t503, t504⟩, A660, H⟩ := H
          (try dsimp only at H)
          have A66 := Aside0.mk A660
          clear A660
          replace H := Option.bind_eq_some_iff.mp H
          obtain ⟨⟨t505, t506, t507, t508⟩, A670, H⟩ := H
          (try dsimp only at H)
          have A67 := Aside0.mk A670
          clear A670
          have HC68 := Aside0.mk H
          clear H
          try go_wp2_with (first | ((with_reducible refine gate_callee (f := 33) rfl ?_); refine goesL_ (some 84) rfl rfl Try.func33 (by kernel_rfl) rfl #[.int .i64 a0] rfl (by (try simp only [List.map_toArray, List.map_cons, List.map_nil]); first | done | rfl | (simp only [List.length_drop, List.length_take]; rfl)) ?_; (with_reducible refine (value_Of.calls a0 t480 t481 t482 _ A60.out).mono ?_); rintro e w69 ⟨rfl, hb⟩; refine ⟨_, rfl, ?_⟩; have n0_ := Aside0.mk (blk_below (g := gb451) (o := .cells #[.int .u8 t447, .int .i64 t448, .string t449] 26 (0, 0)) (by (with_reducible repeat (first | refine blk_drewN ?_ _ | refine blk_drew ?_ | refine blk_alloc ?_ _)); exact BK451.out) hb); have n1_ := Aside0.mk (blk_below (g := gb459) (o := .cells #[.int .u8 t455, .int .i64 t456, .string t457] 26 (0, 0)) (by (with_reducible repeat (first | refine blk_drewN ?_ _ | refine blk_drew ?_ | refine blk_alloc ?_ _)); exact BK459.out) hb); have n2_ := Aside0.mk (blk_below (g := gb470) (o := .cells #[.int .u8 t466, .int .i64 t467, .string t468] 26 (0, 0)) (by (with_reducible repeat (first | refine blk_drewN ?_ _ | refine blk_drew ?_ | refine blk_alloc ?_ _)); exact BK470.out) hb); have n3_ := Aside0.mk (blk_below (g := gb478) (o := .cells #[.int .u8 t474, .int .i64 t475, .string t476] 26 (0, 0)) (by (with_reducible repeat (first | refine blk_drewN ?_ _ | refine blk_drew ?_ | refine blk_alloc ?_ _)); exact BK478.out) hb); have n4_ := Aside0.mk (below_step (by repeat (first | (with_reducible first | exact HB.out | apply below_alloc | apply pw_below_drewN | apply below_drew1 | refine below_set ?_ GE451.out | refine below_set ?_ GE459.out | refine below_set ?_ GE470.out | refine below_set ?_ GE478.out) | exact HB.out)) hb); clear BK451; clear BK459; clear BK470; clear BK478; clear HB; have BK451 := n0_; have BK459 := n1_; have BK470 := n2_; have BK478 := n3_; have HB := n4_; clear n0_ n1_ n2_ n3_ n4_; (try clear hb); (try clear hb2); (try clear hk); (try clear hi)) | ((with_reducible refine gate_callee (f := 33) rfl ?_); refine goesL_ (some 86) rfl rfl Try.func33 (by kernel_rfl) rfl #[.int .i64 (wrap64 (Int.tmod a1 64))] rfl (by (try simp only [List.map_toArray, List.map_cons, List.map_nil]); first | done | rfl | (simp only [List.length_drop, List.length_take]; rfl)) ?_; (with_reducible refine (value_Of.calls (wrap64 (Int.tmod a1 64)) t483 t484 t485 _ A61.out).mono ?_); rintro e w70 ⟨rfl, hb⟩; refine ⟨_, rfl, ?_⟩; have n0_ := Aside0.mk (blk_below (g := gb451) (o := .cells #[.int .u8 t447, .int .i64 t448, .string t449] 26 (0, 0)) (by (with_reducible repeat (first | refine blk_drewN ?_ _ | refine blk_drew ?_ | refine blk_alloc ?_ _)); exact BK451.out) hb); have n1_ := Aside0.mk (blk_below (g := gb459) (o := .cells #[.int .u8 t455, .int .i64 t456, .string t457] 26 (0, 0)) (by (with_reducible repeat (first | refine blk_drewN ?_ _ | refine blk_drew ?_ | refine blk_alloc ?_ _)); exact BK459.out) hb); have n2_ := Aside0.mk (blk_below (g := gb470) (o := .cells #[.int .u8 t466, .int .i64 t467, .string t468] 26 (0, 0)) (by (with_reducible repeat (first | refine blk_drewN ?_ _ | refine blk_drew ?_ | refine blk_alloc ?_ _)); exact BK470.out) hb); have n3_ := Aside0.mk (blk_below (g := gb478) (o := .cells #[.int .u8 t474, .int .i64 t475, .string t476] 26 (0, 0)) (by (with_reducible repeat (first | refine blk_drewN ?_ _ | refine blk_drew ?_ | refine blk_alloc ?_ _)); exact BK478.out) hb); have n4_ := Aside0.mk (below_step (by repeat (first | (with_reducible first | exact HB.out | apply below_alloc | apply pw_below_drewN | apply below_drew1 | refine below_set ?_ GE451.out | refine below_set ?_ GE459.out | refine below_set ?_ GE470.out | refine below_set ?_ GE478.out) | exact HB.out)) hb); clear BK451; clear BK459; clear BK470; clear BK478; clear HB; have BK451 := n0_; have BK459 := n1_; have BK470 := n2_; have BK478 := n3_; have HB := n4_; clear n0_ n1_ n2_ n3_ n4_; (try clear hb); (try clear hb2); (try clear hk); (try clear hi)) | ((with_reducible refine gate_callee (f := 31) rfl ?_); refine goesL_ (some 87) rfl rfl Try.func31 (by kernel_rfl) rfl #[.string (⟨#[115, 104, 114]⟩ : ByteArray), .agg #[.int .u8 t480, .int .i64 t481, .string t482], .agg #[.int .u8 t483, .int .i64 t484, .string t485]] rfl (by (try simp only [List.map_toArray, List.map_cons, List.map_nil]); first | done | rfl | (simp only [List.length_drop, List.length_take]; rfl)) ?_; (with_reducible refine (value_Two.calls kj13 (⟨#[115, 104, 114]⟩ : ByteArray) t480 t481 t482 t483 t484 t485 t486 t487 t488 t489 _ A62.out).mono ?_); rintro e w71 ⟨rfl, hb⟩; refine ⟨_, rfl, ?_⟩; have n0_ := Aside0.mk (blk_below (g := gb451) (o := .cells #[.int .u8 t447, .int .i64 t448, .string t449] 26 (0, 0)) (by (with_reducible repeat (first | refine blk_drewN ?_ _ | refine blk_drew ?_ | refine blk_alloc ?_ _)); exact BK451.out) hb); have n1_ := Aside0.mk (blk_below (g := gb459) (o := .cells #[.int .u8 t455, .int .i64 t456, .string t457] 26 (0, 0)) (by (with_reducible repeat (first | refine blk_drewN ?_ _ | refine blk_drew ?_ | refine blk_alloc ?_ _)); exact BK459.out) hb); have n2_ := Aside0.mk (blk_below (g := gb470) (o := .cells #[.int .u8 t466, .int .i64 t467, .string t468] 26 (0, 0)) (by (with_reducible repeat (first | refine blk_drewN ?_ _ | refine blk_drew ?_ | refine blk_alloc ?_ _)); exact BK470.out) hb); have n3_ := Aside0.mk (blk_below (g := gb478) (o := .cells #[.int .u8 t474, .int .i64 t475, .string t476] 26 (0, 0)) (by (with_reducible repeat (first | refine blk_drewN ?_ _ | refine blk_drew ?_ | refine blk_alloc ?_ _)); exact BK478.out) hb); have n4_ := Aside0.mk (below_step (by repeat (first | (with_reducible first | exact HB.out | apply below_alloc | apply pw_below_drewN | apply below_drew1 | refine below_set ?_ GE451.out | refine below_set ?_ GE459.out | refine below_set ?_ GE470.out | refine below_set ?_ GE478.out) | exact HB.out)) hb); clear BK451; clear BK459; clear BK470; clear BK478; clear HB; have BK451 := n0_; have BK459 := n1_; have BK470 := n2_; have BK478 := n3_; have HB := n4_; clear n0_ n1_ n2_ n3_ n4_; (try clear hb); (try clear hb2); (try clear hk); (try clear hi)) | ((with_reducible refine gate_dst (N := 17) rfl ?_); refine box_event ?hg (N := 17) ?hd (cs := #[.int .u8 0, .int .i64 0, .string (⟨#[]⟩ : ByteArray)]) (t := 26) ?hr ?_; (case hd => rfl); (case hg => rfl); (case hr => first | (go_simp; done) | (go_simp; rfl)); intro gb490 hg w72 hbox hb; have n0_ := Aside0.mk (blk_below (g := gb451) (o := .cells #[.int .u8 t447, .int .i64 t448, .string t449] 26 (0, 0)) (by (with_reducible repeat (first | refine blk_drewN ?_ _ | refine blk_drew ?_ | refine blk_alloc ?_ _)); exact BK451.out) hb); have n1_ := Aside0.mk (blk_below (g := gb459) (o := .cells #[.int .u8 t455, .int .i64 t456, .string t457] 26 (0, 0)) (by (with_reducible repeat (first | refine blk_drewN ?_ _ | refine blk_drew ?_ | refine blk_alloc ?_ _)); exact BK459.out) hb); have n2_ := Aside0.mk (blk_below (g := gb470) (o := .cells #[.int .u8 t466, .int .i64 t467, .string t468] 26 (0, 0)) (by (with_reducible repeat (first | refine blk_drewN ?_ _ | refine blk_drew ?_ | refine blk_alloc ?_ _)); exact BK470.out) hb); have n3_ := Aside0.mk (blk_below (g := gb478) (o := .cells #[.int .u8 t474, .int .i64 t475, .string t476] 26 (0, 0)) (by (with_reducible repeat (first | refine blk_drewN ?_ _ | refine blk_drew ?_ | refine blk_alloc ?_ _)); exact BK478.out) hb); have n4_ := Aside0.mk (below_step (by repeat (first | (with_reducible first | exact HB.out | apply below_alloc | apply pw_below_drewN | apply below_drew1 | refine below_set ?_ GE451.out | refine below_set ?_ GE459.out | refine below_set ?_ GE470.out | refine below_set ?_ GE478.out) | exact HB.out)) hb); have n5_ := Aside0.mk (hbox); have n6_ := Aside0.mk ((by rw [hg]; exact (below_size (by repeat (first | (with_reducible first | exact HB.out | apply below_alloc | apply pw_below_drewN | apply below_drew1 | refine below_set ?_ GE451.out | refine below_set ?_ GE459.out | refine below_set ?_ GE470.out | refine below_set ?_ GE478.out) | exact HB.out))) : w.heap.size ≤ gb490)); have n7_ := Aside0.mk ((by rw [hg]; exact (below_size (by repeat (first | (with_reducible first | exact HB.out | apply below_alloc | apply pw_below_drewN | apply below_drew1 | refine below_set ?_ GE451.out | refine below_set ?_ GE459.out | refine below_set ?_ GE470.out | refine below_set ?_ GE478.out) | exact HB.out))) : w.heap.size ≤ gb490)); have n8_ := Aside0.mk ((by rw [hg]; exact Nat.ne_of_lt (blk_lt (g := gb451) (o := .cells #[.int .u8 t447, .int .i64 t448, .string t449] 26 (0, 0)) (by (with_reducible repeat (first | refine blk_drewN ?_ _ | refine blk_drew ?_ | refine blk_alloc ?_ _)); exact BK451.out)) : gb451 ≠ gb490)); have n9_ := Aside0.mk ((by rw [hg]; exact Nat.ne_of_gt (blk_lt (g := gb451) (o := .cells #[.int .u8 t447, .int .i64 t448, .string t449] 26 (0, 0)) (by (with_reducible repeat (first | refine blk_drewN ?_ _ | refine blk_drew ?_ | refine blk_alloc ?_ _)); exact BK451.out)) : gb490 ≠ gb451)); have n10_ := Aside0.mk ((by rw [hg]; exact Nat.ne_of_lt (blk_lt (g := gb459) (o := .cells #[.int .u8 t455, .int .i64 t456, .string t457] 26 (0, 0)) (by (with_reducible repeat (first | refine blk_drewN ?_ _ | refine blk_drew ?_ | refine blk_alloc ?_ _)); exact BK459.out)) : gb459 ≠ gb490)); have n11_ := Aside0.mk ((by rw [hg]; exact Nat.ne_of_gt (blk_lt (g := gb459) (o := .cells #[.int .u8 t455, .int .i64 t456, .string t457] 26 (0, 0)) (by (with_reducible repeat (first | refine blk_drewN ?_ _ | refine blk_drew ?_ | refine blk_alloc ?_ _)); exact BK459.out)) : gb490 ≠ gb459)); have n12_ := Aside0.mk ((by rw [hg]; exact Nat.ne_of_lt (blk_lt (g := gb470) (o := .cells #[.int .u8 t466, .int .i64 t467, .string t468] 26 (0, 0)) (by (with_reducible repeat (first | refine blk_drewN ?_ _ | refine blk_drew ?_ | refine blk_alloc ?_ _)); exact BK470.out)) : gb470 ≠ gb490)); have n13_ := Aside0.mk ((by rw [hg]; exact Nat.ne_of_gt (blk_lt (g := gb470) (o := .cells #[.int .u8 t466, .int .i64 t467, .string t468] 26 (0, 0)) (by (with_reducible repeat (first | refine blk_drewN ?_ _ | refine blk_drew ?_ | refine blk_alloc ?_ _)); exact BK470.out)) : gb490 ≠ gb470)); have n14_ := Aside0.mk ((by rw [hg]; exact Nat.ne_of_lt (blk_lt (g := gb478) (o := .cells #[.int .u8 t474, .int .i64 t475, .string t476] 26 (0, 0)) (by (with_reducible repeat (first | refine blk_drewN ?_ _ | refine blk_drew ?_ | refine blk_alloc ?_ _)); exact BK478.out)) : gb478 ≠ gb490)); have n15_ := Aside0.mk ((by rw [hg]; exact Nat.ne_of_gt (blk_lt (g := gb478) (o := .cells #[.int .u8 t474, .int .i64 t475, .string t476] 26 (0, 0)) (by (with_reducible repeat (first | refine blk_drewN ?_ _ | refine blk_drew ?_ | refine blk_alloc ?_ _)); exact BK478.out)) : gb490 ≠ gb478)); clear BK451; clear BK459; clear BK470; clear BK478; clear HB; have BK451 := n0_; have BK459 := n1_; have BK470 := n2_; have BK478 := n3_; have HB := n4_; have BK490 := n5_; have GW490 := n6_; have GE490 := n7_; have NB451_490 := n8_; have NB490_451 := n9_; have NB459_490 := n10_; have NB490_459 := n11_; have NB470_490 := n12_; have NB490_470 := n13_; have NB478_490 := n14_; have NB490_478 := n15_; clear n0_ n1_ n2_ n3_ n4_ n5_ n6_ n7_ n8_ n9_ n10_ n11_ n12_ n13_ n14_ n15_; clear hb hbox hg; have hnb73 := NB490_451.out; have hnc73 := NB451_490.out; have hnb74 := NB490_459.out; have hnc74 := NB459_490.out; have hnb75 := NB490_470.out; have hnc75 := NB470_490.out; have hnb76 := NB490_478.out; have hnc76 := NB478_490.out; have hcz77_0 : w72.cell? ⟨gb490, 0, none⟩ = some (.int .u8 0) := (blk_cell BK490.out 0).trans rfl; have hcz77_1 : w72.cell? ⟨gb490, 1, none⟩ = some (.int .i64 0) := (blk_cell BK490.out 1).trans rfl; have hcz77_2 : w72.cell? ⟨gb490, 2, none⟩ = some (.string (⟨#[]⟩ : ByteArray)) := (blk_cell BK490.out 2).trans rfl; have hfz77_0 := blk_frozen BK490.out 0; have hfz77_1 := blk_frozen BK490.out 1; have hfz77_2 := blk_frozen BK490.out 2))
          have n0_ : Aside0 ((((w72.setCell ⟨gb490, 0, none⟩ (.int .u8 t486)).setCell ⟨gb490, 1, none⟩ (.int .i64 t487)).setCell ⟨gb490, 2, none⟩ (.string t488)).heap[gb451]? = some (.cells #[.int .u8 t447, .int .i64 t448, .string t449] 26 (0, 0))) := ⟨by (with_reducible repeat (first | refine blk_drewN ?_ _ | refine blk_drew ?_ | refine blk_alloc ?_ _)); refine blk_far ?_ NB451_490.out _; (with_reducible repeat (first | refine blk_drewN ?_ _ | refine blk_drew ?_ | refine blk_alloc ?_ _)); refine blk_far ?_ NB451_490.out _; (with_reducible repeat (first | refine blk_drewN ?_ _ | refine blk_drew ?_ | refine blk_alloc ?_ _)); refine blk_far ?_ NB451_490.out _; (with_reducible repeat (first | refine blk_drewN ?_ _ | refine blk_drew ?_ | refine blk_alloc ?_ _)); exact BK451.out⟩
          have n1_ : Aside0 ((((w72.setCell ⟨gb490, 0, none⟩ (.int .u8 t486)).setCell ⟨gb490, 1, none⟩ (.int .i64 t487)).setCell ⟨gb490, 2, none⟩ (.string t488)).heap[gb459]? = some (.cells #[.int .u8 t455, .int .i64 t456, .string t457] 26 (0, 0))) := ⟨by (with_reducible repeat (first | refine blk_drewN ?_ _ | refine blk_drew ?_ | refine blk_alloc ?_ _)); refine blk_far ?_ NB459_490.out _; (with_reducible repeat (first | refine blk_drewN ?_ _ | refine blk_drew ?_ | refine blk_alloc ?_ _)); refine blk_far ?_ NB459_490.out _; (with_reducible repeat (first | refine blk_drewN ?_ _ | refine blk_drew ?_ | refine blk_alloc ?_ _)); refine blk_far ?_ NB459_490.out _; (with_reducible repeat (first | refine blk_drewN ?_ _ | refine blk_drew ?_ | refine blk_alloc ?_ _)); exact BK459.out⟩
          have n2_ : Aside0 ((((w72.setCell ⟨gb490, 0, none⟩ (.int .u8 t486)).setCell ⟨gb490, 1, none⟩ (.int .i64 t487)).setCell ⟨gb490, 2, none⟩ (.string t488)).heap[gb470]? = some (.cells #[.int .u8 t466, .int .i64 t467, .string t468] 26 (0, 0))) := ⟨by (with_reducible repeat (first | refine blk_drewN ?_ _ | refine blk_drew ?_ | refine blk_alloc ?_ _)); refine blk_far ?_ NB470_490.out _; (with_reducible repeat (first | refine blk_drewN ?_ _ | refine blk_drew ?_ | refine blk_alloc ?_ _)); refine blk_far ?_ NB470_490.out _; (with_reducible repeat (first | refine blk_drewN ?_ _ | refine blk_drew ?_ | refine blk_alloc ?_ _)); refine blk_far ?_ NB470_490.out _; (with_reducible repeat (first | refine blk_drewN ?_ _ | refine blk_drew ?_ | refine blk_alloc ?_ _)); exact BK470.out⟩
          have n3_ : Aside0 ((((w72.setCell ⟨gb490, 0, none⟩ (.int .u8 t486)).setCell ⟨gb490, 1, none⟩ (.int .i64 t487)).setCell ⟨gb490, 2, none⟩ (.string t488)).heap[gb478]? = some (.cells #[.int .u8 t474, .int .i64 t475, .string t476] 26 (0, 0))) := ⟨by (with_reducible repeat (first | refine blk_drewN ?_ _ | refine blk_drew ?_ | refine blk_alloc ?_ _)); refine blk_far ?_ NB478_490.out _; (with_reducible repeat (first | refine blk_drewN ?_ _ | refine blk_drew ?_ | refine blk_alloc ?_ _)); refine blk_far ?_ NB478_490.out _; (with_reducible repeat (first | refine blk_drewN ?_ _ | refine blk_drew ?_ | refine blk_alloc ?_ _)); refine blk_far ?_ NB478_490.out _; (with_reducible repeat (first | refine blk_drewN ?_ _ | refine blk_drew ?_ | refine blk_alloc ?_ _)); exact BK478.out⟩
          have n4_ : Aside0 ((((w72.setCell ⟨gb490, 0, none⟩ (.int .u8 t486)).setCell ⟨gb490, 1, none⟩ (.int .i64 t487)).setCell ⟨gb490, 2, none⟩ (.string t488)).heap[gb490]? = some (.cells #[.int .u8 t486, .int .i64 t487, .string t488] 26 (0, 0))) := ⟨by (with_reducible repeat (first | refine blk_drewN ?_ _ | refine blk_drew ?_ | refine blk_alloc ?_ _)); refine blk_put (cs := #[.int .u8 t486, .int .i64 t487, .string (⟨#[]⟩ : ByteArray)]) ?_ 2 _ rfl; (with_reducible repeat (first | refine blk_drewN ?_ _ | refine blk_drew ?_ | refine blk_alloc ?_ _)); refine blk_put (cs := #[.int .u8 t486, .int .i64 0, .string (⟨#[]⟩ : ByteArray)]) ?_ 1 _ rfl; (with_reducible repeat (first | refine blk_drewN ?_ _ | refine blk_drew ?_ | refine blk_alloc ?_ _)); refine blk_put (cs := #[.int .u8 0, .int .i64 0, .string (⟨#[]⟩ : ByteArray)]) ?_ 0 _ rfl; (with_reducible repeat (first | refine blk_drewN ?_ _ | refine blk_drew ?_ | refine blk_alloc ?_ _)); exact BK490.out⟩
          have n5_ : Aside0 (Below w.heap.size w (((w72.setCell ⟨gb490, 0, none⟩ (.int .u8 t486)).setCell ⟨gb490, 1, none⟩ (.int .i64 t487)).setCell ⟨gb490, 2, none⟩ (.string t488))) := ⟨by repeat (first | (with_reducible first | exact HB.out | apply below_alloc | apply pw_below_drewN | apply below_drew1 | refine below_set ?_ GE451.out | refine below_set ?_ GE459.out | refine below_set ?_ GE470.out | refine below_set ?_ GE478.out | refine below_set ?_ GE490.out) | exact HB.out)⟩
          (try clear BK451)
          (try clear BK459)
          (try clear BK470)
          (try clear BK478)
          (try clear BK490)
          (try clear HB)
          generalize (((w72.setCell ⟨gb490, 0, none⟩ (.int .u8 t486)).setCell ⟨gb490, 1, none⟩ (.int .i64 t487)).setCell ⟨gb490, 2, none⟩ (.string t488)) = w78 at n0_ n1_ n2_ n3_ n4_ n5_ ⊢
          have BK451 := n0_
          have BK459 := n1_
          have BK470 := n2_
          have BK478 := n3_
          have BK490 := n4_
          have HB := n5_
          clear n0_ n1_ n2_ n3_ n4_ n5_
          have n0_ := Aside0.mk (blk_drew BK451.out)
          have n1_ := Aside0.mk (blk_drew BK459.out)
          have n2_ := Aside0.mk (blk_drew BK470.out)
          have n3_ := Aside0.mk (blk_drew BK478.out)
          have n4_ := Aside0.mk (blk_drew BK490.out)
          have n5_ := Aside0.mk (below_drew1 HB.out)
          clear BK451
          clear BK459
          clear BK470
          clear BK478
          clear BK490
          clear HB
          have BK451 := n0_
          have BK459 := n1_
          have BK470 := n2_
          have BK478 := n3_
          have BK490 := n4_
          have HB := n5_
          clear n0_ n1_ n2_ n3_ n4_ n5_
          refine start_ (n := 10) (S := fun w' => w'.cell? ⟨gb490, 0, none⟩ = some (.int .u8 t486) ∧ w'.cell? ⟨gb490, 1, none⟩ = some (.int .i64 t487) ∧ w'.cell? ⟨gb490, 2, none⟩ = some (.string t488)) (ds := []) #[false, false, false, false, false, false, false, false, false, false] (by kernel_rfl) rfl rfl ⟨(blk_cell BK490.out 0).trans rfl, (blk_cell BK490.out 1).trans rfl, (blk_cell BK490.out 2).trans rfl⟩ (fun hHeld => ?_); refine with_tabW sacristanlaw01_ValueShifts.tab11 sacristanlaw01_ValueShifts.bits11 (fun HT_ HW_ => ?_)
          generalize w78.drew = w79 at BK451 BK459 BK470 BK478 BK490 HB hHeld ⊢
          refine pure_ (i := 1) (N := some 92) (v := ?_) (a' := ?_) #[false, true, false, false, false, false, false, false, false, false] rfl rfl (any_of HT_.out (by kernel_rfl)) (fun _ _ _ h => h) (Or.inl ⟨by rfl, ?_⟩) ?_ ?_
          rotate_left
          · intro w'
            go_simp
            with_reducible rfl
          rotate_left
          · simp only [Act.put, List.setIfInBounds_toArray, List.set_cons_zero, List.set_cons_succ, i64_w, i32_w]
            rfl
          refine take_ (i := 0) (N := some 91) (v := ?_) (a' := ?_) #[true, true, false, false, false, false, false, false, false, false] rfl rfl (take_ofW HT_.out HW_.out (by kernel_rfl)) (fun _ _ _ h => h) (Or.inl ⟨by rfl, ?_⟩) hHeld ?_ ?_
          rotate_left
          · rintro w' ⟨s0, s1, s2⟩
            go_simp
            with_reducible rfl
          rotate_left
          · simp only [Act.put, List.setIfInBounds_toArray, List.set_cons_zero, List.set_cons_succ, i64_w, i32_w]
            rfl
          refine join_ (σ := Nat) 2 #[true, true, true, true, true, true, true, true, false, false] (fun s_ => [(93, .agg #[.int .u8 t491, .int .i64 t492, .string t493]), (94, .tuple #[.agg #[.int .u8 t494, .int .i64 t495, .string t496], .int .i64 t497]), (19, .pointer (some ⟨s_, 0, none⟩)), (90, .tuple #[.agg #[.int .u8 t494, .int .i64 t495, .string t496], .int .i64 t497]), (95, .agg #[.int .u8 t494, .int .i64 t495, .string t496]), (96, .int .i64 t497)]) (fun s_ w' => (w'.cell? ⟨gb490, 0, none⟩ = some (.int .u8 t486) ∧ w'.cell? ⟨gb490, 1, none⟩ = some (.int .i64 t487) ∧ w'.cell? ⟨gb490, 2, none⟩ = some (.string t488)) ∧ (w'.heap[gb451]? = some (.cells #[.int .u8 t447, .int .i64 t448, .string t449] 26 (0, 0))) ∧ (w'.heap[gb459]? = some (.cells #[.int .u8 t455, .int .i64 t456, .string t457] 26 (0, 0))) ∧ (w'.heap[gb470]? = some (.cells #[.int .u8 t466, .int .i64 t467, .string t468] 26 (0, 0))) ∧ (w'.heap[gb478]? = some (.cells #[.int .u8 t474, .int .i64 t475, .string t476] 26 (0, 0))) ∧ (w'.heap[gb490]? = some (.cells #[.int .u8 t486, .int .i64 t487, .string t488] 26 (0, 0))) ∧ (w'.heap[s_]? = some (.cells #[.int .u8 0, .int .i64 0, .string (⟨#[]⟩ : ByteArray)] 26 (0, 0))) ∧ (w.heap.size ≤ s_) ∧ (w.heap.size ≤ s_) ∧ (gb451 ≠ s_) ∧ (s_ ≠ gb451) ∧ (gb459 ≠ s_) ∧ (s_ ≠ gb459) ∧ (gb470 ≠ s_) ∧ (s_ ≠ gb470) ∧ (gb478 ≠ s_) ∧ (s_ ≠ gb478) ∧ (gb490 ≠ s_) ∧ (s_ ≠ gb490) ∧ (Below w.heap.size w w')) ?_ ?_
          rotate_left
          · intro hCont
            refine two_ (i := 2) (j := 7) (Ni := some 93) (Nj := some 19) #[true, true, true, false, false, false, false, false, false, false] #[true, true, false, false, false, false, false, true, false, false] rfl rfl rfl rfl (two_of HT_.out (by kernel_rfl)) (by decide) (by decide) (fun K hK => ?_) (fun K hK => ?_)
            · skip
              refine goes_ Try.func33 (by kernel_rfl) rfl #[.int .i64 (wrap64 (Int.tmod a2 64))] (by rfl) rfl rfl (by (try simp only [List.map_toArray, List.map_cons, List.map_nil]); first | done | rfl | (simp only [List.length_drop, List.length_take]; rfl)) ?_
              with_reducible refine (value_Of.calls (wrap64 (Int.tmod a2 64)) t491 t492 t493 _ A63.out).mono ?_
              rintro e w80 ⟨rfl, hb⟩
              refine ⟨_, rfl, ?_⟩
              have n0_ := Aside0.mk (blk_below (g := gb451) (o := .cells #[.int .u8 t447, .int .i64 t448, .string t449] 26 (0, 0)) (by (with_reducible repeat (first | refine blk_drewN ?_ _ | refine blk_drew ?_ | refine blk_alloc ?_ _)); exact BK451.out) hb)
              have n1_ := Aside0.mk (blk_below (g := gb459) (o := .cells #[.int .u8 t455, .int .i64 t456, .string t457] 26 (0, 0)) (by (with_reducible repeat (first | refine blk_drewN ?_ _ | refine blk_drew ?_ | refine blk_alloc ?_ _)); exact BK459.out) hb)
              have n2_ := Aside0.mk (blk_below (g := gb470) (o := .cells #[.int .u8 t466, .int .i64 t467, .string t468] 26 (0, 0)) (by (with_reducible repeat (first | refine blk_drewN ?_ _ | refine blk_drew ?_ | refine blk_alloc ?_ _)); exact BK470.out) hb)
              have n3_ := Aside0.mk (blk_below (g := gb478) (o := .cells #[.int .u8 t474, .int .i64 t475, .string t476] 26 (0, 0)) (by (with_reducible repeat (first | refine blk_drewN ?_ _ | refine blk_drew ?_ | refine blk_alloc ?_ _)); exact BK478.out) hb)
              have n4_ := Aside0.mk (blk_below (g := gb490) (o := .cells #[.int .u8 t486, .int .i64 t487, .string t488] 26 (0, 0)) (by (with_reducible repeat (first | refine blk_drewN ?_ _ | refine blk_drew ?_ | refine blk_alloc ?_ _)); exact BK490.out) hb)
              have n5_ := Aside0.mk (below_step (by repeat (first | (with_reducible first | exact HB.out | apply below_alloc | apply pw_below_drewN | apply below_drew1 | refine below_set ?_ GE451.out | refine below_set ?_ GE459.out | refine below_set ?_ GE470.out | refine below_set ?_ GE478.out | refine below_set ?_ GE490.out) | exact HB.out)) hb)
              clear BK451
              clear BK459
              clear BK470
              clear BK478
              clear BK490
              clear HB
              have BK451 := n0_
              have BK459 := n1_
              have BK470 := n2_
              have BK478 := n3_
              have BK490 := n4_
              have HB := n5_
              clear n0_ n1_ n2_ n3_ n4_ n5_
              (try clear hb)
              (try clear hb2)
              (try clear hk)
              (try clear hi)
              refine hK.out _ _ ⟨(blk_cell BK490.out 0).trans rfl, (blk_cell BK490.out 1).trans rfl, (blk_cell BK490.out 2).trans rfl⟩ (fun hHeld => ?_)
              clear hK K
              refine norm_ (a' := ?_) ?_ ?_
              rotate_left
              · show Act.put _ (some 93) _ = _
                simp only [Act.put, List.setIfInBounds_toArray, List.set_cons_zero, List.set_cons_succ, i64_w, i32_w]
                rfl
              refine two_ (i := 3) (j := 7) (Ni := some 94) (Nj := some 19) #[true, true, true, true, false, false, false, false, false, false] #[true, true, true, false, false, false, false, true, false, false] rfl rfl rfl rfl (two_of HT_.out (by kernel_rfl)) (by decide) (by decide) (fun K hK => ?_) (fun K hK => ?_)
              · skip
                refine goes_ Try.func31 (by kernel_rfl) rfl #[.string (⟨#[115, 104, 114]⟩ : ByteArray), .agg #[.int .u8 t486, .int .i64 t487, .string t488], .agg #[.int .u8 t491, .int .i64 t492, .string t493]] (by rfl) rfl rfl (by (try simp only [List.map_toArray, List.map_cons, List.map_nil]); first | done | rfl | (simp only [List.length_drop, List.length_take]; rfl)) ?_
                with_reducible refine (value_Two.calls kj13 (⟨#[115, 104, 114]⟩ : ByteArray) t486 t487 t488 t491 t492 t493 t494 t495 t496 t497 _ A64.out).mono ?_
                rintro e w81 ⟨rfl, hb⟩
                refine ⟨_, rfl, ?_⟩
                have n0_ := Aside0.mk (blk_below (g := gb451) (o := .cells #[.int .u8 t447, .int .i64 t448, .string t449] 26 (0, 0)) (by (with_reducible repeat (first | refine blk_drewN ?_ _ | refine blk_drew ?_ | refine blk_alloc ?_ _)); exact BK451.out) hb)
                have n1_ := Aside0.mk (blk_below (g := gb459) (o := .cells #[.int .u8 t455, .int .i64 t456, .string t457] 26 (0, 0)) (by (with_reducible repeat (first | refine blk_drewN ?_ _ | refine blk_drew ?_ | refine blk_alloc ?_ _)); exact BK459.out) hb)
                have n2_ := Aside0.mk (blk_below (g := gb470) (o := .cells #[.int .u8 t466, .int .i64 t467, .string t468] 26 (0, 0)) (by (with_reducible repeat (first | refine blk_drewN ?_ _ | refine blk_drew ?_ | refine blk_alloc ?_ _)); exact BK470.out) hb)
                have n3_ := Aside0.mk (blk_below (g := gb478) (o := .cells #[.int .u8 t474, .int .i64 t475, .string t476] 26 (0, 0)) (by (with_reducible repeat (first | refine blk_drewN ?_ _ | refine blk_drew ?_ | refine blk_alloc ?_ _)); exact BK478.out) hb)
                have n4_ := Aside0.mk (blk_below (g := gb490) (o := .cells #[.int .u8 t486, .int .i64 t487, .string t488] 26 (0, 0)) (by (with_reducible repeat (first | refine blk_drewN ?_ _ | refine blk_drew ?_ | refine blk_alloc ?_ _)); exact BK490.out) hb)
                have n5_ := Aside0.mk (below_step (by repeat (first | (with_reducible first | exact HB.out | apply below_alloc | apply pw_below_drewN | apply below_drew1 | refine below_set ?_ GE451.out | refine below_set ?_ GE459.out | refine below_set ?_ GE470.out | refine below_set ?_ GE478.out | refine below_set ?_ GE490.out) | exact HB.out)) hb)
                clear BK451
                clear BK459
                clear BK470
                clear BK478
                clear BK490
                clear HB
                have BK451 := n0_
                have BK459 := n1_
                have BK470 := n2_
                have BK478 := n3_
                have BK490 := n4_
                have HB := n5_
                clear n0_ n1_ n2_ n3_ n4_ n5_
                (try clear hb)
                (try clear hb2)
                (try clear hk)
                (try clear hi)
                refine hK.out _ _ ⟨(blk_cell BK490.out 0).trans rfl, (blk_cell BK490.out 1).trans rfl, (blk_cell BK490.out 2).trans rfl⟩ (fun hHeld => ?_)
                clear hK K
                refine norm_ (a' := ?_) ?_ ?_
                rotate_left
                · show Act.put _ (some 94) _ = _
                  simp only [Act.put, List.setIfInBounds_toArray, List.set_cons_zero, List.set_cons_succ, i64_w, i32_w]
                  rfl
                refine pure_ (i := 4) (N := some 90) (v := ?_) (a' := ?_) #[true, true, true, true, true, false, false, false, false, false] rfl rfl (any_of HT_.out (by kernel_rfl)) (fun _ _ _ h => h) (Or.inl ⟨by rfl, ?_⟩) ?_ ?_
                rotate_left
                · intro w'
                  go_simp
                  with_reducible rfl
                rotate_left
                · simp only [Act.put, List.setIfInBounds_toArray, List.set_cons_zero, List.set_cons_succ, i64_w, i32_w]
                  rfl
                refine pure_ (i := 5) (N := some 95) (v := ?_) (a' := ?_) #[true, true, true, true, true, true, false, false, false, false] rfl rfl (any_of HT_.out (by kernel_rfl)) (fun _ _ _ h => h) (Or.inl ⟨by rfl, ?_⟩) ?_ ?_
                rotate_left
                · intro w'
                  go_simp
                  with_reducible rfl
                rotate_left
                · simp only [Act.put, List.setIfInBounds_toArray, List.set_cons_zero, List.set_cons_succ, i64_w, i32_w]
                  rfl
                refine pure_ (i := 6) (N := some 96) (v := ?_) (a' := ?_) #[true, true, true, true, true, true, true, false, false, false] rfl rfl (any_of HT_.out (by kernel_rfl)) (fun _ _ _ h => h) (Or.inl ⟨by rfl, ?_⟩) ?_ ?_
                rotate_left
                · intro w'
                  go_simp
                  with_reducible rfl
                rotate_left
                · simp only [Act.put, List.setIfInBounds_toArray, List.set_cons_zero, List.set_cons_succ, i64_w, i32_w]
                  rfl
                refine one_ (i := 7) (N := some 19) #[true, true, true, true, true, true, true, true, false, false] rfl rfl (one_of HT_.out (by kernel_rfl)) (by decide) (fun K hK => ?_)
                refine box_step ?hg (N := 19) ?hd (cs := #[.int .u8 0, .int .i64 0, .string (⟨#[]⟩ : ByteArray)]) (t := 26) ?hr ?_; (case hd => rfl); (case hg => rfl); (case hr => first | (go_simp; done) | (go_simp; rfl))
                intro gb498 hg w82 hbox hb
                have n0_ := Aside0.mk (blk_below (g := gb451) (o := .cells #[.int .u8 t447, .int .i64 t448, .string t449] 26 (0, 0)) (by (with_reducible repeat (first | refine blk_drewN ?_ _ | refine blk_drew ?_ | refine blk_alloc ?_ _)); exact BK451.out) hb)
                have n1_ := Aside0.mk (blk_below (g := gb459) (o := .cells #[.int .u8 t455, .int .i64 t456, .string t457] 26 (0, 0)) (by (with_reducible repeat (first | refine blk_drewN ?_ _ | refine blk_drew ?_ | refine blk_alloc ?_ _)); exact BK459.out) hb)
                have n2_ := Aside0.mk (blk_below (g := gb470) (o := .cells #[.int .u8 t466, .int .i64 t467, .string t468] 26 (0, 0)) (by (with_reducible repeat (first | refine blk_drewN ?_ _ | refine blk_drew ?_ | refine blk_alloc ?_ _)); exact BK470.out) hb)
                have n3_ := Aside0.mk (blk_below (g := gb478) (o := .cells #[.int .u8 t474, .int .i64 t475, .string t476] 26 (0, 0)) (by (with_reducible repeat (first | refine blk_drewN ?_ _ | refine blk_drew ?_ | refine blk_alloc ?_ _)); exact BK478.out) hb)
                have n4_ := Aside0.mk (blk_below (g := gb490) (o := .cells #[.int .u8 t486, .int .i64 t487, .string t488] 26 (0, 0)) (by (with_reducible repeat (first | refine blk_drewN ?_ _ | refine blk_drew ?_ | refine blk_alloc ?_ _)); exact BK490.out) hb)
                have n5_ := Aside0.mk (below_step (by repeat (first | (with_reducible first | exact HB.out | apply below_alloc | apply pw_below_drewN | apply below_drew1 | refine below_set ?_ GE451.out | refine below_set ?_ GE459.out | refine below_set ?_ GE470.out | refine below_set ?_ GE478.out | refine below_set ?_ GE490.out) | exact HB.out)) hb)
                have n6_ := Aside0.mk (hbox)
                have n7_ := Aside0.mk ((by rw [hg]; exact (below_size (by repeat (first | (with_reducible first | exact HB.out | apply below_alloc | apply pw_below_drewN | apply below_drew1 | refine below_set ?_ GE451.out | refine below_set ?_ GE459.out | refine below_set ?_ GE470.out | refine below_set ?_ GE478.out | refine below_set ?_ GE490.out) | exact HB.out))) : w.heap.size ≤ gb498))
                have n8_ := Aside0.mk ((by rw [hg]; exact (below_size (by repeat (first | (with_reducible first | exact HB.out | apply below_alloc | apply pw_below_drewN | apply below_drew1 | refine below_set ?_ GE451.out | refine below_set ?_ GE459.out | refine below_set ?_ GE470.out | refine below_set ?_ GE478.out | refine below_set ?_ GE490.out) | exact HB.out))) : w.heap.size ≤ gb498))
                have n9_ := Aside0.mk ((by rw [hg]; exact Nat.ne_of_lt (blk_lt (g := gb451) (o := .cells #[.int .u8 t447, .int .i64 t448, .string t449] 26 (0, 0)) (by (with_reducible repeat (first | refine blk_drewN ?_ _ | refine blk_drew ?_ | refine blk_alloc ?_ _)); exact BK451.out)) : gb451 ≠ gb498))
                have n10_ := Aside0.mk ((by rw [hg]; exact Nat.ne_of_gt (blk_lt (g := gb451) (o := .cells #[.int .u8 t447, .int .i64 t448, .string t449] 26 (0, 0)) (by (with_reducible repeat (first | refine blk_drewN ?_ _ | refine blk_drew ?_ | refine blk_alloc ?_ _)); exact BK451.out)) : gb498 ≠ gb451))
                have n11_ := Aside0.mk ((by rw [hg]; exact Nat.ne_of_lt (blk_lt (g := gb459) (o := .cells #[.int .u8 t455, .int .i64 t456, .string t457] 26 (0, 0)) (by (with_reducible repeat (first | refine blk_drewN ?_ _ | refine blk_drew ?_ | refine blk_alloc ?_ _)); exact BK459.out)) : gb459 ≠ gb498))
                have n12_ := Aside0.mk ((by rw [hg]; exact Nat.ne_of_gt (blk_lt (g := gb459) (o := .cells #[.int .u8 t455, .int .i64 t456, .string t457] 26 (0, 0)) (by (with_reducible repeat (first | refine blk_drewN ?_ _ | refine blk_drew ?_ | refine blk_alloc ?_ _)); exact BK459.out)) : gb498 ≠ gb459))
                have n13_ := Aside0.mk ((by rw [hg]; exact Nat.ne_of_lt (blk_lt (g := gb470) (o := .cells #[.int .u8 t466, .int .i64 t467, .string t468] 26 (0, 0)) (by (with_reducible repeat (first | refine blk_drewN ?_ _ | refine blk_drew ?_ | refine blk_alloc ?_ _)); exact BK470.out)) : gb470 ≠ gb498))
                have n14_ := Aside0.mk ((by rw [hg]; exact Nat.ne_of_gt (blk_lt (g := gb470) (o := .cells #[.int .u8 t466, .int .i64 t467, .string t468] 26 (0, 0)) (by (with_reducible repeat (first | refine blk_drewN ?_ _ | refine blk_drew ?_ | refine blk_alloc ?_ _)); exact BK470.out)) : gb498 ≠ gb470))
                have n15_ := Aside0.mk ((by rw [hg]; exact Nat.ne_of_lt (blk_lt (g := gb478) (o := .cells #[.int .u8 t474, .int .i64 t475, .string t476] 26 (0, 0)) (by (with_reducible repeat (first | refine blk_drewN ?_ _ | refine blk_drew ?_ | refine blk_alloc ?_ _)); exact BK478.out)) : gb478 ≠ gb498))
                have n16_ := Aside0.mk ((by rw [hg]; exact Nat.ne_of_gt (blk_lt (g := gb478) (o := .cells #[.int .u8 t474, .int .i64 t475, .string t476] 26 (0, 0)) (by (with_reducible repeat (first | refine blk_drewN ?_ _ | refine blk_drew ?_ | refine blk_alloc ?_ _)); exact BK478.out)) : gb498 ≠ gb478))
                have n17_ := Aside0.mk ((by rw [hg]; exact Nat.ne_of_lt (blk_lt (g := gb490) (o := .cells #[.int .u8 t486, .int .i64 t487, .string t488] 26 (0, 0)) (by (with_reducible repeat (first | refine blk_drewN ?_ _ | refine blk_drew ?_ | refine blk_alloc ?_ _)); exact BK490.out)) : gb490 ≠ gb498))
                have n18_ := Aside0.mk ((by rw [hg]; exact Nat.ne_of_gt (blk_lt (g := gb490) (o := .cells #[.int .u8 t486, .int .i64 t487, .string t488] 26 (0, 0)) (by (with_reducible repeat (first | refine blk_drewN ?_ _ | refine blk_drew ?_ | refine blk_alloc ?_ _)); exact BK490.out)) : gb498 ≠ gb490))
                clear BK451
                clear BK459
                clear BK470
                clear BK478
                clear BK490
                clear HB
                have BK451 := n0_
                have BK459 := n1_
                have BK470 := n2_
                have BK478 := n3_
                have BK490 := n4_
                have HB := n5_
                have BK498 := n6_
                have GW498 := n7_
                have GE498 := n8_
                have NB451_498 := n9_
                have NB498_451 := n10_
                have NB459_498 := n11_
                have NB498_459 := n12_
                have NB470_498 := n13_
                have NB498_470 := n14_
                have NB478_498 := n15_
                have NB498_478 := n16_
                have NB490_498 := n17_
                have NB498_490 := n18_
                clear n0_ n1_ n2_ n3_ n4_ n5_ n6_ n7_ n8_ n9_ n10_ n11_ n12_ n13_ n14_ n15_ n16_ n17_ n18_
                clear hb hbox hg
                refine hK.out _ _ ⟨(blk_cell BK490.out 0).trans rfl, (blk_cell BK490.out 1).trans rfl, (blk_cell BK490.out 2).trans rfl⟩ (fun hHeld => ?_)
                clear hK K
                refine norm_ (a' := ?_) ?_ ?_
                rotate_left
                · show Act.put _ (some 19) _ = _
                  simp only [Act.put, List.setIfInBounds_toArray, List.set_cons_zero, List.set_cons_succ, i64_w, i32_w]
                  rfl
                exact norm_ (by simp only [putAll, Act.put, List.setIfInBounds_toArray, List.set_cons_zero, List.set_cons_succ]) (hCont (gb498) _ ⟨hHeld, (by (with_reducible repeat (first | refine blk_drewN ?_ _ | refine blk_drew ?_ | refine blk_alloc ?_ _)); exact BK451.out), (by (with_reducible repeat (first | refine blk_drewN ?_ _ | refine blk_drew ?_ | refine blk_alloc ?_ _)); exact BK459.out), (by (with_reducible repeat (first | refine blk_drewN ?_ _ | refine blk_drew ?_ | refine blk_alloc ?_ _)); exact BK470.out), (by (with_reducible repeat (first | refine blk_drewN ?_ _ | refine blk_drew ?_ | refine blk_alloc ?_ _)); exact BK478.out), (by (with_reducible repeat (first | refine blk_drewN ?_ _ | refine blk_drew ?_ | refine blk_alloc ?_ _)); exact BK490.out), (by (with_reducible repeat (first | refine blk_drewN ?_ _ | refine blk_drew ?_ | refine blk_alloc ?_ _)); exact BK498.out), GW498.out, GE498.out, NB451_498.out, NB498_451.out, NB459_498.out, NB498_459.out, NB470_498.out, NB498_470.out, NB478_498.out, NB498_478.out, NB490_498.out, NB498_490.out, (by repeat (first | (with_reducible first | exact HB.out | apply below_alloc | apply pw_below_drewN | apply below_drew1 | refine below_set ?_ GE451.out | refine below_set ?_ GE459.out | refine below_set ?_ GE470.out | refine below_set ?_ GE478.out | refine below_set ?_ GE490.out | refine below_set ?_ GE498.out) | exact HB.out))⟩)
              · skip
                refine box_step ?hg (N := 19) ?hd (cs := #[.int .u8 0, .int .i64 0, .string (⟨#[]⟩ : ByteArray)]) (t := 26) ?hr ?_; (case hd => rfl); (case hg => rfl); (case hr => first | (go_simp; done) | (go_simp; rfl))
                intro gb498 hg w81 hbox hb
                have n0_ := Aside0.mk (blk_below (g := gb451) (o := .cells #[.int .u8 t447, .int .i64 t448, .string t449] 26 (0, 0)) (by (with_reducible repeat (first | refine blk_drewN ?_ _ | refine blk_drew ?_ | refine blk_alloc ?_ _)); exact BK451.out) hb)
                have n1_ := Aside0.mk (blk_below (g := gb459) (o := .cells #[.int .u8 t455, .int .i64 t456, .string t457] 26 (0, 0)) (by (with_reducible repeat (first | refine blk_drewN ?_ _ | refine blk_drew ?_ | refine blk_alloc ?_ _)); exact BK459.out) hb)
                have n2_ := Aside0.mk (blk_below (g := gb470) (o := .cells #[.int .u8 t466, .int .i64 t467, .string t468] 26 (0, 0)) (by (with_reducible repeat (first | refine blk_drewN ?_ _ | refine blk_drew ?_ | refine blk_alloc ?_ _)); exact BK470.out) hb)
                have n3_ := Aside0.mk (blk_below (g := gb478) (o := .cells #[.int .u8 t474, .int .i64 t475, .string t476] 26 (0, 0)) (by (with_reducible repeat (first | refine blk_drewN ?_ _ | refine blk_drew ?_ | refine blk_alloc ?_ _)); exact BK478.out) hb)
                have n4_ := Aside0.mk (blk_below (g := gb490) (o := .cells #[.int .u8 t486, .int .i64 t487, .string t488] 26 (0, 0)) (by (with_reducible repeat (first | refine blk_drewN ?_ _ | refine blk_drew ?_ | refine blk_alloc ?_ _)); exact BK490.out) hb)
                have n5_ := Aside0.mk (below_step (by repeat (first | (with_reducible first | exact HB.out | apply below_alloc | apply pw_below_drewN | apply below_drew1 | refine below_set ?_ GE451.out | refine below_set ?_ GE459.out | refine below_set ?_ GE470.out | refine below_set ?_ GE478.out | refine below_set ?_ GE490.out) | exact HB.out)) hb)
                have n6_ := Aside0.mk (hbox)
                have n7_ := Aside0.mk ((by rw [hg]; exact (below_size (by repeat (first | (with_reducible first | exact HB.out | apply below_alloc | apply pw_below_drewN | apply below_drew1 | refine below_set ?_ GE451.out | refine below_set ?_ GE459.out | refine below_set ?_ GE470.out | refine below_set ?_ GE478.out | refine below_set ?_ GE490.out) | exact HB.out))) : w.heap.size ≤ gb498))
                have n8_ := Aside0.mk ((by rw [hg]; exact (below_size (by repeat (first | (with_reducible first | exact HB.out | apply below_alloc | apply pw_below_drewN | apply below_drew1 | refine below_set ?_ GE451.out | refine below_set ?_ GE459.out | refine below_set ?_ GE470.out | refine below_set ?_ GE478.out | refine below_set ?_ GE490.out) | exact HB.out))) : w.heap.size ≤ gb498))
                have n9_ := Aside0.mk ((by rw [hg]; exact Nat.ne_of_lt (blk_lt (g := gb451) (o := .cells #[.int .u8 t447, .int .i64 t448, .string t449] 26 (0, 0)) (by (with_reducible repeat (first | refine blk_drewN ?_ _ | refine blk_drew ?_ | refine blk_alloc ?_ _)); exact BK451.out)) : gb451 ≠ gb498))
                have n10_ := Aside0.mk ((by rw [hg]; exact Nat.ne_of_gt (blk_lt (g := gb451) (o := .cells #[.int .u8 t447, .int .i64 t448, .string t449] 26 (0, 0)) (by (with_reducible repeat (first | refine blk_drewN ?_ _ | refine blk_drew ?_ | refine blk_alloc ?_ _)); exact BK451.out)) : gb498 ≠ gb451))
                have n11_ := Aside0.mk ((by rw [hg]; exact Nat.ne_of_lt (blk_lt (g := gb459) (o := .cells #[.int .u8 t455, .int .i64 t456, .string t457] 26 (0, 0)) (by (with_reducible repeat (first | refine blk_drewN ?_ _ | refine blk_drew ?_ | refine blk_alloc ?_ _)); exact BK459.out)) : gb459 ≠ gb498))
                have n12_ := Aside0.mk ((by rw [hg]; exact Nat.ne_of_gt (blk_lt (g := gb459) (o := .cells #[.int .u8 t455, .int .i64 t456, .string t457] 26 (0, 0)) (by (with_reducible repeat (first | refine blk_drewN ?_ _ | refine blk_drew ?_ | refine blk_alloc ?_ _)); exact BK459.out)) : gb498 ≠ gb459))
                have n13_ := Aside0.mk ((by rw [hg]; exact Nat.ne_of_lt (blk_lt (g := gb470) (o := .cells #[.int .u8 t466, .int .i64 t467, .string t468] 26 (0, 0)) (by (with_reducible repeat (first | refine blk_drewN ?_ _ | refine blk_drew ?_ | refine blk_alloc ?_ _)); exact BK470.out)) : gb470 ≠ gb498))
                have n14_ := Aside0.mk ((by rw [hg]; exact Nat.ne_of_gt (blk_lt (g := gb470) (o := .cells #[.int .u8 t466, .int .i64 t467, .string t468] 26 (0, 0)) (by (with_reducible repeat (first | refine blk_drewN ?_ _ | refine blk_drew ?_ | refine blk_alloc ?_ _)); exact BK470.out)) : gb498 ≠ gb470))
                have n15_ := Aside0.mk ((by rw [hg]; exact Nat.ne_of_lt (blk_lt (g := gb478) (o := .cells #[.int .u8 t474, .int .i64 t475, .string t476] 26 (0, 0)) (by (with_reducible repeat (first | refine blk_drewN ?_ _ | refine blk_drew ?_ | refine blk_alloc ?_ _)); exact BK478.out)) : gb478 ≠ gb498))
                have n16_ := Aside0.mk ((by rw [hg]; exact Nat.ne_of_gt (blk_lt (g := gb478) (o := .cells #[.int .u8 t474, .int .i64 t475, .string t476] 26 (0, 0)) (by (with_reducible repeat (first | refine blk_drewN ?_ _ | refine blk_drew ?_ | refine blk_alloc ?_ _)); exact BK478.out)) : gb498 ≠ gb478))
                have n17_ := Aside0.mk ((by rw [hg]; exact Nat.ne_of_lt (blk_lt (g := gb490) (o := .cells #[.int .u8 t486, .int .i64 t487, .string t488] 26 (0, 0)) (by (with_reducible repeat (first | refine blk_drewN ?_ _ | refine blk_drew ?_ | refine blk_alloc ?_ _)); exact BK490.out)) : gb490 ≠ gb498))
                have n18_ := Aside0.mk ((by rw [hg]; exact Nat.ne_of_gt (blk_lt (g := gb490) (o := .cells #[.int .u8 t486, .int .i64 t487, .string t488] 26 (0, 0)) (by (with_reducible repeat (first | refine blk_drewN ?_ _ | refine blk_drew ?_ | refine blk_alloc ?_ _)); exact BK490.out)) : gb498 ≠ gb490))
                clear BK451
                clear BK459
                clear BK470
                clear BK478
                clear BK490
                clear HB
                have BK451 := n0_
                have BK459 := n1_
                have BK470 := n2_
                have BK478 := n3_
                have BK490 := n4_
                have HB := n5_
                have BK498 := n6_
                have GW498 := n7_
                have GE498 := n8_
                have NB451_498 := n9_
                have NB498_451 := n10_
                have NB459_498 := n11_
                have NB498_459 := n12_
                have NB470_498 := n13_
                have NB498_470 := n14_
                have NB478_498 := n15_
                have NB498_478 := n16_
                have NB490_498 := n17_
                have NB498_490 := n18_
                clear n0_ n1_ n2_ n3_ n4_ n5_ n6_ n7_ n8_ n9_ n10_ n11_ n12_ n13_ n14_ n15_ n16_ n17_ n18_
                clear hb hbox hg
                refine hK.out _ _ ⟨(blk_cell BK490.out 0).trans rfl, (blk_cell BK490.out 1).trans rfl, (blk_cell BK490.out 2).trans rfl⟩ (fun hHeld => ?_)
                clear hK K
                refine norm_ (a' := ?_) ?_ ?_
                rotate_left
                · show Act.put _ (some 19) _ = _
                  simp only [Act.put, List.setIfInBounds_toArray, List.set_cons_zero, List.set_cons_succ, i64_w, i32_w]
                  rfl
                refine one_ (i := 3) (N := some 94) #[true, true, true, true, false, false, false, true, false, false] rfl rfl (one_of HT_.out (by kernel_rfl)) (by decide) (fun K hK => ?_)
                refine goes_ Try.func31 (by kernel_rfl) rfl #[.string (⟨#[115, 104, 114]⟩ : ByteArray), .agg #[.int .u8 t486, .int .i64 t487, .string t488], .agg #[.int .u8 t491, .int .i64 t492, .string t493]] (by rfl) rfl rfl (by (try simp only [List.map_toArray, List.map_cons, List.map_nil]); first | done | rfl | (simp only [List.length_drop, List.length_take]; rfl)) ?_
                with_reducible refine (value_Two.calls kj13 (⟨#[115, 104, 114]⟩ : ByteArray) t486 t487 t488 t491 t492 t493 t494 t495 t496 t497 _ A64.out).mono ?_
                rintro e w82 ⟨rfl, hb⟩
                refine ⟨_, rfl, ?_⟩
                have n0_ := Aside0.mk (blk_below (g := gb451) (o := .cells #[.int .u8 t447, .int .i64 t448, .string t449] 26 (0, 0)) (by (with_reducible repeat (first | refine blk_drewN ?_ _ | refine blk_drew ?_ | refine blk_alloc ?_ _)); exact BK451.out) hb)
                have n1_ := Aside0.mk (blk_below (g := gb459) (o := .cells #[.int .u8 t455, .int .i64 t456, .string t457] 26 (0, 0)) (by (with_reducible repeat (first | refine blk_drewN ?_ _ | refine blk_drew ?_ | refine blk_alloc ?_ _)); exact BK459.out) hb)
                have n2_ := Aside0.mk (blk_below (g := gb470) (o := .cells #[.int .u8 t466, .int .i64 t467, .string t468] 26 (0, 0)) (by (with_reducible repeat (first | refine blk_drewN ?_ _ | refine blk_drew ?_ | refine blk_alloc ?_ _)); exact BK470.out) hb)
                have n3_ := Aside0.mk (blk_below (g := gb478) (o := .cells #[.int .u8 t474, .int .i64 t475, .string t476] 26 (0, 0)) (by (with_reducible repeat (first | refine blk_drewN ?_ _ | refine blk_drew ?_ | refine blk_alloc ?_ _)); exact BK478.out) hb)
                have n4_ := Aside0.mk (blk_below (g := gb490) (o := .cells #[.int .u8 t486, .int .i64 t487, .string t488] 26 (0, 0)) (by (with_reducible repeat (first | refine blk_drewN ?_ _ | refine blk_drew ?_ | refine blk_alloc ?_ _)); exact BK490.out) hb)
                have n5_ := Aside0.mk (blk_below (g := gb498) (o := .cells #[.int .u8 0, .int .i64 0, .string (⟨#[]⟩ : ByteArray)] 26 (0, 0)) (by (with_reducible repeat (first | refine blk_drewN ?_ _ | refine blk_drew ?_ | refine blk_alloc ?_ _)); exact BK498.out) hb)
                have n6_ := Aside0.mk (below_step (by repeat (first | (with_reducible first | exact HB.out | apply below_alloc | apply pw_below_drewN | apply below_drew1 | refine below_set ?_ GE451.out | refine below_set ?_ GE459.out | refine below_set ?_ GE470.out | refine below_set ?_ GE478.out | refine below_set ?_ GE490.out | refine below_set ?_ GE498.out) | exact HB.out)) hb)
                clear BK451
                clear BK459
                clear BK470
                clear BK478
                clear BK490
                clear BK498
                clear HB
                have BK451 := n0_
                have BK459 := n1_
                have BK470 := n2_
                have BK478 := n3_
                have BK490 := n4_
                have BK498 := n5_
                have HB := n6_
                clear n0_ n1_ n2_ n3_ n4_ n5_ n6_
                (try clear hb)
                (try clear hb2)
                (try clear hk)
                (try clear hi)
                refine hK.out _ _ ⟨(blk_cell BK490.out 0).trans rfl, (blk_cell BK490.out 1).trans rfl, (blk_cell BK490.out 2).trans rfl⟩ (fun hHeld => ?_)
                clear hK K
                refine norm_ (a' := ?_) ?_ ?_
                rotate_left
                · show Act.put _ (some 94) _ = _
                  simp only [Act.put, List.setIfInBounds_toArray, List.set_cons_zero, List.set_cons_succ, i64_w, i32_w]
                  rfl
                refine pure_ (i := 4) (N := some 90) (v := ?_) (a' := ?_) #[true, true, true, true, true, false, false, true, false, false] rfl rfl (any_of HT_.out (by kernel_rfl)) (fun _ _ _ h => h) (Or.inl ⟨by rfl, ?_⟩) ?_ ?_
                rotate_left
                · intro w'
                  go_simp
                  with_reducible rfl
                rotate_left
                · simp only [Act.put, List.setIfInBounds_toArray, List.set_cons_zero, List.set_cons_succ, i64_w, i32_w]
                  rfl
                refine pure_ (i := 5) (N := some 95) (v := ?_) (a' := ?_) #[true, true, true, true, true, true, false, true, false, false] rfl rfl (any_of HT_.out (by kernel_rfl)) (fun _ _ _ h => h) (Or.inl ⟨by rfl, ?_⟩) ?_ ?_
                rotate_left
                · intro w'
                  go_simp
                  with_reducible rfl
                rotate_left
                · simp only [Act.put, List.setIfInBounds_toArray, List.set_cons_zero, List.set_cons_succ, i64_w, i32_w]
                  rfl
                refine pure_ (i := 6) (N := some 96) (v := ?_) (a' := ?_) #[true, true, true, true, true, true, true, true, false, false] rfl rfl (any_of HT_.out (by kernel_rfl)) (fun _ _ _ h => h) (Or.inl ⟨by rfl, ?_⟩) ?_ ?_
                rotate_left
                · intro w'
                  go_simp
                  with_reducible rfl
                rotate_left
                · simp only [Act.put, List.setIfInBounds_toArray, List.set_cons_zero, List.set_cons_succ, i64_w, i32_w]
                  rfl
                exact norm_ (by simp only [putAll, Act.put, List.setIfInBounds_toArray, List.set_cons_zero, List.set_cons_succ]) (hCont (gb498) _ ⟨hHeld, (by (with_reducible repeat (first | refine blk_drewN ?_ _ | refine blk_drew ?_ | refine blk_alloc ?_ _)); exact BK451.out), (by (with_reducible repeat (first | refine blk_drewN ?_ _ | refine blk_drew ?_ | refine blk_alloc ?_ _)); exact BK459.out), (by (with_reducible repeat (first | refine blk_drewN ?_ _ | refine blk_drew ?_ | refine blk_alloc ?_ _)); exact BK470.out), (by (with_reducible repeat (first | refine blk_drewN ?_ _ | refine blk_drew ?_ | refine blk_alloc ?_ _)); exact BK478.out), (by (with_reducible repeat (first | refine blk_drewN ?_ _ | refine blk_drew ?_ | refine blk_alloc ?_ _)); exact BK490.out), (by (with_reducible repeat (first | refine blk_drewN ?_ _ | refine blk_drew ?_ | refine blk_alloc ?_ _)); exact BK498.out), GW498.out, GE498.out, NB451_498.out, NB498_451.out, NB459_498.out, NB498_459.out, NB470_498.out, NB498_470.out, NB478_498.out, NB498_478.out, NB490_498.out, NB498_490.out, (by repeat (first | (with_reducible first | exact HB.out | apply below_alloc | apply pw_below_drewN | apply below_drew1 | refine below_set ?_ GE451.out | refine below_set ?_ GE459.out | refine below_set ?_ GE470.out | refine below_set ?_ GE478.out | refine below_set ?_ GE490.out | refine below_set ?_ GE498.out) | exact HB.out))⟩)
            · skip
              refine box_step ?hg (N := 19) ?hd (cs := #[.int .u8 0, .int .i64 0, .string (⟨#[]⟩ : ByteArray)]) (t := 26) ?hr ?_; (case hd => rfl); (case hg => rfl); (case hr => first | (go_simp; done) | (go_simp; rfl))
              intro gb498 hg w80 hbox hb
              have n0_ := Aside0.mk (blk_below (g := gb451) (o := .cells #[.int .u8 t447, .int .i64 t448, .string t449] 26 (0, 0)) (by (with_reducible repeat (first | refine blk_drewN ?_ _ | refine blk_drew ?_ | refine blk_alloc ?_ _)); exact BK451.out) hb)
              have n1_ := Aside0.mk (blk_below (g := gb459) (o := .cells #[.int .u8 t455, .int .i64 t456, .string t457] 26 (0, 0)) (by (with_reducible repeat (first | refine blk_drewN ?_ _ | refine blk_drew ?_ | refine blk_alloc ?_ _)); exact BK459.out) hb)
              have n2_ := Aside0.mk (blk_below (g := gb470) (o := .cells #[.int .u8 t466, .int .i64 t467, .string t468] 26 (0, 0)) (by (with_reducible repeat (first | refine blk_drewN ?_ _ | refine blk_drew ?_ | refine blk_alloc ?_ _)); exact BK470.out) hb)
              have n3_ := Aside0.mk (blk_below (g := gb478) (o := .cells #[.int .u8 t474, .int .i64 t475, .string t476] 26 (0, 0)) (by (with_reducible repeat (first | refine blk_drewN ?_ _ | refine blk_drew ?_ | refine blk_alloc ?_ _)); exact BK478.out) hb)
              have n4_ := Aside0.mk (blk_below (g := gb490) (o := .cells #[.int .u8 t486, .int .i64 t487, .string t488] 26 (0, 0)) (by (with_reducible repeat (first | refine blk_drewN ?_ _ | refine blk_drew ?_ | refine blk_alloc ?_ _)); exact BK490.out) hb)
              have n5_ := Aside0.mk (below_step (by repeat (first | (with_reducible first | exact HB.out | apply below_alloc | apply pw_below_drewN | apply below_drew1 | refine below_set ?_ GE451.out | refine below_set ?_ GE459.out | refine below_set ?_ GE470.out | refine below_set ?_ GE478.out | refine below_set ?_ GE490.out) | exact HB.out)) hb)
              have n6_ := Aside0.mk (hbox)
              have n7_ := Aside0.mk ((by rw [hg]; exact (below_size (by repeat (first | (with_reducible first | exact HB.out | apply below_alloc | apply pw_below_drewN | apply below_drew1 | refine below_set ?_ GE451.out | refine below_set ?_ GE459.out | refine below_set ?_ GE470.out | refine below_set ?_ GE478.out | refine below_set ?_ GE490.out) | exact HB.out))) : w.heap.size ≤ gb498))
              have n8_ := Aside0.mk ((by rw [hg]; exact (below_size (by repeat (first | (with_reducible first | exact HB.out | apply below_alloc | apply pw_below_drewN | apply below_drew1 | refine below_set ?_ GE451.out | refine below_set ?_ GE459.out | refine below_set ?_ GE470.out | refine below_set ?_ GE478.out | refine below_set ?_ GE490.out) | exact HB.out))) : w.heap.size ≤ gb498))
              have n9_ := Aside0.mk ((by rw [hg]; exact Nat.ne_of_lt (blk_lt (g := gb451) (o := .cells #[.int .u8 t447, .int .i64 t448, .string t449] 26 (0, 0)) (by (with_reducible repeat (first | refine blk_drewN ?_ _ | refine blk_drew ?_ | refine blk_alloc ?_ _)); exact BK451.out)) : gb451 ≠ gb498))
              have n10_ := Aside0.mk ((by rw [hg]; exact Nat.ne_of_gt (blk_lt (g := gb451) (o := .cells #[.int .u8 t447, .int .i64 t448, .string t449] 26 (0, 0)) (by (with_reducible repeat (first | refine blk_drewN ?_ _ | refine blk_drew ?_ | refine blk_alloc ?_ _)); exact BK451.out)) : gb498 ≠ gb451))
              have n11_ := Aside0.mk ((by rw [hg]; exact Nat.ne_of_lt (blk_lt (g := gb459) (o := .cells #[.int .u8 t455, .int .i64 t456, .string t457] 26 (0, 0)) (by (with_reducible repeat (first | refine blk_drewN ?_ _ | refine blk_drew ?_ | refine blk_alloc ?_ _)); exact BK459.out)) : gb459 ≠ gb498))
              have n12_ := Aside0.mk ((by rw [hg]; exact Nat.ne_of_gt (blk_lt (g := gb459) (o := .cells #[.int .u8 t455, .int .i64 t456, .string t457] 26 (0, 0)) (by (with_reducible repeat (first | refine blk_drewN ?_ _ | refine blk_drew ?_ | refine blk_alloc ?_ _)); exact BK459.out)) : gb498 ≠ gb459))
              have n13_ := Aside0.mk ((by rw [hg]; exact Nat.ne_of_lt (blk_lt (g := gb470) (o := .cells #[.int .u8 t466, .int .i64 t467, .string t468] 26 (0, 0)) (by (with_reducible repeat (first | refine blk_drewN ?_ _ | refine blk_drew ?_ | refine blk_alloc ?_ _)); exact BK470.out)) : gb470 ≠ gb498))
              have n14_ := Aside0.mk ((by rw [hg]; exact Nat.ne_of_gt (blk_lt (g := gb470) (o := .cells #[.int .u8 t466, .int .i64 t467, .string t468] 26 (0, 0)) (by (with_reducible repeat (first | refine blk_drewN ?_ _ | refine blk_drew ?_ | refine blk_alloc ?_ _)); exact BK470.out)) : gb498 ≠ gb470))
              have n15_ := Aside0.mk ((by rw [hg]; exact Nat.ne_of_lt (blk_lt (g := gb478) (o := .cells #[.int .u8 t474, .int .i64 t475, .string t476] 26 (0, 0)) (by (with_reducible repeat (first | refine blk_drewN ?_ _ | refine blk_drew ?_ | refine blk_alloc ?_ _)); exact BK478.out)) : gb478 ≠ gb498))
              have n16_ := Aside0.mk ((by rw [hg]; exact Nat.ne_of_gt (blk_lt (g := gb478) (o := .cells #[.int .u8 t474, .int .i64 t475, .string t476] 26 (0, 0)) (by (with_reducible repeat (first | refine blk_drewN ?_ _ | refine blk_drew ?_ | refine blk_alloc ?_ _)); exact BK478.out)) : gb498 ≠ gb478))
              have n17_ := Aside0.mk ((by rw [hg]; exact Nat.ne_of_lt (blk_lt (g := gb490) (o := .cells #[.int .u8 t486, .int .i64 t487, .string t488] 26 (0, 0)) (by (with_reducible repeat (first | refine blk_drewN ?_ _ | refine blk_drew ?_ | refine blk_alloc ?_ _)); exact BK490.out)) : gb490 ≠ gb498))
              have n18_ := Aside0.mk ((by rw [hg]; exact Nat.ne_of_gt (blk_lt (g := gb490) (o := .cells #[.int .u8 t486, .int .i64 t487, .string t488] 26 (0, 0)) (by (with_reducible repeat (first | refine blk_drewN ?_ _ | refine blk_drew ?_ | refine blk_alloc ?_ _)); exact BK490.out)) : gb498 ≠ gb490))
              clear BK451
              clear BK459
              clear BK470
              clear BK478
              clear BK490
              clear HB
              have BK451 := n0_
              have BK459 := n1_
              have BK470 := n2_
              have BK478 := n3_
              have BK490 := n4_
              have HB := n5_
              have BK498 := n6_
              have GW498 := n7_
              have GE498 := n8_
              have NB451_498 := n9_
              have NB498_451 := n10_
              have NB459_498 := n11_
              have NB498_459 := n12_
              have NB470_498 := n13_
              have NB498_470 := n14_
              have NB478_498 := n15_
              have NB498_478 := n16_
              have NB490_498 := n17_
              have NB498_490 := n18_
              clear n0_ n1_ n2_ n3_ n4_ n5_ n6_ n7_ n8_ n9_ n10_ n11_ n12_ n13_ n14_ n15_ n16_ n17_ n18_
              clear hb hbox hg
              refine hK.out _ _ ⟨(blk_cell BK490.out 0).trans rfl, (blk_cell BK490.out 1).trans rfl, (blk_cell BK490.out 2).trans rfl⟩ (fun hHeld => ?_)
              clear hK K
              refine norm_ (a' := ?_) ?_ ?_
              rotate_left
              · show Act.put _ (some 19) _ = _
                simp only [Act.put, List.setIfInBounds_toArray, List.set_cons_zero, List.set_cons_succ, i64_w, i32_w]
                rfl
              refine one_ (i := 2) (N := some 93) #[true, true, true, false, false, false, false, true, false, false] rfl rfl (one_of HT_.out (by kernel_rfl)) (by decide) (fun K hK => ?_)
              refine goes_ Try.func33 (by kernel_rfl) rfl #[.int .i64 (wrap64 (Int.tmod a2 64))] (by rfl) rfl rfl (by (try simp only [List.map_toArray, List.map_cons, List.map_nil]); first | done | rfl | (simp only [List.length_drop, List.length_take]; rfl)) ?_
              with_reducible refine (value_Of.calls (wrap64 (Int.tmod a2 64)) t491 t492 t493 _ A63.out).mono ?_
              rintro e w81 ⟨rfl, hb⟩
              refine ⟨_, rfl, ?_⟩
              have n0_ := Aside0.mk (blk_below (g := gb451) (o := .cells #[.int .u8 t447, .int .i64 t448, .string t449] 26 (0, 0)) (by (with_reducible repeat (first | refine blk_drewN ?_ _ | refine blk_drew ?_ | refine blk_alloc ?_ _)); exact BK451.out) hb)
              have n1_ := Aside0.mk (blk_below (g := gb459) (o := .cells #[.int .u8 t455, .int .i64 t456, .string t457] 26 (0, 0)) (by (with_reducible repeat (first | refine blk_drewN ?_ _ | refine blk_drew ?_ | refine blk_alloc ?_ _)); exact BK459.out) hb)
              have n2_ := Aside0.mk (blk_below (g := gb470) (o := .cells #[.int .u8 t466, .int .i64 t467, .string t468] 26 (0, 0)) (by (with_reducible repeat (first | refine blk_drewN ?_ _ | refine blk_drew ?_ | refine blk_alloc ?_ _)); exact BK470.out) hb)
              have n3_ := Aside0.mk (blk_below (g := gb478) (o := .cells #[.int .u8 t474, .int .i64 t475, .string t476] 26 (0, 0)) (by (with_reducible repeat (first | refine blk_drewN ?_ _ | refine blk_drew ?_ | refine blk_alloc ?_ _)); exact BK478.out) hb)
              have n4_ := Aside0.mk (blk_below (g := gb490) (o := .cells #[.int .u8 t486, .int .i64 t487, .string t488] 26 (0, 0)) (by (with_reducible repeat (first | refine blk_drewN ?_ _ | refine blk_drew ?_ | refine blk_alloc ?_ _)); exact BK490.out) hb)
              have n5_ := Aside0.mk (blk_below (g := gb498) (o := .cells #[.int .u8 0, .int .i64 0, .string (⟨#[]⟩ : ByteArray)] 26 (0, 0)) (by (with_reducible repeat (first | refine blk_drewN ?_ _ | refine blk_drew ?_ | refine blk_alloc ?_ _)); exact BK498.out) hb)
              have n6_ := Aside0.mk (below_step (by repeat (first | (with_reducible first | exact HB.out | apply below_alloc | apply pw_below_drewN | apply below_drew1 | refine below_set ?_ GE451.out | refine below_set ?_ GE459.out | refine below_set ?_ GE470.out | refine below_set ?_ GE478.out | refine below_set ?_ GE490.out | refine below_set ?_ GE498.out) | exact HB.out)) hb)
              clear BK451
              clear BK459
              clear BK470
              clear BK478
              clear BK490
              clear BK498
              clear HB
              have BK451 := n0_
              have BK459 := n1_
              have BK470 := n2_
              have BK478 := n3_
              have BK490 := n4_
              have BK498 := n5_
              have HB := n6_
              clear n0_ n1_ n2_ n3_ n4_ n5_ n6_
              (try clear hb)
              (try clear hb2)
              (try clear hk)
              (try clear hi)
              refine hK.out _ _ ⟨(blk_cell BK490.out 0).trans rfl, (blk_cell BK490.out 1).trans rfl, (blk_cell BK490.out 2).trans rfl⟩ (fun hHeld => ?_)
              clear hK K
              refine norm_ (a' := ?_) ?_ ?_
              rotate_left
              · show Act.put _ (some 93) _ = _
                simp only [Act.put, List.setIfInBounds_toArray, List.set_cons_zero, List.set_cons_succ, i64_w, i32_w]
                rfl
              refine one_ (i := 3) (N := some 94) #[true, true, true, true, false, false, false, true, false, false] rfl rfl (one_of HT_.out (by kernel_rfl)) (by decide) (fun K hK => ?_)
              refine goes_ Try.func31 (by kernel_rfl) rfl #[.string (⟨#[115, 104, 114]⟩ : ByteArray), .agg #[.int .u8 t486, .int .i64 t487, .string t488], .agg #[.int .u8 t491, .int .i64 t492, .string t493]] (by rfl) rfl rfl (by (try simp only [List.map_toArray, List.map_cons, List.map_nil]); first | done | rfl | (simp only [List.length_drop, List.length_take]; rfl)) ?_
              with_reducible refine (value_Two.calls kj13 (⟨#[115, 104, 114]⟩ : ByteArray) t486 t487 t488 t491 t492 t493 t494 t495 t496 t497 _ A64.out).mono ?_
              rintro e w82 ⟨rfl, hb⟩
              refine ⟨_, rfl, ?_⟩
              have n0_ := Aside0.mk (blk_below (g := gb451) (o := .cells #[.int .u8 t447, .int .i64 t448, .string t449] 26 (0, 0)) (by (with_reducible repeat (first | refine blk_drewN ?_ _ | refine blk_drew ?_ | refine blk_alloc ?_ _)); exact BK451.out) hb)
              have n1_ := Aside0.mk (blk_below (g := gb459) (o := .cells #[.int .u8 t455, .int .i64 t456, .string t457] 26 (0, 0)) (by (with_reducible repeat (first | refine blk_drewN ?_ _ | refine blk_drew ?_ | refine blk_alloc ?_ _)); exact BK459.out) hb)
              have n2_ := Aside0.mk (blk_below (g := gb470) (o := .cells #[.int .u8 t466, .int .i64 t467, .string t468] 26 (0, 0)) (by (with_reducible repeat (first | refine blk_drewN ?_ _ | refine blk_drew ?_ | refine blk_alloc ?_ _)); exact BK470.out) hb)
              have n3_ := Aside0.mk (blk_below (g := gb478) (o := .cells #[.int .u8 t474, .int .i64 t475, .string t476] 26 (0, 0)) (by (with_reducible repeat (first | refine blk_drewN ?_ _ | refine blk_drew ?_ | refine blk_alloc ?_ _)); exact BK478.out) hb)
              have n4_ := Aside0.mk (blk_below (g := gb490) (o := .cells #[.int .u8 t486, .int .i64 t487, .string t488] 26 (0, 0)) (by (with_reducible repeat (first | refine blk_drewN ?_ _ | refine blk_drew ?_ | refine blk_alloc ?_ _)); exact BK490.out) hb)
              have n5_ := Aside0.mk (blk_below (g := gb498) (o := .cells #[.int .u8 0, .int .i64 0, .string (⟨#[]⟩ : ByteArray)] 26 (0, 0)) (by (with_reducible repeat (first | refine blk_drewN ?_ _ | refine blk_drew ?_ | refine blk_alloc ?_ _)); exact BK498.out) hb)
              have n6_ := Aside0.mk (below_step (by repeat (first | (with_reducible first | exact HB.out | apply below_alloc | apply pw_below_drewN | apply below_drew1 | refine below_set ?_ GE451.out | refine below_set ?_ GE459.out | refine below_set ?_ GE470.out | refine below_set ?_ GE478.out | refine below_set ?_ GE490.out | refine below_set ?_ GE498.out) | exact HB.out)) hb)
              clear BK451
              clear BK459
              clear BK470
              clear BK478
              clear BK490
              clear BK498
              clear HB
              have BK451 := n0_
              have BK459 := n1_
              have BK470 := n2_
              have BK478 := n3_
              have BK490 := n4_
              have BK498 := n5_
              have HB := n6_
              clear n0_ n1_ n2_ n3_ n4_ n5_ n6_
              (try clear hb)
              (try clear hb2)
              (try clear hk)
              (try clear hi)
              refine hK.out _ _ ⟨(blk_cell BK490.out 0).trans rfl, (blk_cell BK490.out 1).trans rfl, (blk_cell BK490.out 2).trans rfl⟩ (fun hHeld => ?_)
              clear hK K
              refine norm_ (a' := ?_) ?_ ?_
              rotate_left
              · show Act.put _ (some 94) _ = _
                simp only [Act.put, List.setIfInBounds_toArray, List.set_cons_zero, List.set_cons_succ, i64_w, i32_w]
                rfl
              refine pure_ (i := 4) (N := some 90) (v := ?_) (a' := ?_) #[true, true, true, true, true, false, false, true, false, false] rfl rfl (any_of HT_.out (by kernel_rfl)) (fun _ _ _ h => h) (Or.inl ⟨by rfl, ?_⟩) ?_ ?_
              rotate_left
              · intro w'
                go_simp
                with_reducible rfl
              rotate_left
              · simp only [Act.put, List.setIfInBounds_toArray, List.set_cons_zero, List.set_cons_succ, i64_w, i32_w]
                rfl
              refine pure_ (i := 5) (N := some 95) (v := ?_) (a' := ?_) #[true, true, true, true, true, true, false, true, false, false] rfl rfl (any_of HT_.out (by kernel_rfl)) (fun _ _ _ h => h) (Or.inl ⟨by rfl, ?_⟩) ?_ ?_
              rotate_left
              · intro w'
                go_simp
                with_reducible rfl
              rotate_left
              · simp only [Act.put, List.setIfInBounds_toArray, List.set_cons_zero, List.set_cons_succ, i64_w, i32_w]
                rfl
              refine pure_ (i := 6) (N := some 96) (v := ?_) (a' := ?_) #[true, true, true, true, true, true, true, true, false, false] rfl rfl (any_of HT_.out (by kernel_rfl)) (fun _ _ _ h => h) (Or.inl ⟨by rfl, ?_⟩) ?_ ?_
              rotate_left
              · intro w'
                go_simp
                with_reducible rfl
              rotate_left
              · simp only [Act.put, List.setIfInBounds_toArray, List.set_cons_zero, List.set_cons_succ, i64_w, i32_w]
                rfl
              exact norm_ (by simp only [putAll, Act.put, List.setIfInBounds_toArray, List.set_cons_zero, List.set_cons_succ]) (hCont (gb498) _ ⟨hHeld, (by (with_reducible repeat (first | refine blk_drewN ?_ _ | refine blk_drew ?_ | refine blk_alloc ?_ _)); exact BK451.out), (by (with_reducible repeat (first | refine blk_drewN ?_ _ | refine blk_drew ?_ | refine blk_alloc ?_ _)); exact BK459.out), (by (with_reducible repeat (first | refine blk_drewN ?_ _ | refine blk_drew ?_ | refine blk_alloc ?_ _)); exact BK470.out), (by (with_reducible repeat (first | refine blk_drewN ?_ _ | refine blk_drew ?_ | refine blk_alloc ?_ _)); exact BK478.out), (by (with_reducible repeat (first | refine blk_drewN ?_ _ | refine blk_drew ?_ | refine blk_alloc ?_ _)); exact BK490.out), (by (with_reducible repeat (first | refine blk_drewN ?_ _ | refine blk_drew ?_ | refine blk_alloc ?_ _)); exact BK498.out), GW498.out, GE498.out, NB451_498.out, NB498_451.out, NB459_498.out, NB498_459.out, NB470_498.out, NB498_470.out, NB478_498.out, NB498_478.out, NB490_498.out, NB498_490.out, (by repeat (first | (with_reducible first | exact HB.out | apply below_alloc | apply pw_below_drewN | apply below_drew1 | refine below_set ?_ GE451.out | refine below_set ?_ GE459.out | refine below_set ?_ GE470.out | refine below_set ?_ GE478.out | refine below_set ?_ GE490.out | refine below_set ?_ GE498.out) | exact HB.out))⟩)
          rintro gb498 w83 ⟨hS_, h0_, h1_, h2_, h3_, h4_, h5_, h6_, h7_, h8_, h9_, h10_, h11_, h12_, h13_, h14_, h15_, h16_, h17_, h18_⟩
          have n0_ : Aside0 (w83.heap[gb451]? = some (.cells #[.int .u8 t447, .int .i64 t448, .string t449] 26 (0, 0))) := ⟨h0_⟩
          have n1_ : Aside0 (w83.heap[gb459]? = some (.cells #[.int .u8 t455, .int .i64 t456, .string t457] 26 (0, 0))) := ⟨h1_⟩
          have n2_ : Aside0 (w83.heap[gb470]? = some (.cells #[.int .u8 t466, .int .i64 t467, .string t468] 26 (0, 0))) := ⟨h2_⟩
          have n3_ : Aside0 (w83.heap[gb478]? = some (.cells #[.int .u8 t474, .int .i64 t475, .string t476] 26 (0, 0))) := ⟨h3_⟩
          have n4_ : Aside0 (w83.heap[gb490]? = some (.cells #[.int .u8 t486, .int .i64 t487, .string t488] 26 (0, 0))) := ⟨h4_⟩
          have n5_ : Aside0 (w83.heap[gb498]? = some (.cells #[.int .u8 0, .int .i64 0, .string (⟨#[]⟩ : ByteArray)] 26 (0, 0))) := ⟨h5_⟩
          have n6_ : Aside0 (w.heap.size ≤ gb498) := ⟨h6_⟩
          have n7_ : Aside0 (w.heap.size ≤ gb498) := ⟨h7_⟩
          have n8_ : Aside0 (gb451 ≠ gb498) := ⟨h8_⟩
          have n9_ : Aside0 (gb498 ≠ gb451) := ⟨h9_⟩
          have n10_ : Aside0 (gb459 ≠ gb498) := ⟨h10_⟩
          have n11_ : Aside0 (gb498 ≠ gb459) := ⟨h11_⟩
          have n12_ : Aside0 (gb470 ≠ gb498) := ⟨h12_⟩
          have n13_ : Aside0 (gb498 ≠ gb470) := ⟨h13_⟩
          have n14_ : Aside0 (gb478 ≠ gb498) := ⟨h14_⟩
          have n15_ : Aside0 (gb498 ≠ gb478) := ⟨h15_⟩
          have n16_ : Aside0 (gb490 ≠ gb498) := ⟨h16_⟩
          have n17_ : Aside0 (gb498 ≠ gb490) := ⟨h17_⟩
          have n18_ : Aside0 (Below w.heap.size w w83) := ⟨h18_⟩
          clear BK451
          clear BK459
          clear BK470
          clear BK478
          clear BK490
          clear HB
          clear h0_ h1_ h2_ h3_ h4_ h5_ h6_ h7_ h8_ h9_ h10_ h11_ h12_ h13_ h14_ h15_ h16_ h17_ h18_
          have BK451 := n0_
          have BK459 := n1_
          have BK470 := n2_
          have BK478 := n3_
          have BK490 := n4_
          have BK498 := n5_
          have GW498 := n6_
          have GE498 := n7_
          have NB451_498 := n8_
          have NB498_451 := n9_
          have NB459_498 := n10_
          have NB498_459 := n11_
          have NB470_498 := n12_
          have NB498_470 := n13_
          have NB478_498 := n14_
          have NB498_478 := n15_
          have NB490_498 := n16_
          have NB498_490 := n17_
          have HB := n18_
          clear n0_ n1_ n2_ n3_ n4_ n5_ n6_ n7_ n8_ n9_ n10_ n11_ n12_ n13_ n14_ n15_ n16_ n17_ n18_
          have hHeld : w83.cell? ⟨gb490, 0, none⟩ = some (.int .u8 t486) ∧ w83.cell? ⟨gb490, 1, none⟩ = some (.int .i64 t487) ∧ w83.cell? ⟨gb490, 2, none⟩ = some (.string t488) := hS_
          refine norm_ (a' := ?_) ?_ ?_
          rotate_left
          · simp only [putAll, Act.put, List.setIfInBounds_toArray, List.set_cons_zero, List.set_cons_succ]
            rfl
          refine one_ (i := 8) (N := none) #[true, true, true, true, true, true, true, true, true, false] rfl rfl (one_of HT_.out (by kernel_rfl)) (by decide) (fun K hK => ?_)
          have hs84 : w83.cell? ⟨gb498, 0, none⟩ = some (.int .u8 0) := (blk_cell BK498.out 0).trans rfl
          have hfs84 := blk_frozen BK498.out 0
          have hns84_0 := NB451_498.out
          have hns84_1 := NB459_498.out
          have hns84_2 := NB470_498.out
          have hns84_3 := NB478_498.out
          have hns84_4 := NB490_498.out
          have hms84_0 := NB498_451.out
          have hms84_1 := NB498_459.out
          have hms84_2 := NB498_470.out
          have hms84_3 := NB498_478.out
          have hms84_4 := NB498_490.out
          have hs85 : w83.cell? ⟨gb498, 1, none⟩ = some (.int .i64 0) := (blk_cell BK498.out 1).trans rfl
          have hfs85 := blk_frozen BK498.out 1
          have hns85_0 := NB451_498.out
          have hns85_1 := NB459_498.out
          have hns85_2 := NB470_498.out
          have hns85_3 := NB478_498.out
          have hns85_4 := NB490_498.out
          have hms85_0 := NB498_451.out
          have hms85_1 := NB498_459.out
          have hms85_2 := NB498_470.out
          have hms85_3 := NB498_478.out
          have hms85_4 := NB498_490.out
          have hs86 : w83.cell? ⟨gb498, 2, none⟩ = some (.string (⟨#[]⟩ : ByteArray)) := (blk_cell BK498.out 2).trans rfl
          have hfs86 := blk_frozen BK498.out 2
          have hns86_0 := NB451_498.out
          have hns86_1 := NB459_498.out
          have hns86_2 := NB470_498.out
          have hns86_3 := NB478_498.out
          have hns86_4 := NB490_498.out
          have hms86_0 := NB498_451.out
          have hms86_1 := NB498_459.out
          have hms86_2 := NB498_470.out
          have hms86_3 := NB498_478.out
          have hms86_4 := NB498_490.out
          refine skip_ (w1 := ?_) (by rfl) rfl ?_ ?_
          rotate_left
          · go_simp
            rfl
          refine hK.out _ _ ⟨((cell_far (p := ⟨gb498, _, none⟩) NB490_498.out _).trans (((cell_far (p := ⟨gb498, _, none⟩) NB490_498.out _).trans (((cell_far (p := ⟨gb498, _, none⟩) NB490_498.out _).trans (hHeld.1)))))), ((cell_far (p := ⟨gb498, _, none⟩) NB490_498.out _).trans (((cell_far (p := ⟨gb498, _, none⟩) NB490_498.out _).trans (((cell_far (p := ⟨gb498, _, none⟩) NB490_498.out _).trans (hHeld.2.1)))))), ((cell_far (p := ⟨gb498, _, none⟩) NB490_498.out _).trans (((cell_far (p := ⟨gb498, _, none⟩) NB490_498.out _).trans (((cell_far (p := ⟨gb498, _, none⟩) NB490_498.out _).trans (hHeld.2.2))))))⟩ (fun hHeld => ?_)
          clear hK K
          refine pure_ (i := 9) (N := some 20) (v := ?_) (a' := ?_) #[true, true, true, true, true, true, true, true, true, true] rfl rfl (any_of HT_.out (by kernel_rfl)) (fun _ _ _ h => h) (Or.inl ⟨by rfl, ?_⟩) ?_ ?_
          rotate_left
          · intro w'
            go_simp
            with_reducible rfl
          rotate_left
          · simp only [Act.put, List.setIfInBounds_toArray, List.set_cons_zero, List.set_cons_succ, i64_w, i32_w]
            rfl
          refine done_ (done_of HT_.out (by kernel_rfl)) ?_
          go_upto_region 13 with (first | ((with_reducible refine gate_callee (f := 33) rfl ?_); refine goesL_ (some 99) rfl rfl Try.func33 (by kernel_rfl) rfl #[.int .i64 a0] rfl (by (try simp only [List.map_toArray, List.map_cons, List.map_nil]); first | done | rfl | (simp only [List.length_drop, List.length_take]; rfl)) ?_; (with_reducible refine (value_Of.calls a0 t499 t500 t501 _ A65.out).mono ?_); rintro e w87 ⟨rfl, hb⟩; refine ⟨_, rfl, ?_⟩; have n0_ := Aside0.mk (blk_below (g := gb451) (o := .cells #[.int .u8 t447, .int .i64 t448, .string t449] 26 (0, 0)) (by (with_reducible repeat (first | refine blk_drewN ?_ _ | refine blk_drew ?_ | refine blk_alloc ?_ _)); refine blk_far ?_ NB451_498.out _; (with_reducible repeat (first | refine blk_drewN ?_ _ | refine blk_drew ?_ | refine blk_alloc ?_ _)); refine blk_far ?_ NB451_498.out _; (with_reducible repeat (first | refine blk_drewN ?_ _ | refine blk_drew ?_ | refine blk_alloc ?_ _)); refine blk_far ?_ NB451_498.out _; (with_reducible repeat (first | refine blk_drewN ?_ _ | refine blk_drew ?_ | refine blk_alloc ?_ _)); exact BK451.out) hb); have n1_ := Aside0.mk (blk_below (g := gb459) (o := .cells #[.int .u8 t455, .int .i64 t456, .string t457] 26 (0, 0)) (by (with_reducible repeat (first | refine blk_drewN ?_ _ | refine blk_drew ?_ | refine blk_alloc ?_ _)); refine blk_far ?_ NB459_498.out _; (with_reducible repeat (first | refine blk_drewN ?_ _ | refine blk_drew ?_ | refine blk_alloc ?_ _)); refine blk_far ?_ NB459_498.out _; (with_reducible repeat (first | refine blk_drewN ?_ _ | refine blk_drew ?_ | refine blk_alloc ?_ _)); refine blk_far ?_ NB459_498.out _; (with_reducible repeat (first | refine blk_drewN ?_ _ | refine blk_drew ?_ | refine blk_alloc ?_ _)); exact BK459.out) hb); have n2_ := Aside0.mk (blk_below (g := gb470) (o := .cells #[.int .u8 t466, .int .i64 t467, .string t468] 26 (0, 0)) (by (with_reducible repeat (first | refine blk_drewN ?_ _ | refine blk_drew ?_ | refine blk_alloc ?_ _)); refine blk_far ?_ NB470_498.out _; (with_reducible repeat (first | refine blk_drewN ?_ _ | refine blk_drew ?_ | refine blk_alloc ?_ _)); refine blk_far ?_ NB470_498.out _; (with_reducible repeat (first | refine blk_drewN ?_ _ | refine blk_drew ?_ | refine blk_alloc ?_ _)); refine blk_far ?_ NB470_498.out _; (with_reducible repeat (first | refine blk_drewN ?_ _ | refine blk_drew ?_ | refine blk_alloc ?_ _)); exact BK470.out) hb); have n3_ := Aside0.mk (blk_below (g := gb478) (o := .cells #[.int .u8 t474, .int .i64 t475, .string t476] 26 (0, 0)) (by (with_reducible repeat (first | refine blk_drewN ?_ _ | refine blk_drew ?_ | refine blk_alloc ?_ _)); refine blk_far ?_ NB478_498.out _; (with_reducible repeat (first | refine blk_drewN ?_ _ | refine blk_drew ?_ | refine blk_alloc ?_ _)); refine blk_far ?_ NB478_498.out _; (with_reducible repeat (first | refine blk_drewN ?_ _ | refine blk_drew ?_ | refine blk_alloc ?_ _)); refine blk_far ?_ NB478_498.out _; (with_reducible repeat (first | refine blk_drewN ?_ _ | refine blk_drew ?_ | refine blk_alloc ?_ _)); exact BK478.out) hb); have n4_ := Aside0.mk (blk_below (g := gb490) (o := .cells #[.int .u8 t486, .int .i64 t487, .string t488] 26 (0, 0)) (by (with_reducible repeat (first | refine blk_drewN ?_ _ | refine blk_drew ?_ | refine blk_alloc ?_ _)); refine blk_far ?_ NB490_498.out _; (with_reducible repeat (first | refine blk_drewN ?_ _ | refine blk_drew ?_ | refine blk_alloc ?_ _)); refine blk_far ?_ NB490_498.out _; (with_reducible repeat (first | refine blk_drewN ?_ _ | refine blk_drew ?_ | refine blk_alloc ?_ _)); refine blk_far ?_ NB490_498.out _; (with_reducible repeat (first | refine blk_drewN ?_ _ | refine blk_drew ?_ | refine blk_alloc ?_ _)); exact BK490.out) hb); have n5_ := Aside0.mk (blk_below (g := gb498) (o := .cells #[.int .u8 t494, .int .i64 t495, .string t496] 26 (0, 0)) (by (with_reducible repeat (first | refine blk_drewN ?_ _ | refine blk_drew ?_ | refine blk_alloc ?_ _)); refine blk_put (cs := #[.int .u8 t494, .int .i64 t495, .string (⟨#[]⟩ : ByteArray)]) ?_ 2 _ rfl; (with_reducible repeat (first | refine blk_drewN ?_ _ | refine blk_drew ?_ | refine blk_alloc ?_ _)); refine blk_put (cs := #[.int .u8 t494, .int .i64 0, .string (⟨#[]⟩ : ByteArray)]) ?_ 1 _ rfl; (with_reducible repeat (first | refine blk_drewN ?_ _ | refine blk_drew ?_ | refine blk_alloc ?_ _)); refine blk_put (cs := #[.int .u8 0, .int .i64 0, .string (⟨#[]⟩ : ByteArray)]) ?_ 0 _ rfl; (with_reducible repeat (first | refine blk_drewN ?_ _ | refine blk_drew ?_ | refine blk_alloc ?_ _)); exact BK498.out) hb); have n6_ := Aside0.mk (below_step (by repeat (first | (with_reducible first | exact HB.out | apply below_alloc | apply pw_below_drewN | apply below_drew1 | refine below_set ?_ GE451.out | refine below_set ?_ GE459.out | refine below_set ?_ GE470.out | refine below_set ?_ GE478.out | refine below_set ?_ GE490.out | refine below_set ?_ GE498.out) | exact HB.out)) hb); clear BK451; clear BK459; clear BK470; clear BK478; clear BK490; clear BK498; clear HB; have BK451 := n0_; have BK459 := n1_; have BK470 := n2_; have BK478 := n3_; have BK490 := n4_; have BK498 := n5_; have HB := n6_; clear n0_ n1_ n2_ n3_ n4_ n5_ n6_; (try clear hb); (try clear hb2); (try clear hk); (try clear hi)) | ((with_reducible refine gate_callee (f := 33) rfl ?_); refine goesL_ (some 103) rfl rfl Try.func33 (by kernel_rfl) rfl #[.int .i64 (wrap64 ((wrap64 (Int.tmod a1 64)) + (wrap64 (Int.tmod a2 64))))] rfl (by (try simp only [List.map_toArray, List.map_cons, List.map_nil]); first | done | rfl | (simp only [List.length_drop, List.length_take]; rfl)) ?_; (with_reducible refine (value_Of.calls (wrap64 ((wrap64 (Int.tmod a1 64)) + (wrap64 (Int.tmod a2 64)))) t502 t503 t504 _ A66.out).mono ?_); rintro e w88 ⟨rfl, hb⟩; refine ⟨_, rfl, ?_⟩; have n0_ := Aside0.mk (blk_below (g := gb451) (o := .cells #[.int .u8 t447, .int .i64 t448, .string t449] 26 (0, 0)) (by (with_reducible repeat (first | refine blk_drewN ?_ _ | refine blk_drew ?_ | refine blk_alloc ?_ _)); exact BK451.out) hb); have n1_ := Aside0.mk (blk_below (g := gb459) (o := .cells #[.int .u8 t455, .int .i64 t456, .string t457] 26 (0, 0)) (by (with_reducible repeat (first | refine blk_drewN ?_ _ | refine blk_drew ?_ | refine blk_alloc ?_ _)); exact BK459.out) hb); have n2_ := Aside0.mk (blk_below (g := gb470) (o := .cells #[.int .u8 t466, .int .i64 t467, .string t468] 26 (0, 0)) (by (with_reducible repeat (first | refine blk_drewN ?_ _ | refine blk_drew ?_ | refine blk_alloc ?_ _)); exact BK470.out) hb); have n3_ := Aside0.mk (blk_below (g := gb478) (o := .cells #[.int .u8 t474, .int .i64 t475, .string t476] 26 (0, 0)) (by (with_reducible repeat (first | refine blk_drewN ?_ _ | refine blk_drew ?_ | refine blk_alloc ?_ _)); exact BK478.out) hb); have n4_ := Aside0.mk (blk_below (g := gb490) (o := .cells #[.int .u8 t486, .int .i64 t487, .string t488] 26 (0, 0)) (by (with_reducible repeat (first | refine blk_drewN ?_ _ | refine blk_drew ?_ | refine blk_alloc ?_ _)); exact BK490.out) hb); have n5_ := Aside0.mk (blk_below (g := gb498) (o := .cells #[.int .u8 t494, .int .i64 t495, .string t496] 26 (0, 0)) (by (with_reducible repeat (first | refine blk_drewN ?_ _ | refine blk_drew ?_ | refine blk_alloc ?_ _)); exact BK498.out) hb); have n6_ := Aside0.mk (below_step (by repeat (first | (with_reducible first | exact HB.out | apply below_alloc | apply pw_below_drewN | apply below_drew1 | refine below_set ?_ GE451.out | refine below_set ?_ GE459.out | refine below_set ?_ GE470.out | refine below_set ?_ GE478.out | refine below_set ?_ GE490.out | refine below_set ?_ GE498.out) | exact HB.out)) hb); clear BK451; clear BK459; clear BK470; clear BK478; clear BK490; clear BK498; clear HB; have BK451 := n0_; have BK459 := n1_; have BK470 := n2_; have BK478 := n3_; have BK490 := n4_; have BK498 := n5_; have HB := n6_; clear n0_ n1_ n2_ n3_ n4_ n5_ n6_; (try clear hb); (try clear hb2); (try clear hk); (try clear hi)) | ((with_reducible refine gate_callee (f := 31) rfl ?_); refine goesL_ (some 104) rfl rfl Try.func31 (by kernel_rfl) rfl #[.string (⟨#[115, 104, 114]⟩ : ByteArray), .agg #[.int .u8 t499, .int .i64 t500, .string t501], .agg #[.int .u8 t502, .int .i64 t503, .string t504]] rfl (by (try simp only [List.map_toArray, List.map_cons, List.map_nil]); first | done | rfl | (simp only [List.length_drop, List.length_take]; rfl)) ?_; (with_reducible refine (value_Two.calls kj13 (⟨#[115, 104, 114]⟩ : ByteArray) t499 t500 t501 t502 t503 t504 t505 t506 t507 t508 _ A67.out).mono ?_); rintro e w89 ⟨rfl, hb⟩; refine ⟨_, rfl, ?_⟩; have n0_ := Aside0.mk (blk_below (g := gb451) (o := .cells #[.int .u8 t447, .int .i64 t448, .string t449] 26 (0, 0)) (by (with_reducible repeat (first | refine blk_drewN ?_ _ | refine blk_drew ?_ | refine blk_alloc ?_ _)); exact BK451.out) hb); have n1_ := Aside0.mk (blk_below (g := gb459) (o := .cells #[.int .u8 t455, .int .i64 t456, .string t457] 26 (0, 0)) (by (with_reducible repeat (first | refine blk_drewN ?_ _ | refine blk_drew ?_ | refine blk_alloc ?_ _)); exact BK459.out) hb); have n2_ := Aside0.mk (blk_below (g := gb470) (o := .cells #[.int .u8 t466, .int .i64 t467, .string t468] 26 (0, 0)) (by (with_reducible repeat (first | refine blk_drewN ?_ _ | refine blk_drew ?_ | refine blk_alloc ?_ _)); exact BK470.out) hb); have n3_ := Aside0.mk (blk_below (g := gb478) (o := .cells #[.int .u8 t474, .int .i64 t475, .string t476] 26 (0, 0)) (by (with_reducible repeat (first | refine blk_drewN ?_ _ | refine blk_drew ?_ | refine blk_alloc ?_ _)); exact BK478.out) hb); have n4_ := Aside0.mk (blk_below (g := gb490) (o := .cells #[.int .u8 t486, .int .i64 t487, .string t488] 26 (0, 0)) (by (with_reducible repeat (first | refine blk_drewN ?_ _ | refine blk_drew ?_ | refine blk_alloc ?_ _)); exact BK490.out) hb); have n5_ := Aside0.mk (blk_below (g := gb498) (o := .cells #[.int .u8 t494, .int .i64 t495, .string t496] 26 (0, 0)) (by (with_reducible repeat (first | refine blk_drewN ?_ _ | refine blk_drew ?_ | refine blk_alloc ?_ _)); exact BK498.out) hb); have n6_ := Aside0.mk (below_step (by repeat (first | (with_reducible first | exact HB.out | apply below_alloc | apply pw_below_drewN | apply below_drew1 | refine below_set ?_ GE451.out | refine below_set ?_ GE459.out | refine below_set ?_ GE470.out | refine below_set ?_ GE478.out | refine below_set ?_ GE490.out | refine below_set ?_ GE498.out) | exact HB.out)) hb); clear BK451; clear BK459; clear BK470; clear BK478; clear BK490; clear BK498; clear HB; have BK451 := n0_; have BK459 := n1_; have BK470 := n2_; have BK478 := n3_; have BK490 := n4_; have BK498 := n5_; have HB := n6_; clear n0_ n1_ n2_ n3_ n4_ n5_ n6_; (try clear hb); (try clear hb2); (try clear hk); (try clear hi)) | ((with_reducible refine gate_dst (N := 21) rfl ?_); refine box_event ?hg (N := 21) ?hd (cs := #[.int .u8 0, .int .i64 0, .string (⟨#[]⟩ : ByteArray)]) (t := 26) ?hr ?_; (case hd => rfl); (case hg => rfl); (case hr => first | (go_simp; done) | (go_simp; rfl)); intro gb509 hg w90 hbox hb; have n0_ := Aside0.mk (blk_below (g := gb451) (o := .cells #[.int .u8 t447, .int .i64 t448, .string t449] 26 (0, 0)) (by (with_reducible repeat (first | refine blk_drewN ?_ _ | refine blk_drew ?_ | refine blk_alloc ?_ _)); exact BK451.out) hb); have n1_ := Aside0.mk (blk_below (g := gb459) (o := .cells #[.int .u8 t455, .int .i64 t456, .string t457] 26 (0, 0)) (by (with_reducible repeat (first | refine blk_drewN ?_ _ | refine blk_drew ?_ | refine blk_alloc ?_ _)); exact BK459.out) hb); have n2_ := Aside0.mk (blk_below (g := gb470) (o := .cells #[.int .u8 t466, .int .i64 t467, .string t468] 26 (0, 0)) (by (with_reducible repeat (first | refine blk_drewN ?_ _ | refine blk_drew ?_ | refine blk_alloc ?_ _)); exact BK470.out) hb); have n3_ := Aside0.mk (blk_below (g := gb478) (o := .cells #[.int .u8 t474, .int .i64 t475, .string t476] 26 (0, 0)) (by (with_reducible repeat (first | refine blk_drewN ?_ _ | refine blk_drew ?_ | refine blk_alloc ?_ _)); exact BK478.out) hb); have n4_ := Aside0.mk (blk_below (g := gb490) (o := .cells #[.int .u8 t486, .int .i64 t487, .string t488] 26 (0, 0)) (by (with_reducible repeat (first | refine blk_drewN ?_ _ | refine blk_drew ?_ | refine blk_alloc ?_ _)); exact BK490.out) hb); have n5_ := Aside0.mk (blk_below (g := gb498) (o := .cells #[.int .u8 t494, .int .i64 t495, .string t496] 26 (0, 0)) (by (with_reducible repeat (first | refine blk_drewN ?_ _ | refine blk_drew ?_ | refine blk_alloc ?_ _)); exact BK498.out) hb); have n6_ := Aside0.mk (below_step (by repeat (first | (with_reducible first | exact HB.out | apply below_alloc | apply pw_below_drewN | apply below_drew1 | refine below_set ?_ GE451.out | refine below_set ?_ GE459.out | refine below_set ?_ GE470.out | refine below_set ?_ GE478.out | refine below_set ?_ GE490.out | refine below_set ?_ GE498.out) | exact HB.out)) hb); have n7_ := Aside0.mk (hbox); have n8_ := Aside0.mk ((by rw [hg]; exact (below_size (by repeat (first | (with_reducible first | exact HB.out | apply below_alloc | apply pw_below_drewN | apply below_drew1 | refine below_set ?_ GE451.out | refine below_set ?_ GE459.out | refine below_set ?_ GE470.out | refine below_set ?_ GE478.out | refine below_set ?_ GE490.out | refine below_set ?_ GE498.out) | exact HB.out))) : w.heap.size ≤ gb509)); have n9_ := Aside0.mk ((by rw [hg]; exact (below_size (by repeat (first | (with_reducible first | exact HB.out | apply below_alloc | apply pw_below_drewN | apply below_drew1 | refine below_set ?_ GE451.out | refine below_set ?_ GE459.out | refine below_set ?_ GE470.out | refine below_set ?_ GE478.out | refine below_set ?_ GE490.out | refine below_set ?_ GE498.out) | exact HB.out))) : w.heap.size ≤ gb509)); have n10_ := Aside0.mk ((by rw [hg]; exact Nat.ne_of_lt (blk_lt (g := gb451) (o := .cells #[.int .u8 t447, .int .i64 t448, .string t449] 26 (0, 0)) (by (with_reducible repeat (first | refine blk_drewN ?_ _ | refine blk_drew ?_ | refine blk_alloc ?_ _)); exact BK451.out)) : gb451 ≠ gb509)); have n11_ := Aside0.mk ((by rw [hg]; exact Nat.ne_of_gt (blk_lt (g := gb451) (o := .cells #[.int .u8 t447, .int .i64 t448, .string t449] 26 (0, 0)) (by (with_reducible repeat (first | refine blk_drewN ?_ _ | refine blk_drew ?_ | refine blk_alloc ?_ _)); exact BK451.out)) : gb509 ≠ gb451)); have n12_ := Aside0.mk ((by rw [hg]; exact Nat.ne_of_lt (blk_lt (g := gb459) (o := .cells #[.int .u8 t455, .int .i64 t456, .string t457] 26 (0, 0)) (by (with_reducible repeat (first | refine blk_drewN ?_ _ | refine blk_drew ?_ | refine blk_alloc ?_ _)); exact BK459.out)) : gb459 ≠ gb509)); have n13_ := Aside0.mk ((by rw [hg]; exact Nat.ne_of_gt (blk_lt (g := gb459) (o := .cells #[.int .u8 t455, .int .i64 t456, .string t457] 26 (0, 0)) (by (with_reducible repeat (first | refine blk_drewN ?_ _ | refine blk_drew ?_ | refine blk_alloc ?_ _)); exact BK459.out)) : gb509 ≠ gb459)); have n14_ := Aside0.mk ((by rw [hg]; exact Nat.ne_of_lt (blk_lt (g := gb470) (o := .cells #[.int .u8 t466, .int .i64 t467, .string t468] 26 (0, 0)) (by (with_reducible repeat (first | refine blk_drewN ?_ _ | refine blk_drew ?_ | refine blk_alloc ?_ _)); exact BK470.out)) : gb470 ≠ gb509)); have n15_ := Aside0.mk ((by rw [hg]; exact Nat.ne_of_gt (blk_lt (g := gb470) (o := .cells #[.int .u8 t466, .int .i64 t467, .string t468] 26 (0, 0)) (by (with_reducible repeat (first | refine blk_drewN ?_ _ | refine blk_drew ?_ | refine blk_alloc ?_ _)); exact BK470.out)) : gb509 ≠ gb470)); have n16_ := Aside0.mk ((by rw [hg]; exact Nat.ne_of_lt (blk_lt (g := gb478) (o := .cells #[.int .u8 t474, .int .i64 t475, .string t476] 26 (0, 0)) (by (with_reducible repeat (first | refine blk_drewN ?_ _ | refine blk_drew ?_ | refine blk_alloc ?_ _)); exact BK478.out)) : gb478 ≠ gb509)); have n17_ := Aside0.mk ((by rw [hg]; exact Nat.ne_of_gt (blk_lt (g := gb478) (o := .cells #[.int .u8 t474, .int .i64 t475, .string t476] 26 (0, 0)) (by (with_reducible repeat (first | refine blk_drewN ?_ _ | refine blk_drew ?_ | refine blk_alloc ?_ _)); exact BK478.out)) : gb509 ≠ gb478)); have n18_ := Aside0.mk ((by rw [hg]; exact Nat.ne_of_lt (blk_lt (g := gb490) (o := .cells #[.int .u8 t486, .int .i64 t487, .string t488] 26 (0, 0)) (by (with_reducible repeat (first | refine blk_drewN ?_ _ | refine blk_drew ?_ | refine blk_alloc ?_ _)); exact BK490.out)) : gb490 ≠ gb509)); have n19_ := Aside0.mk ((by rw [hg]; exact Nat.ne_of_gt (blk_lt (g := gb490) (o := .cells #[.int .u8 t486, .int .i64 t487, .string t488] 26 (0, 0)) (by (with_reducible repeat (first | refine blk_drewN ?_ _ | refine blk_drew ?_ | refine blk_alloc ?_ _)); exact BK490.out)) : gb509 ≠ gb490)); have n20_ := Aside0.mk ((by rw [hg]; exact Nat.ne_of_lt (blk_lt (g := gb498) (o := .cells #[.int .u8 t494, .int .i64 t495, .string t496] 26 (0, 0)) (by (with_reducible repeat (first | refine blk_drewN ?_ _ | refine blk_drew ?_ | refine blk_alloc ?_ _)); exact BK498.out)) : gb498 ≠ gb509)); have n21_ := Aside0.mk ((by rw [hg]; exact Nat.ne_of_gt (blk_lt (g := gb498) (o := .cells #[.int .u8 t494, .int .i64 t495, .string t496] 26 (0, 0)) (by (with_reducible repeat (first | refine blk_drewN ?_ _ | refine blk_drew ?_ | refine blk_alloc ?_ _)); exact BK498.out)) : gb509 ≠ gb498)); clear BK451; clear BK459; clear BK470; clear BK478; clear BK490; clear BK498; clear HB; have BK451 := n0_; have BK459 := n1_; have BK470 := n2_; have BK478 := n3_; have BK490 := n4_; have BK498 := n5_; have HB := n6_; have BK509 := n7_; have GW509 := n8_; have GE509 := n9_; have NB451_509 := n10_; have NB509_451 := n11_; have NB459_509 := n12_; have NB509_459 := n13_; have NB470_509 := n14_; have NB509_470 := n15_; have NB478_509 := n16_; have NB509_478 := n17_; have NB490_509 := n18_; have NB509_490 := n19_; have NB498_509 := n20_; have NB509_498 := n21_; clear n0_ n1_ n2_ n3_ n4_ n5_ n6_ n7_ n8_ n9_ n10_ n11_ n12_ n13_ n14_ n15_ n16_ n17_ n18_ n19_ n20_ n21_; clear hb hbox hg; have hnb91 := NB509_451.out; have hnc91 := NB451_509.out; have hnb92 := NB509_459.out; have hnc92 := NB459_509.out; have hnb93 := NB509_470.out; have hnc93 := NB470_509.out; have hnb94 := NB509_478.out; have hnc94 := NB478_509.out; have hnb95 := NB509_490.out; have hnc95 := NB490_509.out; have hnb96 := NB509_498.out; have hnc96 := NB498_509.out; have hcz97_0 : w90.cell? ⟨gb509, 0, none⟩ = some (.int .u8 0) := (blk_cell BK509.out 0).trans rfl; have hcz97_1 : w90.cell? ⟨gb509, 1, none⟩ = some (.int .i64 0) := (blk_cell BK509.out 1).trans rfl; have hcz97_2 : w90.cell? ⟨gb509, 2, none⟩ = some (.string (⟨#[]⟩ : ByteArray)) := (blk_cell BK509.out 2).trans rfl; have hfz97_0 := blk_frozen BK509.out 0; have hfz97_1 := blk_frozen BK509.out 1; have hfz97_2 := blk_frozen BK509.out 2))
          (try simp only [Act.put, List.setIfInBounds_toArray, List.set_cons_zero, List.set_cons_succ])
          go_cut [6] (fun v6 wc => ∃ (kq : Nat) (x6_67 : Bool), v6 = .bool x6_67 ∧ Aside0 (sacristanlaw01_ValueShifts.j1 kq x6_67 = some r) ∧ Aside0 (kq ≤ kj13) ∧ Aside0 (wc.heap[gb451]? = some (.cells #[.int .u8 t447, .int .i64 t448, .string t449] 26 (0, 0))) ∧ Aside0 (wc.heap[gb459]? = some (.cells #[.int .u8 t455, .int .i64 t456, .string t457] 26 (0, 0))) ∧ Aside0 (wc.heap[gb470]? = some (.cells #[.int .u8 t466, .int .i64 t467, .string t468] 26 (0, 0))) ∧ Aside0 (wc.heap[gb478]? = some (.cells #[.int .u8 t474, .int .i64 t475, .string t476] 26 (0, 0))) ∧ Aside0 (wc.heap[gb490]? = some (.cells #[.int .u8 t486, .int .i64 t487, .string t488] 26 (0, 0))) ∧ Aside0 (wc.heap[gb498]? = some (.cells #[.int .u8 t494, .int .i64 t495, .string t496] 26 (0, 0))) ∧ Aside0 (wc.heap[gb509]? = some (.cells #[.int .u8 t505, .int .i64 t506, .string t507] 26 (0, 0))) ∧ Aside0 (Below w.heap.size w wc))
          case first =>
            have H := HC68.out
            clear HC68
            by_cases c98 : (t494 == t505 && (t495 == t506 && (t496.toList == t507.toList))) = true
            · rw [if_pos c98] at H
              have c98b0 : (t494 == t505 && (t495 == t506 && (t496.toList == t507.toList))) = true := c98
              (try (have c98b1 : decide (t494 = t505 && (t495 == t506 && (t496.toList == t507.toList))) = true := by simpa using c98))
              (try (have c98b2 : (t494 == t505 && (t495 == t506 && (t496.toList == t507.toList))) = true := by simpa using c98))
              clear c98
              (first | rw [c98b0] | (simp only [i64_w, i32_w]; rw [c98b0]) | skip)
              replace H := Option.bind_eq_some_iff.mp H
              obtain ⟨t510, A990, H⟩ := H
              replace H : (sacristanlaw01_ValueShifts.j1 kj13 t510) = some r := H
              have A99 := Aside0.mk A990
              clear A990
              have H' := Aside0.mk H
              clear H
              have hnb100 := NB498_451.out
              have hnc100 := NB451_498.out
              have hnb101 := NB498_459.out
              have hnc101 := NB459_498.out
              have hnb102 := NB498_470.out
              have hnc102 := NB470_498.out
              have hnb103 := NB498_478.out
              have hnc103 := NB478_498.out
              have hnb104 := NB498_490.out
              have hnc104 := NB490_498.out
              have hnb105 := NB498_509.out
              have hnc105 := NB509_498.out
              have hcz106_0 : w90.cell? ⟨gb498, 0, none⟩ = some (.int .u8 t494) := (blk_cell BK498.out 0).trans rfl
              have hcz106_1 : w90.cell? ⟨gb498, 1, none⟩ = some (.int .i64 t495) := (blk_cell BK498.out 1).trans rfl
              have hcz106_2 : w90.cell? ⟨gb498, 2, none⟩ = some (.string t496) := (blk_cell BK498.out 2).trans rfl
              have hfz106_0 := blk_frozen BK498.out 0
              have hfz106_1 := blk_frozen BK498.out 1
              have hfz106_2 := blk_frozen BK498.out 2
              have hnb107 := NB509_451.out
              have hnc107 := NB451_509.out
              have hnb108 := NB509_459.out
              have hnc108 := NB459_509.out
              have hnb109 := NB509_470.out
              have hnc109 := NB470_509.out
              have hnb110 := NB509_478.out
              have hnc110 := NB478_509.out
              have hnb111 := NB509_490.out
              have hnc111 := NB490_509.out
              have hcz112_0 : w90.cell? ⟨gb509, 0, none⟩ = some (.int .u8 0) := (blk_cell BK509.out 0).trans rfl
              have hcz112_1 : w90.cell? ⟨gb509, 1, none⟩ = some (.int .i64 0) := (blk_cell BK509.out 1).trans rfl
              have hcz112_2 : w90.cell? ⟨gb509, 2, none⟩ = some (.string (⟨#[]⟩ : ByteArray)) := (blk_cell BK509.out 2).trans rfl
              have hfz112_0 := blk_frozen BK509.out 0
              have hfz112_1 := blk_frozen BK509.out 1
              have hfz112_2 := blk_frozen BK509.out 2
              go_wp2_with (first | (go_at_call 28; (with_reducible refine (sacristanlaw01_awake.calls kj13  t510 _ A99.out).mono ?_); rintro e w113 ⟨rfl, hb⟩; have n0_ := Aside0.mk (blk_below (g := gb451) (o := .cells #[.int .u8 t447, .int .i64 t448, .string t449] 26 (0, 0)) (by (with_reducible repeat (first | refine blk_drewN ?_ _ | refine blk_drew ?_ | refine blk_alloc ?_ _)); refine blk_far ?_ NB451_509.out _; (with_reducible repeat (first | refine blk_drewN ?_ _ | refine blk_drew ?_ | refine blk_alloc ?_ _)); refine blk_far ?_ NB451_509.out _; (with_reducible repeat (first | refine blk_drewN ?_ _ | refine blk_drew ?_ | refine blk_alloc ?_ _)); refine blk_far ?_ NB451_509.out _; (with_reducible repeat (first | refine blk_drewN ?_ _ | refine blk_drew ?_ | refine blk_alloc ?_ _)); exact BK451.out) hb); have n1_ := Aside0.mk (blk_below (g := gb459) (o := .cells #[.int .u8 t455, .int .i64 t456, .string t457] 26 (0, 0)) (by (with_reducible repeat (first | refine blk_drewN ?_ _ | refine blk_drew ?_ | refine blk_alloc ?_ _)); refine blk_far ?_ NB459_509.out _; (with_reducible repeat (first | refine blk_drewN ?_ _ | refine blk_drew ?_ | refine blk_alloc ?_ _)); refine blk_far ?_ NB459_509.out _; (with_reducible repeat (first | refine blk_drewN ?_ _ | refine blk_drew ?_ | refine blk_alloc ?_ _)); refine blk_far ?_ NB459_509.out _; (with_reducible repeat (first | refine blk_drewN ?_ _ | refine blk_drew ?_ | refine blk_alloc ?_ _)); exact BK459.out) hb); have n2_ := Aside0.mk (blk_below (g := gb470) (o := .cells #[.int .u8 t466, .int .i64 t467, .string t468] 26 (0, 0)) (by (with_reducible repeat (first | refine blk_drewN ?_ _ | refine blk_drew ?_ | refine blk_alloc ?_ _)); refine blk_far ?_ NB470_509.out _; (with_reducible repeat (first | refine blk_drewN ?_ _ | refine blk_drew ?_ | refine blk_alloc ?_ _)); refine blk_far ?_ NB470_509.out _; (with_reducible repeat (first | refine blk_drewN ?_ _ | refine blk_drew ?_ | refine blk_alloc ?_ _)); refine blk_far ?_ NB470_509.out _; (with_reducible repeat (first | refine blk_drewN ?_ _ | refine blk_drew ?_ | refine blk_alloc ?_ _)); exact BK470.out) hb); have n3_ := Aside0.mk (blk_below (g := gb478) (o := .cells #[.int .u8 t474, .int .i64 t475, .string t476] 26 (0, 0)) (by (with_reducible repeat (first | refine blk_drewN ?_ _ | refine blk_drew ?_ | refine blk_alloc ?_ _)); refine blk_far ?_ NB478_509.out _; (with_reducible repeat (first | refine blk_drewN ?_ _ | refine blk_drew ?_ | refine blk_alloc ?_ _)); refine blk_far ?_ NB478_509.out _; (with_reducible repeat (first | refine blk_drewN ?_ _ | refine blk_drew ?_ | refine blk_alloc ?_ _)); refine blk_far ?_ NB478_509.out _; (with_reducible repeat (first | refine blk_drewN ?_ _ | refine blk_drew ?_ | refine blk_alloc ?_ _)); exact BK478.out) hb); have n4_ := Aside0.mk (blk_below (g := gb490) (o := .cells #[.int .u8 t486, .int .i64 t487, .string t488] 26 (0, 0)) (by (with_reducible repeat (first | refine blk_drewN ?_ _ | refine blk_drew ?_ | refine blk_alloc ?_ _)); refine blk_far ?_ NB490_509.out _; (with_reducible repeat (first | refine blk_drewN ?_ _ | refine blk_drew ?_ | refine blk_alloc ?_ _)); refine blk_far ?_ NB490_509.out _; (with_reducible repeat (first | refine blk_drewN ?_ _ | refine blk_drew ?_ | refine blk_alloc ?_ _)); refine blk_far ?_ NB490_509.out _; (with_reducible repeat (first | refine blk_drewN ?_ _ | refine blk_drew ?_ | refine blk_alloc ?_ _)); exact BK490.out) hb); have n5_ := Aside0.mk (blk_below (g := gb498) (o := .cells #[.int .u8 t494, .int .i64 t495, .string t496] 26 (0, 0)) (by (with_reducible repeat (first | refine blk_drewN ?_ _ | refine blk_drew ?_ | refine blk_alloc ?_ _)); refine blk_far ?_ NB498_509.out _; (with_reducible repeat (first | refine blk_drewN ?_ _ | refine blk_drew ?_ | refine blk_alloc ?_ _)); refine blk_far ?_ NB498_509.out _; (with_reducible repeat (first | refine blk_drewN ?_ _ | refine blk_drew ?_ | refine blk_alloc ?_ _)); refine blk_far ?_ NB498_509.out _; (with_reducible repeat (first | refine blk_drewN ?_ _ | refine blk_drew ?_ | refine blk_alloc ?_ _)); exact BK498.out) hb); have n6_ := Aside0.mk (blk_below (g := gb509) (o := .cells #[.int .u8 t505, .int .i64 t506, .string t507] 26 (0, 0)) (by (with_reducible repeat (first | refine blk_drewN ?_ _ | refine blk_drew ?_ | refine blk_alloc ?_ _)); refine blk_put (cs := #[.int .u8 t505, .int .i64 t506, .string (⟨#[]⟩ : ByteArray)]) ?_ 2 _ rfl; (with_reducible repeat (first | refine blk_drewN ?_ _ | refine blk_drew ?_ | refine blk_alloc ?_ _)); refine blk_put (cs := #[.int .u8 t505, .int .i64 0, .string (⟨#[]⟩ : ByteArray)]) ?_ 1 _ rfl; (with_reducible repeat (first | refine blk_drewN ?_ _ | refine blk_drew ?_ | refine blk_alloc ?_ _)); refine blk_put (cs := #[.int .u8 0, .int .i64 0, .string (⟨#[]⟩ : ByteArray)]) ?_ 0 _ rfl; (with_reducible repeat (first | refine blk_drewN ?_ _ | refine blk_drew ?_ | refine blk_alloc ?_ _)); exact BK509.out) hb); have n7_ := Aside0.mk (below_step (by repeat (first | (with_reducible first | exact HB.out | apply below_alloc | apply pw_below_drewN | apply below_drew1 | refine below_set ?_ GE451.out | refine below_set ?_ GE459.out | refine below_set ?_ GE470.out | refine below_set ?_ GE478.out | refine below_set ?_ GE490.out | refine below_set ?_ GE498.out | refine below_set ?_ GE509.out) | exact HB.out)) hb); clear BK451; clear BK459; clear BK470; clear BK478; clear BK490; clear BK498; clear BK509; clear HB; have BK451 := n0_; have BK459 := n1_; have BK470 := n2_; have BK478 := n3_; have BK490 := n4_; have BK498 := n5_; have BK509 := n6_; have HB := n7_; clear n0_ n1_ n2_ n3_ n4_ n5_ n6_ n7_; (try clear hb); (try clear hb2); (try clear hk); (try clear hi)))
              go_meet
              case rel => exact ⟨_, (t510), (by first | rfl | (simp; done) | (simp [*]; done)), H', ⟨by have := HJ13.out; first | omega | exact Nat.le_refl _⟩, ⟨by (with_reducible repeat (first | refine blk_drewN ?_ _ | refine blk_drew ?_ | refine blk_alloc ?_ _)); exact BK451.out⟩, ⟨by (with_reducible repeat (first | refine blk_drewN ?_ _ | refine blk_drew ?_ | refine blk_alloc ?_ _)); exact BK459.out⟩, ⟨by (with_reducible repeat (first | refine blk_drewN ?_ _ | refine blk_drew ?_ | refine blk_alloc ?_ _)); exact BK470.out⟩, ⟨by (with_reducible repeat (first | refine blk_drewN ?_ _ | refine blk_drew ?_ | refine blk_alloc ?_ _)); exact BK478.out⟩, ⟨by (with_reducible repeat (first | refine blk_drewN ?_ _ | refine blk_drew ?_ | refine blk_alloc ?_ _)); exact BK490.out⟩, ⟨by (with_reducible repeat (first | refine blk_drewN ?_ _ | refine blk_drew ?_ | refine blk_alloc ?_ _)); exact BK498.out⟩, ⟨by (with_reducible repeat (first | refine blk_drewN ?_ _ | refine blk_drew ?_ | refine blk_alloc ?_ _)); exact BK509.out⟩, ⟨by repeat (first | (with_reducible first | exact HB.out | apply below_alloc | apply pw_below_drewN | apply below_drew1 | refine below_set ?_ GE451.out | refine below_set ?_ GE459.out | refine below_set ?_ GE470.out | refine below_set ?_ GE478.out | refine below_set ?_ GE490.out | refine below_set ?_ GE498.out | refine below_set ?_ GE509.out) | exact HB.out)⟩⟩
            · rw [if_neg c98] at H
              have c98b0 : (t494 == t505 && (t495 == t506 && (t496.toList == t507.toList))) = false := by simpa using c98
              (try (have c98b1 : decide (t494 = t505 && (t495 == t506 && (t496.toList == t507.toList))) = false := by simpa using c98))
              (try (have c98b2 : (t494 == t505 && (t495 == t506 && (t496.toList == t507.toList))) = false := by simpa using c98))
              (try (have c98b3 : ¬ (t494 = t505 && (t495 == t506 && (t496.toList == t507.toList))) := by simpa using c98))
              clear c98
              (first | rw [c98b0] | (simp only [i64_w, i32_w]; rw [c98b0]) | skip)
              have H' := Aside0.mk H
              clear H
              have hnb114 := NB498_451.out
              have hnc114 := NB451_498.out
              have hnb115 := NB498_459.out
              have hnc115 := NB459_498.out
              have hnb116 := NB498_470.out
              have hnc116 := NB470_498.out
              have hnb117 := NB498_478.out
              have hnc117 := NB478_498.out
              have hnb118 := NB498_490.out
              have hnc118 := NB490_498.out
              have hnb119 := NB498_509.out
              have hnc119 := NB509_498.out
              have hcz120_0 : w90.cell? ⟨gb498, 0, none⟩ = some (.int .u8 t494) := (blk_cell BK498.out 0).trans rfl
              have hcz120_1 : w90.cell? ⟨gb498, 1, none⟩ = some (.int .i64 t495) := (blk_cell BK498.out 1).trans rfl
              have hcz120_2 : w90.cell? ⟨gb498, 2, none⟩ = some (.string t496) := (blk_cell BK498.out 2).trans rfl
              have hfz120_0 := blk_frozen BK498.out 0
              have hfz120_1 := blk_frozen BK498.out 1
              have hfz120_2 := blk_frozen BK498.out 2
              have hnb121 := NB509_451.out
              have hnc121 := NB451_509.out
              have hnb122 := NB509_459.out
              have hnc122 := NB459_509.out
              have hnb123 := NB509_470.out
              have hnc123 := NB470_509.out
              have hnb124 := NB509_478.out
              have hnc124 := NB478_509.out
              have hnb125 := NB509_490.out
              have hnc125 := NB490_509.out
              have hcz126_0 : w90.cell? ⟨gb509, 0, none⟩ = some (.int .u8 0) := (blk_cell BK509.out 0).trans rfl
              have hcz126_1 : w90.cell? ⟨gb509, 1, none⟩ = some (.int .i64 0) := (blk_cell BK509.out 1).trans rfl
              have hcz126_2 : w90.cell? ⟨gb509, 2, none⟩ = some (.string (⟨#[]⟩ : ByteArray)) := (blk_cell BK509.out 2).trans rfl
              have hfz126_0 := blk_frozen BK509.out 0
              have hfz126_1 := blk_frozen BK509.out 1
              have hfz126_2 := blk_frozen BK509.out 2
              go_wp2
              go_meet
              case rel => exact ⟨_, (false), (by first | rfl | (simp; done) | (simp [*]; done)), H', ⟨by have := HJ13.out; first | omega | exact Nat.le_refl _⟩, ⟨by (with_reducible repeat (first | refine blk_drewN ?_ _ | refine blk_drew ?_ | refine blk_alloc ?_ _)); refine blk_far ?_ NB451_509.out _; (with_reducible repeat (first | refine blk_drewN ?_ _ | refine blk_drew ?_ | refine blk_alloc ?_ _)); refine blk_far ?_ NB451_509.out _; (with_reducible repeat (first | refine blk_drewN ?_ _ | refine blk_drew ?_ | refine blk_alloc ?_ _)); refine blk_far ?_ NB451_509.out _; (with_reducible repeat (first | refine blk_drewN ?_ _ | refine blk_drew ?_ | refine blk_alloc ?_ _)); exact BK451.out⟩, ⟨by (with_reducible repeat (first | refine blk_drewN ?_ _ | refine blk_drew ?_ | refine blk_alloc ?_ _)); refine blk_far ?_ NB459_509.out _; (with_reducible repeat (first | refine blk_drewN ?_ _ | refine blk_drew ?_ | refine blk_alloc ?_ _)); refine blk_far ?_ NB459_509.out _; (with_reducible repeat (first | refine blk_drewN ?_ _ | refine blk_drew ?_ | refine blk_alloc ?_ _)); refine blk_far ?_ NB459_509.out _; (with_reducible repeat (first | refine blk_drewN ?_ _ | refine blk_drew ?_ | refine blk_alloc ?_ _)); exact BK459.out⟩, ⟨by (with_reducible repeat (first | refine blk_drewN ?_ _ | refine blk_drew ?_ | refine blk_alloc ?_ _)); refine blk_far ?_ NB470_509.out _; (with_reducible repeat (first | refine blk_drewN ?_ _ | refine blk_drew ?_ | refine blk_alloc ?_ _)); refine blk_far ?_ NB470_509.out _; (with_reducible repeat (first | refine blk_drewN ?_ _ | refine blk_drew ?_ | refine blk_alloc ?_ _)); refine blk_far ?_ NB470_509.out _; (with_reducible repeat (first | refine blk_drewN ?_ _ | refine blk_drew ?_ | refine blk_alloc ?_ _)); exact BK470.out⟩, ⟨by (with_reducible repeat (first | refine blk_drewN ?_ _ | refine blk_drew ?_ | refine blk_alloc ?_ _)); refine blk_far ?_ NB478_509.out _; (with_reducible repeat (first | refine blk_drewN ?_ _ | refine blk_drew ?_ | refine blk_alloc ?_ _)); refine blk_far ?_ NB478_509.out _; (with_reducible repeat (first | refine blk_drewN ?_ _ | refine blk_drew ?_ | refine blk_alloc ?_ _)); refine blk_far ?_ NB478_509.out _; (with_reducible repeat (first | refine blk_drewN ?_ _ | refine blk_drew ?_ | refine blk_alloc ?_ _)); exact BK478.out⟩, ⟨by (with_reducible repeat (first | refine blk_drewN ?_ _ | refine blk_drew ?_ | refine blk_alloc ?_ _)); refine blk_far ?_ NB490_509.out _; (with_reducible repeat (first | refine blk_drewN ?_ _ | refine blk_drew ?_ | refine blk_alloc ?_ _)); refine blk_far ?_ NB490_509.out _; (with_reducible repeat (first | refine blk_drewN ?_ _ | refine blk_drew ?_ | refine blk_alloc ?_ _)); refine blk_far ?_ NB490_509.out _; (with_reducible repeat (first | refine blk_drewN ?_ _ | refine blk_drew ?_ | refine blk_alloc ?_ _)); exact BK490.out⟩, ⟨by (with_reducible repeat (first | refine blk_drewN ?_ _ | refine blk_drew ?_ | refine blk_alloc ?_ _)); refine blk_far ?_ NB498_509.out _; (with_reducible repeat (first | refine blk_drewN ?_ _ | refine blk_drew ?_ | refine blk_alloc ?_ _)); refine blk_far ?_ NB498_509.out _; (with_reducible repeat (first | refine blk_drewN ?_ _ | refine blk_drew ?_ | refine blk_alloc ?_ _)); refine blk_far ?_ NB498_509.out _; (with_reducible repeat (first | refine blk_drewN ?_ _ | refine blk_drew ?_ | refine blk_alloc ?_ _)); exact BK498.out⟩, ⟨by (with_reducible repeat (first | refine blk_drewN ?_ _ | refine blk_drew ?_ | refine blk_alloc ?_ _)); refine blk_put (cs := #[.int .u8 t505, .int .i64 t506, .string (⟨#[]⟩ : ByteArray)]) ?_ 2 _ rfl; (with_reducible repeat (first | refine blk_drewN ?_ _ | refine blk_drew ?_ | refine blk_alloc ?_ _)); refine blk_put (cs := #[.int .u8 t505, .int .i64 0, .string (⟨#[]⟩ : ByteArray)]) ?_ 1 _ rfl; (with_reducible repeat (first | refine blk_drewN ?_ _ | refine blk_drew ?_ | refine blk_alloc ?_ _)); refine blk_put (cs := #[.int .u8 0, .int .i64 0, .string (⟨#[]⟩ : ByteArray)]) ?_ 0 _ rfl; (with_reducible repeat (first | refine blk_drewN ?_ _ | refine blk_drew ?_ | refine blk_alloc ?_ _)); exact BK509.out⟩, ⟨by repeat (first | (with_reducible first | exact HB.out | apply below_alloc | apply pw_below_drewN | apply below_drew1 | refine below_set ?_ GE451.out | refine below_set ?_ GE459.out | refine below_set ?_ GE470.out | refine below_set ?_ GE478.out | refine below_set ?_ GE490.out | refine below_set ?_ GE498.out | refine below_set ?_ GE509.out) | exact HB.out)⟩⟩
          case rest =>
            clear HC68
            try clear c1
            try clear p2
            try clear c3
            try clear p6
            try clear c9
            try clear c10
            try clear c11
            try clear c12
            try clear c31
            try clear c33
            try clear p64
            try clear c91
            try clear c92
            try clear c93
            try clear c94
            try clear c95
            try clear c96
            try clear c98
            try clear c98b0
            try clear c98b1
            try clear c98b2
            try clear c100
            try clear c101
            try clear c102
            try clear c103
            try clear c104
            try clear c105
            try clear c107
            try clear c108
            try clear c109
            try clear c110
            try clear c111
            try clear c114
            try clear c115
            try clear c116
            try clear c117
            try clear c118
            try clear c119
            try clear c121
            try clear c122
            try clear c123
            try clear c124
            try clear c125
            try clear hcz106_0
            try clear hcz106_1
            try clear hcz106_2
            try clear hcz112_0
            try clear hcz112_1
            try clear hcz112_2
            try clear hcz120_0
            try clear hcz120_1
            try clear hcz120_2
            try clear hcz126_0
            try clear hcz126_1
            try clear hcz126_2
            try clear hcz97_0
            try clear hcz97_1
            try clear hcz97_2
            try clear hfz106_0
            try clear hfz106_1
            try clear hfz106_2
            try clear hfz112_0
            try clear hfz112_1
            try clear hfz112_2
            try clear hfz120_0
            try clear hfz120_1
            try clear hfz120_2
            try clear hfz126_0
            try clear hfz126_1
            try clear hfz126_2
            try clear hfz97_0
            try clear hfz97_1
            try clear hfz97_2
            obtain ⟨kq, x6_67, rfl, HA, HJ67, BK451, BK459, BK470, BK478, BK490, BK498, BK509, HB⟩ := hcut
            cases kq with
            | zero => exact absurd HA.out (by simp [sacristanlaw01_ValueShifts.j1])
            | succ kj67 =>
              have H := HA.out
              clear HA
              simp only [sacristanlaw01_ValueShifts.j1] at H
              obtain rfl := Option.some.inj H
              go_wp2
              go_ret
              exact ⟨by first | rfl | (simp [errW_none, errW_some] <;> rfl) | (simp [*, errW_none, errW_some] <;> rfl), by repeat (first | (with_reducible first | exact HB.out | apply below_alloc | apply pw_below_drewN | apply below_drew1 | refine below_set ?_ GE451.out | refine below_set ?_ GE459.out | refine below_set ?_ GE470.out | refine below_set ?_ GE478.out | refine below_set ?_ GE490.out | refine below_set ?_ GE498.out | refine below_set ?_ GE509.out) | exact HB.out)⟩

/-- THE ONE PURE STATEMENT of sacristanlaw01_ValueShifts: yours. -/
def sacristanlaw01_ValueShifts.Pure : Prop := ∀ (a0 : Int) (a1 : Int) (a2 : Int), (Lit.int .i64 a0).wf = true → (Lit.int .u8 a1).wf = true → (Lit.int .u8 a2).wf = true → ∃ k, sacristanlaw01_ValueShifts.f k a0 a1 a2 = some true
theorem sacristanlaw01_ValueShifts.walk (P : sacristanlaw01_ValueShifts.Pure) (a0 : Int) (a1 : Int) (a2 : Int) (w : World) (w0 : (Lit.int .i64 a0).wf = true) (w1 : (Lit.int .u8 a1).wf = true) (w2 : (Lit.int .u8 a2).wf = true) :
    Calls Try.prog 10 #[.int .i64 a0, .int .u8 a1, .int .u8 a2] w fun e w' => e = .returned (.bool true) ∧ Below w.heap.size w w' := by
  obtain ⟨k, h⟩ := P a0 a1 a2 w0 w1 w2
  refine (sacristanlaw01_ValueShifts.calls k a0 a1 a2 true w h).mono ?_
  rintro e w' ⟨rfl, hd⟩
  exact ⟨rfl, hd⟩

end Go.Proofs.Ytahcnpjgbhpbeaa.PV
