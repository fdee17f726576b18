-- Own text: made by this session's variant of the printer (wip/mkpp.py); Lean checks it.
import Derived.Test.YtahcnpjgbhpbeaaPVx0
import Derived.Test.YtahcnpjgbhpbeaaPVx5
import Derived.Test.YtahcnpjgbhpbeaaPVx17
namespace Go.Proofs.Ytahcnpjgbhpbeaa.PV
open Go.RowKit Go.Proofs.YtahcnpjgbhpbeaaW.PrintWords Go.Proofs.YtahcnpjgbhpbeaaW.PrintLast Go.Proofs.YtahcnpjgbhpbeaaW.PrintMore Go.Proofs.YtahcnpjgbhpbeaaW.Own
attribute [local go_sem high] own_gtr own_leq own_geq
attribute [local go_sem] max2_int min2_int max_two min_two max_three min_three max_four min_four   -- for this text's walks alone
set_option linter.unusedVariables false
set_option linter.unusedSimpArgs false

/-! ### sacristanref01_One: function 41 -/
mutual
def sacristanref01_One.j0 : Nat → ByteArray → Int → Int → Int → ByteArray → Int → Int → ByteArray → Option (Int × Int × ByteArray × Int)
  | 0, _, _, _, _, _, _, _, _ => none
  | k + 1, x0, x7, x681000, x681001, x681002, x683000, x683001, x683002 => if x0.toList = ([108, 101, 110] : List UInt8) then (sacristanref01_One.j1 k x0 3 x681000 x681001 x681002 x683000 x683001 x683002) else (sacristanref01_One.j1 k x0 x7 x681000 x681001 x681002 x683000 x683001 x683002)
def sacristanref01_One.j1 : Nat → ByteArray → Int → Int → Int → ByteArray → Int → Int → ByteArray → Option (Int × Int × ByteArray × Int)
  | 0, _, _, _, _, _, _, _, _ => none
  | k + 1, x0, x7, x681000, x681001, x681002, x683000, x683001, x683002 => (some (([(⟨#[110, 101, 103]⟩ : ByteArray), (⟨#[110, 111, 116]⟩ : ByteArray), (⟨#[108, 101, 110]⟩ : ByteArray), (⟨#[105, 56]⟩ : ByteArray), (⟨#[105, 49, 54]⟩ : ByteArray), (⟨#[105, 51, 50]⟩ : ByteArray), (⟨#[117, 56]⟩ : ByteArray), (⟨#[117, 49, 54]⟩ : ByteArray), (⟨#[117, 51, 50]⟩ : ByteArray)] : List ByteArray) : List ByteArray)).bind fun y683 => (sacristanref01_One.l0 k x0 x7 false y683 (y683.length : Int) 0 x681000 x681001 x681002 x683000 x683001 x683002)
def sacristanref01_One.l0 : Nat → ByteArray → Int → Bool → List ByteArray → Int → Int → Int → Int → ByteArray → Int → Int → ByteArray → Option (Int × Int × ByteArray × Int)
  | 0, _, _, _, _, _, _, _, _, _, _, _, _ => none
  | k + 1, x0, x7, x8, x9, x18, x19, x681000, x681001, x681002, x683000, x683001, x683002 => if x19 < x18 then (if x8 = true then (sacristanref01_One.l0 k x0 x7 true x9 x18 (wrap64 (x19 + 1)) x681000 x681001 x681002 x683000 x683001 x683002) else (if 0 ≤ x19 then (if x19 < (x9.length : Int) then (sacristanref01_One.l0 k x0 x7 ((rdOf ByteArray.empty x9 x19).toList == x0.toList) x9 x18 (wrap64 (x19 + 1)) x681000 x681001 x681002 x683000 x683001 x683002) else (none)) else (none))) else (if x8 = true then (if x681000 = x7 then (if x0.toList = ([110, 101, 103] : List UInt8) then (if x681001 = (-9223372036854775808) then (some (x683000, x683001, x683002, 3)) else ((sacristanref01_Int.f (wrap64 (-x681001))).bind fun bt687 => (some (bt687.1, bt687.2.1, bt687.2.2, 0)))) else (if x0.toList = ([110, 111, 116] : List UInt8) then ((sacristanref01_Bool.f (x681001 == 0)).bind fun bt690 => (some (bt690.1, bt690.2.1, bt690.2.2, 0))) else (if x0.toList = ([108, 101, 110] : List UInt8) then ((sacristanref01_Int.f (x681002.size : Int)).bind fun bt693 => (some (bt693.1, bt693.2.1, bt693.2.2, 0))) else (if x0.toList = ([105, 56] : List UInt8) then ((sacristanref01_signed.f x681001 256).bind fun t696 => ((sacristanref01_Int.f t696).bind fun bt697 => (some (bt697.1, bt697.2.1, bt697.2.2, 0)))) else (if x0.toList = ([105, 49, 54] : List UInt8) then ((sacristanref01_signed.f x681001 65536).bind fun t700 => ((sacristanref01_Int.f t700).bind fun bt701 => (some (bt701.1, bt701.2.1, bt701.2.2, 0)))) else (if x0.toList = ([105, 51, 50] : List UInt8) then ((sacristanref01_signed.f x681001 4294967296).bind fun t704 => ((sacristanref01_Int.f t704).bind fun bt705 => (some (bt705.1, bt705.2.1, bt705.2.2, 0)))) else (if x0.toList = ([117, 56] : List UInt8) then ((sacristanref01_low.f x681001 256).bind fun t708 => ((sacristanref01_Int.f t708).bind fun bt709 => (some (bt709.1, bt709.2.1, bt709.2.2, 0)))) else (if x0.toList = ([117, 49, 54] : List UInt8) then ((sacristanref01_low.f x681001 65536).bind fun t712 => ((sacristanref01_Int.f t712).bind fun bt713 => (some (bt713.1, bt713.2.1, bt713.2.2, 0)))) else ((sacristanref01_low.f x681001 4294967296).bind fun t716 => ((sacristanref01_Int.f t716).bind fun bt717 => (some (bt717.1, bt717.2.1, bt717.2.2, 0)))))))))))) else (some (x683000, x683001, x683002, 2))) else (some (x683000, x683001, x683002, 1)))
end
def sacristanref01_One.f (k : Nat) (a0 : ByteArray) (a1_0 : Int) (a1_1 : Int) (a1_2 : ByteArray) : Option (Int × Int × ByteArray × Int) := if a0.toList = ([110, 111, 116] : List UInt8) then (sacristanref01_One.j0 k a0 2 a1_0 a1_1 a1_2 0 0 (⟨#[]⟩ : ByteArray)) else (sacristanref01_One.j0 k a0 1 a1_0 a1_1 a1_2 0 0 (⟨#[]⟩ : ByteArray))
theorem sacristanref01_One.mono_l : ∀ k, (∀ y0 y1 y2 y3 y4 y5 y6 y7, LeO (sacristanref01_One.j0 k y0 y1 y2 y3 y4 y5 y6 y7) (sacristanref01_One.j0 (k + 1) y0 y1 y2 y3 y4 y5 y6 y7)) ∧ (∀ y0 y1 y2 y3 y4 y5 y6 y7, LeO (sacristanref01_One.j1 k y0 y1 y2 y3 y4 y5 y6 y7) (sacristanref01_One.j1 (k + 1) y0 y1 y2 y3 y4 y5 y6 y7)) ∧ (∀ y0 y1 y2 y3 y4 y5 y6 y7 y8 y9 y10 y11, LeO (sacristanref01_One.l0 k y0 y1 y2 y3 y4 y5 y6 y7 y8 y9 y10 y11) (sacristanref01_One.l0 (k + 1) y0 y1 y2 y3 y4 y5 y6 y7 y8 y9 y10 y11))
  | 0 => ⟨fun _ _ _ _ _ _ _ _ r h => by simp [sacristanref01_One.j0] at h, fun _ _ _ _ _ _ _ _ r h => by simp [sacristanref01_One.j1] at h, fun _ _ _ _ _ _ _ _ _ _ _ _ r h => by simp [sacristanref01_One.l0] at h⟩
  | k + 1 => by
    obtain ⟨ih0, ih1, ih2⟩ := sacristanref01_One.mono_l k
    refine ⟨?_, ?_, ?_⟩
    · intro y0 y1 y2 y3 y4 y5 y6 y7
      unfold sacristanref01_One.j0
      repeat' first
      | (with_reducible exact ih0 _ _ _ _ _ _ _ _)
      | (with_reducible exact ih1 _ _ _ _ _ _ _ _)
      | (with_reducible exact ih2 _ _ _ _ _ _ _ _ _ _ _ _)
      | (with_reducible exact LeO.refl _)
      | (with_reducible exact LeO.none _)
      | (with_reducible refine LeO.ite ?_ ?_)
      | (with_reducible refine LeO.bind ?_ (fun _ => ?_))
      | exact ih0 _ _ _ _ _ _ _ _
      | exact ih1 _ _ _ _ _ _ _ _
      | exact ih2 _ _ _ _ _ _ _ _ _ _ _ _
      | exact LeO.none _
      | refine LeO.ite ?_ ?_
      | refine LeO.bind ?_ (fun _ => ?_)
    · intro y0 y1 y2 y3 y4 y5 y6 y7
      unfold sacristanref01_One.j1
      repeat' first
      | (with_reducible exact ih0 _ _ _ _ _ _ _ _)
      | (with_reducible exact ih1 _ _ _ _ _ _ _ _)
      | (with_reducible exact ih2 _ _ _ _ _ _ _ _ _ _ _ _)
      | (with_reducible exact LeO.refl _)
      | (with_reducible exact LeO.none _)
      | (with_reducible refine LeO.ite ?_ ?_)
      | (with_reducible refine LeO.bind ?_ (fun _ => ?_))
      | exact ih0 _ _ _ _ _ _ _ _
      | exact ih1 _ _ _ _ _ _ _ _
      | exact ih2 _ _ _ _ _ _ _ _ _ _ _ _
      | exact LeO.none _
      | refine LeO.ite ?_ ?_
      | refine LeO.bind ?_ (fun _ => ?_)
    · intro y0 y1 y2 y3 y4 y5 y6 y7 y8 y9 y10 y11
      unfold sacristanref01_One.l0
      repeat' first
      | (with_reducible exact ih0 _ _ _ _ _ _ _ _)
      | (with_reducible exact ih1 _ _ _ _ _ _ _ _)
      | (with_reducible exact ih2 _ _ _ _ _ _ _ _ _ _ _ _)
      | (with_reducible exact LeO.refl _)
      | (with_reducible exact LeO.none _)
      | (with_reducible refine LeO.ite ?_ ?_)
      | (with_reducible refine LeO.bind ?_ (fun _ => ?_))
      | exact ih0 _ _ _ _ _ _ _ _
      | exact ih1 _ _ _ _ _ _ _ _
      | exact ih2 _ _ _ _ _ _ _ _ _ _ _ _
      | exact LeO.none _
      | refine LeO.ite ?_ ?_
      | refine LeO.bind ?_ (fun _ => ?_)
theorem sacristanref01_One.mono : ∀ a0 a1 a2 a3 k, LeO (sacristanref01_One.f k a0 a1 a2 a3) (sacristanref01_One.f (k + 1) a0 a1 a2 a3) := by
  intro a0 a1 a2 a3 k
  obtain ⟨ih0, ih1, ih2⟩ := sacristanref01_One.mono_l k
  unfold sacristanref01_One.f
  repeat' first
      | (with_reducible exact ih0 _ _ _ _ _ _ _ _)
      | (with_reducible exact ih1 _ _ _ _ _ _ _ _)
      | (with_reducible exact ih2 _ _ _ _ _ _ _ _ _ _ _ _)
      | (with_reducible exact LeO.refl _)
      | (with_reducible exact LeO.none _)
      | (with_reducible refine LeO.ite ?_ ?_)
      | (with_reducible refine LeO.bind ?_ (fun _ => ?_))
      | exact ih0 _ _ _ _ _ _ _ _
      | exact ih1 _ _ _ _ _ _ _ _
      | exact ih2 _ _ _ _ _ _ _ _ _ _ _ _
      | exact LeO.none _
      | refine LeO.ite ?_ ?_
      | refine LeO.bind ?_ (fun _ => ?_)
set_option maxHeartbeats 8000000 in
set_option maxRecDepth 100000 in
theorem sacristanref01_One.calls (k : Nat) (a0 : ByteArray) (a1_0 : Int) (a1_1 : Int) (a1_2 : ByteArray) (r1 : Int) (r2 : Int) (r3 : ByteArray) (r4 : Int) (w : World) (h : sacristanref01_One.f k a0 a1_0 a1_1 a1_2 = some (r1, r2, r3, r4)) :
    Calls Try.prog 41 #[.string a0, .agg #[.int .u8 a1_0, .int .i64 a1_1, .string a1_2]] w fun e w' => e = .returned (.tuple #[.agg #[.int .u8 r1, .int .i64 r2, .string r3], .int .i64 r4]) ∧ Below w.heap.size w w' := by
  have hu26 := Try.underlying26
  have HB := Aside0.mk (Below.refl w.heap.size w)
  have H : (if a0.toList = ([110, 111, 116] : List UInt8) then (sacristanref01_One.j0 k a0 2 a1_0 a1_1 a1_2 0 0 (⟨#[]⟩ : ByteArray)) else (sacristanref01_One.j0 k a0 1 a1_0 a1_1 a1_2 0 0 (⟨#[]⟩ : ByteArray))) = some (r1, r2, r3, r4) := h
  clear h
  have HC3 := Aside0.mk H
  clear H
  go_enter Try.func41, Try.ntmps41
  go_upto_if 13 with (first | ((with_reducible refine gate_dst (N := 3) rfl ?_); refine box_event ?hg (N := 3) ?hd (cs := #[.int .u8 a1_0, .int .i64 a1_1, .string a1_2]) (t := 26) ?hr ?_; (case hd => rfl); (case hg => rfl); (case hr => first | (go_simp; done) | (go_simp; rfl)); intro gb680 hg w4 hbox hb; have n0_ := Aside0.mk (below_step (by repeat (first | (with_reducible first | exact HB.out | apply below_alloc | apply pw_below_drewN | apply below_drew1) | exact HB.out)) hb); have n1_ := Aside0.mk (hbox); have n2_ := Aside0.mk ((by rw [hg]; exact (below_size (by repeat (first | (with_reducible first | exact HB.out | apply below_alloc | apply pw_below_drewN | apply below_drew1) | exact HB.out))) : w.heap.size ≤ gb680)); have n3_ := Aside0.mk ((by rw [hg]; exact (below_size (by repeat (first | (with_reducible first | exact HB.out | apply below_alloc | apply pw_below_drewN | apply below_drew1) | exact HB.out))) : w.heap.size ≤ gb680)); clear HB; have HB := n0_; have BK680 := n1_; have GW680 := n2_; have GE680 := n3_; clear n0_ n1_ n2_ n3_; clear hb hbox hg) | ((with_reducible refine gate_dst (N := 4) rfl ?_); refine box_event ?hg (N := 4) ?hd (cs := #[.int .u8 0, .int .i64 0, .string (⟨#[]⟩ : ByteArray)]) (t := 26) ?hr ?_; (case hd => rfl); (case hg => rfl); (case hr => first | (go_simp; done) | (go_simp; rfl)); intro gb681 hg w5 hbox hb; have n0_ := Aside0.mk (blk_below (g := gb680) (o := .cells #[.int .u8 a1_0, .int .i64 a1_1, .string a1_2] 26 (0, 0)) (by (with_reducible repeat (first | refine blk_drewN ?_ _ | refine blk_drew ?_ | refine blk_alloc ?_ _)); exact BK680.out) hb); have n1_ := Aside0.mk (below_step (by repeat (first | (with_reducible first | exact HB.out | apply below_alloc | apply pw_below_drewN | apply below_drew1 | refine below_set ?_ GE680.out) | exact HB.out)) hb); have n2_ := Aside0.mk (hbox); have n3_ := Aside0.mk ((by rw [hg]; exact (below_size (by repeat (first | (with_reducible first | exact HB.out | apply below_alloc | apply pw_below_drewN | apply below_drew1 | refine below_set ?_ GE680.out) | exact HB.out))) : w.heap.size ≤ gb681)); have n4_ := Aside0.mk ((by rw [hg]; exact (below_size (by repeat (first | (with_reducible first | exact HB.out | apply below_alloc | apply pw_below_drewN | apply below_drew1 | refine below_set ?_ GE680.out) | exact HB.out))) : w.heap.size ≤ gb681)); have n5_ := Aside0.mk ((by rw [hg]; exact Nat.ne_of_lt (blk_lt (g := gb680) (o := .cells #[.int .u8 a1_0, .int .i64 a1_1, .string a1_2] 26 (0, 0)) (by (with_reducible repeat (first | refine blk_drewN ?_ _ | refine blk_drew ?_ | refine blk_alloc ?_ _)); exact BK680.out)) : gb680 ≠ gb681)); have n6_ := Aside0.mk ((by rw [hg]; exact Nat.ne_of_gt (blk_lt (g := gb680) (o := .cells #[.int .u8 a1_0, .int .i64 a1_1, .string a1_2] 26 (0, 0)) (by (with_reducible repeat (first | refine blk_drewN ?_ _ | refine blk_drew ?_ | refine blk_alloc ?_ _)); exact BK680.out)) : gb681 ≠ gb680)); clear BK680; clear HB; have BK680 := n0_; have HB := n1_; have BK681 := n2_; have GW681 := n3_; have GE681 := n4_; have NB680_681 := n5_; have NB681_680 := n6_; clear n0_ n1_ n2_ n3_ n4_ n5_ n6_; clear hb hbox hg) | ((with_reducible refine gate_dst (N := 6) rfl ?_); refine box_event ?hg (N := 6) ?hd (cs := #[.int .u8 0, .int .i64 0, .string (⟨#[]⟩ : ByteArray)]) (t := 26) ?hr ?_; (case hd => rfl); (case hg => rfl); (case hr => first | (go_simp; done) | (go_simp; rfl)); intro gb682 hg w6 hbox hb; have n0_ := Aside0.mk (blk_below (g := gb680) (o := .cells #[.int .u8 a1_0, .int .i64 a1_1, .string a1_2] 26 (0, 0)) (by (with_reducible repeat (first | refine blk_drewN ?_ _ | refine blk_drew ?_ | refine blk_alloc ?_ _)); exact BK680.out) hb); have n1_ := Aside0.mk (blk_below (g := gb681) (o := .cells #[.int .u8 0, .int .i64 0, .string (⟨#[]⟩ : ByteArray)] 26 (0, 0)) (by (with_reducible repeat (first | refine blk_drewN ?_ _ | refine blk_drew ?_ | refine blk_alloc ?_ _)); exact BK681.out) hb); have n2_ := Aside0.mk (below_step (by repeat (first | (with_reducible first | exact HB.out | apply below_alloc | apply pw_below_drewN | apply below_drew1 | refine below_set ?_ GE680.out | refine below_set ?_ GE681.out) | exact HB.out)) hb); have n3_ := Aside0.mk (hbox); have n4_ := Aside0.mk ((by rw [hg]; exact (below_size (by repeat (first | (with_reducible first | exact HB.out | apply below_alloc | apply pw_below_drewN | apply below_drew1 | refine below_set ?_ GE680.out | refine below_set ?_ GE681.out) | exact HB.out))) : w.heap.size ≤ gb682)); have n5_ := Aside0.mk ((by rw [hg]; exact (below_size (by repeat (first | (with_reducible first | exact HB.out | apply below_alloc | apply pw_below_drewN | apply below_drew1 | refine below_set ?_ GE680.out | refine below_set ?_ GE681.out) | exact HB.out))) : w.heap.size ≤ gb682)); have n6_ := Aside0.mk ((by rw [hg]; exact Nat.ne_of_lt (blk_lt (g := gb680) (o := .cells #[.int .u8 a1_0, .int .i64 a1_1, .string a1_2] 26 (0, 0)) (by (with_reducible repeat (first | refine blk_drewN ?_ _ | refine blk_drew ?_ | refine blk_alloc ?_ _)); exact BK680.out)) : gb680 ≠ gb682)); have n7_ := Aside0.mk ((by rw [hg]; exact Nat.ne_of_gt (blk_lt (g := gb680) (o := .cells #[.int .u8 a1_0, .int .i64 a1_1, .string a1_2] 26 (0, 0)) (by (with_reducible repeat (first | refine blk_drewN ?_ _ | refine blk_drew ?_ | refine blk_alloc ?_ _)); exact BK680.out)) : gb682 ≠ gb680)); have n8_ := Aside0.mk ((by rw [hg]; exact Nat.ne_of_lt (blk_lt (g := gb681) (o := .cells #[.int .u8 0, .int .i64 0, .string (⟨#[]⟩ : ByteArray)] 26 (0, 0)) (by (with_reducible repeat (first | refine blk_drewN ?_ _ | refine blk_drew ?_ | refine blk_alloc ?_ _)); exact BK681.out)) : gb681 ≠ gb682)); have n9_ := Aside0.mk ((by rw [hg]; exact Nat.ne_of_gt (blk_lt (g := gb681) (o := .cells #[.int .u8 0, .int .i64 0, .string (⟨#[]⟩ : ByteArray)] 26 (0, 0)) (by (with_reducible repeat (first | refine blk_drewN ?_ _ | refine blk_drew ?_ | refine blk_alloc ?_ _)); exact BK681.out)) : gb682 ≠ gb681)); clear BK680; clear BK681; clear HB; have BK680 := n0_; have BK681 := n1_; have HB := n2_; have BK682 := n3_; have GW682 := n4_; have GE682 := n5_; have NB680_682 := n6_; have NB682_680 := n7_; have NB681_682 := n8_; have NB682_681 := n9_; clear n0_ n1_ n2_ n3_ n4_ n5_ n6_ n7_ n8_ n9_; clear hb hbox hg; have hnb7 := NB682_680.out; have hnc7 := NB680_682.out; have hnb8 := NB682_681.out; have hnc8 := NB681_682.out; have hcz9_0 : w6.cell? ⟨gb682, 0, none⟩ = some (.int .u8 0) := (blk_cell BK682.out 0).trans rfl; have hcz9_1 : w6.cell? ⟨gb682, 1, none⟩ = some (.int .i64 0) := (blk_cell BK682.out 1).trans rfl; have hcz9_2 : w6.cell? ⟨gb682, 2, none⟩ = some (.string (⟨#[]⟩ : ByteArray)) := (blk_cell BK682.out 2).trans rfl; have hfz9_0 := blk_frozen BK682.out 0; have hfz9_1 := blk_frozen BK682.out 1; have hfz9_2 := blk_frozen BK682.out 2))
  (try simp only [Act.put, List.setIfInBounds_toArray, List.set_cons_zero, List.set_cons_succ])
  go_cut [7] (fun v7 wc => ∃ (kq : Nat) (x7_2 : Int), v7 = .int .u8 x7_2 ∧ Aside0 (sacristanref01_One.j0 kq a0 x7_2 a1_0 a1_1 a1_2 0 0 (⟨#[]⟩ : ByteArray) = some (r1, r2, r3, r4)) ∧ Aside0 (kq ≤ k) ∧ Aside0 (wc.heap[gb680]? = some (.cells #[.int .u8 a1_0, .int .i64 a1_1, .string a1_2] 26 (0, 0))) ∧ Aside0 (wc.heap[gb681]? = some (.cells #[.int .u8 0, .int .i64 0, .string (⟨#[]⟩ : ByteArray)] 26 (0, 0))) ∧ Aside0 (wc.heap[gb682]? = some (.cells #[.int .u8 0, .int .i64 0, .string (⟨#[]⟩ : ByteArray)] 26 (0, 0))) ∧ Aside0 (Below w.heap.size w wc))
  case first =>
    have H := HC3.out
    clear HC3
    by_cases c10 : a0.toList = ([110, 111, 116] : List UInt8)
    · rw [if_pos c10] at H
      have c10b0 : (a0.toList == ([110, 111, 116] : List UInt8)) = true := beq_iff_eq.mpr c10
      have c10b1 : (a0.toList != ([110, 111, 116] : List UInt8)) = false := bne_eq_false_iff_eq.mpr c10
      clear c10
      (first | rw [c10b0] | (simp only [i64_w, i32_w]; rw [c10b0]) | skip)
      have H' := Aside0.mk H
      clear H
      go_wp2
      go_meet
      case rel => exact ⟨_, (2), (by first | rfl | (simp; done) | (simp [*]; done)), H', ⟨by first | omega | exact Nat.le_refl _⟩, ⟨by (with_reducible repeat (first | refine blk_drewN ?_ _ | refine blk_drew ?_ | refine blk_alloc ?_ _)); refine blk_far ?_ NB680_682.out _; (with_reducible repeat (first | refine blk_drewN ?_ _ | refine blk_drew ?_ | refine blk_alloc ?_ _)); refine blk_far ?_ NB680_682.out _; (with_reducible repeat (first | refine blk_drewN ?_ _ | refine blk_drew ?_ | refine blk_alloc ?_ _)); refine blk_far ?_ NB680_682.out _; (with_reducible repeat (first | refine blk_drewN ?_ _ | refine blk_drew ?_ | refine blk_alloc ?_ _)); exact BK680.out⟩, ⟨by (with_reducible repeat (first | refine blk_drewN ?_ _ | refine blk_drew ?_ | refine blk_alloc ?_ _)); refine blk_far ?_ NB681_682.out _; (with_reducible repeat (first | refine blk_drewN ?_ _ | refine blk_drew ?_ | refine blk_alloc ?_ _)); refine blk_far ?_ NB681_682.out _; (with_reducible repeat (first | refine blk_drewN ?_ _ | refine blk_drew ?_ | refine blk_alloc ?_ _)); refine blk_far ?_ NB681_682.out _; (with_reducible repeat (first | refine blk_drewN ?_ _ | refine blk_drew ?_ | refine blk_alloc ?_ _)); exact BK681.out⟩, ⟨by (with_reducible repeat (first | refine blk_drewN ?_ _ | refine blk_drew ?_ | refine blk_alloc ?_ _)); refine blk_put (cs := #[.int .u8 0, .int .i64 0, .string (⟨#[]⟩ : ByteArray)]) ?_ 2 _ rfl; (with_reducible repeat (first | refine blk_drewN ?_ _ | refine blk_drew ?_ | refine blk_alloc ?_ _)); refine blk_put (cs := #[.int .u8 0, .int .i64 0, .string (⟨#[]⟩ : ByteArray)]) ?_ 1 _ rfl; (with_reducible repeat (first | refine blk_drewN ?_ _ | refine blk_drew ?_ | refine blk_alloc ?_ _)); refine blk_put (cs := #[.int .u8 0, .int .i64 0, .string (⟨#[]⟩ : ByteArray)]) ?_ 0 _ rfl; (with_reducible repeat (first | refine blk_drewN ?_ _ | refine blk_drew ?_ | refine blk_alloc ?_ _)); exact BK682.out⟩, ⟨by repeat (first | (with_reducible first | exact HB.out | apply below_alloc | apply pw_below_drewN | apply below_drew1 | refine below_set ?_ GE680.out | refine below_set ?_ GE681.out | refine below_set ?_ GE682.out) | exact HB.out)⟩⟩
    · rw [if_neg c10] at H
      have c10b0 : (a0.toList == ([110, 111, 116] : List UInt8)) = false := beq_eq_false_iff_ne.mpr c10
      have c10b1 : (a0.toList != ([110, 111, 116] : List UInt8)) = true := bne_iff_ne.mpr c10
      (first | rw [c10b0] | (simp only [i64_w, i32_w]; rw [c10b0]) | skip)
      have H' := Aside0.mk H
      clear H
      go_wp2
      go_meet
      case rel => exact ⟨_, (1), (by first | rfl | (simp; done) | (simp [*]; done)), H', ⟨by first | omega | exact Nat.le_refl _⟩, ⟨by (with_reducible repeat (first | refine blk_drewN ?_ _ | refine blk_drew ?_ | refine blk_alloc ?_ _)); refine blk_far ?_ NB680_682.out _; (with_reducible repeat (first | refine blk_drewN ?_ _ | refine blk_drew ?_ | refine blk_alloc ?_ _)); refine blk_far ?_ NB680_682.out _; (with_reducible repeat (first | refine blk_drewN ?_ _ | refine blk_drew ?_ | refine blk_alloc ?_ _)); refine blk_far ?_ NB680_682.out _; (with_reducible repeat (first | refine blk_drewN ?_ _ | refine blk_drew ?_ | refine blk_alloc ?_ _)); exact BK680.out⟩, ⟨by (with_reducible repeat (first | refine blk_drewN ?_ _ | refine blk_drew ?_ | refine blk_alloc ?_ _)); refine blk_far ?_ NB681_682.out _; (with_reducible repeat (first | refine blk_drewN ?_ _ | refine blk_drew ?_ | refine blk_alloc ?_ _)); refine blk_far ?_ NB681_682.out _; (with_reducible repeat (first | refine blk_drewN ?_ _ | refine blk_drew ?_ | refine blk_alloc ?_ _)); refine blk_far ?_ NB681_682.out _; (with_reducible repeat (first | refine blk_drewN ?_ _ | refine blk_drew ?_ | refine blk_alloc ?_ _)); exact BK681.out⟩, ⟨by (with_reducible repeat (first | refine blk_drewN ?_ _ | refine blk_drew ?_ | refine blk_alloc ?_ _)); refine blk_put (cs := #[.int .u8 0, .int .i64 0, .string (⟨#[]⟩ : ByteArray)]) ?_ 2 _ rfl; (with_reducible repeat (first | refine blk_drewN ?_ _ | refine blk_drew ?_ | refine blk_alloc ?_ _)); refine blk_put (cs := #[.int .u8 0, .int .i64 0, .string (⟨#[]⟩ : ByteArray)]) ?_ 1 _ rfl; (with_reducible repeat (first | refine blk_drewN ?_ _ | refine blk_drew ?_ | refine blk_alloc ?_ _)); refine blk_put (cs := #[.int .u8 0, .int .i64 0, .string (⟨#[]⟩ : ByteArray)]) ?_ 0 _ rfl; (with_reducible repeat (first | refine blk_drewN ?_ _ | refine blk_drew ?_ | refine blk_alloc ?_ _)); exact BK682.out⟩, ⟨by repeat (first | (with_reducible first | exact HB.out | apply below_alloc | apply pw_below_drewN | apply below_drew1 | refine below_set ?_ GE680.out | refine below_set ?_ GE681.out | refine below_set ?_ GE682.out) | exact HB.out)⟩⟩
  case rest =>
    clear HC3
    try clear c1
    try clear p2
    try clear c4
    try clear c7
    try clear c8
    try clear c10
    try clear c10b0
    try clear c10b1
    try clear hcz9_0
    try clear hcz9_1
    try clear hcz9_2
    try clear hfz9_0
    try clear hfz9_1
    try clear hfz9_2
    obtain ⟨kq, x7_2, rfl, HA, HJ2, BK680, BK681, BK682, HB⟩ := hcut
    cases kq with
    | zero => exact absurd HA.out (by simp [sacristanref01_One.j0])
    | succ kj2 =>
      have H := HA.out
      clear HA
      simp only [sacristanref01_One.j0] at H
      have HC11 := Aside0.mk H
      clear H
      go_upto_if 15 with (fail)
      go_cut [7] (fun v7 wc => ∃ (kq : Nat) (x7_10 : Int), v7 = .int .u8 x7_10 ∧ Aside0 (sacristanref01_One.j1 kq a0 x7_10 a1_0 a1_1 a1_2 0 0 (⟨#[]⟩ : ByteArray) = some (r1, r2, r3, r4)) ∧ Aside0 (kq ≤ kj2) ∧ Aside0 (wc.heap[gb680]? = some (.cells #[.int .u8 a1_0, .int .i64 a1_1, .string a1_2] 26 (0, 0))) ∧ Aside0 (wc.heap[gb681]? = some (.cells #[.int .u8 0, .int .i64 0, .string (⟨#[]⟩ : ByteArray)] 26 (0, 0))) ∧ Aside0 (wc.heap[gb682]? = some (.cells #[.int .u8 0, .int .i64 0, .string (⟨#[]⟩ : ByteArray)] 26 (0, 0))) ∧ Aside0 (Below w.heap.size w wc))
      case first =>
        have H := HC11.out
        clear HC11
        by_cases c12 : a0.toList = ([108, 101, 110] : List UInt8)
        · rw [if_pos c12] at H
          have c12b0 : (a0.toList == ([108, 101, 110] : List UInt8)) = true := beq_iff_eq.mpr c12
          have c12b1 : (a0.toList != ([108, 101, 110] : List UInt8)) = false := bne_eq_false_iff_eq.mpr c12
          clear c12
          (first | rw [c12b0] | (simp only [i64_w, i32_w]; rw [c12b0]) | skip)
          have H' := Aside0.mk H
          clear H
          go_wp2
          go_meet
          case rel => exact ⟨_, (3), (by first | rfl | (simp; done) | (simp [*]; done)), H', ⟨by have := HJ2.out; first | omega | exact Nat.le_refl _⟩, ⟨by (with_reducible repeat (first | refine blk_drewN ?_ _ | refine blk_drew ?_ | refine blk_alloc ?_ _)); exact BK680.out⟩, ⟨by (with_reducible repeat (first | refine blk_drewN ?_ _ | refine blk_drew ?_ | refine blk_alloc ?_ _)); exact BK681.out⟩, ⟨by (with_reducible repeat (first | refine blk_drewN ?_ _ | refine blk_drew ?_ | refine blk_alloc ?_ _)); exact BK682.out⟩, ⟨by repeat (first | (with_reducible first | exact HB.out | apply below_alloc | apply pw_below_drewN | apply below_drew1 | refine below_set ?_ GE680.out | refine below_set ?_ GE681.out | refine below_set ?_ GE682.out) | exact HB.out)⟩⟩
        · rw [if_neg c12] at H
          have c12b0 : (a0.toList == ([108, 101, 110] : List UInt8)) = false := beq_eq_false_iff_ne.mpr c12
          have c12b1 : (a0.toList != ([108, 101, 110] : List UInt8)) = true := bne_iff_ne.mpr c12
          (first | rw [c12b0] | (simp only [i64_w, i32_w]; rw [c12b0]) | skip)
          have H' := Aside0.mk H
          clear H
          go_wp2
          go_meet
          case rel => exact ⟨_, (x7_2), (by first | rfl | (simp; done) | (simp [*]; done)), H', ⟨by have := HJ2.out; first | omega | exact Nat.le_refl _⟩, ⟨by (with_reducible repeat (first | refine blk_drewN ?_ _ | refine blk_drew ?_ | refine blk_alloc ?_ _)); exact BK680.out⟩, ⟨by (with_reducible repeat (first | refine blk_drewN ?_ _ | refine blk_drew ?_ | refine blk_alloc ?_ _)); exact BK681.out⟩, ⟨by (with_reducible repeat (first | refine blk_drewN ?_ _ | refine blk_drew ?_ | refine blk_alloc ?_ _)); exact BK682.out⟩, ⟨by repeat (first | (with_reducible first | exact HB.out | apply below_alloc | apply pw_below_drewN | apply below_drew1 | refine below_set ?_ GE680.out | refine below_set ?_ GE681.out | refine below_set ?_ GE682.out) | exact HB.out)⟩⟩
      case rest =>
        clear HC11
        try clear c1
        try clear p2
        try clear c4
        try clear c7
        try clear c8
        try clear c10
        try clear c10b0
        try clear c10b1
        try clear c12
        try clear c12b0
        try clear c12b1
        try clear hcz9_0
        try clear hcz9_1
        try clear hcz9_2
        try clear hfz9_0
        try clear hfz9_1
        try clear hfz9_2
        try clear p2
        obtain ⟨kq, x7_10, rfl, HA, HJ10, BK680, BK681, BK682, HB⟩ := hcut
        cases kq with
        | zero => exact absurd HA.out (by simp [sacristanref01_One.j1])
        | succ kj10 =>
          have H := HA.out
          clear HA
          simp only [sacristanref01_One.j1] at H
          obtain ⟨y683, hy683⟩ : ∃ y_ : List ByteArray, y_ = (([(⟨#[110, 101, 103]⟩ : ByteArray), (⟨#[110, 111, 116]⟩ : ByteArray), (⟨#[108, 101, 110]⟩ : ByteArray), (⟨#[105, 56]⟩ : ByteArray), (⟨#[105, 49, 54]⟩ : ByteArray), (⟨#[105, 51, 50]⟩ : ByteArray), (⟨#[117, 56]⟩ : ByteArray), (⟨#[117, 49, 54]⟩ : ByteArray), (⟨#[117, 51, 50]⟩ : ByteArray)] : List ByteArray)) := ⟨_, rfl⟩
          replace H : (sacristanref01_One.l0 kj10 a0 x7_10 false y683 (y683.length : Int) 0 a1_0 a1_1 a1_2 0 0 (⟨#[]⟩ : ByteArray)) = some (r1, r2, r3, r4) := by first | (rw [hy683]; with_reducible exact H) | (have H2_ := (Option.bind_some _ _).symm.trans H; rw [hy683]; with_reducible exact H2_) | (have H2_ := (Option.bind_some _ _).symm.trans H; with_reducible exact H2_) | with_reducible exact H | (rw [hy683]; exact H) | exact H
          have Ny683 := Aside0.mk hy683
          clear hy683
          have H' := Aside0.mk H
          clear H
          go_wp2_with (first | ((with_reducible refine gate_dst (N := 16) rfl ?_); refine Kd.R_lit Kd.string _ 9 ?hg (N := 16) ?hd (xs := ([(⟨#[110, 101, 103]⟩ : ByteArray), (⟨#[110, 111, 116]⟩ : ByteArray), (⟨#[108, 101, 110]⟩ : ByteArray), (⟨#[105, 56]⟩ : ByteArray), (⟨#[105, 49, 54]⟩ : ByteArray), (⟨#[105, 51, 50]⟩ : ByteArray), (⟨#[117, 56]⟩ : ByteArray), (⟨#[117, 49, 54]⟩ : ByteArray), (⟨#[117, 51, 50]⟩ : ByteArray)] : List ByteArray)) (inner := [.string (⟨#[110, 101, 103]⟩ : ByteArray), .string (⟨#[110, 111, 116]⟩ : ByteArray), .string (⟨#[108, 101, 110]⟩ : ByteArray), .string (⟨#[105, 56]⟩ : ByteArray), .string (⟨#[105, 49, 54]⟩ : ByteArray), .string (⟨#[105, 51, 50]⟩ : ByteArray), .string (⟨#[117, 56]⟩ : ByteArray), .string (⟨#[117, 49, 54]⟩ : ByteArray), .string (⟨#[117, 51, 50]⟩ : ByteArray)]) (ok := fun _ => True) (okp := fun _ => True) ?hr ?hp (fun _ hk => hk) trivial (Below.refl _ _) (Nat.le_refl _) (by simp) ?_; (case hd => rfl); (case hg => rfl); (case hr => first | (go_simp; done) | (go_simp; rfl)); (case hp => exact (Reps.one (show Kd.M Kd.string _ _ _ (⟨#[110, 101, 103]⟩ : ByteArray) [.string (⟨#[110, 101, 103]⟩ : ByteArray)] from rfl) (Reps.one (show Kd.M Kd.string _ _ _ (⟨#[110, 111, 116]⟩ : ByteArray) [.string (⟨#[110, 111, 116]⟩ : ByteArray)] from rfl) (Reps.one (show Kd.M Kd.string _ _ _ (⟨#[108, 101, 110]⟩ : ByteArray) [.string (⟨#[108, 101, 110]⟩ : ByteArray)] from rfl) (Reps.one (show Kd.M Kd.string _ _ _ (⟨#[105, 56]⟩ : ByteArray) [.string (⟨#[105, 56]⟩ : ByteArray)] from rfl) (Reps.one (show Kd.M Kd.string _ _ _ (⟨#[105, 49, 54]⟩ : ByteArray) [.string (⟨#[105, 49, 54]⟩ : ByteArray)] from rfl) (Reps.one (show Kd.M Kd.string _ _ _ (⟨#[105, 51, 50]⟩ : ByteArray) [.string (⟨#[105, 51, 50]⟩ : ByteArray)] from rfl) (Reps.one (show Kd.M Kd.string _ _ _ (⟨#[117, 56]⟩ : ByteArray) [.string (⟨#[117, 56]⟩ : ByteArray)] from rfl) (Reps.one (show Kd.M Kd.string _ _ _ (⟨#[117, 49, 54]⟩ : ByteArray) [.string (⟨#[117, 49, 54]⟩ : ByteArray)] from rfl) (Reps.one (show Kd.M Kd.string _ _ _ (⟨#[117, 51, 50]⟩ : ByteArray) [.string (⟨#[117, 51, 50]⟩ : ByteArray)] from rfl) (Reps.none _ _))))))))))); intro v684 w13 ho14 hb hg_ hnew_; clear hg_ hnew_; (first | rw [← Ny683.out] at ho14 | (simp only [Int.reduceToNat] at ho14; rw [← Ny683.out] at ho14)); have n0_ := Aside0.mk (Kd.R_lower ho14 (below_size (by repeat (first | (with_reducible first | exact HB.out | apply below_alloc | apply pw_below_drewN | apply below_drew1 | refine below_set ?_ GE680.out | refine below_set ?_ GE681.out | refine below_set ?_ GE682.out) | exact HB.out)))); have n1_ := Aside0.mk (blk_below (g := gb680) (o := .cells #[.int .u8 a1_0, .int .i64 a1_1, .string a1_2] 26 (0, 0)) (by (with_reducible repeat (first | refine blk_drewN ?_ _ | refine blk_drew ?_ | refine blk_alloc ?_ _)); exact BK680.out) hb); have n2_ := Aside0.mk (blk_below (g := gb681) (o := .cells #[.int .u8 0, .int .i64 0, .string (⟨#[]⟩ : ByteArray)] 26 (0, 0)) (by (with_reducible repeat (first | refine blk_drewN ?_ _ | refine blk_drew ?_ | refine blk_alloc ?_ _)); exact BK681.out) hb); have n3_ := Aside0.mk (blk_below (g := gb682) (o := .cells #[.int .u8 0, .int .i64 0, .string (⟨#[]⟩ : ByteArray)] 26 (0, 0)) (by (with_reducible repeat (first | refine blk_drewN ?_ _ | refine blk_drew ?_ | refine blk_alloc ?_ _)); exact BK682.out) hb); have n4_ := Aside0.mk (below_step (by repeat (first | (with_reducible first | exact HB.out | apply below_alloc | apply pw_below_drewN | apply below_drew1 | refine below_set ?_ GE680.out | refine below_set ?_ GE681.out | refine below_set ?_ GE682.out) | exact HB.out)) hb); clear BK680; clear BK681; clear BK682; clear HB; have HO685 := n0_; have BK680 := n1_; have BK681 := n2_; have BK682 := n3_; have HB := n4_; clear n0_ n1_ n2_ n3_ n4_; clear hb ho14; obtain ⟨Ao15, co15, eo15⟩ := Kd.R_slice HO685.out; subst eo15))
          go_loopg [8, 19] kj10 (fun kq v8 v19 w' => ∃ (x8_3 : Bool) (x19_3 : Int), v8 = .bool x8_3 ∧ v19 = .int .i64 x19_3 ∧ Aside0 (sacristanref01_One.l0 kq a0 x7_10 x8_3 y683 (y683.length : Int) x19_3 a1_0 a1_1 a1_2 0 0 (⟨#[]⟩ : ByteArray) = some (r1, r2, r3, r4)) ∧ Aside0 (kq ≤ kj10) ∧ Aside0 (Kd.R Kd.string 9 w' w.heap.size (fun _ => True) (.slice Ao15 y683.length co15) y683) ∧ Aside0 (w'.heap[gb680]? = some (.cells #[.int .u8 a1_0, .int .i64 a1_1, .string a1_2] 26 (0, 0))) ∧ Aside0 (w'.heap[gb681]? = some (.cells #[.int .u8 0, .int .i64 0, .string (⟨#[]⟩ : ByteArray)] 26 (0, 0))) ∧ Aside0 (w'.heap[gb682]? = some (.cells #[.int .u8 0, .int .i64 0, .string (⟨#[]⟩ : ByteArray)] 26 (0, 0))) ∧ Aside0 (Below w.heap.size w w'))
          case atStart => exact ⟨(false), (0), (by first | rfl | (simp; done) | (simp [*]; done)), (by first | rfl | (simp; done) | (simp [*]; done)), H', ⟨Nat.le_refl _⟩, ⟨by (with_reducible repeat (first | apply Kd.R_alloc | apply Kd.R_drewN | apply Kd.R_drew)); exact HO685.out⟩, ⟨by (with_reducible repeat (first | refine blk_drewN ?_ _ | refine blk_drew ?_ | refine blk_alloc ?_ _)); exact BK680.out⟩, ⟨by (with_reducible repeat (first | refine blk_drewN ?_ _ | refine blk_drew ?_ | refine blk_alloc ?_ _)); exact BK681.out⟩, ⟨by (with_reducible repeat (first | refine blk_drewN ?_ _ | refine blk_drew ?_ | refine blk_alloc ?_ _)); exact BK682.out⟩, ⟨by repeat (first | (with_reducible first | exact HB.out | apply below_alloc | apply pw_below_drewN | apply below_drew1 | refine below_set ?_ GE680.out | refine below_set ?_ GE681.out | refine below_set ?_ GE682.out) | exact HB.out)⟩⟩
          case round =>
            clear H'
            try clear c1
            try clear p2
            try clear c4
            try clear c7
            try clear c8
            try clear c10
            try clear c10b0
            try clear c10b1
            try clear c12
            try clear c12b0
            try clear c12b1
            try clear hcz9_0
            try clear hcz9_1
            try clear hcz9_2
            try clear hfz9_0
            try clear hfz9_1
            try clear hfz9_2
            try clear p2
            obtain ⟨x8_3, x19_3, rfl, rfl, HA, HK3, HO_9, BK680, BK681, BK682, HB⟩ := hrel
            cases gk with
            | zero => exact absurd HA.out (by simp [sacristanref01_One.l0])
            | succ k3 =>
              have H := HA.out
              clear HA
              simp only [sacristanref01_One.l0] at H
              by_cases c16 : x19_3 < (y683.length : Int)
              · rw [if_pos c16] at H
                have c16b0 : decide (x19_3 < (y683.length : Int)) = true := decide_eq_true c16
                clear c16
                by_cases c17 : x8_3 = true
                · subst c17
                  have H1 : (sacristanref01_One.l0 k3 a0 x7_10 true y683 (y683.length : Int) (wrap64 (x19_3 + 1)) a1_0 a1_1 a1_2 0 0 (⟨#[]⟩ : ByteArray)) = some (r1, r2, r3, r4) := by rw [if_pos rfl] at H; exact H
                  clear H
                  have H := H1
                  clear H1
                  have H' := Aside0.mk H
                  clear H
                  go_wp2
                  go_roundg k3
                  case measure => have := HJ2.out; have := HJ10.out; have := HK3.out; omega
                  case rel => exact ⟨(true), (wrap64 (x19_3 + 1)), (by first | rfl | (simp; done) | (simp [*]; done)), (by first | rfl | (simp; done) | (simp [*]; done)), H', ⟨by have := HJ2.out; have := HJ10.out; have := HK3.out; omega⟩, ⟨by (with_reducible repeat (first | apply Kd.R_alloc | apply Kd.R_drewN | apply Kd.R_drew)); exact HO_9.out⟩, ⟨by (with_reducible repeat (first | refine blk_drewN ?_ _ | refine blk_drew ?_ | refine blk_alloc ?_ _)); exact BK680.out⟩, ⟨by (with_reducible repeat (first | refine blk_drewN ?_ _ | refine blk_drew ?_ | refine blk_alloc ?_ _)); exact BK681.out⟩, ⟨by (with_reducible repeat (first | refine blk_drewN ?_ _ | refine blk_drew ?_ | refine blk_alloc ?_ _)); exact BK682.out⟩, ⟨by repeat (first | (with_reducible first | exact HB.out | apply below_alloc | apply pw_below_drewN | apply below_drew1 | refine below_set ?_ GE680.out | refine below_set ?_ GE681.out | refine below_set ?_ GE682.out) | exact HB.out)⟩⟩
                · replace c17 := Bool.eq_false_iff.mpr c17
                  subst c17
                  have H1 : (if 0 ≤ x19_3 then (if x19_3 < (y683.length : Int) then (sacristanref01_One.l0 k3 a0 x7_10 ((rdOf ByteArray.empty y683 x19_3).toList == a0.toList) y683 (y683.length : Int) (wrap64 (x19_3 + 1)) a1_0 a1_1 a1_2 0 0 (⟨#[]⟩ : ByteArray)) else (none)) else (none)) = some (r1, r2, r3, r4) := by rw [if_neg (show ¬ (false = true) by decide)] at H; exact H
                  clear H
                  have H := H1
                  clear H1
                  by_cases c18 : 0 ≤ x19_3
                  · rw [if_pos c18] at H
                    have c18b0 : decide (0 ≤ x19_3) = true := decide_eq_true c18
                    clear c18
                    by_cases c19 : x19_3 < (y683.length : Int)
                    · rw [if_pos c19] at H
                      have c19b0 : decide (x19_3 < (y683.length : Int)) = true := decide_eq_true c19
                      clear c19
                      have H' := Aside0.mk H
                      clear H
                      have p686 : 0 ≤ (x19_3 : Int) := of_decide_eq_true (by first | (with_reducible assumption) | assumption)
                      have q686 : x19_3 < (y683.length : Int) := of_decide_eq_true (by first | (with_reducible assumption) | assumption)
                      obtain ⟨ad686, e686, hx686_0⟩ := Kd.at_string (Kd.R_reads' HO_9.out).2.2 x19_3 p686 q686
                      cases e686
                      replace p686 := eq_true p686
                      replace q686 := eq_true q686
                      go_wp2
                      go_roundg k3
                      case measure => have := HJ2.out; have := HJ10.out; have := HK3.out; omega
                      case rel => exact ⟨(((rdOf ByteArray.empty y683 x19_3).toList == a0.toList)), (wrap64 (x19_3 + 1)), (by first | rfl | (simp; done) | (simp [*]; done)), (by first | rfl | (simp; done) | (simp [*]; done)), H', ⟨by have := HJ2.out; have := HJ10.out; have := HK3.out; omega⟩, ⟨by (with_reducible repeat (first | apply Kd.R_alloc | apply Kd.R_drewN | apply Kd.R_drew)); exact HO_9.out⟩, ⟨by (with_reducible repeat (first | refine blk_drewN ?_ _ | refine blk_drew ?_ | refine blk_alloc ?_ _)); exact BK680.out⟩, ⟨by (with_reducible repeat (first | refine blk_drewN ?_ _ | refine blk_drew ?_ | refine blk_alloc ?_ _)); exact BK681.out⟩, ⟨by (with_reducible repeat (first | refine blk_drewN ?_ _ | refine blk_drew ?_ | refine blk_alloc ?_ _)); exact BK682.out⟩, ⟨by repeat (first | (with_reducible first | exact HB.out | apply below_alloc | apply pw_below_drewN | apply below_drew1 | refine below_set ?_ GE680.out | refine below_set ?_ GE681.out | refine below_set ?_ GE682.out) | exact HB.out)⟩⟩
                    · rw [if_neg c19] at H
                      exact absurd H (by simp)
                  · rw [if_neg c18] at H
                    exact absurd H (by simp)
              · rw [if_neg c16] at H
                have c16b0 : decide (x19_3 < (y683.length : Int)) = false := decide_eq_false c16
                clear c16
                by_cases c20 : x8_3 = true
                · subst c20
                  have H1 : (if a1_0 = x7_10 then (if a0.toList = ([110, 101, 103] : List UInt8) then (if a1_1 = (-9223372036854775808) then (some (0, 0, (⟨#[]⟩ : ByteArray), 3)) else ((sacristanref01_Int.f (wrap64 (-a1_1))).bind fun bt687 => (some (bt687.1, bt687.2.1, bt687.2.2, 0)))) else (if a0.toList = ([110, 111, 116] : List UInt8) then ((sacristanref01_Bool.f (a1_1 == 0)).bind fun bt690 => (some (bt690.1, bt690.2.1, bt690.2.2, 0))) else (if a0.toList = ([108, 101, 110] : List UInt8) then ((sacristanref01_Int.f (a1_2.size : Int)).bind fun bt693 => (some (bt693.1, bt693.2.1, bt693.2.2, 0))) else (if a0.toList = ([105, 56] : List UInt8) then ((sacristanref01_signed.f a1_1 256).bind fun t696 => ((sacristanref01_Int.f t696).bind fun bt697 => (some (bt697.1, bt697.2.1, bt697.2.2, 0)))) else (if a0.toList = ([105, 49, 54] : List UInt8) then ((sacristanref01_signed.f a1_1 65536).bind fun t700 => ((sacristanref01_Int.f t700).bind fun bt701 => (some (bt701.1, bt701.2.1, bt701.2.2, 0)))) else (if a0.toList = ([105, 51, 50] : List UInt8) then ((sacristanref01_signed.f a1_1 4294967296).bind fun t704 => ((sacristanref01_Int.f t704).bind fun bt705 => (some (bt705.1, bt705.2.1, bt705.2.2, 0)))) else (if a0.toList = ([117, 56] : List UInt8) then ((sacristanref01_low.f a1_1 256).bind fun t708 => ((sacristanref01_Int.f t708).bind fun bt709 => (some (bt709.1, bt709.2.1, bt709.2.2, 0)))) else (if a0.toList = ([117, 49, 54] : List UInt8) then ((sacristanref01_low.f a1_1 65536).bind fun t712 => ((sacristanref01_Int.f t712).bind fun bt713 => (some (bt713.1, bt713.2.1, bt713.2.2, 0)))) else ((sacristanref01_low.f a1_1 4294967296).bind fun t716 => ((sacristanref01_Int.f t716).bind fun bt717 => (some (bt717.1, bt717.2.1, bt717.2.2, 0)))))))))))) else (some (0, 0, (⟨#[]⟩ : ByteArray), 2))) = some (r1, r2, r3, r4) := by rw [if_pos rfl] at H; exact H
                  clear H
                  have H := H1
                  clear H1
                  by_cases c21 : a1_0 = x7_10
                  · rw [if_pos c21] at H
                    have c21b0 : (a1_0 == x7_10) = true := beq_iff_eq.mpr c21
                    have c21b1 : (a1_0 != x7_10) = false := bne_eq_false_iff_eq.mpr c21
                    clear c21
                    by_cases c22 : a0.toList = ([110, 101, 103] : List UInt8)
                    · rw [if_pos c22] at H
                      have c22b0 : (a0.toList == ([110, 101, 103] : List UInt8)) = true := beq_iff_eq.mpr c22
                      have c22b1 : (a0.toList != ([110, 101, 103] : List UInt8)) = false := bne_eq_false_iff_eq.mpr c22
                      clear c22
                      by_cases c23 : a1_1 = (-9223372036854775808)
                      · rw [if_pos c23] at H
                        have c23b0 : (a1_1 == (-9223372036854775808)) = true := beq_iff_eq.mpr c23
                        have c23b1 : (a1_1 != (-9223372036854775808)) = false := bne_eq_false_iff_eq.mpr c23
                        clear c23
                        simp only [Option.some.injEq, Prod.mk.injEq] at H
                        obtain ⟨rfl, rfl, rfl, rfl⟩ := H
                        have hnb24 := NB680_681.out
                        have hnc24 := NB681_680.out
                        have hnb25 := NB680_682.out
                        have hnc25 := NB682_680.out
                        have hcz26_0 : wr.cell? ⟨gb680, 0, none⟩ = some (.int .u8 a1_0) := (blk_cell BK680.out 0).trans rfl
                        have hcz26_1 : wr.cell? ⟨gb680, 1, none⟩ = some (.int .i64 a1_1) := (blk_cell BK680.out 1).trans rfl
                        have hcz26_2 : wr.cell? ⟨gb680, 2, none⟩ = some (.string a1_2) := (blk_cell BK680.out 2).trans rfl
                        have hfz26_0 := blk_frozen BK680.out 0
                        have hfz26_1 := blk_frozen BK680.out 1
                        have hfz26_2 := blk_frozen BK680.out 2
                        have hnb27 := NB682_681.out
                        have hnc27 := NB681_682.out
                        have hcz28_0 : wr.cell? ⟨gb682, 0, none⟩ = some (.int .u8 0) := (blk_cell BK682.out 0).trans rfl
                        have hcz28_1 : wr.cell? ⟨gb682, 1, none⟩ = some (.int .i64 0) := (blk_cell BK682.out 1).trans rfl
                        have hcz28_2 : wr.cell? ⟨gb682, 2, none⟩ = some (.string (⟨#[]⟩ : ByteArray)) := (blk_cell BK682.out 2).trans rfl
                        have hfz28_0 := blk_frozen BK682.out 0
                        have hfz28_1 := blk_frozen BK682.out 1
                        have hfz28_2 := blk_frozen BK682.out 2
                        have hcz29_0 : wr.cell? ⟨gb681, 0, none⟩ = some (.int .u8 0) := (blk_cell BK681.out 0).trans rfl
                        have hcz29_1 : wr.cell? ⟨gb681, 1, none⟩ = some (.int .i64 0) := (blk_cell BK681.out 1).trans rfl
                        have hcz29_2 : wr.cell? ⟨gb681, 2, none⟩ = some (.string (⟨#[]⟩ : ByteArray)) := (blk_cell BK681.out 2).trans rfl
                        have hfz29_0 := blk_frozen BK681.out 0
                        have hfz29_1 := blk_frozen BK681.out 1
                        have hfz29_2 := blk_frozen BK681.out 2
                        go_wp2
                        refine bodyPost_ret (results_ct rfl _ _ gb681 26 #[.int .u8 0, .int .i64 0, .string (⟨#[]⟩ : ByteArray)] (0, 0) _ rfl (by (with_reducible repeat (first | refine blk_drewN ?_ _ | refine blk_drew ?_ | refine blk_alloc ?_ _)); refine blk_put (cs := #[.int .u8 0, .int .i64 0, .string (⟨#[]⟩ : ByteArray)]) ?_ 2 _ rfl; (with_reducible repeat (first | refine blk_drewN ?_ _ | refine blk_drew ?_ | refine blk_alloc ?_ _)); refine blk_put (cs := #[.int .u8 0, .int .i64 0, .string (⟨#[]⟩ : ByteArray)]) ?_ 1 _ rfl; (with_reducible repeat (first | refine blk_drewN ?_ _ | refine blk_drew ?_ | refine blk_alloc ?_ _)); refine blk_put (cs := #[.int .u8 0, .int .i64 0, .string (⟨#[]⟩ : ByteArray)]) ?_ 0 _ rfl; (with_reducible repeat (first | refine blk_drewN ?_ _ | refine blk_drew ?_ | refine blk_alloc ?_ _)); exact BK681.out) Try.underlying26 rfl (by kernel_rfl)) rfl ?_
                        exact ⟨by first | rfl | (simp [errW_none, errW_some] <;> rfl) | (simp [*, errW_none, errW_some] <;> rfl), by repeat (first | (with_reducible first | exact HB.out | apply below_alloc | apply pw_below_drewN | apply below_drew1 | refine below_set ?_ GE680.out | refine below_set ?_ GE681.out | refine below_set ?_ GE682.out) | exact HB.out)⟩
                      · rw [if_neg c23] at H
                        have c23b0 : (a1_1 == (-9223372036854775808)) = false := beq_eq_false_iff_ne.mpr c23
                        have c23b1 : (a1_1 != (-9223372036854775808)) = true := bne_iff_ne.mpr c23
                        replace H := Option.bind_eq_some_iff.mp H
                        obtain ⟨⟨t687, t688, t689⟩, A300, H⟩ := H
                        replace H : (some (t687, t688, t689, 0)) = some (r1, r2, r3, r4) := H
                        have A30 := Aside0.mk A300
                        clear A300
                        simp only [Option.some.injEq, Prod.mk.injEq] at H
                        obtain ⟨rfl, rfl, rfl, rfl⟩ := H
                        have hnb31 := NB680_681.out
                        have hnc31 := NB681_680.out
                        have hnb32 := NB680_682.out
                        have hnc32 := NB682_680.out
                        have hcz33_0 : wr.cell? ⟨gb680, 0, none⟩ = some (.int .u8 a1_0) := (blk_cell BK680.out 0).trans rfl
                        have hcz33_1 : wr.cell? ⟨gb680, 1, none⟩ = some (.int .i64 a1_1) := (blk_cell BK680.out 1).trans rfl
                        have hcz33_2 : wr.cell? ⟨gb680, 2, none⟩ = some (.string a1_2) := (blk_cell BK680.out 2).trans rfl
                        have hfz33_0 := blk_frozen BK680.out 0
                        have hfz33_1 := blk_frozen BK680.out 1
                        have hfz33_2 := blk_frozen BK680.out 2
                        go_wp2_with (first | ((with_reducible refine gate_callee (f := 34) rfl ?_); refine goesL_ (some 50) rfl rfl Try.func34 (by kernel_rfl) rfl #[.int .i64 (wrap64 (-a1_1))] rfl (by (try simp only [List.map_toArray, List.map_cons, List.map_nil]); first | done | rfl | (simp only [List.length_drop, List.length_take]; rfl)) ?_; (with_reducible refine (sacristanref01_Int.calls (wrap64 (-a1_1)) t687 t688 t689 _ A30.out).mono ?_); rintro e w34 ⟨rfl, hb⟩; refine ⟨_, rfl, ?_⟩; have n0_ := Aside0.mk (Kd.R_below (by (with_reducible repeat (first | apply Kd.R_alloc | apply Kd.R_drewN | apply Kd.R_drew)); exact HO_9.out) hb); have n1_ := Aside0.mk (blk_below (g := gb680) (o := .cells #[.int .u8 a1_0, .int .i64 a1_1, .string a1_2] 26 (0, 0)) (by (with_reducible repeat (first | refine blk_drewN ?_ _ | refine blk_drew ?_ | refine blk_alloc ?_ _)); exact BK680.out) hb); have n2_ := Aside0.mk (blk_below (g := gb681) (o := .cells #[.int .u8 0, .int .i64 0, .string (⟨#[]⟩ : ByteArray)] 26 (0, 0)) (by (with_reducible repeat (first | refine blk_drewN ?_ _ | refine blk_drew ?_ | refine blk_alloc ?_ _)); exact BK681.out) hb); have n3_ := Aside0.mk (blk_below (g := gb682) (o := .cells #[.int .u8 0, .int .i64 0, .string (⟨#[]⟩ : ByteArray)] 26 (0, 0)) (by (with_reducible repeat (first | refine blk_drewN ?_ _ | refine blk_drew ?_ | refine blk_alloc ?_ _)); exact BK682.out) hb); have n4_ := Aside0.mk (below_step (by repeat (first | (with_reducible first | exact HB.out | apply below_alloc | apply pw_below_drewN | apply below_drew1 | refine below_set ?_ GE680.out | refine below_set ?_ GE681.out | refine below_set ?_ GE682.out) | exact HB.out)) hb); clear HO_9; clear BK680; clear BK681; clear BK682; clear HB; have HO_9 := n0_; have BK680 := n1_; have BK681 := n2_; have BK682 := n3_; have HB := n4_; clear n0_ n1_ n2_ n3_ n4_; (try clear hb); (try clear hb2); (try clear hk); (try clear hi); have hnb35 := NB681_682.out; have hnc35 := NB682_681.out; have hcz36_0 : w34.cell? ⟨gb681, 0, none⟩ = some (.int .u8 0) := (blk_cell BK681.out 0).trans rfl; have hcz36_1 : w34.cell? ⟨gb681, 1, none⟩ = some (.int .i64 0) := (blk_cell BK681.out 1).trans rfl; have hcz36_2 : w34.cell? ⟨gb681, 2, none⟩ = some (.string (⟨#[]⟩ : ByteArray)) := (blk_cell BK681.out 2).trans rfl; have hfz36_0 := blk_frozen BK681.out 0; have hfz36_1 := blk_frozen BK681.out 1; have hfz36_2 := blk_frozen BK681.out 2))
                        refine bodyPost_ret (results_ct rfl _ _ gb681 26 #[.int .u8 t687, .int .i64 t688, .string t689] (0, 0) _ rfl (by (with_reducible repeat (first | refine blk_drewN ?_ _ | refine blk_drew ?_ | refine blk_alloc ?_ _)); refine blk_put (cs := #[.int .u8 t687, .int .i64 t688, .string (⟨#[]⟩ : ByteArray)]) ?_ 2 _ rfl; (with_reducible repeat (first | refine blk_drewN ?_ _ | refine blk_drew ?_ | refine blk_alloc ?_ _)); refine blk_put (cs := #[.int .u8 t687, .int .i64 0, .string (⟨#[]⟩ : ByteArray)]) ?_ 1 _ rfl; (with_reducible repeat (first | refine blk_drewN ?_ _ | refine blk_drew ?_ | refine blk_alloc ?_ _)); refine blk_put (cs := #[.int .u8 0, .int .i64 0, .string (⟨#[]⟩ : ByteArray)]) ?_ 0 _ rfl; (with_reducible repeat (first | refine blk_drewN ?_ _ | refine blk_drew ?_ | refine blk_alloc ?_ _)); exact BK681.out) Try.underlying26 rfl (by kernel_rfl)) rfl ?_
                        exact ⟨by first | rfl | (simp [errW_none, errW_some] <;> rfl) | (simp [*, errW_none, errW_some] <;> rfl), by repeat (first | (with_reducible first | exact HB.out | apply below_alloc | apply pw_below_drewN | apply below_drew1 | refine below_set ?_ GE680.out | refine below_set ?_ GE681.out | refine below_set ?_ GE682.out) | exact HB.out)⟩
                    · rw [if_neg c22] at H
                      have c22b0 : (a0.toList == ([110, 101, 103] : List UInt8)) = false := beq_eq_false_iff_ne.mpr c22
                      have c22b1 : (a0.toList != ([110, 101, 103] : List UInt8)) = true := bne_iff_ne.mpr c22
                      by_cases c37 : a0.toList = ([110, 111, 116] : List UInt8)
                      · rw [if_pos c37] at H
                        have c37b0 : (a0.toList == ([110, 111, 116] : List UInt8)) = true := beq_iff_eq.mpr c37
                        have c37b1 : (a0.toList != ([110, 111, 116] : List UInt8)) = false := bne_eq_false_iff_eq.mpr c37
                        clear c37
                        replace H := Option.bind_eq_some_iff.mp H
                        obtain ⟨⟨t690, t691, t692⟩, A380, H⟩ := H
                        replace H : (some (t690, t691, t692, 0)) = some (r1, r2, r3, r4) := H
                        have A38 := Aside0.mk A380
                        clear A380
                        simp only [Option.some.injEq, Prod.mk.injEq] at H
                        obtain ⟨rfl, rfl, rfl, rfl⟩ := H
                        have hnb39 := NB680_681.out
                        have hnc39 := NB681_680.out
                        have hnb40 := NB680_682.out
                        have hnc40 := NB682_680.out
                        have hcz41_0 : wr.cell? ⟨gb680, 0, none⟩ = some (.int .u8 a1_0) := (blk_cell BK680.out 0).trans rfl
                        have hcz41_1 : wr.cell? ⟨gb680, 1, none⟩ = some (.int .i64 a1_1) := (blk_cell BK680.out 1).trans rfl
                        have hcz41_2 : wr.cell? ⟨gb680, 2, none⟩ = some (.string a1_2) := (blk_cell BK680.out 2).trans rfl
                        have hfz41_0 := blk_frozen BK680.out 0
                        have hfz41_1 := blk_frozen BK680.out 1
                        have hfz41_2 := blk_frozen BK680.out 2
                        go_wp2_with (first | ((with_reducible refine gate_callee (f := 37) rfl ?_); refine goesL_ (some 56) rfl rfl Try.func37 (by kernel_rfl) rfl #[.bool (a1_1 == 0)] rfl (by (try simp only [List.map_toArray, List.map_cons, List.map_nil]); first | done | rfl | (simp only [List.length_drop, List.length_take]; rfl)) ?_; (with_reducible refine (sacristanref01_Bool.calls (a1_1 == 0) t690 t691 t692 _ A38.out).mono ?_); rintro e w42 ⟨rfl, hb⟩; refine ⟨_, rfl, ?_⟩; have n0_ := Aside0.mk (Kd.R_below (by (with_reducible repeat (first | apply Kd.R_alloc | apply Kd.R_drewN | apply Kd.R_drew)); exact HO_9.out) hb); have n1_ := Aside0.mk (blk_below (g := gb680) (o := .cells #[.int .u8 a1_0, .int .i64 a1_1, .string a1_2] 26 (0, 0)) (by (with_reducible repeat (first | refine blk_drewN ?_ _ | refine blk_drew ?_ | refine blk_alloc ?_ _)); exact BK680.out) hb); have n2_ := Aside0.mk (blk_below (g := gb681) (o := .cells #[.int .u8 0, .int .i64 0, .string (⟨#[]⟩ : ByteArray)] 26 (0, 0)) (by (with_reducible repeat (first | refine blk_drewN ?_ _ | refine blk_drew ?_ | refine blk_alloc ?_ _)); exact BK681.out) hb); have n3_ := Aside0.mk (blk_below (g := gb682) (o := .cells #[.int .u8 0, .int .i64 0, .string (⟨#[]⟩ : ByteArray)] 26 (0, 0)) (by (with_reducible repeat (first | refine blk_drewN ?_ _ | refine blk_drew ?_ | refine blk_alloc ?_ _)); exact BK682.out) hb); have n4_ := Aside0.mk (below_step (by repeat (first | (with_reducible first | exact HB.out | apply below_alloc | apply pw_below_drewN | apply below_drew1 | refine below_set ?_ GE680.out | refine below_set ?_ GE681.out | refine below_set ?_ GE682.out) | exact HB.out)) hb); clear HO_9; clear BK680; clear BK681; clear BK682; clear HB; have HO_9 := n0_; have BK680 := n1_; have BK681 := n2_; have BK682 := n3_; have HB := n4_; clear n0_ n1_ n2_ n3_ n4_; (try clear hb); (try clear hb2); (try clear hk); (try clear hi); have hnb43 := NB681_682.out; have hnc43 := NB682_681.out; have hcz44_0 : w42.cell? ⟨gb681, 0, none⟩ = some (.int .u8 0) := (blk_cell BK681.out 0).trans rfl; have hcz44_1 : w42.cell? ⟨gb681, 1, none⟩ = some (.int .i64 0) := (blk_cell BK681.out 1).trans rfl; have hcz44_2 : w42.cell? ⟨gb681, 2, none⟩ = some (.string (⟨#[]⟩ : ByteArray)) := (blk_cell BK681.out 2).trans rfl; have hfz44_0 := blk_frozen BK681.out 0; have hfz44_1 := blk_frozen BK681.out 1; have hfz44_2 := blk_frozen BK681.out 2))
                        refine bodyPost_ret (results_ct rfl _ _ gb681 26 #[.int .u8 t690, .int .i64 t691, .string t692] (0, 0) _ rfl (by (with_reducible repeat (first | refine blk_drewN ?_ _ | refine blk_drew ?_ | refine blk_alloc ?_ _)); refine blk_put (cs := #[.int .u8 t690, .int .i64 t691, .string (⟨#[]⟩ : ByteArray)]) ?_ 2 _ rfl; (with_reducible repeat (first | refine blk_drewN ?_ _ | refine blk_drew ?_ | refine blk_alloc ?_ _)); refine blk_put (cs := #[.int .u8 t690, .int .i64 0, .string (⟨#[]⟩ : ByteArray)]) ?_ 1 _ rfl; (with_reducible repeat (first | refine blk_drewN ?_ _ | refine blk_drew ?_ | refine blk_alloc ?_ _)); refine blk_put (cs := #[.int .u8 0, .int .i64 0, .string (⟨#[]⟩ : ByteArray)]) ?_ 0 _ rfl; (with_reducible repeat (first | refine blk_drewN ?_ _ | refine blk_drew ?_ | refine blk_alloc ?_ _)); exact BK681.out) Try.underlying26 rfl (by kernel_rfl)) rfl ?_
                        exact ⟨by first | rfl | (simp [errW_none, errW_some] <;> rfl) | (simp [*, errW_none, errW_some] <;> rfl), by repeat (first | (with_reducible first | exact HB.out | apply below_alloc | apply pw_below_drewN | apply below_drew1 | refine below_set ?_ GE680.out | refine below_set ?_ GE681.out | refine below_set ?_ GE682.out) | exact HB.out)⟩
                      · rw [if_neg c37] at H
                        have c37b0 : (a0.toList == ([110, 111, 116] : List UInt8)) = false := beq_eq_false_iff_ne.mpr c37
                        have c37b1 : (a0.toList != ([110, 111, 116] : List UInt8)) = true := bne_iff_ne.mpr c37
                        by_cases c45 : a0.toList = ([108, 101, 110] : List UInt8)
                        · rw [if_pos c45] at H
                          have c45b0 : (a0.toList == ([108, 101, 110] : List UInt8)) = true := beq_iff_eq.mpr c45
                          have c45b1 : (a0.toList != ([108, 101, 110] : List UInt8)) = false := bne_eq_false_iff_eq.mpr c45
                          clear c45
                          replace H := Option.bind_eq_some_iff.mp H
                          obtain ⟨⟨t693, t694, t695⟩, A460, H⟩ := H
                          replace H : (some (t693, t694, t695, 0)) = some (r1, r2, r3, r4) := H
                          have A46 := Aside0.mk A460
                          clear A460
                          simp only [Option.some.injEq, Prod.mk.injEq] at H
                          obtain ⟨rfl, rfl, rfl, rfl⟩ := H
                          have hnb47 := NB680_681.out
                          have hnc47 := NB681_680.out
                          have hnb48 := NB680_682.out
                          have hnc48 := NB682_680.out
                          have hcz49_0 : wr.cell? ⟨gb680, 0, none⟩ = some (.int .u8 a1_0) := (blk_cell BK680.out 0).trans rfl
                          have hcz49_1 : wr.cell? ⟨gb680, 1, none⟩ = some (.int .i64 a1_1) := (blk_cell BK680.out 1).trans rfl
                          have hcz49_2 : wr.cell? ⟨gb680, 2, none⟩ = some (.string a1_2) := (blk_cell BK680.out 2).trans rfl
                          have hfz49_0 := blk_frozen BK680.out 0
                          have hfz49_1 := blk_frozen BK680.out 1
                          have hfz49_2 := blk_frozen BK680.out 2
                          go_wp2_with (first | ((with_reducible refine gate_callee (f := 34) rfl ?_); refine goesL_ (some 62) rfl rfl Try.func34 (by kernel_rfl) rfl #[.int .i64 (a1_2.size : Int)] rfl (by (try simp only [List.map_toArray, List.map_cons, List.map_nil]); first | done | rfl | (simp only [List.length_drop, List.length_take]; rfl)) ?_; (with_reducible refine (sacristanref01_Int.calls (a1_2.size : Int) t693 t694 t695 _ A46.out).mono ?_); rintro e w50 ⟨rfl, hb⟩; refine ⟨_, rfl, ?_⟩; have n0_ := Aside0.mk (Kd.R_below (by (with_reducible repeat (first | apply Kd.R_alloc | apply Kd.R_drewN | apply Kd.R_drew)); exact HO_9.out) hb); have n1_ := Aside0.mk (blk_below (g := gb680) (o := .cells #[.int .u8 a1_0, .int .i64 a1_1, .string a1_2] 26 (0, 0)) (by (with_reducible repeat (first | refine blk_drewN ?_ _ | refine blk_drew ?_ | refine blk_alloc ?_ _)); exact BK680.out) hb); have n2_ := Aside0.mk (blk_below (g := gb681) (o := .cells #[.int .u8 0, .int .i64 0, .string (⟨#[]⟩ : ByteArray)] 26 (0, 0)) (by (with_reducible repeat (first | refine blk_drewN ?_ _ | refine blk_drew ?_ | refine blk_alloc ?_ _)); exact BK681.out) hb); have n3_ := Aside0.mk (blk_below (g := gb682) (o := .cells #[.int .u8 0, .int .i64 0, .string (⟨#[]⟩ : ByteArray)] 26 (0, 0)) (by (with_reducible repeat (first | refine blk_drewN ?_ _ | refine blk_drew ?_ | refine blk_alloc ?_ _)); exact BK682.out) hb); have n4_ := Aside0.mk (below_step (by repeat (first | (with_reducible first | exact HB.out | apply below_alloc | apply pw_below_drewN | apply below_drew1 | refine below_set ?_ GE680.out | refine below_set ?_ GE681.out | refine below_set ?_ GE682.out) | exact HB.out)) hb); clear HO_9; clear BK680; clear BK681; clear BK682; clear HB; have HO_9 := n0_; have BK680 := n1_; have BK681 := n2_; have BK682 := n3_; have HB := n4_; clear n0_ n1_ n2_ n3_ n4_; (try clear hb); (try clear hb2); (try clear hk); (try clear hi); have hnb51 := NB681_682.out; have hnc51 := NB682_681.out; have hcz52_0 : w50.cell? ⟨gb681, 0, none⟩ = some (.int .u8 0) := (blk_cell BK681.out 0).trans rfl; have hcz52_1 : w50.cell? ⟨gb681, 1, none⟩ = some (.int .i64 0) := (blk_cell BK681.out 1).trans rfl; have hcz52_2 : w50.cell? ⟨gb681, 2, none⟩ = some (.string (⟨#[]⟩ : ByteArray)) := (blk_cell BK681.out 2).trans rfl; have hfz52_0 := blk_frozen BK681.out 0; have hfz52_1 := blk_frozen BK681.out 1; have hfz52_2 := blk_frozen BK681.out 2))
                          refine bodyPost_ret (results_ct rfl _ _ gb681 26 #[.int .u8 t693, .int .i64 t694, .string t695] (0, 0) _ rfl (by (with_reducible repeat (first | refine blk_drewN ?_ _ | refine blk_drew ?_ | refine blk_alloc ?_ _)); refine blk_put (cs := #[.int .u8 t693, .int .i64 t694, .string (⟨#[]⟩ : ByteArray)]) ?_ 2 _ rfl; (with_reducible repeat (first | refine blk_drewN ?_ _ | refine blk_drew ?_ | refine blk_alloc ?_ _)); refine blk_put (cs := #[.int .u8 t693, .int .i64 0, .string (⟨#[]⟩ : ByteArray)]) ?_ 1 _ rfl; (with_reducible repeat (first | refine blk_drewN ?_ _ | refine blk_drew ?_ | refine blk_alloc ?_ _)); refine blk_put (cs := #[.int .u8 0, .int .i64 0, .string (⟨#[]⟩ : ByteArray)]) ?_ 0 _ rfl; (with_reducible repeat (first | refine blk_drewN ?_ _ | refine blk_drew ?_ | refine blk_alloc ?_ _)); exact BK681.out) Try.underlying26 rfl (by kernel_rfl)) rfl ?_
                          exact ⟨by first | rfl | (simp [errW_none, errW_some] <;> rfl) | (simp [*, errW_none, errW_some] <;> rfl), by repeat (first | (with_reducible first | exact HB.out | apply below_alloc | apply pw_below_drewN | apply below_drew1 | refine below_set ?_ GE680.out | refine below_set ?_ GE681.out | refine below_set ?_ GE682.out) | exact HB.out)⟩
                        · rw [if_neg c45] at H
                          have c45b0 : (a0.toList == ([108, 101, 110] : List UInt8)) = false := beq_eq_false_iff_ne.mpr c45
                          have c45b1 : (a0.toList != ([108, 101, 110] : List UInt8)) = true := bne_iff_ne.mpr c45
                          by_cases c53 : a0.toList = ([105, 56] : List UInt8)
                          · rw [if_pos c53] at H
                            have c53b0 : (a0.toList == ([105, 56] : List UInt8)) = true := beq_iff_eq.mpr c53
                            have c53b1 : (a0.toList != ([105, 56] : List UInt8)) = false := bne_eq_false_iff_eq.mpr c53
                            clear c53
                            replace H := Option.bind_eq_some_iff.mp H
                            obtain ⟨t696, A540, H⟩ := H
                            replace H : ((sacristanref01_Int.f t696).bind fun bt697 => (some (bt697.1, bt697.2.1, bt697.2.2, 0))) = some (r1, r2, r3, r4) := H
                            have A54 := Aside0.mk A540
                            clear A540
                            replace H := Option.bind_eq_some_iff.mp H
                            obtain ⟨⟨t697, t698, t699⟩, A550, H⟩ := H
                            replace H : (some (t697, t698, t699, 0)) = some (r1, r2, r3, r4) := H
                            have A55 := Aside0.mk A550
                            clear A550
                            simp only [Option.some.injEq, Prod.mk.injEq] at H
                            obtain ⟨rfl, rfl, rfl, rfl⟩ := H
                            have hnb56 := NB680_681.out
                            have hnc56 := NB681_680.out
                            have hnb57 := NB680_682.out
                            have hnc57 := NB682_680.out
                            have hcz58_0 : wr.cell? ⟨gb680, 0, none⟩ = some (.int .u8 a1_0) := (blk_cell BK680.out 0).trans rfl
                            have hcz58_1 : wr.cell? ⟨gb680, 1, none⟩ = some (.int .i64 a1_1) := (blk_cell BK680.out 1).trans rfl
                            have hcz58_2 : wr.cell? ⟨gb680, 2, none⟩ = some (.string a1_2) := (blk_cell BK680.out 2).trans rfl
                            have hfz58_0 := blk_frozen BK680.out 0
                            have hfz58_1 := blk_frozen BK680.out 1
                            have hfz58_2 := blk_frozen BK680.out 2
                            go_wp2_with (first | ((with_reducible refine gate_callee (f := 54) rfl ?_); refine goesL_ (some 67) rfl rfl Try.func54 (by kernel_rfl) rfl #[.int .i64 a1_1, .int .i64 256] rfl (by (try simp only [List.map_toArray, List.map_cons, List.map_nil]); first | done | rfl | (simp only [List.length_drop, List.length_take]; rfl)) ?_; (with_reducible refine (sacristanref01_signed.calls a1_1 256 t696 _ A54.out).mono ?_); rintro e w' ⟨rfl, ⟨nd, rfl⟩⟩; refine ⟨_, rfl, ?_⟩; (try (rw [drewN_self wr]; generalize hq_ : World.drewN wr _ = wr; have n0_ : Aside0 (Kd.R Kd.string 9 wr w.heap.size (fun _ => True) (.slice Ao15 y683.length co15) y683) := ⟨by rw [← hq_]; exact (by (with_reducible repeat (first | apply Kd.R_alloc | apply Kd.R_drewN | apply Kd.R_drew)); exact HO_9.out)⟩; have n1_ : Aside0 (wr.heap[gb680]? = some (.cells #[.int .u8 a1_0, .int .i64 a1_1, .string a1_2] 26 (0, 0))) := ⟨by rw [← hq_]; exact (by (with_reducible repeat (first | refine blk_drewN ?_ _ | refine blk_drew ?_ | refine blk_alloc ?_ _)); exact BK680.out)⟩; have n2_ : Aside0 (wr.heap[gb681]? = some (.cells #[.int .u8 0, .int .i64 0, .string (⟨#[]⟩ : ByteArray)] 26 (0, 0))) := ⟨by rw [← hq_]; exact (by (with_reducible repeat (first | refine blk_drewN ?_ _ | refine blk_drew ?_ | refine blk_alloc ?_ _)); exact BK681.out)⟩; have n3_ : Aside0 (wr.heap[gb682]? = some (.cells #[.int .u8 0, .int .i64 0, .string (⟨#[]⟩ : ByteArray)] 26 (0, 0))) := ⟨by rw [← hq_]; exact (by (with_reducible repeat (first | refine blk_drewN ?_ _ | refine blk_drew ?_ | refine blk_alloc ?_ _)); exact BK682.out)⟩; have n4_ : Aside0 (Below w.heap.size w wr) := ⟨by rw [← hq_]; exact (by repeat (first | (with_reducible first | exact HB.out | apply below_alloc | apply pw_below_drewN | apply below_drew1 | refine below_set ?_ GE680.out | refine below_set ?_ GE681.out | refine below_set ?_ GE682.out) | exact HB.out))⟩; clear HO_9 BK680 BK681 BK682 HB hq_; have HO_9 := n0_; have BK680 := n1_; have BK681 := n2_; have BK682 := n3_; have HB := n4_; clear n0_ n1_ n2_ n3_ n4_))) | ((with_reducible refine gate_callee (f := 34) rfl ?_); refine goesL_ (some 68) rfl rfl Try.func34 (by kernel_rfl) rfl #[.int .i64 t696] rfl (by (try simp only [List.map_toArray, List.map_cons, List.map_nil]); first | done | rfl | (simp only [List.length_drop, List.length_take]; rfl)) ?_; (with_reducible refine (sacristanref01_Int.calls t696 t697 t698 t699 _ A55.out).mono ?_); rintro e w59 ⟨rfl, hb⟩; refine ⟨_, rfl, ?_⟩; have n0_ := Aside0.mk (Kd.R_below (by (with_reducible repeat (first | apply Kd.R_alloc | apply Kd.R_drewN | apply Kd.R_drew)); exact HO_9.out) hb); have n1_ := Aside0.mk (blk_below (g := gb680) (o := .cells #[.int .u8 a1_0, .int .i64 a1_1, .string a1_2] 26 (0, 0)) (by (with_reducible repeat (first | refine blk_drewN ?_ _ | refine blk_drew ?_ | refine blk_alloc ?_ _)); exact BK680.out) hb); have n2_ := Aside0.mk (blk_below (g := gb681) (o := .cells #[.int .u8 0, .int .i64 0, .string (⟨#[]⟩ : ByteArray)] 26 (0, 0)) (by (with_reducible repeat (first | refine blk_drewN ?_ _ | refine blk_drew ?_ | refine blk_alloc ?_ _)); exact BK681.out) hb); have n3_ := Aside0.mk (blk_below (g := gb682) (o := .cells #[.int .u8 0, .int .i64 0, .string (⟨#[]⟩ : ByteArray)] 26 (0, 0)) (by (with_reducible repeat (first | refine blk_drewN ?_ _ | refine blk_drew ?_ | refine blk_alloc ?_ _)); exact BK682.out) hb); have n4_ := Aside0.mk (below_step (by repeat (first | (with_reducible first | exact HB.out | apply below_alloc | apply pw_below_drewN | apply below_drew1 | refine below_set ?_ GE680.out | refine below_set ?_ GE681.out | refine below_set ?_ GE682.out) | exact HB.out)) hb); clear HO_9; clear BK680; clear BK681; clear BK682; clear HB; have HO_9 := n0_; have BK680 := n1_; have BK681 := n2_; have BK682 := n3_; have HB := n4_; clear n0_ n1_ n2_ n3_ n4_; (try clear hb); (try clear hb2); (try clear hk); (try clear hi); have hnb60 := NB681_682.out; have hnc60 := NB682_681.out; have hcz61_0 : w59.cell? ⟨gb681, 0, none⟩ = some (.int .u8 0) := (blk_cell BK681.out 0).trans rfl; have hcz61_1 : w59.cell? ⟨gb681, 1, none⟩ = some (.int .i64 0) := (blk_cell BK681.out 1).trans rfl; have hcz61_2 : w59.cell? ⟨gb681, 2, none⟩ = some (.string (⟨#[]⟩ : ByteArray)) := (blk_cell BK681.out 2).trans rfl; have hfz61_0 := blk_frozen BK681.out 0; have hfz61_1 := blk_frozen BK681.out 1; have hfz61_2 := blk_frozen BK681.out 2))
                            refine bodyPost_ret (results_ct rfl _ _ gb681 26 #[.int .u8 t697, .int .i64 t698, .string t699] (0, 0) _ rfl (by (with_reducible repeat (first | refine blk_drewN ?_ _ | refine blk_drew ?_ | refine blk_alloc ?_ _)); refine blk_put (cs := #[.int .u8 t697, .int .i64 t698, .string (⟨#[]⟩ : ByteArray)]) ?_ 2 _ rfl; (with_reducible repeat (first | refine blk_drewN ?_ _ | refine blk_drew ?_ | refine blk_alloc ?_ _)); refine blk_put (cs := #[.int .u8 t697, .int .i64 0, .string (⟨#[]⟩ : ByteArray)]) ?_ 1 _ rfl; (with_reducible repeat (first | refine blk_drewN ?_ _ | refine blk_drew ?_ | refine blk_alloc ?_ _)); refine blk_put (cs := #[.int .u8 0, .int .i64 0, .string (⟨#[]⟩ : ByteArray)]) ?_ 0 _ rfl; (with_reducible repeat (first | refine blk_drewN ?_ _ | refine blk_drew ?_ | refine blk_alloc ?_ _)); exact BK681.out) Try.underlying26 rfl (by kernel_rfl)) rfl ?_
                            exact ⟨by first | rfl | (simp [errW_none, errW_some] <;> rfl) | (simp [*, errW_none, errW_some] <;> rfl), by repeat (first | (with_reducible first | exact HB.out | apply below_alloc | apply pw_below_drewN | apply below_drew1 | refine below_set ?_ GE680.out | refine below_set ?_ GE681.out | refine below_set ?_ GE682.out) | exact HB.out)⟩
                          · rw [if_neg c53] at H
                            have c53b0 : (a0.toList == ([105, 56] : List UInt8)) = false := beq_eq_false_iff_ne.mpr c53
                            have c53b1 : (a0.toList != ([105, 56] : List UInt8)) = true := bne_iff_ne.mpr c53
                            by_cases c62 : a0.toList = ([105, 49, 54] : List UInt8)
                            · rw [if_pos c62] at H
                              have c62b0 : (a0.toList == ([105, 49, 54] : List UInt8)) = true := beq_iff_eq.mpr c62
                              have c62b1 : (a0.toList != ([105, 49, 54] : List UInt8)) = false := bne_eq_false_iff_eq.mpr c62
                              clear c62
                              replace H := Option.bind_eq_some_iff.mp H
                              obtain ⟨t700, A630, H⟩ := H
                              replace H : ((sacristanref01_Int.f t700).bind fun bt701 => (some (bt701.1, bt701.2.1, bt701.2.2, 0))) = some (r1, r2, r3, r4) := H
                              have A63 := Aside0.mk A630
                              clear A630
                              replace H := Option.bind_eq_some_iff.mp H
                              obtain ⟨⟨t701, t702, t703⟩, A640, H⟩ := H
                              replace H : (some (t701, t702, t703, 0)) = some (r1, r2, r3, r4) := H
                              have A64 := Aside0.mk A640
                              clear A640
                              simp only [Option.some.injEq, Prod.mk.injEq] at H
                              obtain ⟨rfl, rfl, rfl, rfl⟩ := H
                              have hnb65 := NB680_681.out
                              have hnc65 := NB681_680.out
                              have hnb66 := NB680_682.out
                              have hnc66 := NB682_680.out
                              have hcz67_0 : wr.cell? ⟨gb680, 0, none⟩ = some (.int .u8 a1_0) := (blk_cell BK680.out 0).trans rfl
                              have hcz67_1 : wr.cell? ⟨gb680, 1, none⟩ = some (.int .i64 a1_1) := (blk_cell BK680.out 1).trans rfl
                              have hcz67_2 : wr.cell? ⟨gb680, 2, none⟩ = some (.string a1_2) := (blk_cell BK680.out 2).trans rfl
                              have hfz67_0 := blk_frozen BK680.out 0
                              have hfz67_1 := blk_frozen BK680.out 1
                              have hfz67_2 := blk_frozen BK680.out 2
                              go_wp2_with (first | ((with_reducible refine gate_callee (f := 54) rfl ?_); refine goesL_ (some 73) rfl rfl Try.func54 (by kernel_rfl) rfl #[.int .i64 a1_1, .int .i64 65536] rfl (by (try simp only [List.map_toArray, List.map_cons, List.map_nil]); first | done | rfl | (simp only [List.length_drop, List.length_take]; rfl)) ?_; (with_reducible refine (sacristanref01_signed.calls a1_1 65536 t700 _ A63.out).mono ?_); rintro e w' ⟨rfl, ⟨nd, rfl⟩⟩; refine ⟨_, rfl, ?_⟩; (try (rw [drewN_self wr]; generalize hq_ : World.drewN wr _ = wr; have n0_ : Aside0 (Kd.R Kd.string 9 wr w.heap.size (fun _ => True) (.slice Ao15 y683.length co15) y683) := ⟨by rw [← hq_]; exact (by (with_reducible repeat (first | apply Kd.R_alloc | apply Kd.R_drewN | apply Kd.R_drew)); exact HO_9.out)⟩; have n1_ : Aside0 (wr.heap[gb680]? = some (.cells #[.int .u8 a1_0, .int .i64 a1_1, .string a1_2] 26 (0, 0))) := ⟨by rw [← hq_]; exact (by (with_reducible repeat (first | refine blk_drewN ?_ _ | refine blk_drew ?_ | refine blk_alloc ?_ _)); exact BK680.out)⟩; have n2_ : Aside0 (wr.heap[gb681]? = some (.cells #[.int .u8 0, .int .i64 0, .string (⟨#[]⟩ : ByteArray)] 26 (0, 0))) := ⟨by rw [← hq_]; exact (by (with_reducible repeat (first | refine blk_drewN ?_ _ | refine blk_drew ?_ | refine blk_alloc ?_ _)); exact BK681.out)⟩; have n3_ : Aside0 (wr.heap[gb682]? = some (.cells #[.int .u8 0, .int .i64 0, .string (⟨#[]⟩ : ByteArray)] 26 (0, 0))) := ⟨by rw [← hq_]; exact (by (with_reducible repeat (first | refine blk_drewN ?_ _ | refine blk_drew ?_ | refine blk_alloc ?_ _)); exact BK682.out)⟩; have n4_ : Aside0 (Below w.heap.size w wr) := ⟨by rw [← hq_]; exact (by repeat (first | (with_reducible first | exact HB.out | apply below_alloc | apply pw_below_drewN | apply below_drew1 | refine below_set ?_ GE680.out | refine below_set ?_ GE681.out | refine below_set ?_ GE682.out) | exact HB.out))⟩; clear HO_9 BK680 BK681 BK682 HB hq_; have HO_9 := n0_; have BK680 := n1_; have BK681 := n2_; have BK682 := n3_; have HB := n4_; clear n0_ n1_ n2_ n3_ n4_))) | ((with_reducible refine gate_callee (f := 34) rfl ?_); refine goesL_ (some 74) rfl rfl Try.func34 (by kernel_rfl) rfl #[.int .i64 t700] rfl (by (try simp only [List.map_toArray, List.map_cons, List.map_nil]); first | done | rfl | (simp only [List.length_drop, List.length_take]; rfl)) ?_; (with_reducible refine (sacristanref01_Int.calls t700 t701 t702 t703 _ A64.out).mono ?_); rintro e w68 ⟨rfl, hb⟩; refine ⟨_, rfl, ?_⟩; have n0_ := Aside0.mk (Kd.R_below (by (with_reducible repeat (first | apply Kd.R_alloc | apply Kd.R_drewN | apply Kd.R_drew)); exact HO_9.out) hb); have n1_ := Aside0.mk (blk_below (g := gb680) (o := .cells #[.int .u8 a1_0, .int .i64 a1_1, .string a1_2] 26 (0, 0)) (by (with_reducible repeat (first | refine blk_drewN ?_ _ | refine blk_drew ?_ | refine blk_alloc ?_ _)); exact BK680.out) hb); have n2_ := Aside0.mk (blk_below (g := gb681) (o := .cells #[.int .u8 0, .int .i64 0, .string (⟨#[]⟩ : ByteArray)] 26 (0, 0)) (by (with_reducible repeat (first | refine blk_drewN ?_ _ | refine blk_drew ?_ | refine blk_alloc ?_ _)); exact BK681.out) hb); have n3_ := Aside0.mk (blk_below (g := gb682) (o := .cells #[.int .u8 0, .int .i64 0, .string (⟨#[]⟩ : ByteArray)] 26 (0, 0)) (by (with_reducible repeat (first | refine blk_drewN ?_ _ | refine blk_drew ?_ | refine blk_alloc ?_ _)); exact BK682.out) hb); have n4_ := Aside0.mk (below_step (by repeat (first | (with_reducible first | exact HB.out | apply below_alloc | apply pw_below_drewN | apply below_drew1 | refine below_set ?_ GE680.out | refine below_set ?_ GE681.out | refine below_set ?_ GE682.out) | exact HB.out)) hb); clear HO_9; clear BK680; clear BK681; clear BK682; clear HB; have HO_9 := n0_; have BK680 := n1_; have BK681 := n2_; have BK682 := n3_; have HB := n4_; clear n0_ n1_ n2_ n3_ n4_; (try clear hb); (try clear hb2); (try clear hk); (try clear hi); have hnb69 := NB681_682.out; have hnc69 := NB682_681.out; have hcz70_0 : w68.cell? ⟨gb681, 0, none⟩ = some (.int .u8 0) := (blk_cell BK681.out 0).trans rfl; have hcz70_1 : w68.cell? ⟨gb681, 1, none⟩ = some (.int .i64 0) := (blk_cell BK681.out 1).trans rfl; have hcz70_2 : w68.cell? ⟨gb681, 2, none⟩ = some (.string (⟨#[]⟩ : ByteArray)) := (blk_cell BK681.out 2).trans rfl; have hfz70_0 := blk_frozen BK681.out 0; have hfz70_1 := blk_frozen BK681.out 1; have hfz70_2 := blk_frozen BK681.out 2))
                              refine bodyPost_ret (results_ct rfl _ _ gb681 26 #[.int .u8 t701, .int .i64 t702, .string t703] (0, 0) _ rfl (by (with_reducible repeat (first | refine blk_drewN ?_ _ | refine blk_drew ?_ | refine blk_alloc ?_ _)); refine blk_put (cs := #[.int .u8 t701, .int .i64 t702, .string (⟨#[]⟩ : ByteArray)]) ?_ 2 _ rfl; (with_reducible repeat (first | refine blk_drewN ?_ _ | refine blk_drew ?_ | refine blk_alloc ?_ _)); refine blk_put (cs := #[.int .u8 t701, .int .i64 0, .string (⟨#[]⟩ : ByteArray)]) ?_ 1 _ rfl; (with_reducible repeat (first | refine blk_drewN ?_ _ | refine blk_drew ?_ | refine blk_alloc ?_ _)); refine blk_put (cs := #[.int .u8 0, .int .i64 0, .string (⟨#[]⟩ : ByteArray)]) ?_ 0 _ rfl; (with_reducible repeat (first | refine blk_drewN ?_ _ | refine blk_drew ?_ | refine blk_alloc ?_ _)); exact BK681.out) Try.underlying26 rfl (by kernel_rfl)) rfl ?_
                              exact ⟨by first | rfl | (simp [errW_none, errW_some] <;> rfl) | (simp [*, errW_none, errW_some] <;> rfl), by repeat (first | (with_reducible first | exact HB.out | apply below_alloc | apply pw_below_drewN | apply below_drew1 | refine below_set ?_ GE680.out | refine below_set ?_ GE681.out | refine below_set ?_ GE682.out) | exact HB.out)⟩
                            · rw [if_neg c62] at H
                              have c62b0 : (a0.toList == ([105, 49, 54] : List UInt8)) = false := beq_eq_false_iff_ne.mpr c62
                              have c62b1 : (a0.toList != ([105, 49, 54] : List UInt8)) = true := bne_iff_ne.mpr c62
                              by_cases c71 : a0.toList = ([105, 51, 50] : List UInt8)
                              · rw [if_pos c71] at H
                                have c71b0 : (a0.toList == ([105, 51, 50] : List UInt8)) = true := beq_iff_eq.mpr c71
                                have c71b1 : (a0.toList != ([105, 51, 50] : List UInt8)) = false := bne_eq_false_iff_eq.mpr c71
                                clear c71
                                replace H := Option.bind_eq_some_iff.mp H
                                obtain ⟨t704, A720, H⟩ := H
                                replace H : ((sacristanref01_Int.f t704).bind fun bt705 => (some (bt705.1, bt705.2.1, bt705.2.2, 0))) = some (r1, r2, r3, r4) := H
                                have A72 := Aside0.mk A720
                                clear A720
                                replace H := Option.bind_eq_some_iff.mp H
                                obtain ⟨⟨t705, t706, t707⟩, A730, H⟩ := H
                                replace H : (some (t705, t706, t707, 0)) = some (r1, r2, r3, r4) := H
                                have A73 := Aside0.mk A730
                                clear A730
                                simp only [Option.some.injEq, Prod.mk.injEq] at H
                                obtain ⟨rfl, rfl, rfl, rfl⟩ := H
                                have hnb74 := NB680_681.out
                                have hnc74 := NB681_680.out
                                have hnb75 := NB680_682.out
                                have hnc75 := NB682_680.out
                                have hcz76_0 : wr.cell? ⟨gb680, 0, none⟩ = some (.int .u8 a1_0) := (blk_cell BK680.out 0).trans rfl
                                have hcz76_1 : wr.cell? ⟨gb680, 1, none⟩ = some (.int .i64 a1_1) := (blk_cell BK680.out 1).trans rfl
                                have hcz76_2 : wr.cell? ⟨gb680, 2, none⟩ = some (.string a1_2) := (blk_cell BK680.out 2).trans rfl
                                have hfz76_0 := blk_frozen BK680.out 0
                                have hfz76_1 := blk_frozen BK680.out 1
                                have hfz76_2 := blk_frozen BK680.out 2
                                go_wp2_with (first | ((with_reducible refine gate_callee (f := 54) rfl ?_); refine goesL_ (some 79) rfl rfl Try.func54 (by kernel_rfl) rfl #[.int .i64 a1_1, .int .i64 4294967296] rfl (by (try simp only [List.map_toArray, List.map_cons, List.map_nil]); first | done | rfl | (simp only [List.length_drop, List.length_take]; rfl)) ?_; (with_reducible refine (sacristanref01_signed.calls a1_1 4294967296 t704 _ A72.out).mono ?_); rintro e w' ⟨rfl, ⟨nd, rfl⟩⟩; refine ⟨_, rfl, ?_⟩; (try (rw [drewN_self wr]; generalize hq_ : World.drewN wr _ = wr; have n0_ : Aside0 (Kd.R Kd.string 9 wr w.heap.size (fun _ => True) (.slice Ao15 y683.length co15) y683) := ⟨by rw [← hq_]; exact (by (with_reducible repeat (first | apply Kd.R_alloc | apply Kd.R_drewN | apply Kd.R_drew)); exact HO_9.out)⟩; have n1_ : Aside0 (wr.heap[gb680]? = some (.cells #[.int .u8 a1_0, .int .i64 a1_1, .string a1_2] 26 (0, 0))) := ⟨by rw [← hq_]; exact (by (with_reducible repeat (first | refine blk_drewN ?_ _ | refine blk_drew ?_ | refine blk_alloc ?_ _)); exact BK680.out)⟩; have n2_ : Aside0 (wr.heap[gb681]? = some (.cells #[.int .u8 0, .int .i64 0, .string (⟨#[]⟩ : ByteArray)] 26 (0, 0))) := ⟨by rw [← hq_]; exact (by (with_reducible repeat (first | refine blk_drewN ?_ _ | refine blk_drew ?_ | refine blk_alloc ?_ _)); exact BK681.out)⟩; have n3_ : Aside0 (wr.heap[gb682]? = some (.cells #[.int .u8 0, .int .i64 0, .string (⟨#[]⟩ : ByteArray)] 26 (0, 0))) := ⟨by rw [← hq_]; exact (by (with_reducible repeat (first | refine blk_drewN ?_ _ | refine blk_drew ?_ | refine blk_alloc ?_ _)); exact BK682.out)⟩; have n4_ : Aside0 (Below w.heap.size w wr) := ⟨by rw [← hq_]; exact (by repeat (first | (with_reducible first | exact HB.out | apply below_alloc | apply pw_below_drewN | apply below_drew1 | refine below_set ?_ GE680.out | refine below_set ?_ GE681.out | refine below_set ?_ GE682.out) | exact HB.out))⟩; clear HO_9 BK680 BK681 BK682 HB hq_; have HO_9 := n0_; have BK680 := n1_; have BK681 := n2_; have BK682 := n3_; have HB := n4_; clear n0_ n1_ n2_ n3_ n4_))) | ((with_reducible refine gate_callee (f := 34) rfl ?_); refine goesL_ (some 80) rfl rfl Try.func34 (by kernel_rfl) rfl #[.int .i64 t704] rfl (by (try simp only [List.map_toArray, List.map_cons, List.map_nil]); first | done | rfl | (simp only [List.length_drop, List.length_take]; rfl)) ?_; (with_reducible refine (sacristanref01_Int.calls t704 t705 t706 t707 _ A73.out).mono ?_); rintro e w77 ⟨rfl, hb⟩; refine ⟨_, rfl, ?_⟩; have n0_ := Aside0.mk (Kd.R_below (by (with_reducible repeat (first | apply Kd.R_alloc | apply Kd.R_drewN | apply Kd.R_drew)); exact HO_9.out) hb); have n1_ := Aside0.mk (blk_below (g := gb680) (o := .cells #[.int .u8 a1_0, .int .i64 a1_1, .string a1_2] 26 (0, 0)) (by (with_reducible repeat (first | refine blk_drewN ?_ _ | refine blk_drew ?_ | refine blk_alloc ?_ _)); exact BK680.out) hb); have n2_ := Aside0.mk (blk_below (g := gb681) (o := .cells #[.int .u8 0, .int .i64 0, .string (⟨#[]⟩ : ByteArray)] 26 (0, 0)) (by (with_reducible repeat (first | refine blk_drewN ?_ _ | refine blk_drew ?_ | refine blk_alloc ?_ _)); exact BK681.out) hb); have n3_ := Aside0.mk (blk_below (g := gb682) (o := .cells #[.int .u8 0, .int .i64 0, .string (⟨#[]⟩ : ByteArray)] 26 (0, 0)) (by (with_reducible repeat (first | refine blk_drewN ?_ _ | refine blk_drew ?_ | refine blk_alloc ?_ _)); exact BK682.out) hb); have n4_ := Aside0.mk (below_step (by repeat (first | (with_reducible first | exact HB.out | apply below_alloc | apply pw_below_drewN | apply below_drew1 | refine below_set ?_ GE680.out | refine below_set ?_ GE681.out | refine below_set ?_ GE682.out) | exact HB.out)) hb); clear HO_9; clear BK680; clear BK681; clear BK682; clear HB; have HO_9 := n0_; have BK680 := n1_; have BK681 := n2_; have BK682 := n3_; have HB := n4_; clear n0_ n1_ n2_ n3_ n4_; (try clear hb); (try clear hb2); (try clear hk); (try clear hi); have hnb78 := NB681_682.out; have hnc78 := NB682_681.out; have hcz79_0 : w77.cell? ⟨gb681, 0, none⟩ = some (.int .u8 0) := (blk_cell BK681.out 0).trans rfl; have hcz79_1 : w77.cell? ⟨gb681, 1, none⟩ = some (.int .i64 0) := (blk_cell BK681.out 1).trans rfl; have hcz79_2 : w77.cell? ⟨gb681, 2, none⟩ = some (.string (⟨#[]⟩ : ByteArray)) := (blk_cell BK681.out 2).trans rfl; have hfz79_0 := blk_frozen BK681.out 0; have hfz79_1 := blk_frozen BK681.out 1; have hfz79_2 := blk_frozen BK681.out 2))
                                refine bodyPost_ret (results_ct rfl _ _ gb681 26 #[.int .u8 t705, .int .i64 t706, .string t707] (0, 0) _ rfl (by (with_reducible repeat (first | refine blk_drewN ?_ _ | refine blk_drew ?_ | refine blk_alloc ?_ _)); refine blk_put (cs := #[.int .u8 t705, .int .i64 t706, .string (⟨#[]⟩ : ByteArray)]) ?_ 2 _ rfl; (with_reducible repeat (first | refine blk_drewN ?_ _ | refine blk_drew ?_ | refine blk_alloc ?_ _)); refine blk_put (cs := #[.int .u8 t705, .int .i64 0, .string (⟨#[]⟩ : ByteArray)]) ?_ 1 _ rfl; (with_reducible repeat (first | refine blk_drewN ?_ _ | refine blk_drew ?_ | refine blk_alloc ?_ _)); refine blk_put (cs := #[.int .u8 0, .int .i64 0, .string (⟨#[]⟩ : ByteArray)]) ?_ 0 _ rfl; (with_reducible repeat (first | refine blk_drewN ?_ _ | refine blk_drew ?_ | refine blk_alloc ?_ _)); exact BK681.out) Try.underlying26 rfl (by kernel_rfl)) rfl ?_
                                exact ⟨by first | rfl | (simp [errW_none, errW_some] <;> rfl) | (simp [*, errW_none, errW_some] <;> rfl), by repeat (first | (with_reducible first | exact HB.out | apply below_alloc | apply pw_below_drewN | apply below_drew1 | refine below_set ?_ GE680.out | refine below_set ?_ GE681.out | refine below_set ?_ GE682.out) | exact HB.out)⟩
                              · rw [if_neg c71] at H
                                have c71b0 : (a0.toList == ([105, 51, 50] : List UInt8)) = false := beq_eq_false_iff_ne.mpr c71
                                have c71b1 : (a0.toList != ([105, 51, 50] : List UInt8)) = true := bne_iff_ne.mpr c71
                                by_cases c80 : a0.toList = ([117, 56] : List UInt8)
                                · rw [if_pos c80] at H
                                  have c80b0 : (a0.toList == ([117, 56] : List UInt8)) = true := beq_iff_eq.mpr c80
                                  have c80b1 : (a0.toList != ([117, 56] : List UInt8)) = false := bne_eq_false_iff_eq.mpr c80
                                  clear c80
                                  replace H := Option.bind_eq_some_iff.mp H
                                  obtain ⟨t708, A810, H⟩ := H
                                  replace H : ((sacristanref01_Int.f t708).bind fun bt709 => (some (bt709.1, bt709.2.1, bt709.2.2, 0))) = some (r1, r2, r3, r4) := H
                                  have A81 := Aside0.mk A810
                                  clear A810
                                  replace H := Option.bind_eq_some_iff.mp H
                                  obtain ⟨⟨t709, t710, t711⟩, A820, H⟩ := H
                                  replace H : (some (t709, t710, t711, 0)) = some (r1, r2, r3, r4) := H
                                  have A82 := Aside0.mk A820
                                  clear A820
                                  simp only [Option.some.injEq, Prod.mk.injEq] at H
                                  obtain ⟨rfl, rfl, rfl, rfl⟩ := H
                                  have hnb83 := NB680_681.out
                                  have hnc83 := NB681_680.out
                                  have hnb84 := NB680_682.out
                                  have hnc84 := NB682_680.out
                                  have hcz85_0 : wr.cell? ⟨gb680, 0, none⟩ = some (.int .u8 a1_0) := (blk_cell BK680.out 0).trans rfl
                                  have hcz85_1 : wr.cell? ⟨gb680, 1, none⟩ = some (.int .i64 a1_1) := (blk_cell BK680.out 1).trans rfl
                                  have hcz85_2 : wr.cell? ⟨gb680, 2, none⟩ = some (.string a1_2) := (blk_cell BK680.out 2).trans rfl
                                  have hfz85_0 := blk_frozen BK680.out 0
                                  have hfz85_1 := blk_frozen BK680.out 1
                                  have hfz85_2 := blk_frozen BK680.out 2
                                  go_wp2_with (first | ((with_reducible refine gate_callee (f := 55) rfl ?_); refine goesL_ (some 85) rfl rfl Try.func55 (by kernel_rfl) rfl #[.int .i64 a1_1, .int .i64 256] rfl (by (try simp only [List.map_toArray, List.map_cons, List.map_nil]); first | done | rfl | (simp only [List.length_drop, List.length_take]; rfl)) ?_; (with_reducible refine (sacristanref01_low.calls a1_1 256 t708 _ A81.out).mono ?_); rintro e w' ⟨rfl, ⟨nd, rfl⟩⟩; refine ⟨_, rfl, ?_⟩; (try (rw [drewN_self wr]; generalize hq_ : World.drewN wr _ = wr; have n0_ : Aside0 (Kd.R Kd.string 9 wr w.heap.size (fun _ => True) (.slice Ao15 y683.length co15) y683) := ⟨by rw [← hq_]; exact (by (with_reducible repeat (first | apply Kd.R_alloc | apply Kd.R_drewN | apply Kd.R_drew)); exact HO_9.out)⟩; have n1_ : Aside0 (wr.heap[gb680]? = some (.cells #[.int .u8 a1_0, .int .i64 a1_1, .string a1_2] 26 (0, 0))) := ⟨by rw [← hq_]; exact (by (with_reducible repeat (first | refine blk_drewN ?_ _ | refine blk_drew ?_ | refine blk_alloc ?_ _)); exact BK680.out)⟩; have n2_ : Aside0 (wr.heap[gb681]? = some (.cells #[.int .u8 0, .int .i64 0, .string (⟨#[]⟩ : ByteArray)] 26 (0, 0))) := ⟨by rw [← hq_]; exact (by (with_reducible repeat (first | refine blk_drewN ?_ _ | refine blk_drew ?_ | refine blk_alloc ?_ _)); exact BK681.out)⟩; have n3_ : Aside0 (wr.heap[gb682]? = some (.cells #[.int .u8 0, .int .i64 0, .string (⟨#[]⟩ : ByteArray)] 26 (0, 0))) := ⟨by rw [← hq_]; exact (by (with_reducible repeat (first | refine blk_drewN ?_ _ | refine blk_drew ?_ | refine blk_alloc ?_ _)); exact BK682.out)⟩; have n4_ : Aside0 (Below w.heap.size w wr) := ⟨by rw [← hq_]; exact (by repeat (first | (with_reducible first | exact HB.out | apply below_alloc | apply pw_below_drewN | apply below_drew1 | refine below_set ?_ GE680.out | refine below_set ?_ GE681.out | refine below_set ?_ GE682.out) | exact HB.out))⟩; clear HO_9 BK680 BK681 BK682 HB hq_; have HO_9 := n0_; have BK680 := n1_; have BK681 := n2_; have BK682 := n3_; have HB := n4_; clear n0_ n1_ n2_ n3_ n4_))) | ((with_reducible refine gate_callee (f := 34) rfl ?_); refine goesL_ (some 86) rfl rfl Try.func34 (by kernel_rfl) rfl #[.int .i64 t708] rfl (by (try simp only [List.map_toArray, List.map_cons, List.map_nil]); first | done | rfl | (simp only [List.length_drop, List.length_take]; rfl)) ?_; (with_reducible refine (sacristanref01_Int.calls t708 t709 t710 t711 _ A82.out).mono ?_); rintro e w86 ⟨rfl, hb⟩; refine ⟨_, rfl, ?_⟩; have n0_ := Aside0.mk (Kd.R_below (by (with_reducible repeat (first | apply Kd.R_alloc | apply Kd.R_drewN | apply Kd.R_drew)); exact HO_9.out) hb); have n1_ := Aside0.mk (blk_below (g := gb680) (o := .cells #[.int .u8 a1_0, .int .i64 a1_1, .string a1_2] 26 (0, 0)) (by (with_reducible repeat (first | refine blk_drewN ?_ _ | refine blk_drew ?_ | refine blk_alloc ?_ _)); exact BK680.out) hb); have n2_ := Aside0.mk (blk_below (g := gb681) (o := .cells #[.int .u8 0, .int .i64 0, .string (⟨#[]⟩ : ByteArray)] 26 (0, 0)) (by (with_reducible repeat (first | refine blk_drewN ?_ _ | refine blk_drew ?_ | refine blk_alloc ?_ _)); exact BK681.out) hb); have n3_ := Aside0.mk (blk_below (g := gb682) (o := .cells #[.int .u8 0, .int .i64 0, .string (⟨#[]⟩ : ByteArray)] 26 (0, 0)) (by (with_reducible repeat (first | refine blk_drewN ?_ _ | refine blk_drew ?_ | refine blk_alloc ?_ _)); exact BK682.out) hb); have n4_ := Aside0.mk (below_step (by repeat (first | (with_reducible first | exact HB.out | apply below_alloc | apply pw_below_drewN | apply below_drew1 | refine below_set ?_ GE680.out | refine below_set ?_ GE681.out | refine below_set ?_ GE682.out) | exact HB.out)) hb); clear HO_9; clear BK680; clear BK681; clear BK682; clear HB; have HO_9 := n0_; have BK680 := n1_; have BK681 := n2_; have BK682 := n3_; have HB := n4_; clear n0_ n1_ n2_ n3_ n4_; (try clear hb); (try clear hb2); (try clear hk); (try clear hi); have hnb87 := NB681_682.out; have hnc87 := NB682_681.out; have hcz88_0 : w86.cell? ⟨gb681, 0, none⟩ = some (.int .u8 0) := (blk_cell BK681.out 0).trans rfl; have hcz88_1 : w86.cell? ⟨gb681, 1, none⟩ = some (.int .i64 0) := (blk_cell BK681.out 1).trans rfl; have hcz88_2 : w86.cell? ⟨gb681, 2, none⟩ = some (.string (⟨#[]⟩ : ByteArray)) := (blk_cell BK681.out 2).trans rfl; have hfz88_0 := blk_frozen BK681.out 0; have hfz88_1 := blk_frozen BK681.out 1; have hfz88_2 := blk_frozen BK681.out 2))
                                  refine bodyPost_ret (results_ct rfl _ _ gb681 26 #[.int .u8 t709, .int .i64 t710, .string t711] (0, 0) _ rfl (by (with_reducible repeat (first | refine blk_drewN ?_ _ | refine blk_drew ?_ | refine blk_alloc ?_ _)); refine blk_put (cs := #[.int .u8 t709, .int .i64 t710, .string (⟨#[]⟩ : ByteArray)]) ?_ 2 _ rfl; (with_reducible repeat (first | refine blk_drewN ?_ _ | refine blk_drew ?_ | refine blk_alloc ?_ _)); refine blk_put (cs := #[.int .u8 t709, .int .i64 0, .string (⟨#[]⟩ : ByteArray)]) ?_ 1 _ rfl; (with_reducible repeat (first | refine blk_drewN ?_ _ | refine blk_drew ?_ | refine blk_alloc ?_ _)); refine blk_put (cs := #[.int .u8 0, .int .i64 0, .string (⟨#[]⟩ : ByteArray)]) ?_ 0 _ rfl; (with_reducible repeat (first | refine blk_drewN ?_ _ | refine blk_drew ?_ | refine blk_alloc ?_ _)); exact BK681.out) Try.underlying26 rfl (by kernel_rfl)) rfl ?_
                                  exact ⟨by first | rfl | (simp [errW_none, errW_some] <;> rfl) | (simp [*, errW_none, errW_some] <;> rfl), by repeat (first | (with_reducible first | exact HB.out | apply below_alloc | apply pw_below_drewN | apply below_drew1 | refine below_set ?_ GE680.out | refine below_set ?_ GE681.out | refine below_set ?_ GE682.out) | exact HB.out)⟩
                                · rw [if_neg c80] at H
                                  have c80b0 : (a0.toList == ([117, 56] : List UInt8)) = false := beq_eq_false_iff_ne.mpr c80
                                  have c80b1 : (a0.toList != ([117, 56] : List UInt8)) = true := bne_iff_ne.mpr c80
                                  by_cases c89 : a0.toList = ([117, 49, 54] : List UInt8)
                                  · rw [if_pos c89] at H
                                    have c89b0 : (a0.toList == ([117, 49, 54] : List UInt8)) = true := beq_iff_eq.mpr c89
                                    have c89b1 : (a0.toList != ([117, 49, 54] : List UInt8)) = false := bne_eq_false_iff_eq.mpr c89
                                    clear c89
                                    replace H := Option.bind_eq_some_iff.mp H
                                    obtain ⟨t712, A900, H⟩ := H
                                    replace H : ((sacristanref01_Int.f t712).bind fun bt713 => (some (bt713.1, bt713.2.1, bt713.2.2, 0))) = some (r1, r2, r3, r4) := H
                                    have A90 := Aside0.mk A900
                                    clear A900
                                    replace H := Option.bind_eq_some_iff.mp H
                                    obtain ⟨⟨t713, t714, t715⟩, A910, H⟩ := H
                                    replace H : (some (t713, t714, t715, 0)) = some (r1, r2, r3, r4) := H
                                    have A91 := Aside0.mk A910
                                    clear A910
                                    simp only [Option.some.injEq, Prod.mk.injEq] at H
                                    obtain ⟨rfl, rfl, rfl, rfl⟩ := H
                                    have hnb92 := NB680_681.out
                                    have hnc92 := NB681_680.out
                                    have hnb93 := NB680_682.out
                                    have hnc93 := NB682_680.out
                                    have hcz94_0 : wr.cell? ⟨gb680, 0, none⟩ = some (.int .u8 a1_0) := (blk_cell BK680.out 0).trans rfl
                                    have hcz94_1 : wr.cell? ⟨gb680, 1, none⟩ = some (.int .i64 a1_1) := (blk_cell BK680.out 1).trans rfl
                                    have hcz94_2 : wr.cell? ⟨gb680, 2, none⟩ = some (.string a1_2) := (blk_cell BK680.out 2).trans rfl
                                    have hfz94_0 := blk_frozen BK680.out 0
                                    have hfz94_1 := blk_frozen BK680.out 1
                                    have hfz94_2 := blk_frozen BK680.out 2
                                    go_wp2_with (first | ((with_reducible refine gate_callee (f := 55) rfl ?_); refine goesL_ (some 91) rfl rfl Try.func55 (by kernel_rfl) rfl #[.int .i64 a1_1, .int .i64 65536] rfl (by (try simp only [List.map_toArray, List.map_cons, List.map_nil]); first | done | rfl | (simp only [List.length_drop, List.length_take]; rfl)) ?_; (with_reducible refine (sacristanref01_low.calls a1_1 65536 t712 _ A90.out).mono ?_); rintro e w' ⟨rfl, ⟨nd, rfl⟩⟩; refine ⟨_, rfl, ?_⟩; (try (rw [drewN_self wr]; generalize hq_ : World.drewN wr _ = wr; have n0_ : Aside0 (Kd.R Kd.string 9 wr w.heap.size (fun _ => True) (.slice Ao15 y683.length co15) y683) := ⟨by rw [← hq_]; exact (by (with_reducible repeat (first | apply Kd.R_alloc | apply Kd.R_drewN | apply Kd.R_drew)); exact HO_9.out)⟩; have n1_ : Aside0 (wr.heap[gb680]? = some (.cells #[.int .u8 a1_0, .int .i64 a1_1, .string a1_2] 26 (0, 0))) := ⟨by rw [← hq_]; exact (by (with_reducible repeat (first | refine blk_drewN ?_ _ | refine blk_drew ?_ | refine blk_alloc ?_ _)); exact BK680.out)⟩; have n2_ : Aside0 (wr.heap[gb681]? = some (.cells #[.int .u8 0, .int .i64 0, .string (⟨#[]⟩ : ByteArray)] 26 (0, 0))) := ⟨by rw [← hq_]; exact (by (with_reducible repeat (first | refine blk_drewN ?_ _ | refine blk_drew ?_ | refine blk_alloc ?_ _)); exact BK681.out)⟩; have n3_ : Aside0 (wr.heap[gb682]? = some (.cells #[.int .u8 0, .int .i64 0, .string (⟨#[]⟩ : ByteArray)] 26 (0, 0))) := ⟨by rw [← hq_]; exact (by (with_reducible repeat (first | refine blk_drewN ?_ _ | refine blk_drew ?_ | refine blk_alloc ?_ _)); exact BK682.out)⟩; have n4_ : Aside0 (Below w.heap.size w wr) := ⟨by rw [← hq_]; exact (by repeat (first | (with_reducible first | exact HB.out | apply below_alloc | apply pw_below_drewN | apply below_drew1 | refine below_set ?_ GE680.out | refine below_set ?_ GE681.out | refine below_set ?_ GE682.out) | exact HB.out))⟩; clear HO_9 BK680 BK681 BK682 HB hq_; have HO_9 := n0_; have BK680 := n1_; have BK681 := n2_; have BK682 := n3_; have HB := n4_; clear n0_ n1_ n2_ n3_ n4_))) | ((with_reducible refine gate_callee (f := 34) rfl ?_); refine goesL_ (some 92) rfl rfl Try.func34 (by kernel_rfl) rfl #[.int .i64 t712] rfl (by (try simp only [List.map_toArray, List.map_cons, List.map_nil]); first | done | rfl | (simp only [List.length_drop, List.length_take]; rfl)) ?_; (with_reducible refine (sacristanref01_Int.calls t712 t713 t714 t715 _ A91.out).mono ?_); rintro e w95 ⟨rfl, hb⟩; refine ⟨_, rfl, ?_⟩; have n0_ := Aside0.mk (Kd.R_below (by (with_reducible repeat (first | apply Kd.R_alloc | apply Kd.R_drewN | apply Kd.R_drew)); exact HO_9.out) hb); have n1_ := Aside0.mk (blk_below (g := gb680) (o := .cells #[.int .u8 a1_0, .int .i64 a1_1, .string a1_2] 26 (0, 0)) (by (with_reducible repeat (first | refine blk_drewN ?_ _ | refine blk_drew ?_ | refine blk_alloc ?_ _)); exact BK680.out) hb); have n2_ := Aside0.mk (blk_below (g := gb681) (o := .cells #[.int .u8 0, .int .i64 0, .string (⟨#[]⟩ : ByteArray)] 26 (0, 0)) (by (with_reducible repeat (first | refine blk_drewN ?_ _ | refine blk_drew ?_ | refine blk_alloc ?_ _)); exact BK681.out) hb); have n3_ := Aside0.mk (blk_below (g := gb682) (o := .cells #[.int .u8 0, .int .i64 0, .string (⟨#[]⟩ : ByteArray)] 26 (0, 0)) (by (with_reducible repeat (first | refine blk_drewN ?_ _ | refine blk_drew ?_ | refine blk_alloc ?_ _)); exact BK682.out) hb); have n4_ := Aside0.mk (below_step (by repeat (first | (with_reducible first | exact HB.out | apply below_alloc | apply pw_below_drewN | apply below_drew1 | refine below_set ?_ GE680.out | refine below_set ?_ GE681.out | refine below_set ?_ GE682.out) | exact HB.out)) hb); clear HO_9; clear BK680; clear BK681; clear BK682; clear HB; have HO_9 := n0_; have BK680 := n1_; have BK681 := n2_; have BK682 := n3_; have HB := n4_; clear n0_ n1_ n2_ n3_ n4_; (try clear hb); (try clear hb2); (try clear hk); (try clear hi); have hnb96 := NB681_682.out; have hnc96 := NB682_681.out; have hcz97_0 : w95.cell? ⟨gb681, 0, none⟩ = some (.int .u8 0) := (blk_cell BK681.out 0).trans rfl; have hcz97_1 : w95.cell? ⟨gb681, 1, none⟩ = some (.int .i64 0) := (blk_cell BK681.out 1).trans rfl; have hcz97_2 : w95.cell? ⟨gb681, 2, none⟩ = some (.string (⟨#[]⟩ : ByteArray)) := (blk_cell BK681.out 2).trans rfl; have hfz97_0 := blk_frozen BK681.out 0; have hfz97_1 := blk_frozen BK681.out 1; have hfz97_2 := blk_frozen BK681.out 2))
                                    refine bodyPost_ret (results_ct rfl _ _ gb681 26 #[.int .u8 t713, .int .i64 t714, .string t715] (0, 0) _ rfl (by (with_reducible repeat (first | refine blk_drewN ?_ _ | refine blk_drew ?_ | refine blk_alloc ?_ _)); refine blk_put (cs := #[.int .u8 t713, .int .i64 t714, .string (⟨#[]⟩ : ByteArray)]) ?_ 2 _ rfl; (with_reducible repeat (first | refine blk_drewN ?_ _ | refine blk_drew ?_ | refine blk_alloc ?_ _)); refine blk_put (cs := #[.int .u8 t713, .int .i64 0, .string (⟨#[]⟩ : ByteArray)]) ?_ 1 _ rfl; (with_reducible repeat (first | refine blk_drewN ?_ _ | refine blk_drew ?_ | refine blk_alloc ?_ _)); refine blk_put (cs := #[.int .u8 0, .int .i64 0, .string (⟨#[]⟩ : ByteArray)]) ?_ 0 _ rfl; (with_reducible repeat (first | refine blk_drewN ?_ _ | refine blk_drew ?_ | refine blk_alloc ?_ _)); exact BK681.out) Try.underlying26 rfl (by kernel_rfl)) rfl ?_
                                    exact ⟨by first | rfl | (simp [errW_none, errW_some] <;> rfl) | (simp [*, errW_none, errW_some] <;> rfl), by repeat (first | (with_reducible first | exact HB.out | apply below_alloc | apply pw_below_drewN | apply below_drew1 | refine below_set ?_ GE680.out | refine below_set ?_ GE681.out | refine below_set ?_ GE682.out) | exact HB.out)⟩
                                  · rw [if_neg c89] at H
                                    have c89b0 : (a0.toList == ([117, 49, 54] : List UInt8)) = false := beq_eq_false_iff_ne.mpr c89
                                    have c89b1 : (a0.toList != ([117, 49, 54] : List UInt8)) = true := bne_iff_ne.mpr c89
                                    replace H := Option.bind_eq_some_iff.mp H
                                    obtain ⟨t716, A980, H⟩ := H
                                    replace H : ((sacristanref01_Int.f t716).bind fun bt717 => (some (bt717.1, bt717.2.1, bt717.2.2, 0))) = some (r1, r2, r3, r4) := H
                                    have A98 := Aside0.mk A980
                                    clear A980
                                    replace H := Option.bind_eq_some_iff.mp H
                                    obtain ⟨⟨t717, t718, t719⟩, A990, H⟩ := H
                                    replace H : (some (t717, t718, t719, 0)) = some (r1, r2, r3, r4) := H
                                    have A99 := Aside0.mk A990
                                    clear A990
                                    simp only [Option.some.injEq, Prod.mk.injEq] at H
                                    obtain ⟨rfl, rfl, rfl, rfl⟩ := H
                                    have hnb100 := NB680_681.out
                                    have hnc100 := NB681_680.out
                                    have hnb101 := NB680_682.out
                                    have hnc101 := NB682_680.out
                                    have hcz102_0 : wr.cell? ⟨gb680, 0, none⟩ = some (.int .u8 a1_0) := (blk_cell BK680.out 0).trans rfl
                                    have hcz102_1 : wr.cell? ⟨gb680, 1, none⟩ = some (.int .i64 a1_1) := (blk_cell BK680.out 1).trans rfl
                                    have hcz102_2 : wr.cell? ⟨gb680, 2, none⟩ = some (.string a1_2) := (blk_cell BK680.out 2).trans rfl
                                    have hfz102_0 := blk_frozen BK680.out 0
                                    have hfz102_1 := blk_frozen BK680.out 1
                                    have hfz102_2 := blk_frozen BK680.out 2
                                    go_wp2_with (first | ((with_reducible refine gate_callee (f := 55) rfl ?_); refine goesL_ (some 95) rfl rfl Try.func55 (by kernel_rfl) rfl #[.int .i64 a1_1, .int .i64 4294967296] rfl (by (try simp only [List.map_toArray, List.map_cons, List.map_nil]); first | done | rfl | (simp only [List.length_drop, List.length_take]; rfl)) ?_; (with_reducible refine (sacristanref01_low.calls a1_1 4294967296 t716 _ A98.out).mono ?_); rintro e w' ⟨rfl, ⟨nd, rfl⟩⟩; refine ⟨_, rfl, ?_⟩; (try (rw [drewN_self wr]; generalize hq_ : World.drewN wr _ = wr; have n0_ : Aside0 (Kd.R Kd.string 9 wr w.heap.size (fun _ => True) (.slice Ao15 y683.length co15) y683) := ⟨by rw [← hq_]; exact (by (with_reducible repeat (first | apply Kd.R_alloc | apply Kd.R_drewN | apply Kd.R_drew)); exact HO_9.out)⟩; have n1_ : Aside0 (wr.heap[gb680]? = some (.cells #[.int .u8 a1_0, .int .i64 a1_1, .string a1_2] 26 (0, 0))) := ⟨by rw [← hq_]; exact (by (with_reducible repeat (first | refine blk_drewN ?_ _ | refine blk_drew ?_ | refine blk_alloc ?_ _)); exact BK680.out)⟩; have n2_ : Aside0 (wr.heap[gb681]? = some (.cells #[.int .u8 0, .int .i64 0, .string (⟨#[]⟩ : ByteArray)] 26 (0, 0))) := ⟨by rw [← hq_]; exact (by (with_reducible repeat (first | refine blk_drewN ?_ _ | refine blk_drew ?_ | refine blk_alloc ?_ _)); exact BK681.out)⟩; have n3_ : Aside0 (wr.heap[gb682]? = some (.cells #[.int .u8 0, .int .i64 0, .string (⟨#[]⟩ : ByteArray)] 26 (0, 0))) := ⟨by rw [← hq_]; exact (by (with_reducible repeat (first | refine blk_drewN ?_ _ | refine blk_drew ?_ | refine blk_alloc ?_ _)); exact BK682.out)⟩; have n4_ : Aside0 (Below w.heap.size w wr) := ⟨by rw [← hq_]; exact (by repeat (first | (with_reducible first | exact HB.out | apply below_alloc | apply pw_below_drewN | apply below_drew1 | refine below_set ?_ GE680.out | refine below_set ?_ GE681.out | refine below_set ?_ GE682.out) | exact HB.out))⟩; clear HO_9 BK680 BK681 BK682 HB hq_; have HO_9 := n0_; have BK680 := n1_; have BK681 := n2_; have BK682 := n3_; have HB := n4_; clear n0_ n1_ n2_ n3_ n4_))) | ((with_reducible refine gate_callee (f := 34) rfl ?_); refine goesL_ (some 96) rfl rfl Try.func34 (by kernel_rfl) rfl #[.int .i64 t716] rfl (by (try simp only [List.map_toArray, List.map_cons, List.map_nil]); first | done | rfl | (simp only [List.length_drop, List.length_take]; rfl)) ?_; (with_reducible refine (sacristanref01_Int.calls t716 t717 t718 t719 _ A99.out).mono ?_); rintro e w103 ⟨rfl, hb⟩; refine ⟨_, rfl, ?_⟩; have n0_ := Aside0.mk (Kd.R_below (by (with_reducible repeat (first | apply Kd.R_alloc | apply Kd.R_drewN | apply Kd.R_drew)); exact HO_9.out) hb); have n1_ := Aside0.mk (blk_below (g := gb680) (o := .cells #[.int .u8 a1_0, .int .i64 a1_1, .string a1_2] 26 (0, 0)) (by (with_reducible repeat (first | refine blk_drewN ?_ _ | refine blk_drew ?_ | refine blk_alloc ?_ _)); exact BK680.out) hb); have n2_ := Aside0.mk (blk_below (g := gb681) (o := .cells #[.int .u8 0, .int .i64 0, .string (⟨#[]⟩ : ByteArray)] 26 (0, 0)) (by (with_reducible repeat (first | refine blk_drewN ?_ _ | refine blk_drew ?_ | refine blk_alloc ?_ _)); exact BK681.out) hb); have n3_ := Aside0.mk (blk_below (g := gb682) (o := .cells #[.int .u8 0, .int .i64 0, .string (⟨#[]⟩ : ByteArray)] 26 (0, 0)) (by (with_reducible repeat (first | refine blk_drewN ?_ _ | refine blk_drew ?_ | refine blk_alloc ?_ _)); exact BK682.out) hb); have n4_ := Aside0.mk (below_step (by repeat (first | (with_reducible first | exact HB.out | apply below_alloc | apply pw_below_drewN | apply below_drew1 | refine below_set ?_ GE680.out | refine below_set ?_ GE681.out | refine below_set ?_ GE682.out) | exact HB.out)) hb); clear HO_9; clear BK680; clear BK681; clear BK682; clear HB; have HO_9 := n0_; have BK680 := n1_; have BK681 := n2_; have BK682 := n3_; have HB := n4_; clear n0_ n1_ n2_ n3_ n4_; (try clear hb); (try clear hb2); (try clear hk); (try clear hi); have hnb104 := NB681_682.out; have hnc104 := NB682_681.out; have hcz105_0 : w103.cell? ⟨gb681, 0, none⟩ = some (.int .u8 0) := (blk_cell BK681.out 0).trans rfl; have hcz105_1 : w103.cell? ⟨gb681, 1, none⟩ = some (.int .i64 0) := (blk_cell BK681.out 1).trans rfl; have hcz105_2 : w103.cell? ⟨gb681, 2, none⟩ = some (.string (⟨#[]⟩ : ByteArray)) := (blk_cell BK681.out 2).trans rfl; have hfz105_0 := blk_frozen BK681.out 0; have hfz105_1 := blk_frozen BK681.out 1; have hfz105_2 := blk_frozen BK681.out 2))
                                    refine bodyPost_ret (results_ct rfl _ _ gb681 26 #[.int .u8 t717, .int .i64 t718, .string t719] (0, 0) _ rfl (by (with_reducible repeat (first | refine blk_drewN ?_ _ | refine blk_drew ?_ | refine blk_alloc ?_ _)); refine blk_put (cs := #[.int .u8 t717, .int .i64 t718, .string (⟨#[]⟩ : ByteArray)]) ?_ 2 _ rfl; (with_reducible repeat (first | refine blk_drewN ?_ _ | refine blk_drew ?_ | refine blk_alloc ?_ _)); refine blk_put (cs := #[.int .u8 t717, .int .i64 0, .string (⟨#[]⟩ : ByteArray)]) ?_ 1 _ rfl; (with_reducible repeat (first | refine blk_drewN ?_ _ | refine blk_drew ?_ | refine blk_alloc ?_ _)); refine blk_put (cs := #[.int .u8 0, .int .i64 0, .string (⟨#[]⟩ : ByteArray)]) ?_ 0 _ rfl; (with_reducible repeat (first | refine blk_drewN ?_ _ | refine blk_drew ?_ | refine blk_alloc ?_ _)); exact BK681.out) Try.underlying26 rfl (by kernel_rfl)) rfl ?_
                                    exact ⟨by first | rfl | (simp [errW_none, errW_some] <;> rfl) | (simp [*, errW_none, errW_some] <;> rfl), by repeat (first | (with_reducible first | exact HB.out | apply below_alloc | apply pw_below_drewN | apply below_drew1 | refine below_set ?_ GE680.out | refine below_set ?_ GE681.out | refine below_set ?_ GE682.out) | exact HB.out)⟩
                  · rw [if_neg c21] at H
                    have c21b0 : (a1_0 == x7_10) = false := beq_eq_false_iff_ne.mpr c21
                    have c21b1 : (a1_0 != x7_10) = true := bne_iff_ne.mpr c21
                    simp only [Option.some.injEq, Prod.mk.injEq] at H
                    obtain ⟨rfl, rfl, rfl, rfl⟩ := H
                    have hnb106 := NB680_681.out
                    have hnc106 := NB681_680.out
                    have hnb107 := NB680_682.out
                    have hnc107 := NB682_680.out
                    have hcz108_0 : wr.cell? ⟨gb680, 0, none⟩ = some (.int .u8 a1_0) := (blk_cell BK680.out 0).trans rfl
                    have hcz108_1 : wr.cell? ⟨gb680, 1, none⟩ = some (.int .i64 a1_1) := (blk_cell BK680.out 1).trans rfl
                    have hcz108_2 : wr.cell? ⟨gb680, 2, none⟩ = some (.string a1_2) := (blk_cell BK680.out 2).trans rfl
                    have hfz108_0 := blk_frozen BK680.out 0
                    have hfz108_1 := blk_frozen BK680.out 1
                    have hfz108_2 := blk_frozen BK680.out 2
                    have hnb109 := NB682_681.out
                    have hnc109 := NB681_682.out
                    have hcz110_0 : wr.cell? ⟨gb682, 0, none⟩ = some (.int .u8 0) := (blk_cell BK682.out 0).trans rfl
                    have hcz110_1 : wr.cell? ⟨gb682, 1, none⟩ = some (.int .i64 0) := (blk_cell BK682.out 1).trans rfl
                    have hcz110_2 : wr.cell? ⟨gb682, 2, none⟩ = some (.string (⟨#[]⟩ : ByteArray)) := (blk_cell BK682.out 2).trans rfl
                    have hfz110_0 := blk_frozen BK682.out 0
                    have hfz110_1 := blk_frozen BK682.out 1
                    have hfz110_2 := blk_frozen BK682.out 2
                    have hcz111_0 : wr.cell? ⟨gb681, 0, none⟩ = some (.int .u8 0) := (blk_cell BK681.out 0).trans rfl
                    have hcz111_1 : wr.cell? ⟨gb681, 1, none⟩ = some (.int .i64 0) := (blk_cell BK681.out 1).trans rfl
                    have hcz111_2 : wr.cell? ⟨gb681, 2, none⟩ = some (.string (⟨#[]⟩ : ByteArray)) := (blk_cell BK681.out 2).trans rfl
                    have hfz111_0 := blk_frozen BK681.out 0
                    have hfz111_1 := blk_frozen BK681.out 1
                    have hfz111_2 := blk_frozen BK681.out 2
                    go_wp2
                    refine bodyPost_ret (results_ct rfl _ _ gb681 26 #[.int .u8 0, .int .i64 0, .string (⟨#[]⟩ : ByteArray)] (0, 0) _ rfl (by (with_reducible repeat (first | refine blk_drewN ?_ _ | refine blk_drew ?_ | refine blk_alloc ?_ _)); refine blk_put (cs := #[.int .u8 0, .int .i64 0, .string (⟨#[]⟩ : ByteArray)]) ?_ 2 _ rfl; (with_reducible repeat (first | refine blk_drewN ?_ _ | refine blk_drew ?_ | refine blk_alloc ?_ _)); refine blk_put (cs := #[.int .u8 0, .int .i64 0, .string (⟨#[]⟩ : ByteArray)]) ?_ 1 _ rfl; (with_reducible repeat (first | refine blk_drewN ?_ _ | refine blk_drew ?_ | refine blk_alloc ?_ _)); refine blk_put (cs := #[.int .u8 0, .int .i64 0, .string (⟨#[]⟩ : ByteArray)]) ?_ 0 _ rfl; (with_reducible repeat (first | refine blk_drewN ?_ _ | refine blk_drew ?_ | refine blk_alloc ?_ _)); exact BK681.out) Try.underlying26 rfl (by kernel_rfl)) rfl ?_
                    exact ⟨by first | rfl | (simp [errW_none, errW_some] <;> rfl) | (simp [*, errW_none, errW_some] <;> rfl), by repeat (first | (with_reducible first | exact HB.out | apply below_alloc | apply pw_below_drewN | apply below_drew1 | refine below_set ?_ GE680.out | refine below_set ?_ GE681.out | refine below_set ?_ GE682.out) | exact HB.out)⟩
                · replace c20 := Bool.eq_false_iff.mpr c20
                  subst c20
                  have H1 : (some (0, 0, (⟨#[]⟩ : ByteArray), 1)) = some (r1, r2, r3, r4) := by rw [if_neg (show ¬ (false = true) by decide)] at H; exact H
                  clear H
                  have H := H1
                  clear H1
                  simp only [Option.some.injEq, Prod.mk.injEq] at H
                  obtain ⟨rfl, rfl, rfl, rfl⟩ := H
                  have hnb112 := NB682_680.out
                  have hnc112 := NB680_682.out
                  have hnb113 := NB682_681.out
                  have hnc113 := NB681_682.out
                  have hcz114_0 : wr.cell? ⟨gb682, 0, none⟩ = some (.int .u8 0) := (blk_cell BK682.out 0).trans rfl
                  have hcz114_1 : wr.cell? ⟨gb682, 1, none⟩ = some (.int .i64 0) := (blk_cell BK682.out 1).trans rfl
                  have hcz114_2 : wr.cell? ⟨gb682, 2, none⟩ = some (.string (⟨#[]⟩ : ByteArray)) := (blk_cell BK682.out 2).trans rfl
                  have hfz114_0 := blk_frozen BK682.out 0
                  have hfz114_1 := blk_frozen BK682.out 1
                  have hfz114_2 := blk_frozen BK682.out 2
                  have hnb115 := NB681_680.out
                  have hnc115 := NB680_681.out
                  have hcz116_0 : wr.cell? ⟨gb681, 0, none⟩ = some (.int .u8 0) := (blk_cell BK681.out 0).trans rfl
                  have hcz116_1 : wr.cell? ⟨gb681, 1, none⟩ = some (.int .i64 0) := (blk_cell BK681.out 1).trans rfl
                  have hcz116_2 : wr.cell? ⟨gb681, 2, none⟩ = some (.string (⟨#[]⟩ : ByteArray)) := (blk_cell BK681.out 2).trans rfl
                  have hfz116_0 := blk_frozen BK681.out 0
                  have hfz116_1 := blk_frozen BK681.out 1
                  have hfz116_2 := blk_frozen BK681.out 2
                  go_wp2
                  refine bodyPost_ret (results_ct rfl _ _ gb681 26 #[.int .u8 0, .int .i64 0, .string (⟨#[]⟩ : ByteArray)] (0, 0) _ rfl (by (with_reducible repeat (first | refine blk_drewN ?_ _ | refine blk_drew ?_ | refine blk_alloc ?_ _)); refine blk_put (cs := #[.int .u8 0, .int .i64 0, .string (⟨#[]⟩ : ByteArray)]) ?_ 2 _ rfl; (with_reducible repeat (first | refine blk_drewN ?_ _ | refine blk_drew ?_ | refine blk_alloc ?_ _)); refine blk_put (cs := #[.int .u8 0, .int .i64 0, .string (⟨#[]⟩ : ByteArray)]) ?_ 1 _ rfl; (with_reducible repeat (first | refine blk_drewN ?_ _ | refine blk_drew ?_ | refine blk_alloc ?_ _)); refine blk_put (cs := #[.int .u8 0, .int .i64 0, .string (⟨#[]⟩ : ByteArray)]) ?_ 0 _ rfl; (with_reducible repeat (first | refine blk_drewN ?_ _ | refine blk_drew ?_ | refine blk_alloc ?_ _)); exact BK681.out) Try.underlying26 rfl (by kernel_rfl)) rfl ?_
                  exact ⟨by first | rfl | (simp [errW_none, errW_some] <;> rfl) | (simp [*, errW_none, errW_some] <;> rfl), by repeat (first | (with_reducible first | exact HB.out | apply below_alloc | apply pw_below_drewN | apply below_drew1 | refine below_set ?_ GE680.out | refine below_set ?_ GE681.out | refine below_set ?_ GE682.out) | exact HB.out)⟩

end Go.Proofs.Ytahcnpjgbhpbeaa.PV
