-- Own text: made by this session's variant of the printer (wip/mkpp.py); Lean checks it.
import Derived.Test.YtjkjbfhhfdbnoaaRa
import Derived.Test.YtjkjbfhhfdbnoaaRi
import Derived.Test.YtjkjbfhhfdbnoaaPBx0
import Derived.Test.YtjkjbfhhfdbnoaaPBx3
import Derived.Test.YtjkjbfhhfdbnoaaPBx8
import Derived.Test.YtjkjbfhhfdbnoaaPBy15
import Derived.Test.YtjkjbfhhfdbnoaaPBx17
namespace Go.Proofs.Ytjkjbfhhfdbnoaa.PB
open Go.RowKit Go.Proofs.YtjkjbfhhfdbnoaaW.PrintWords Go.Proofs.YtjkjbfhhfdbnoaaW.PrintLast Go.Proofs.YtjkjbfhhfdbnoaaW.PrintMore Go.Proofs.YtjkjbfhhfdbnoaaW.Own
attribute [local go_sem high] own_gtr own_leq own_geq
attribute [local go_sem] max2_int min2_int max_two min_two max_three min_three max_four min_four   -- for this text's walks alone
set_option linter.unusedVariables false
set_option linter.unusedSimpArgs false

/-! ### sacristanlaw18_SweepLast: function 6 -/
mutual
def sacristanlaw18_SweepLast.j0 : Nat → Bool → Int → Int → Int → List (S39) → Int → List Int → List Int → Int → Int → Int → Option (Bool)
  | 0, _, _, _, _, _, _, _, _, _, _, _ => none
  | k + 1, x12, x495000, x495001, x495002, x495003, x495004, x495005, x495006, x495007, x495008, x495009 => if x12 = true then ((sacristanlaw18_awake.f).bind fun t497 => (some t497)) else ((sweep_Sweep.f x495000 x495001 x495002 x495003 x495004 x495005 x495006 x495007 x495008 x495009).bind fun bt498 => (sacristanlaw18_SweepLast.l0 k 0 x495000 x495001 x495002 x495003 x495004 x495005 x495006 x495007 x495008 x495009 bt498.1 bt498.2.1 bt498.2.2.1 bt498.2.2.2.1 bt498.2.2.2.2.1 bt498.2.2.2.2.2.1 bt498.2.2.2.2.2.2.1 bt498.2.2.2.2.2.2.2.1 bt498.2.2.2.2.2.2.2.2.1 bt498.2.2.2.2.2.2.2.2.2))
def sacristanlaw18_SweepLast.l0 : Nat → Int → Int → Int → Int → List (S39) → Int → List Int → List Int → Int → Int → Int → Int → Int → Int → List (S39) → Int → List Int → List Int → Int → Int → Int → Option (Bool)
  | 0, _, _, _, _, _, _, _, _, _, _, _, _, _, _, _, _, _, _, _, _, _ => none
  | k + 1, x4, x495000, x495001, x495002, x495003, x495004, x495005, x495006, x495007, x495008, x495009, x515000, x515001, x515002, x515003, x515004, x515005, x515006, x515007, x515008, x515009 => if x4 < (x515003.length : Int) then (if 0 ≤ x4 then (if ((rd_T39 x515003 x4).f0) ≤ 2 then (if 0 ≤ (wrap64 (x4 + 1)) then (if (wrap64 (x4 + 1)) ≤ (x515003.length : Int) then ((sacristanref18_Read.f k x515000 x515001 x515002 x515003 x515004 x515005 x515006 x515007 x515008 x515009 (x515003.drop ((wrap64 (x4 + 1)) : Int).toNat) ((rd_T39 x515003 x4).f1)).bind fun t522 => (if t522 = true then (sacristanlaw18_SweepLast.l0 k (wrap64 (x4 + 1)) x495000 x495001 x495002 x495003 x495004 x495005 x495006 x495007 x495008 x495009 x515000 x515001 x515002 x515003 x515004 x515005 x515006 x515007 x515008 x515009) else (some false))) else (none)) else (none)) else (sacristanlaw18_SweepLast.l0 k (wrap64 (x4 + 1)) x495000 x495001 x495002 x495003 x495004 x495005 x495006 x495007 x495008 x495009 x515000 x515001 x515002 x515003 x515004 x515005 x515006 x515007 x515008 x515009)) else (none)) else (if (x515003.length : Int) ≤ (x495003.length : Int) then ((sacristanlaw18_awake.f).bind fun t515 => (some t515)) else (some false))
end
def sacristanlaw18_SweepLast.f (k : Nat) (a0_0 : Int) (a0_1 : Int) (a0_2 : Int) (l0_3 : List (S39)) (a0_4 : Int) (l0_5 : List Int) (l0_6 : List Int) (a0_7 : Int) (a0_8 : Int) (a0_9 : Int) : Option (Bool) := (sacristanref15_Great.f k a0_0 a0_1 a0_2 l0_3 a0_4 l0_5 l0_6 a0_7 a0_8 a0_9 ([] : List (S37)) ([] : List (S37)) ([] : List (S37)) ([] : List (S54))).bind fun t495 => (if t495 = true then (sacristanlaw18_SweepLast.j0 k true a0_0 a0_1 a0_2 l0_3 a0_4 l0_5 l0_6 a0_7 a0_8 a0_9) else ((sacristanref15_May.f k a0_0 a0_1 a0_2 l0_3 a0_4 l0_5 l0_6 a0_7 a0_8 a0_9).bind fun t496 => (sacristanlaw18_SweepLast.j0 k (!t496) a0_0 a0_1 a0_2 l0_3 a0_4 l0_5 l0_6 a0_7 a0_8 a0_9)))
theorem sacristanlaw18_SweepLast.mono_l : ∀ k, (∀ y0 y1 y2 y3 y4 y5 y6 y7 y8 y9 y10, LeO (sacristanlaw18_SweepLast.j0 k y0 y1 y2 y3 y4 y5 y6 y7 y8 y9 y10) (sacristanlaw18_SweepLast.j0 (k + 1) y0 y1 y2 y3 y4 y5 y6 y7 y8 y9 y10)) ∧ (∀ y0 y1 y2 y3 y4 y5 y6 y7 y8 y9 y10 y11 y12 y13 y14 y15 y16 y17 y18 y19 y20, LeO (sacristanlaw18_SweepLast.l0 k y0 y1 y2 y3 y4 y5 y6 y7 y8 y9 y10 y11 y12 y13 y14 y15 y16 y17 y18 y19 y20) (sacristanlaw18_SweepLast.l0 (k + 1) y0 y1 y2 y3 y4 y5 y6 y7 y8 y9 y10 y11 y12 y13 y14 y15 y16 y17 y18 y19 y20))
  | 0 => ⟨fun _ _ _ _ _ _ _ _ _ _ _ r h => by simp [sacristanlaw18_SweepLast.j0] at h, fun _ _ _ _ _ _ _ _ _ _ _ _ _ _ _ _ _ _ _ _ _ r h => by simp [sacristanlaw18_SweepLast.l0] at h⟩
  | k + 1 => by
    obtain ⟨ih0, ih1⟩ := sacristanlaw18_SweepLast.mono_l k
    refine ⟨?_, ?_⟩
    · intro y0 y1 y2 y3 y4 y5 y6 y7 y8 y9 y10
      unfold sacristanlaw18_SweepLast.j0
      repeat' first
      | (with_reducible exact ih0 _ _ _ _ _ _ _ _ _ _ _)
      | (with_reducible exact ih1 _ _ _ _ _ _ _ _ _ _ _ _ _ _ _ _ _ _ _ _ _)
      | (with_reducible exact sacristanref15_Great.mono _ _ _ _ _ _ _ _ _ _ _ _ _ _ _)
      | (with_reducible exact sacristanref15_May.mono _ _ _ _ _ _ _ _ _ _ _)
      | (with_reducible exact sacristanref18_Read.mono _ _ _ _ _ _ _ _ _ _ _ _ _)
      | (with_reducible exact LeO.refl _)
      | (with_reducible exact LeO.none _)
      | (with_reducible refine LeO.ite ?_ ?_)
      | (with_reducible refine LeO.bind ?_ (fun _ => ?_))
      | exact ih0 _ _ _ _ _ _ _ _ _ _ _
      | exact ih1 _ _ _ _ _ _ _ _ _ _ _ _ _ _ _ _ _ _ _ _ _
      | exact sacristanref15_Great.mono _ _ _ _ _ _ _ _ _ _ _ _ _ _ _
      | exact sacristanref15_May.mono _ _ _ _ _ _ _ _ _ _ _
      | exact sacristanref18_Read.mono _ _ _ _ _ _ _ _ _ _ _ _ _
      | exact LeO.none _
      | refine LeO.ite ?_ ?_
      | refine LeO.bind ?_ (fun _ => ?_)
    · intro y0 y1 y2 y3 y4 y5 y6 y7 y8 y9 y10 y11 y12 y13 y14 y15 y16 y17 y18 y19 y20
      unfold sacristanlaw18_SweepLast.l0
      repeat' first
      | (with_reducible exact ih0 _ _ _ _ _ _ _ _ _ _ _)
      | (with_reducible exact ih1 _ _ _ _ _ _ _ _ _ _ _ _ _ _ _ _ _ _ _ _ _)
      | (with_reducible exact sacristanref15_Great.mono _ _ _ _ _ _ _ _ _ _ _ _ _ _ _)
      | (with_reducible exact sacristanref15_May.mono _ _ _ _ _ _ _ _ _ _ _)
      | (with_reducible exact sacristanref18_Read.mono _ _ _ _ _ _ _ _ _ _ _ _ _)
      | (with_reducible exact LeO.refl _)
      | (with_reducible exact LeO.none _)
      | (with_reducible refine LeO.ite ?_ ?_)
      | (with_reducible refine LeO.bind ?_ (fun _ => ?_))
      | exact ih0 _ _ _ _ _ _ _ _ _ _ _
      | exact ih1 _ _ _ _ _ _ _ _ _ _ _ _ _ _ _ _ _ _ _ _ _
      | exact sacristanref15_Great.mono _ _ _ _ _ _ _ _ _ _ _ _ _ _ _
      | exact sacristanref15_May.mono _ _ _ _ _ _ _ _ _ _ _
      | exact sacristanref18_Read.mono _ _ _ _ _ _ _ _ _ _ _ _ _
      | exact LeO.none _
      | refine LeO.ite ?_ ?_
      | refine LeO.bind ?_ (fun _ => ?_)
theorem sacristanlaw18_SweepLast.mono : ∀ a0 a1 a2 a3 a4 a5 a6 a7 a8 a9 k, LeO (sacristanlaw18_SweepLast.f k a0 a1 a2 a3 a4 a5 a6 a7 a8 a9) (sacristanlaw18_SweepLast.f (k + 1) a0 a1 a2 a3 a4 a5 a6 a7 a8 a9) := by
  intro a0 a1 a2 a3 a4 a5 a6 a7 a8 a9 k
  obtain ⟨ih0, ih1⟩ := sacristanlaw18_SweepLast.mono_l k
  unfold sacristanlaw18_SweepLast.f
  repeat' first
      | (with_reducible exact ih0 _ _ _ _ _ _ _ _ _ _ _)
      | (with_reducible exact ih1 _ _ _ _ _ _ _ _ _ _ _ _ _ _ _ _ _ _ _ _ _)
      | (with_reducible exact sacristanref15_Great.mono _ _ _ _ _ _ _ _ _ _ _ _ _ _ _)
      | (with_reducible exact sacristanref15_May.mono _ _ _ _ _ _ _ _ _ _ _)
      | (with_reducible exact sacristanref18_Read.mono _ _ _ _ _ _ _ _ _ _ _ _ _)
      | (with_reducible exact LeO.refl _)
      | (with_reducible exact LeO.none _)
      | (with_reducible refine LeO.ite ?_ ?_)
      | (with_reducible refine LeO.bind ?_ (fun _ => ?_))
      | exact ih0 _ _ _ _ _ _ _ _ _ _ _
      | exact ih1 _ _ _ _ _ _ _ _ _ _ _ _ _ _ _ _ _ _ _ _ _
      | exact sacristanref15_Great.mono _ _ _ _ _ _ _ _ _ _ _ _ _ _ _
      | exact sacristanref15_May.mono _ _ _ _ _ _ _ _ _ _ _
      | exact sacristanref18_Read.mono _ _ _ _ _ _ _ _ _ _ _ _ _
      | exact LeO.none _
      | refine LeO.ite ?_ ?_
      | refine LeO.bind ?_ (fun _ => ?_)
def sacristanlaw18_SweepLast.T7 : Bool × List (List Nat × List Nat) := (true, [([], []), ([0], [0]), ([], []), ([1, 2], [1, 2]), ([3], [3]), ([4], [4]), ([5], [5]), ([6], [6]), ([7], [7]), ([7], [7]), ([9, 7], [7, 9]), ([7], [7]), ([11, 7], [7, 11]), ([10, 12, 7], [7, 10, 12]), ([7], [7]), ([14, 7], [7, 14]), ([7], [7]), ([15, 16, 7], [7, 15, 16]), ([17, 7], [7, 17]), ([18, 7], [7, 18]), ([8, 13, 19, 7, 7], [7, 8, 13, 19]), ([20, 7], [7, 20]), ([7, 21], [7, 21])])
def sacristanlaw18_SweepLast.B7 : List Nat := [0, 1, 0, 7, 15, 31, 63, 127, 255, 255, 767, 255, 2303, 7935, 255, 16639, 255, 114943, 246015, 508159, 1048575, 2097151, 4194303]
theorem sacristanlaw18_SweepLast.tab7 : rtab .any (opsOf Try.f6 7) = sacristanlaw18_SweepLast.T7 := by kernel_rfl
theorem sacristanlaw18_SweepLast.bits7 : waitsOk sacristanlaw18_SweepLast.T7.2 sacristanlaw18_SweepLast.B7 = true := by kernel_rfl
set_option maxHeartbeats 8000000 in
set_option maxRecDepth 100000 in
theorem sacristanlaw18_SweepLast.calls (k : Nat) (a0_0 : Int) (a0_1 : Int) (a0_2 : Int) (A0_3 : Option Addr) (c0_3 : Nat) (l0_3 : List (S39)) (a0_4 : Int) (A0_5 : Option Addr) (c0_5 : Nat) (l0_5 : List Int) (A0_6 : Option Addr) (c0_6 : Nat) (l0_6 : List Int) (a0_7 : Int) (a0_8 : Int) (a0_9 : Int) (r : Bool) (w : World) (hr0_3 : Kd.C k39 w A0_3 l0_3.length l0_3) (hc0_3 : l0_3.length ≤ c0_3) (hr0_5 : Kd.C (Kd.int .i64) w A0_5 l0_5.length l0_5) (hc0_5 : l0_5.length ≤ c0_5) (hr0_6 : Kd.C (Kd.int .i64) w A0_6 l0_6.length l0_6) (hc0_6 : l0_6.length ≤ c0_6) (hM : NW.MaxOk w) (h : sacristanlaw18_SweepLast.f k a0_0 a0_1 a0_2 l0_3 a0_4 l0_5 l0_6 a0_7 a0_8 a0_9 = some r) :
    Calls Try.prog 6 #[.agg #[.int .i64 a0_0, .int .i64 a0_1, .int .i64 a0_2, .slice A0_3 l0_3.length c0_3, .int .i64 a0_4, .slice A0_5 l0_5.length c0_5, .slice A0_6 l0_6.length c0_6, .int .i64 a0_7, .int .i64 a0_8, .int .i64 a0_9]] w fun e w' => e = .returned (.bool r) ∧ Below w.heap.size w w' := by
  have hu25 := Try.underlying25
  have hu29 := Try.underlying29
  have HR0_3 := Aside0.mk hr0_3
  have HC0_3 := Aside0.mk hc0_3
  clear hr0_3 hc0_3
  have HR0_5 := Aside0.mk hr0_5
  have HC0_5 := Aside0.mk hc0_5
  clear hr0_5 hc0_5
  have HR0_6 := Aside0.mk hr0_6
  have HC0_6 := Aside0.mk hc0_6
  clear hr0_6 hc0_6
  have HB := Aside0.mk (Below.refl w.heap.size w)
  have HMX := Aside0.mk hM
  clear hM
  have H : ((sacristanref15_Great.f k a0_0 a0_1 a0_2 l0_3 a0_4 l0_5 l0_6 a0_7 a0_8 a0_9 ([] : List (S37)) ([] : List (S37)) ([] : List (S37)) ([] : List (S54))).bind fun t495 => (if t495 = true then (sacristanlaw18_SweepLast.j0 k true a0_0 a0_1 a0_2 l0_3 a0_4 l0_5 l0_6 a0_7 a0_8 a0_9) else ((sacristanref15_May.f k a0_0 a0_1 a0_2 l0_3 a0_4 l0_5 l0_6 a0_7 a0_8 a0_9).bind fun t496 => (sacristanlaw18_SweepLast.j0 k (!t496) a0_0 a0_1 a0_2 l0_3 a0_4 l0_5 l0_6 a0_7 a0_8 a0_9)))) = some r := h
  clear h
  have HC2 := Aside0.mk H
  clear H
  go_enter Try.func6, Try.ntmps6
  go_upto_region 1 with (first | ((with_reducible refine gate_dst (N := 1) rfl ?_); refine box_event ?hg (N := 1) ?hd (cs := #[.int .i64 a0_0, .int .i64 a0_1, .int .i64 a0_2, .slice A0_3 l0_3.length c0_3, .int .i64 a0_4, .slice A0_5 l0_5.length c0_5, .slice A0_6 l0_6.length c0_6, .int .i64 a0_7, .int .i64 a0_8, .int .i64 a0_9]) (t := 25) ?hr ?_; (case hd => rfl); (case hg => rfl); (case hr => first | (go_simp; done) | (go_simp; rfl)); intro gb494 hg w3 hbox hb; have n0_ := Aside0.mk (below_step (by repeat (first | (with_reducible first | exact HB.out | apply below_alloc | apply pw_below_drewN | apply below_drew1) | exact HB.out)) hb); have n1_ := Aside0.mk (hbox); have n2_ := Aside0.mk ((by rw [hg]; exact (below_size (by repeat (first | (with_reducible first | exact HB.out | apply below_alloc | apply pw_below_drewN | apply below_drew1) | exact HB.out))) : w.heap.size ≤ gb494)); have n3_ := Aside0.mk ((by rw [hg]; exact (below_size (by repeat (first | (with_reducible first | exact HB.out | apply below_alloc | apply pw_below_drewN | apply below_drew1) | exact HB.out))) : w.heap.size ≤ gb494)); clear HB; have HB := n0_; have BK494 := n1_; have GW494 := n2_; have GE494 := n3_; clear n0_ n1_ n2_ n3_; clear hb hbox hg))
  (try simp only [Act.put, List.setIfInBounds_toArray, List.set_cons_zero, List.set_cons_succ])
  go_cut [12] (fun v12 wc => ∃ (kq : Nat) (x12_1 : Bool), v12 = .bool x12_1 ∧ Aside0 (sacristanlaw18_SweepLast.j0 kq x12_1 a0_0 a0_1 a0_2 l0_3 a0_4 l0_5 l0_6 a0_7 a0_8 a0_9 = some r) ∧ Aside0 (kq ≤ k) ∧ Aside0 (wc.heap[gb494]? = some (.cells #[.int .i64 a0_0, .int .i64 a0_1, .int .i64 a0_2, (.slice A0_3 l0_3.length c0_3), .int .i64 a0_4, (.slice A0_5 l0_5.length c0_5), (.slice A0_6 l0_6.length c0_6), .int .i64 a0_7, .int .i64 a0_8, .int .i64 a0_9] 25 (0, 0))) ∧ Aside0 (Below w.heap.size w wc))
  case first =>
    have H := HC2.out
    clear HC2
    replace H := Option.bind_eq_some_iff.mp H
    obtain ⟨t495, A40, H⟩ := H
    (try dsimp only at H)
    have A4 := Aside0.mk A40
    clear A40
    by_cases c5 : t495 = true
    · subst c5
      have H1 : (sacristanlaw18_SweepLast.j0 k true a0_0 a0_1 a0_2 l0_3 a0_4 l0_5 l0_6 a0_7 a0_8 a0_9) = some r := by rw [if_pos rfl] at H; exact H
      clear H
      have H := H1
      clear H1
      have H' := Aside0.mk H
      clear H
      have hcz6_0 : w3.cell? ⟨gb494, 0, none⟩ = some (.int .i64 a0_0) := (blk_cell BK494.out 0).trans rfl
      have hcz6_1 : w3.cell? ⟨gb494, 1, none⟩ = some (.int .i64 a0_1) := (blk_cell BK494.out 1).trans rfl
      have hcz6_2 : w3.cell? ⟨gb494, 2, none⟩ = some (.int .i64 a0_2) := (blk_cell BK494.out 2).trans rfl
      have hcz6_3 : w3.cell? ⟨gb494, 3, none⟩ = some (.slice A0_3 l0_3.length c0_3) := (blk_cell BK494.out 3).trans rfl
      have hcz6_4 : w3.cell? ⟨gb494, 4, none⟩ = some (.int .i64 a0_4) := (blk_cell BK494.out 4).trans rfl
      have hcz6_5 : w3.cell? ⟨gb494, 5, none⟩ = some (.slice A0_5 l0_5.length c0_5) := (blk_cell BK494.out 5).trans rfl
      have hcz6_6 : w3.cell? ⟨gb494, 6, none⟩ = some (.slice A0_6 l0_6.length c0_6) := (blk_cell BK494.out 6).trans rfl
      have hcz6_7 : w3.cell? ⟨gb494, 7, none⟩ = some (.int .i64 a0_7) := (blk_cell BK494.out 7).trans rfl
      have hcz6_8 : w3.cell? ⟨gb494, 8, none⟩ = some (.int .i64 a0_8) := (blk_cell BK494.out 8).trans rfl
      have hcz6_9 : w3.cell? ⟨gb494, 9, none⟩ = some (.int .i64 a0_9) := (blk_cell BK494.out 9).trans rfl
      have hfz6_0 := blk_frozen BK494.out 0
      have hfz6_1 := blk_frozen BK494.out 1
      have hfz6_2 := blk_frozen BK494.out 2
      have hfz6_3 := blk_frozen BK494.out 3
      have hfz6_4 := blk_frozen BK494.out 4
      have hfz6_5 := blk_frozen BK494.out 5
      have hfz6_6 := blk_frozen BK494.out 6
      have hfz6_7 := blk_frozen BK494.out 7
      have hfz6_8 := blk_frozen BK494.out 8
      have hfz6_9 := blk_frozen BK494.out 9
      go_wp2_with (first | ((with_reducible refine gate_callee (f := 14) rfl ?_); refine goesL_ (some 7) rfl rfl Try.func14 (by kernel_rfl) rfl #[.agg #[.int .i64 a0_0, .int .i64 a0_1, .int .i64 a0_2, .slice A0_3 l0_3.length c0_3, .int .i64 a0_4, .slice A0_5 l0_5.length c0_5, .slice A0_6 l0_6.length c0_6, .int .i64 a0_7, .int .i64 a0_8, .int .i64 a0_9], .slice none 0 0, .slice none 0 0, .agg #[.slice none 0 0, .slice none 0 0]] rfl (by (try simp only [List.map_toArray, List.map_cons, List.map_nil]); first | done | rfl | (simp only [List.length_drop, List.length_take]; rfl)) ?_; (refine (sacristanref15_Great.calls k a0_0 a0_1 a0_2 _ _ l0_3 a0_4 _ _ l0_5 _ _ l0_6 a0_7 a0_8 a0_9 _ _ ([] : List (S37)) _ _ ([] : List (S37)) _ _ ([] : List (S37)) _ _ ([] : List (S54)) true _ ?side1 ?side2 ?side3 ?side4 ?side5 ?side6 ?side7 ?side8 ?side9 ?side10 ?side11 ?side12 ?side13 ?side14 A4.out).mono ?_); (case side1 => repeat (first | exact (Kd.C_below HR0_3.out HB.out) | (with_reducible refine Kd.C_alloc ?_ _) | (with_reducible refine Kd.C_drewN ?_ _) | (with_reducible refine Kd.C_drew ?_))); (case side2 => exact HC0_3.out); (case side3 => repeat (first | exact (Kd.C_below HR0_5.out HB.out) | (with_reducible refine Kd.C_alloc ?_ _) | (with_reducible refine Kd.C_drewN ?_ _) | (with_reducible refine Kd.C_drew ?_))); (case side4 => exact HC0_5.out); (case side5 => repeat (first | exact (Kd.C_below HR0_6.out HB.out) | (with_reducible refine Kd.C_alloc ?_ _) | (with_reducible refine Kd.C_drewN ?_ _) | (with_reducible refine Kd.C_drew ?_))); (case side6 => exact HC0_6.out); (case side7 => exact Kd.C_nil _ _); (case side8 => exact Nat.le_refl _); (case side9 => exact Kd.C_nil _ _); (case side10 => exact Nat.le_refl _); (case side11 => exact Kd.C_nil _ _); (case side12 => exact Nat.le_refl _); (case side13 => exact Kd.C_nil _ _); (case side14 => exact Nat.le_refl _); rintro e w7 ⟨rfl, hb⟩; refine ⟨_, rfl, ?_⟩; have n0_ := Aside0.mk (blk_below (g := gb494) (o := .cells #[.int .i64 a0_0, .int .i64 a0_1, .int .i64 a0_2, .slice A0_3 l0_3.length c0_3, .int .i64 a0_4, .slice A0_5 l0_5.length c0_5, .slice A0_6 l0_6.length c0_6, .int .i64 a0_7, .int .i64 a0_8, .int .i64 a0_9] 25 (0, 0)) (by (with_reducible repeat (first | refine blk_drewN ?_ _ | refine blk_drew ?_ | refine blk_alloc ?_ _)); exact BK494.out) hb); have n1_ := Aside0.mk (below_step (by repeat (first | (with_reducible first | exact HB.out | apply below_alloc | apply pw_below_drewN | apply below_drew1 | refine below_set ?_ GE494.out) | exact HB.out)) hb); clear BK494; clear HB; have BK494 := n0_; have HB := n1_; clear n0_ n1_; (try clear hb); (try clear hb2); (try clear hk); (try clear hi)))
      go_meet
      case rel => exact ⟨_, (true), (by first | rfl | (simp; done) | (simp [*]; done)), H', ⟨by first | omega | exact Nat.le_refl _⟩, ⟨by (with_reducible repeat (first | refine blk_drewN ?_ _ | refine blk_drew ?_ | refine blk_alloc ?_ _)); exact BK494.out⟩, ⟨by repeat (first | (with_reducible first | exact HB.out | apply below_alloc | apply pw_below_drewN | apply below_drew1 | refine below_set ?_ GE494.out) | exact HB.out)⟩⟩
    · replace c5 := Bool.eq_false_iff.mpr c5
      subst c5
      have H1 : ((sacristanref15_May.f k a0_0 a0_1 a0_2 l0_3 a0_4 l0_5 l0_6 a0_7 a0_8 a0_9).bind fun t496 => (sacristanlaw18_SweepLast.j0 k (!t496) a0_0 a0_1 a0_2 l0_3 a0_4 l0_5 l0_6 a0_7 a0_8 a0_9)) = some r := by rw [if_neg (show ¬ (false = true) by decide)] at H; exact H
      clear H
      have H := H1
      clear H1
      replace H := Option.bind_eq_some_iff.mp H
      obtain ⟨t496, A80, H⟩ := H
      replace H : (sacristanlaw18_SweepLast.j0 k (!t496) a0_0 a0_1 a0_2 l0_3 a0_4 l0_5 l0_6 a0_7 a0_8 a0_9) = some r := H
      have A8 := Aside0.mk A80
      clear A80
      have H' := Aside0.mk H
      clear H
      have hcz9_0 : w3.cell? ⟨gb494, 0, none⟩ = some (.int .i64 a0_0) := (blk_cell BK494.out 0).trans rfl
      have hcz9_1 : w3.cell? ⟨gb494, 1, none⟩ = some (.int .i64 a0_1) := (blk_cell BK494.out 1).trans rfl
      have hcz9_2 : w3.cell? ⟨gb494, 2, none⟩ = some (.int .i64 a0_2) := (blk_cell BK494.out 2).trans rfl
      have hcz9_3 : w3.cell? ⟨gb494, 3, none⟩ = some (.slice A0_3 l0_3.length c0_3) := (blk_cell BK494.out 3).trans rfl
      have hcz9_4 : w3.cell? ⟨gb494, 4, none⟩ = some (.int .i64 a0_4) := (blk_cell BK494.out 4).trans rfl
      have hcz9_5 : w3.cell? ⟨gb494, 5, none⟩ = some (.slice A0_5 l0_5.length c0_5) := (blk_cell BK494.out 5).trans rfl
      have hcz9_6 : w3.cell? ⟨gb494, 6, none⟩ = some (.slice A0_6 l0_6.length c0_6) := (blk_cell BK494.out 6).trans rfl
      have hcz9_7 : w3.cell? ⟨gb494, 7, none⟩ = some (.int .i64 a0_7) := (blk_cell BK494.out 7).trans rfl
      have hcz9_8 : w3.cell? ⟨gb494, 8, none⟩ = some (.int .i64 a0_8) := (blk_cell BK494.out 8).trans rfl
      have hcz9_9 : w3.cell? ⟨gb494, 9, none⟩ = some (.int .i64 a0_9) := (blk_cell BK494.out 9).trans rfl
      have hfz9_0 := blk_frozen BK494.out 0
      have hfz9_1 := blk_frozen BK494.out 1
      have hfz9_2 := blk_frozen BK494.out 2
      have hfz9_3 := blk_frozen BK494.out 3
      have hfz9_4 := blk_frozen BK494.out 4
      have hfz9_5 := blk_frozen BK494.out 5
      have hfz9_6 := blk_frozen BK494.out 6
      have hfz9_7 := blk_frozen BK494.out 7
      have hfz9_8 := blk_frozen BK494.out 8
      have hfz9_9 := blk_frozen BK494.out 9
      go_wp2_with (first | ((with_reducible refine gate_callee (f := 14) rfl ?_); refine goesL_ (some 7) rfl rfl Try.func14 (by kernel_rfl) rfl #[.agg #[.int .i64 a0_0, .int .i64 a0_1, .int .i64 a0_2, .slice A0_3 l0_3.length c0_3, .int .i64 a0_4, .slice A0_5 l0_5.length c0_5, .slice A0_6 l0_6.length c0_6, .int .i64 a0_7, .int .i64 a0_8, .int .i64 a0_9], .slice none 0 0, .slice none 0 0, .agg #[.slice none 0 0, .slice none 0 0]] rfl (by (try simp only [List.map_toArray, List.map_cons, List.map_nil]); first | done | rfl | (simp only [List.length_drop, List.length_take]; rfl)) ?_; (refine (sacristanref15_Great.calls k a0_0 a0_1 a0_2 _ _ l0_3 a0_4 _ _ l0_5 _ _ l0_6 a0_7 a0_8 a0_9 _ _ ([] : List (S37)) _ _ ([] : List (S37)) _ _ ([] : List (S37)) _ _ ([] : List (S54)) false _ ?side1 ?side2 ?side3 ?side4 ?side5 ?side6 ?side7 ?side8 ?side9 ?side10 ?side11 ?side12 ?side13 ?side14 A4.out).mono ?_); (case side1 => repeat (first | exact (Kd.C_below HR0_3.out HB.out) | (with_reducible refine Kd.C_alloc ?_ _) | (with_reducible refine Kd.C_drewN ?_ _) | (with_reducible refine Kd.C_drew ?_))); (case side2 => exact HC0_3.out); (case side3 => repeat (first | exact (Kd.C_below HR0_5.out HB.out) | (with_reducible refine Kd.C_alloc ?_ _) | (with_reducible refine Kd.C_drewN ?_ _) | (with_reducible refine Kd.C_drew ?_))); (case side4 => exact HC0_5.out); (case side5 => repeat (first | exact (Kd.C_below HR0_6.out HB.out) | (with_reducible refine Kd.C_alloc ?_ _) | (with_reducible refine Kd.C_drewN ?_ _) | (with_reducible refine Kd.C_drew ?_))); (case side6 => exact HC0_6.out); (case side7 => exact Kd.C_nil _ _); (case side8 => exact Nat.le_refl _); (case side9 => exact Kd.C_nil _ _); (case side10 => exact Nat.le_refl _); (case side11 => exact Kd.C_nil _ _); (case side12 => exact Nat.le_refl _); (case side13 => exact Kd.C_nil _ _); (case side14 => exact Nat.le_refl _); rintro e w10 ⟨rfl, hb⟩; refine ⟨_, rfl, ?_⟩; have n0_ := Aside0.mk (blk_below (g := gb494) (o := .cells #[.int .i64 a0_0, .int .i64 a0_1, .int .i64 a0_2, .slice A0_3 l0_3.length c0_3, .int .i64 a0_4, .slice A0_5 l0_5.length c0_5, .slice A0_6 l0_6.length c0_6, .int .i64 a0_7, .int .i64 a0_8, .int .i64 a0_9] 25 (0, 0)) (by (with_reducible repeat (first | refine blk_drewN ?_ _ | refine blk_drew ?_ | refine blk_alloc ?_ _)); exact BK494.out) hb); have n1_ := Aside0.mk (below_step (by repeat (first | (with_reducible first | exact HB.out | apply below_alloc | apply pw_below_drewN | apply below_drew1 | refine below_set ?_ GE494.out) | exact HB.out)) hb); clear BK494; clear HB; have BK494 := n0_; have HB := n1_; clear n0_ n1_; (try clear hb); (try clear hb2); (try clear hk); (try clear hi); have hcz11_0 : w10.cell? ⟨gb494, 0, none⟩ = some (.int .i64 a0_0) := (blk_cell BK494.out 0).trans rfl; have hcz11_1 : w10.cell? ⟨gb494, 1, none⟩ = some (.int .i64 a0_1) := (blk_cell BK494.out 1).trans rfl; have hcz11_2 : w10.cell? ⟨gb494, 2, none⟩ = some (.int .i64 a0_2) := (blk_cell BK494.out 2).trans rfl; have hcz11_3 : w10.cell? ⟨gb494, 3, none⟩ = some (.slice A0_3 l0_3.length c0_3) := (blk_cell BK494.out 3).trans rfl; have hcz11_4 : w10.cell? ⟨gb494, 4, none⟩ = some (.int .i64 a0_4) := (blk_cell BK494.out 4).trans rfl; have hcz11_5 : w10.cell? ⟨gb494, 5, none⟩ = some (.slice A0_5 l0_5.length c0_5) := (blk_cell BK494.out 5).trans rfl; have hcz11_6 : w10.cell? ⟨gb494, 6, none⟩ = some (.slice A0_6 l0_6.length c0_6) := (blk_cell BK494.out 6).trans rfl; have hcz11_7 : w10.cell? ⟨gb494, 7, none⟩ = some (.int .i64 a0_7) := (blk_cell BK494.out 7).trans rfl; have hcz11_8 : w10.cell? ⟨gb494, 8, none⟩ = some (.int .i64 a0_8) := (blk_cell BK494.out 8).trans rfl; have hcz11_9 : w10.cell? ⟨gb494, 9, none⟩ = some (.int .i64 a0_9) := (blk_cell BK494.out 9).trans rfl; have hfz11_0 := blk_frozen BK494.out 0; have hfz11_1 := blk_frozen BK494.out 1; have hfz11_2 := blk_frozen BK494.out 2; have hfz11_3 := blk_frozen BK494.out 3; have hfz11_4 := blk_frozen BK494.out 4; have hfz11_5 := blk_frozen BK494.out 5; have hfz11_6 := blk_frozen BK494.out 6; have hfz11_7 := blk_frozen BK494.out 7; have hfz11_8 := blk_frozen BK494.out 8; have hfz11_9 := blk_frozen BK494.out 9) | (go_at_call 19; (with_reducible refine (sacristanref15_May.calls k a0_0 a0_1 a0_2 _ _ l0_3 a0_4 _ _ l0_5 _ _ l0_6 a0_7 a0_8 a0_9 t496 _ ?side1 ?side2 ?side3 ?side4 ?side5 ?side6 A8.out).mono ?_); (case side1 => repeat (first | exact (Kd.C_below HR0_3.out HB.out) | (with_reducible refine Kd.C_alloc ?_ _) | (with_reducible refine Kd.C_drewN ?_ _) | (with_reducible refine Kd.C_drew ?_))); (case side2 => exact HC0_3.out); (case side3 => repeat (first | exact (Kd.C_below HR0_5.out HB.out) | (with_reducible refine Kd.C_alloc ?_ _) | (with_reducible refine Kd.C_drewN ?_ _) | (with_reducible refine Kd.C_drew ?_))); (case side4 => exact HC0_5.out); (case side5 => repeat (first | exact (Kd.C_below HR0_6.out HB.out) | (with_reducible refine Kd.C_alloc ?_ _) | (with_reducible refine Kd.C_drewN ?_ _) | (with_reducible refine Kd.C_drew ?_))); (case side6 => exact HC0_6.out); rintro e w12 ⟨rfl, hb⟩; have n0_ := Aside0.mk (blk_below (g := gb494) (o := .cells #[.int .i64 a0_0, .int .i64 a0_1, .int .i64 a0_2, .slice A0_3 l0_3.length c0_3, .int .i64 a0_4, .slice A0_5 l0_5.length c0_5, .slice A0_6 l0_6.length c0_6, .int .i64 a0_7, .int .i64 a0_8, .int .i64 a0_9] 25 (0, 0)) (by (with_reducible repeat (first | refine blk_drewN ?_ _ | refine blk_drew ?_ | refine blk_alloc ?_ _)); exact BK494.out) hb); have n1_ := Aside0.mk (below_step (by repeat (first | (with_reducible first | exact HB.out | apply below_alloc | apply pw_below_drewN | apply below_drew1 | refine below_set ?_ GE494.out) | exact HB.out)) hb); clear BK494; clear HB; have BK494 := n0_; have HB := n1_; clear n0_ n1_; (try clear hb); (try clear hb2); (try clear hk); (try clear hi)))
      go_meet
      case rel => exact ⟨_, (!t496), (by first | rfl | (simp; done) | (simp [*]; done)), H', ⟨by first | omega | exact Nat.le_refl _⟩, ⟨by (with_reducible repeat (first | refine blk_drewN ?_ _ | refine blk_drew ?_ | refine blk_alloc ?_ _)); exact BK494.out⟩, ⟨by repeat (first | (with_reducible first | exact HB.out | apply below_alloc | apply pw_below_drewN | apply below_drew1 | refine below_set ?_ GE494.out) | exact HB.out)⟩⟩
  case rest =>
    clear HC2
    try clear c1
    try clear p2
    try clear c5
    try clear c6
    try clear hcz11_0
    try clear hcz11_1
    try clear hcz11_2
    try clear hcz11_3
    try clear hcz11_4
    try clear hcz11_5
    try clear hcz11_6
    try clear hcz11_7
    try clear hcz11_8
    try clear hcz11_9
    try clear hcz6_0
    try clear hcz6_1
    try clear hcz6_2
    try clear hcz6_3
    try clear hcz6_4
    try clear hcz6_5
    try clear hcz6_6
    try clear hcz6_7
    try clear hcz6_8
    try clear hcz6_9
    try clear hcz9_0
    try clear hcz9_1
    try clear hcz9_2
    try clear hcz9_3
    try clear hcz9_4
    try clear hcz9_5
    try clear hcz9_6
    try clear hcz9_7
    try clear hcz9_8
    try clear hcz9_9
    try clear hfz11_0
    try clear hfz11_1
    try clear hfz11_2
    try clear hfz11_3
    try clear hfz11_4
    try clear hfz11_5
    try clear hfz11_6
    try clear hfz11_7
    try clear hfz11_8
    try clear hfz11_9
    try clear hfz6_0
    try clear hfz6_1
    try clear hfz6_2
    try clear hfz6_3
    try clear hfz6_4
    try clear hfz6_5
    try clear hfz6_6
    try clear hfz6_7
    try clear hfz6_8
    try clear hfz6_9
    try clear hfz9_0
    try clear hfz9_1
    try clear hfz9_2
    try clear hfz9_3
    try clear hfz9_4
    try clear hfz9_5
    try clear hfz9_6
    try clear hfz9_7
    try clear hfz9_8
    try clear hfz9_9
    obtain ⟨kq, x12_1, rfl, HA, HJ1, BK494, HB⟩ := hcut
    cases kq with
    | zero => exact absurd HA.out (by simp [sacristanlaw18_SweepLast.j0])
    | succ kj1 =>
      have H := HA.out
      clear HA
      simp only [sacristanlaw18_SweepLast.j0] at H
      by_cases c13 : x12_1 = true
      · subst c13
        have H1 : ((sacristanlaw18_awake.f).bind fun t497 => (some t497)) = some r := by rw [if_pos rfl] at H; exact H
        clear H
        have H := H1
        clear H1
        replace H := Option.bind_eq_some_iff.mp H
        obtain ⟨t497, A140, H⟩ := H
        replace H : (some t497) = some r := H
        have A14 := Aside0.mk A140
        clear A140
        obtain rfl := Option.some.inj H
        go_wp2_with (first | ((with_reducible refine gate_callee (f := 21) rfl ?_); refine goesL_ (some 13) rfl rfl Try.func21 (by kernel_rfl) rfl #[] rfl (by (try simp only [List.map_toArray, List.map_cons, List.map_nil]); first | done | rfl | (simp only [List.length_drop, List.length_take]; rfl)) ?_; (with_reducible refine (sacristanlaw18_awake.calls  t497 _ ?side1 A14.out).mono ?_); (case side1 => exact NW.MaxOk.below HMX.out (by repeat (first | (with_reducible first | exact HB.out | apply below_alloc | apply pw_below_drewN | apply below_drew1 | refine below_set ?_ GE494.out) | exact HB.out))); rintro e w15 ⟨rfl, hb⟩; refine ⟨_, rfl, ?_⟩; have n0_ := Aside0.mk (blk_below (g := gb494) (o := .cells #[.int .i64 a0_0, .int .i64 a0_1, .int .i64 a0_2, .slice A0_3 l0_3.length c0_3, .int .i64 a0_4, .slice A0_5 l0_5.length c0_5, .slice A0_6 l0_6.length c0_6, .int .i64 a0_7, .int .i64 a0_8, .int .i64 a0_9] 25 (0, 0)) (by (with_reducible repeat (first | refine blk_drewN ?_ _ | refine blk_drew ?_ | refine blk_alloc ?_ _)); exact BK494.out) hb); have n1_ := Aside0.mk (below_step (by repeat (first | (with_reducible first | exact HB.out | apply below_alloc | apply pw_below_drewN | apply below_drew1 | refine below_set ?_ GE494.out) | exact HB.out)) hb); clear BK494; clear HB; have BK494 := n0_; have HB := n1_; clear n0_ n1_; (try clear hb); (try clear hb2); (try clear hk); (try clear hi)))
        go_ret
        exact ⟨by first | rfl | (simp [errW_none, errW_some] <;> rfl) | (simp [*, errW_none, errW_some] <;> rfl), by repeat (first | (with_reducible first | exact HB.out | apply below_alloc | apply pw_below_drewN | apply below_drew1 | refine below_set ?_ GE494.out) | exact HB.out)⟩
      · replace c13 := Bool.eq_false_iff.mpr c13
        subst c13
        have H1 : ((sweep_Sweep.f a0_0 a0_1 a0_2 l0_3 a0_4 l0_5 l0_6 a0_7 a0_8 a0_9).bind fun bt498 => (sacristanlaw18_SweepLast.l0 kj1 0 a0_0 a0_1 a0_2 l0_3 a0_4 l0_5 l0_6 a0_7 a0_8 a0_9 bt498.1 bt498.2.1 bt498.2.2.1 bt498.2.2.2.1 bt498.2.2.2.2.1 bt498.2.2.2.2.2.1 bt498.2.2.2.2.2.2.1 bt498.2.2.2.2.2.2.2.1 bt498.2.2.2.2.2.2.2.2.1 bt498.2.2.2.2.2.2.2.2.2)) = some r := by rw [if_neg (show ¬ (false = true) by decide)] at H; exact H
        clear H
        have H := H1
        clear H1
        replace H := Option.bind_eq_some_iff.mp H
        obtain ⟨⟨t498, t499, t500, t501, t504, t505, t508, t511, t512, t513⟩, A160, H⟩ := H
        (try dsimp only at H)
        have A16 := Aside0.mk A160
        clear A160
        have H' := Aside0.mk H
        clear H
        have hcz17_0 : wc.cell? ⟨gb494, 0, none⟩ = some (.int .i64 a0_0) := (blk_cell BK494.out 0).trans rfl
        have hcz17_1 : wc.cell? ⟨gb494, 1, none⟩ = some (.int .i64 a0_1) := (blk_cell BK494.out 1).trans rfl
        have hcz17_2 : wc.cell? ⟨gb494, 2, none⟩ = some (.int .i64 a0_2) := (blk_cell BK494.out 2).trans rfl
        have hcz17_3 : wc.cell? ⟨gb494, 3, none⟩ = some (.slice A0_3 l0_3.length c0_3) := (blk_cell BK494.out 3).trans rfl
        have hcz17_4 : wc.cell? ⟨gb494, 4, none⟩ = some (.int .i64 a0_4) := (blk_cell BK494.out 4).trans rfl
        have hcz17_5 : wc.cell? ⟨gb494, 5, none⟩ = some (.slice A0_5 l0_5.length c0_5) := (blk_cell BK494.out 5).trans rfl
        have hcz17_6 : wc.cell? ⟨gb494, 6, none⟩ = some (.slice A0_6 l0_6.length c0_6) := (blk_cell BK494.out 6).trans rfl
        have hcz17_7 : wc.cell? ⟨gb494, 7, none⟩ = some (.int .i64 a0_7) := (blk_cell BK494.out 7).trans rfl
        have hcz17_8 : wc.cell? ⟨gb494, 8, none⟩ = some (.int .i64 a0_8) := (blk_cell BK494.out 8).trans rfl
        have hcz17_9 : wc.cell? ⟨gb494, 9, none⟩ = some (.int .i64 a0_9) := (blk_cell BK494.out 9).trans rfl
        have hfz17_0 := blk_frozen BK494.out 0
        have hfz17_1 := blk_frozen BK494.out 1
        have hfz17_2 := blk_frozen BK494.out 2
        have hfz17_3 := blk_frozen BK494.out 3
        have hfz17_4 := blk_frozen BK494.out 4
        have hfz17_5 := blk_frozen BK494.out 5
        have hfz17_6 := blk_frozen BK494.out 6
        have hfz17_7 := blk_frozen BK494.out 7
        have hfz17_8 := blk_frozen BK494.out 8
        have hfz17_9 := blk_frozen BK494.out 9
        go_wp2_with (first | ((with_reducible refine gate_callee (f := 22) rfl ?_); refine goesL_ (some 15) rfl rfl Try.func22 (by kernel_rfl) rfl #[.agg #[.int .i64 a0_0, .int .i64 a0_1, .int .i64 a0_2, .slice A0_3 l0_3.length c0_3, .int .i64 a0_4, .slice A0_5 l0_5.length c0_5, .slice A0_6 l0_6.length c0_6, .int .i64 a0_7, .int .i64 a0_8, .int .i64 a0_9]] rfl (by (try simp only [List.map_toArray, List.map_cons, List.map_nil]); first | done | rfl | (simp only [List.length_drop, List.length_take]; rfl)) ?_; (with_reducible refine (sweep_Sweep.calls a0_0 a0_1 a0_2 _ _ l0_3 a0_4 _ _ l0_5 _ _ l0_6 a0_7 a0_8 a0_9 t498 t499 t500 t501 t504 t505 t508 t511 t512 t513 _ ?side1 ?side2 ?side3 ?side4 ?side5 ?side6 ?side7 A16.out).mono ?_); (case side1 => repeat (first | exact (Kd.C_below HR0_3.out HB.out) | (with_reducible refine Kd.C_alloc ?_ _) | (with_reducible refine Kd.C_drewN ?_ _) | (with_reducible refine Kd.C_drew ?_))); (case side2 => exact HC0_3.out); (case side3 => repeat (first | exact (Kd.C_below HR0_5.out HB.out) | (with_reducible refine Kd.C_alloc ?_ _) | (with_reducible refine Kd.C_drewN ?_ _) | (with_reducible refine Kd.C_drew ?_))); (case side4 => exact HC0_5.out); (case side5 => repeat (first | exact (Kd.C_below HR0_6.out HB.out) | (with_reducible refine Kd.C_alloc ?_ _) | (with_reducible refine Kd.C_drewN ?_ _) | (with_reducible refine Kd.C_drew ?_))); (case side6 => exact HC0_6.out); (case side7 => exact NW.MaxOk.below HMX.out (by repeat (first | (with_reducible first | exact HB.out | apply below_alloc | apply pw_below_drewN | apply below_drew1 | refine below_set ?_ GE494.out) | exact HB.out))); rintro e w18 ⟨v502, v506, v509, rfl, ho0, ho1, ho2, hb⟩; refine ⟨_, rfl, ?_⟩; have n0_ := Aside0.mk (Kd.R_lower ho0 (below_size (by repeat (first | (with_reducible first | exact HB.out | apply below_alloc | apply pw_below_drewN | apply below_drew1 | refine below_set ?_ GE494.out) | exact HB.out)))); have n1_ := Aside0.mk (Kd.R_lower ho1 (below_size (by repeat (first | (with_reducible first | exact HB.out | apply below_alloc | apply pw_below_drewN | apply below_drew1 | refine below_set ?_ GE494.out) | exact HB.out)))); have n2_ := Aside0.mk (Kd.R_lower ho2 (below_size (by repeat (first | (with_reducible first | exact HB.out | apply below_alloc | apply pw_below_drewN | apply below_drew1 | refine below_set ?_ GE494.out) | exact HB.out)))); have n3_ := Aside0.mk (blk_below (g := gb494) (o := .cells #[.int .i64 a0_0, .int .i64 a0_1, .int .i64 a0_2, .slice A0_3 l0_3.length c0_3, .int .i64 a0_4, .slice A0_5 l0_5.length c0_5, .slice A0_6 l0_6.length c0_6, .int .i64 a0_7, .int .i64 a0_8, .int .i64 a0_9] 25 (0, 0)) (by (with_reducible repeat (first | refine blk_drewN ?_ _ | refine blk_drew ?_ | refine blk_alloc ?_ _)); exact BK494.out) hb); have n4_ := Aside0.mk (below_step (by repeat (first | (with_reducible first | exact HB.out | apply below_alloc | apply pw_below_drewN | apply below_drew1 | refine below_set ?_ GE494.out) | exact HB.out)) hb); clear BK494; clear HB; have HO503 := n0_; have HO507 := n1_; have HO510 := n2_; have BK494 := n3_; have HB := n4_; clear n0_ n1_ n2_ n3_ n4_; (try clear hb); (try clear hb2); (try clear hk); (try clear hi); (try clear ho0); (try clear ho1); (try clear ho2)) | ((with_reducible refine gate_dst (N := 3) rfl ?_); refine box_event ?hg (N := 3) ?hd (cs := #[.int .i64 0, .int .i64 0, .int .i64 0, .slice none 0 0, .int .i64 0, .slice none 0 0, .slice none 0 0, .int .i64 0, .int .i64 0, .int .i64 0]) (t := 25) ?hr ?_; (case hd => rfl); (case hg => rfl); (case hr => first | (go_simp; done) | (go_simp; rfl)); intro gb514 hg w19 hbox hb; have n0_ := Aside0.mk (Kd.R_below (by (with_reducible repeat (first | apply Kd.R_alloc | apply Kd.R_drewN | apply Kd.R_drew)); exact HO503.out) hb); have n1_ := Aside0.mk (Kd.R_below (by (with_reducible repeat (first | apply Kd.R_alloc | apply Kd.R_drewN | apply Kd.R_drew)); exact HO507.out) hb); have n2_ := Aside0.mk (Kd.R_below (by (with_reducible repeat (first | apply Kd.R_alloc | apply Kd.R_drewN | apply Kd.R_drew)); exact HO510.out) hb); have n3_ := Aside0.mk (blk_below (g := gb494) (o := .cells #[.int .i64 a0_0, .int .i64 a0_1, .int .i64 a0_2, .slice A0_3 l0_3.length c0_3, .int .i64 a0_4, .slice A0_5 l0_5.length c0_5, .slice A0_6 l0_6.length c0_6, .int .i64 a0_7, .int .i64 a0_8, .int .i64 a0_9] 25 (0, 0)) (by (with_reducible repeat (first | refine blk_drewN ?_ _ | refine blk_drew ?_ | refine blk_alloc ?_ _)); exact BK494.out) hb); have n4_ := Aside0.mk (below_step (by repeat (first | (with_reducible first | exact HB.out | apply below_alloc | apply pw_below_drewN | apply below_drew1 | refine below_set ?_ GE494.out) | exact HB.out)) hb); have n5_ := Aside0.mk (hbox); have n6_ := Aside0.mk ((by rw [hg]; exact (below_size (by repeat (first | (with_reducible first | exact HB.out | apply below_alloc | apply pw_below_drewN | apply below_drew1 | refine below_set ?_ GE494.out) | exact HB.out))) : w.heap.size ≤ gb514)); have n7_ := Aside0.mk ((by rw [hg]; exact (below_size (by repeat (first | (with_reducible first | exact HB.out | apply below_alloc | apply pw_below_drewN | apply below_drew1 | refine below_set ?_ GE494.out) | exact HB.out))) : w.heap.size ≤ gb514)); have n8_ := Aside0.mk ((by rw [hg]; exact Nat.ne_of_lt (blk_lt (g := gb494) (o := .cells #[.int .i64 a0_0, .int .i64 a0_1, .int .i64 a0_2, .slice A0_3 l0_3.length c0_3, .int .i64 a0_4, .slice A0_5 l0_5.length c0_5, .slice A0_6 l0_6.length c0_6, .int .i64 a0_7, .int .i64 a0_8, .int .i64 a0_9] 25 (0, 0)) (by (with_reducible repeat (first | refine blk_drewN ?_ _ | refine blk_drew ?_ | refine blk_alloc ?_ _)); exact BK494.out)) : gb494 ≠ gb514)); have n9_ := Aside0.mk ((by rw [hg]; exact Nat.ne_of_gt (blk_lt (g := gb494) (o := .cells #[.int .i64 a0_0, .int .i64 a0_1, .int .i64 a0_2, .slice A0_3 l0_3.length c0_3, .int .i64 a0_4, .slice A0_5 l0_5.length c0_5, .slice A0_6 l0_6.length c0_6, .int .i64 a0_7, .int .i64 a0_8, .int .i64 a0_9] 25 (0, 0)) (by (with_reducible repeat (first | refine blk_drewN ?_ _ | refine blk_drew ?_ | refine blk_alloc ?_ _)); exact BK494.out)) : gb514 ≠ gb494)); clear HO503; clear HO507; clear HO510; clear BK494; clear HB; have HO503 := n0_; have HO507 := n1_; have HO510 := n2_; have BK494 := n3_; have HB := n4_; have BK514 := n5_; have GW514 := n6_; have GE514 := n7_; have NB494_514 := n8_; have NB514_494 := n9_; clear n0_ n1_ n2_ n3_ n4_ n5_ n6_ n7_ n8_ n9_; clear hb hbox hg; have hnb20 := NB514_494.out; have hnc20 := NB494_514.out; have hcz21_0 : w19.cell? ⟨gb514, 0, none⟩ = some (.int .i64 0) := (blk_cell BK514.out 0).trans rfl; have hcz21_1 : w19.cell? ⟨gb514, 1, none⟩ = some (.int .i64 0) := (blk_cell BK514.out 1).trans rfl; have hcz21_2 : w19.cell? ⟨gb514, 2, none⟩ = some (.int .i64 0) := (blk_cell BK514.out 2).trans rfl; have hcz21_3 : w19.cell? ⟨gb514, 3, none⟩ = some (.slice none 0 0) := (blk_cell BK514.out 3).trans rfl; have hcz21_4 : w19.cell? ⟨gb514, 4, none⟩ = some (.int .i64 0) := (blk_cell BK514.out 4).trans rfl; have hcz21_5 : w19.cell? ⟨gb514, 5, none⟩ = some (.slice none 0 0) := (blk_cell BK514.out 5).trans rfl; have hcz21_6 : w19.cell? ⟨gb514, 6, none⟩ = some (.slice none 0 0) := (blk_cell BK514.out 6).trans rfl; have hcz21_7 : w19.cell? ⟨gb514, 7, none⟩ = some (.int .i64 0) := (blk_cell BK514.out 7).trans rfl; have hcz21_8 : w19.cell? ⟨gb514, 8, none⟩ = some (.int .i64 0) := (blk_cell BK514.out 8).trans rfl; have hcz21_9 : w19.cell? ⟨gb514, 9, none⟩ = some (.int .i64 0) := (blk_cell BK514.out 9).trans rfl; have hfz21_0 := blk_frozen BK514.out 0; have hfz21_1 := blk_frozen BK514.out 1; have hfz21_2 := blk_frozen BK514.out 2; have hfz21_3 := blk_frozen BK514.out 3; have hfz21_4 := blk_frozen BK514.out 4; have hfz21_5 := blk_frozen BK514.out 5; have hfz21_6 := blk_frozen BK514.out 6; have hfz21_7 := blk_frozen BK514.out 7; have hfz21_8 := blk_frozen BK514.out 8; have hfz21_9 := blk_frozen BK514.out 9; obtain ⟨Ao22, co22, eo22⟩ := Kd.R_slice HO503.out; subst eo22; obtain ⟨Ao23, co23, eo23⟩ := Kd.R_slice HO507.out; subst eo23; obtain ⟨Ao24, co24, eo24⟩ := Kd.R_slice HO510.out; subst eo24))
        go_loopg [4] kj1 (fun kq v4 w' => ∃ (x4_2 : Int), v4 = .int .i64 x4_2 ∧ Aside0 (sacristanlaw18_SweepLast.l0 kq x4_2 a0_0 a0_1 a0_2 l0_3 a0_4 l0_5 l0_6 a0_7 a0_8 a0_9 t498 t499 t500 t501 t504 t505 t508 t511 t512 t513 = some r) ∧ Aside0 (kq ≤ kj1) ∧ Aside0 (Kd.R k39 39 w' w.heap.size (fun _ => True) (.slice Ao22 t501.length co22) t501) ∧ Aside0 (Kd.R (Kd.int .i64) 3 w' w.heap.size (fun k_ => True) (.slice Ao23 t505.length co23) t505) ∧ Aside0 (Kd.R (Kd.int .i64) 3 w' w.heap.size (fun k_ => True) (.slice Ao24 t508.length co24) t508) ∧ Aside0 (w'.heap[gb494]? = some (.cells #[.int .i64 a0_0, .int .i64 a0_1, .int .i64 a0_2, (.slice A0_3 l0_3.length c0_3), .int .i64 a0_4, (.slice A0_5 l0_5.length c0_5), (.slice A0_6 l0_6.length c0_6), .int .i64 a0_7, .int .i64 a0_8, .int .i64 a0_9] 25 (0, 0))) ∧ Aside0 (w'.heap[gb514]? = some (.cells #[.int .i64 t498, .int .i64 t499, .int .i64 t500, (.slice Ao22 t501.length co22), .int .i64 t504, (.slice Ao23 t505.length co23), (.slice Ao24 t508.length co24), .int .i64 t511, .int .i64 t512, .int .i64 t513] 25 (0, 0))) ∧ Aside0 (Below w.heap.size w w'))
        case atStart => exact ⟨(0), (by first | rfl | (simp; done) | (simp [*]; done)), H', ⟨Nat.le_refl _⟩, ⟨by (with_reducible repeat (first | apply Kd.R_alloc | apply Kd.R_drewN | apply Kd.R_drew)); exact Kd.R_mono (Kd.R_far (p := ⟨gb514, 9, none⟩) (Kd.R_far (p := ⟨gb514, 8, none⟩) (Kd.R_far (p := ⟨gb514, 7, none⟩) (Kd.R_far (p := ⟨gb514, 6, none⟩) (Kd.R_far (p := ⟨gb514, 5, none⟩) (Kd.R_far (p := ⟨gb514, 4, none⟩) (Kd.R_far (p := ⟨gb514, 3, none⟩) (Kd.R_far (p := ⟨gb514, 2, none⟩) (Kd.R_far (p := ⟨gb514, 1, none⟩) (Kd.R_far (p := ⟨gb514, 0, none⟩) (Kd.R_types HO503.out BK514.out (by decide)) (fun _ hk => hk.2) (.int .i64 t498)) (fun _ hk => hk.2) (.int .i64 t499)) (fun _ hk => hk.2) (.int .i64 t500)) (fun _ hk => hk.2) (.slice Ao22 t501.length co22)) (fun _ hk => hk.2) (.int .i64 t504)) (fun _ hk => hk.2) (.slice Ao23 t505.length co23)) (fun _ hk => hk.2) (.slice Ao24 t508.length co24)) (fun _ hk => hk.2) (.int .i64 t511)) (fun _ hk => hk.2) (.int .i64 t512)) (fun _ hk => hk.2) (.int .i64 t513)) (fun _ hk => trivial)⟩, ⟨by (with_reducible repeat (first | apply Kd.R_alloc | apply Kd.R_drewN | apply Kd.R_drew)); exact Kd.R_mono (Kd.R_far (p := ⟨gb514, 9, none⟩) (Kd.R_far (p := ⟨gb514, 8, none⟩) (Kd.R_far (p := ⟨gb514, 7, none⟩) (Kd.R_far (p := ⟨gb514, 6, none⟩) (Kd.R_far (p := ⟨gb514, 5, none⟩) (Kd.R_far (p := ⟨gb514, 4, none⟩) (Kd.R_far (p := ⟨gb514, 3, none⟩) (Kd.R_far (p := ⟨gb514, 2, none⟩) (Kd.R_far (p := ⟨gb514, 1, none⟩) (Kd.R_far (p := ⟨gb514, 0, none⟩) (Kd.R_types HO507.out BK514.out (by decide)) (fun _ hk => hk.2) (.int .i64 t498)) (fun _ hk => hk.2) (.int .i64 t499)) (fun _ hk => hk.2) (.int .i64 t500)) (fun _ hk => hk.2) (.slice Ao22 t501.length co22)) (fun _ hk => hk.2) (.int .i64 t504)) (fun _ hk => hk.2) (.slice Ao23 t505.length co23)) (fun _ hk => hk.2) (.slice Ao24 t508.length co24)) (fun _ hk => hk.2) (.int .i64 t511)) (fun _ hk => hk.2) (.int .i64 t512)) (fun _ hk => hk.2) (.int .i64 t513)) (fun _ hk => hk.1)⟩, ⟨by (with_reducible repeat (first | apply Kd.R_alloc | apply Kd.R_drewN | apply Kd.R_drew)); exact Kd.R_mono (Kd.R_far (p := ⟨gb514, 9, none⟩) (Kd.R_far (p := ⟨gb514, 8, none⟩) (Kd.R_far (p := ⟨gb514, 7, none⟩) (Kd.R_far (p := ⟨gb514, 6, none⟩) (Kd.R_far (p := ⟨gb514, 5, none⟩) (Kd.R_far (p := ⟨gb514, 4, none⟩) (Kd.R_far (p := ⟨gb514, 3, none⟩) (Kd.R_far (p := ⟨gb514, 2, none⟩) (Kd.R_far (p := ⟨gb514, 1, none⟩) (Kd.R_far (p := ⟨gb514, 0, none⟩) (Kd.R_types HO510.out BK514.out (by decide)) (fun _ hk => hk.2) (.int .i64 t498)) (fun _ hk => hk.2) (.int .i64 t499)) (fun _ hk => hk.2) (.int .i64 t500)) (fun _ hk => hk.2) (.slice Ao22 t501.length co22)) (fun _ hk => hk.2) (.int .i64 t504)) (fun _ hk => hk.2) (.slice Ao23 t505.length co23)) (fun _ hk => hk.2) (.slice Ao24 t508.length co24)) (fun _ hk => hk.2) (.int .i64 t511)) (fun _ hk => hk.2) (.int .i64 t512)) (fun _ hk => hk.2) (.int .i64 t513)) (fun _ hk => hk.1)⟩, ⟨by (with_reducible repeat (first | refine blk_drewN ?_ _ | refine blk_drew ?_ | refine blk_alloc ?_ _)); refine blk_far ?_ NB494_514.out _; (with_reducible repeat (first | refine blk_drewN ?_ _ | refine blk_drew ?_ | refine blk_alloc ?_ _)); refine blk_far ?_ NB494_514.out _; (with_reducible repeat (first | refine blk_drewN ?_ _ | refine blk_drew ?_ | refine blk_alloc ?_ _)); refine blk_far ?_ NB494_514.out _; (with_reducible repeat (first | refine blk_drewN ?_ _ | refine blk_drew ?_ | refine blk_alloc ?_ _)); refine blk_far ?_ NB494_514.out _; (with_reducible repeat (first | refine blk_drewN ?_ _ | refine blk_drew ?_ | refine blk_alloc ?_ _)); refine blk_far ?_ NB494_514.out _; (with_reducible repeat (first | refine blk_drewN ?_ _ | refine blk_drew ?_ | refine blk_alloc ?_ _)); refine blk_far ?_ NB494_514.out _; (with_reducible repeat (first | refine blk_drewN ?_ _ | refine blk_drew ?_ | refine blk_alloc ?_ _)); refine blk_far ?_ NB494_514.out _; (with_reducible repeat (first | refine blk_drewN ?_ _ | refine blk_drew ?_ | refine blk_alloc ?_ _)); refine blk_far ?_ NB494_514.out _; (with_reducible repeat (first | refine blk_drewN ?_ _ | refine blk_drew ?_ | refine blk_alloc ?_ _)); refine blk_far ?_ NB494_514.out _; (with_reducible repeat (first | refine blk_drewN ?_ _ | refine blk_drew ?_ | refine blk_alloc ?_ _)); refine blk_far ?_ NB494_514.out _; (with_reducible repeat (first | refine blk_drewN ?_ _ | refine blk_drew ?_ | refine blk_alloc ?_ _)); exact BK494.out⟩, ⟨by (with_reducible repeat (first | refine blk_drewN ?_ _ | refine blk_drew ?_ | refine blk_alloc ?_ _)); refine blk_put (cs := #[.int .i64 t498, .int .i64 t499, .int .i64 t500, .slice Ao22 t501.length co22, .int .i64 t504, .slice Ao23 t505.length co23, .slice Ao24 t508.length co24, .int .i64 t511, .int .i64 t512, .int .i64 0]) ?_ 9 _ rfl; (with_reducible repeat (first | refine blk_drewN ?_ _ | refine blk_drew ?_ | refine blk_alloc ?_ _)); refine blk_put (cs := #[.int .i64 t498, .int .i64 t499, .int .i64 t500, .slice Ao22 t501.length co22, .int .i64 t504, .slice Ao23 t505.length co23, .slice Ao24 t508.length co24, .int .i64 t511, .int .i64 0, .int .i64 0]) ?_ 8 _ rfl; (with_reducible repeat (first | refine blk_drewN ?_ _ | refine blk_drew ?_ | refine blk_alloc ?_ _)); refine blk_put (cs := #[.int .i64 t498, .int .i64 t499, .int .i64 t500, .slice Ao22 t501.length co22, .int .i64 t504, .slice Ao23 t505.length co23, .slice Ao24 t508.length co24, .int .i64 0, .int .i64 0, .int .i64 0]) ?_ 7 _ rfl; (with_reducible repeat (first | refine blk_drewN ?_ _ | refine blk_drew ?_ | refine blk_alloc ?_ _)); refine blk_put (cs := #[.int .i64 t498, .int .i64 t499, .int .i64 t500, .slice Ao22 t501.length co22, .int .i64 t504, .slice Ao23 t505.length co23, .slice none 0 0, .int .i64 0, .int .i64 0, .int .i64 0]) ?_ 6 _ rfl; (with_reducible repeat (first | refine blk_drewN ?_ _ | refine blk_drew ?_ | refine blk_alloc ?_ _)); refine blk_put (cs := #[.int .i64 t498, .int .i64 t499, .int .i64 t500, .slice Ao22 t501.length co22, .int .i64 t504, .slice none 0 0, .slice none 0 0, .int .i64 0, .int .i64 0, .int .i64 0]) ?_ 5 _ rfl; (with_reducible repeat (first | refine blk_drewN ?_ _ | refine blk_drew ?_ | refine blk_alloc ?_ _)); refine blk_put (cs := #[.int .i64 t498, .int .i64 t499, .int .i64 t500, .slice Ao22 t501.length co22, .int .i64 0, .slice none 0 0, .slice none 0 0, .int .i64 0, .int .i64 0, .int .i64 0]) ?_ 4 _ rfl; (with_reducible repeat (first | refine blk_drewN ?_ _ | refine blk_drew ?_ | refine blk_alloc ?_ _)); refine blk_put (cs := #[.int .i64 t498, .int .i64 t499, .int .i64 t500, .slice none 0 0, .int .i64 0, .slice none 0 0, .slice none 0 0, .int .i64 0, .int .i64 0, .int .i64 0]) ?_ 3 _ rfl; (with_reducible repeat (first | refine blk_drewN ?_ _ | refine blk_drew ?_ | refine blk_alloc ?_ _)); refine blk_put (cs := #[.int .i64 t498, .int .i64 t499, .int .i64 0, .slice none 0 0, .int .i64 0, .slice none 0 0, .slice none 0 0, .int .i64 0, .int .i64 0, .int .i64 0]) ?_ 2 _ rfl; (with_reducible repeat (first | refine blk_drewN ?_ _ | refine blk_drew ?_ | refine blk_alloc ?_ _)); refine blk_put (cs := #[.int .i64 t498, .int .i64 0, .int .i64 0, .slice none 0 0, .int .i64 0, .slice none 0 0, .slice none 0 0, .int .i64 0, .int .i64 0, .int .i64 0]) ?_ 1 _ rfl; (with_reducible repeat (first | refine blk_drewN ?_ _ | refine blk_drew ?_ | refine blk_alloc ?_ _)); refine blk_put (cs := #[.int .i64 0, .int .i64 0, .int .i64 0, .slice none 0 0, .int .i64 0, .slice none 0 0, .slice none 0 0, .int .i64 0, .int .i64 0, .int .i64 0]) ?_ 0 _ rfl; (with_reducible repeat (first | refine blk_drewN ?_ _ | refine blk_drew ?_ | refine blk_alloc ?_ _)); exact BK514.out⟩, ⟨by repeat (first | (with_reducible first | exact HB.out | apply below_alloc | apply pw_below_drewN | apply below_drew1 | refine below_set ?_ GE494.out | refine below_set ?_ GE514.out) | exact HB.out)⟩⟩
        case round =>
          clear H'
          try clear c1
          try clear c2
          try clear p2
          try clear c5
          try clear c6
          try clear c13
          try clear c14
          try clear c20
          try clear c21
          try clear c22
          try clear hcz11_0
          try clear hcz11_1
          try clear hcz11_2
          try clear hcz11_3
          try clear hcz11_4
          try clear hcz11_5
          try clear hcz11_6
          try clear hcz11_7
          try clear hcz11_8
          try clear hcz11_9
          try clear hcz17_0
          try clear hcz17_1
          try clear hcz17_2
          try clear hcz17_3
          try clear hcz17_4
          try clear hcz17_5
          try clear hcz17_6
          try clear hcz17_7
          try clear hcz17_8
          try clear hcz17_9
          try clear hcz21_0
          try clear hcz21_1
          try clear hcz21_2
          try clear hcz21_3
          try clear hcz21_4
          try clear hcz21_5
          try clear hcz21_6
          try clear hcz21_7
          try clear hcz21_8
          try clear hcz21_9
          try clear hcz6_0
          try clear hcz6_1
          try clear hcz6_2
          try clear hcz6_3
          try clear hcz6_4
          try clear hcz6_5
          try clear hcz6_6
          try clear hcz6_7
          try clear hcz6_8
          try clear hcz6_9
          try clear hcz9_0
          try clear hcz9_1
          try clear hcz9_2
          try clear hcz9_3
          try clear hcz9_4
          try clear hcz9_5
          try clear hcz9_6
          try clear hcz9_7
          try clear hcz9_8
          try clear hcz9_9
          try clear hfz11_0
          try clear hfz11_1
          try clear hfz11_2
          try clear hfz11_3
          try clear hfz11_4
          try clear hfz11_5
          try clear hfz11_6
          try clear hfz11_7
          try clear hfz11_8
          try clear hfz11_9
          try clear hfz17_0
          try clear hfz17_1
          try clear hfz17_2
          try clear hfz17_3
          try clear hfz17_4
          try clear hfz17_5
          try clear hfz17_6
          try clear hfz17_7
          try clear hfz17_8
          try clear hfz17_9
          try clear hfz21_0
          try clear hfz21_1
          try clear hfz21_2
          try clear hfz21_3
          try clear hfz21_4
          try clear hfz21_5
          try clear hfz21_6
          try clear hfz21_7
          try clear hfz21_8
          try clear hfz21_9
          try clear hfz6_0
          try clear hfz6_1
          try clear hfz6_2
          try clear hfz6_3
          try clear hfz6_4
          try clear hfz6_5
          try clear hfz6_6
          try clear hfz6_7
          try clear hfz6_8
          try clear hfz6_9
          try clear hfz9_0
          try clear hfz9_1
          try clear hfz9_2
          try clear hfz9_3
          try clear hfz9_4
          try clear hfz9_5
          try clear hfz9_6
          try clear hfz9_7
          try clear hfz9_8
          try clear hfz9_9
          try clear p2
          obtain ⟨x4_2, rfl, HA, HK2, HO_515003, HO_515005, HO_515006, BK494, BK514, HB⟩ := hrel
          cases gk with
          | zero => exact absurd HA.out (by simp [sacristanlaw18_SweepLast.l0])
          | succ k2 =>
            have H := HA.out
            clear HA
            simp only [sacristanlaw18_SweepLast.l0] at H
            by_cases c25 : x4_2 < (t501.length : Int)
            · rw [if_pos c25] at H
              have c25b0 : decide (x4_2 < (t501.length : Int)) = true := decide_eq_true c25
              clear c25
              by_cases c26 : 0 ≤ x4_2
              · rw [if_pos c26] at H
                have c26b0 : decide (0 ≤ x4_2) = true := decide_eq_true c26
                clear c26
                by_cases c27 : ((rd_T39 t501 x4_2).f0) ≤ 2
                · rw [if_pos c27] at H
                  have c27b0 : decide (((rd_T39 t501 x4_2).f0) ≤ 2) = true := decide_eq_true c27
                  clear c27
                  obtain ⟨ji28, hji28⟩ : ∃ j_ : Int, (wrap64 (x4_2 + 1)) = j_ := ⟨_, rfl⟩
                  replace H : (if 0 ≤ (ji28) then (if (ji28) ≤ (t501.length : Int) then ((sacristanref18_Read.f k2 t498 t499 t500 t501 t504 t505 t508 t511 t512 t513 (t501.drop ((ji28) : Int).toNat) ((rd_T39 t501 x4_2).f1)).bind fun t522 => (if t522 = true then (sacristanlaw18_SweepLast.l0 k2 ji28 a0_0 a0_1 a0_2 l0_3 a0_4 l0_5 l0_6 a0_7 a0_8 a0_9 t498 t499 t500 t501 t504 t505 t508 t511 t512 t513) else (some false))) else (none)) else (none)) = some r := by first | (rw [hji28] at H; exact H) | (simp only [hji28] at H ⊢; exact H)
                  have hji28w : (IntKind.i64.wrap (x4_2 + 1)) = ji28 := (i64_w _).trans hji28
                  by_cases c29 : 0 ≤ (ji28)
                  · rw [if_pos c29] at H
                    have c29b0 := eq_true c29
                    have c29b1 : decide (0 ≤ (ji28)) = true := decide_eq_true c29
                    clear c29
                    by_cases c30 : (ji28) ≤ (t501.length : Int)
                    · rw [if_pos c30] at H
                      have c30b0 := eq_true c30
                      have c30b1 : decide ((ji28) ≤ (t501.length : Int)) = true := decide_eq_true c30
                      clear c30
                      obtain ⟨y517, hy517⟩ : ∃ y_ : List (S39), y_ = (t501.drop ((ji28) : Int).toNat) := ⟨_, rfl⟩
                      replace H : ((sacristanref18_Read.f k2 t498 t499 t500 t501 t504 t505 t508 t511 t512 t513 y517 ((rd_T39 t501 x4_2).f1)).bind fun t522 => (if t522 = true then (sacristanlaw18_SweepLast.l0 k2 ji28 a0_0 a0_1 a0_2 l0_3 a0_4 l0_5 l0_6 a0_7 a0_8 a0_9 t498 t499 t500 t501 t504 t505 t508 t511 t512 t513) else (some false))) = some r := by first | (rw [hy517]; with_reducible exact H) | (have H2_ := (Option.bind_some _ _).symm.trans H; rw [hy517]; with_reducible exact H2_) | (have H2_ := (Option.bind_some _ _).symm.trans H; with_reducible exact H2_) | with_reducible exact H | (rw [hy517]; exact H) | exact H
                      have Ny517 := Aside0.mk hy517
                      clear hy517
                      replace H := Option.bind_eq_some_iff.mp H
                      obtain ⟨t522, A310, H⟩ := H
                      (try dsimp only at H)
                      have A31 := Aside0.mk A310
                      clear A310
                      by_cases c32 : t522 = true
                      · subst c32
                        have H1 : (sacristanlaw18_SweepLast.l0 k2 ji28 a0_0 a0_1 a0_2 l0_3 a0_4 l0_5 l0_6 a0_7 a0_8 a0_9 t498 t499 t500 t501 t504 t505 t508 t511 t512 t513) = some r := by rw [if_pos rfl] at H; exact H
                        clear H
                        have H := H1
                        clear H1
                        have H' := Aside0.mk H
                        clear H
                        have hnb33 := NB514_494.out
                        have hnc33 := NB494_514.out
                        have hcz34_0 : wr.cell? ⟨gb514, 0, none⟩ = some (.int .i64 t498) := (blk_cell BK514.out 0).trans rfl
                        have hcz34_1 : wr.cell? ⟨gb514, 1, none⟩ = some (.int .i64 t499) := (blk_cell BK514.out 1).trans rfl
                        have hcz34_2 : wr.cell? ⟨gb514, 2, none⟩ = some (.int .i64 t500) := (blk_cell BK514.out 2).trans rfl
                        have hcz34_3 : wr.cell? ⟨gb514, 3, none⟩ = some (.slice Ao22 t501.length co22) := (blk_cell BK514.out 3).trans rfl
                        have hcz34_4 : wr.cell? ⟨gb514, 4, none⟩ = some (.int .i64 t504) := (blk_cell BK514.out 4).trans rfl
                        have hcz34_5 : wr.cell? ⟨gb514, 5, none⟩ = some (.slice Ao23 t505.length co23) := (blk_cell BK514.out 5).trans rfl
                        have hcz34_6 : wr.cell? ⟨gb514, 6, none⟩ = some (.slice Ao24 t508.length co24) := (blk_cell BK514.out 6).trans rfl
                        have hcz34_7 : wr.cell? ⟨gb514, 7, none⟩ = some (.int .i64 t511) := (blk_cell BK514.out 7).trans rfl
                        have hcz34_8 : wr.cell? ⟨gb514, 8, none⟩ = some (.int .i64 t512) := (blk_cell BK514.out 8).trans rfl
                        have hcz34_9 : wr.cell? ⟨gb514, 9, none⟩ = some (.int .i64 t513) := (blk_cell BK514.out 9).trans rfl
                        have hfz34_0 := blk_frozen BK514.out 0
                        have hfz34_1 := blk_frozen BK514.out 1
                        have hfz34_2 := blk_frozen BK514.out 2
                        have hfz34_3 := blk_frozen BK514.out 3
                        have hfz34_4 := blk_frozen BK514.out 4
                        have hfz34_5 := blk_frozen BK514.out 5
                        have hfz34_6 := blk_frozen BK514.out 6
                        have hfz34_7 := blk_frozen BK514.out 7
                        have hfz34_8 := blk_frozen BK514.out 8
                        have hfz34_9 := blk_frozen BK514.out 9
                        try go_wp2
                        have n0_ := Aside0.mk (Kd.R_drew HO_515003.out)
                        have n1_ := Aside0.mk (Kd.R_drew HO_515005.out)
                        have n2_ := Aside0.mk (Kd.R_drew HO_515006.out)
                        have n3_ := Aside0.mk (blk_drew BK494.out)
                        have n4_ := Aside0.mk (blk_drew BK514.out)
                        have n5_ := Aside0.mk (below_drew1 HB.out)
                        clear HO_515003
                        clear HO_515005
                        clear HO_515006
                        clear BK494
                        clear BK514
                        clear HB
                        have HO_515003 := n0_
                        have HO_515005 := n1_
                        have HO_515006 := n2_
                        have BK494 := n3_
                        have BK514 := n4_
                        have HB := n5_
                        clear n0_ n1_ n2_ n3_ n4_ n5_
                        have p516 : 0 ≤ (x4_2 : Int) := of_decide_eq_true (by first | (with_reducible assumption) | assumption)
                        have q516 : x4_2 < (t501.length : Int) := of_decide_eq_true (by first | (with_reducible assumption) | assumption)
                        obtain ⟨ad516, e516, hx516_0, hx516_1, hx516_2, hx516_3, hx516_4, hx516_5, hx516_6, hx516_7⟩ := at_T39 (Kd.R_reads' HO_515003.out).2.2 x4_2 p516 q516
                        cases e516
                        replace p516 := eq_true p516
                        replace q516 := eq_true q516
                        have q36 : ((ji28) : Int) ≤ ((t501.length : Int) : Int) := of_decide_eq_true (by first | (with_reducible assumption) | assumption)
                        obtain ⟨i036, hi036, _, hsz36, _⟩ := info_parts info39
                        have hroom36 : t501.length ≤ co22 := (Kd.R_reads' HO_515003.out).2.1
                        have hC36 : Kd.C k39 _ (some ad516) t501.length t501 := (Kd.R_reads' HO_515003.out).2.2
                        have q036 : (0 : Int) ≤ ((ji28) : Int) := of_decide_eq_true (by first | (with_reducible assumption) | assumption)
                        have hcut36 := cut_from (P := Try.prog) 22 39 .i64 Try.underlying22 hi036 8 hsz36 (some ad516) t501.length co22 (ji28) q036 q36
                        have hr36 := Kd.C_drop (m := ((ji28) : Int).toNat) (c := co22) hC36 (by omega) hroom36
                        obtain ⟨A36, hA36⟩ : ∃ A1, A1 = (if co22 = ((ji28) : Int).toNat then (some ad516) else ((some ad516) : Option Addr).map (·.add (((ji28) : Int).toNat * 8))) := ⟨_, rfl⟩
                        obtain ⟨c36, hc36⟩ : ∃ c1, c1 = co22 - ((ji28) : Int).toNat := ⟨_, rfl⟩
                        have hy36 : y517.length = t501.length - ((ji28) : Int).toNat := (by rw [Ny517.out, List.length_drop] <;> omega)
                        rw [show (t501).drop ((ji28) : Int).toNat = y517 from Ny517.out.symm] at hr36
                        replace hr36 : Kd.C k39 _ A36 y517.length y517 := (by rw [hA36]; exact hr36)
                        rw [← hy36, ← hA36, ← hc36] at hcut36
                        have HR520 := Aside0.mk hr36
                        have HC520 := Aside0.mk (show y517.length ≤ c36 from by rw [hy36, hc36]; exact Nat.sub_le_sub_right hroom36 _)
                        clear hr36 hC36 hroom36 hi036 hsz36 hc36
                        have KY36 := Aside0.mk hy36
                        have KA36 := Aside0.mk hA36
                        clear hy36 hA36
                        have KL36 := Aside0.mk (show ((ji28) : Int).toNat ≤ t501.length from by omega)
                        replace q36 := eq_true q36
                        have p521 : 0 ≤ (x4_2 : Int) := of_decide_eq_true (by first | (with_reducible assumption) | assumption)
                        have q521 : x4_2 < (t501.length : Int) := of_decide_eq_true (by first | (with_reducible assumption) | assumption)
                        obtain ⟨ad521, e521, hx521_0, hx521_1, hx521_2, hx521_3, hx521_4, hx521_5, hx521_6, hx521_7⟩ := at_T39 (Kd.R_reads' HO_515003.out).2.2 x4_2 p521 q521
                        obtain rfl : ad516 = ad521 := (by injection e521)
                        replace p521 := eq_true p521
                        replace q521 := eq_true q521
                        refine start_ (n := 23) (S := fun w' => w'.cell? ⟨gb514, 0, none⟩ = some (.int .i64 t498) ∧ w'.cell? ⟨gb514, 1, none⟩ = some (.int .i64 t499) ∧ w'.cell? ⟨gb514, 2, none⟩ = some (.int .i64 t500) ∧ w'.cell? ⟨gb514, 3, none⟩ = some (.slice (some ad516) t501.length co22) ∧ w'.cell? ⟨gb514, 4, none⟩ = some (.int .i64 t504) ∧ w'.cell? ⟨gb514, 5, none⟩ = some (.slice Ao23 t505.length co23) ∧ w'.cell? ⟨gb514, 6, none⟩ = some (.slice Ao24 t508.length co24) ∧ w'.cell? ⟨gb514, 7, none⟩ = some (.int .i64 t511) ∧ w'.cell? ⟨gb514, 8, none⟩ = some (.int .i64 t512) ∧ w'.cell? ⟨gb514, 9, none⟩ = some (.int .i64 t513) ∧ w'.cell? (ad516.add ((x4_2).toNat * 8)) = some (.int .u8 ((rd_T39 t501 x4_2).f0)) ∧ w'.cell? ⟨(ad516.add ((x4_2).toNat * 8)).block, (ad516.add ((x4_2).toNat * 8)).off + 1, none⟩ = some (.int .i64 ((rd_T39 t501 x4_2).f1)) ∧ w'.cell? ⟨(ad516.add ((x4_2).toNat * 8)).block, (ad516.add ((x4_2).toNat * 8)).off + 2, none⟩ = some (.int .i64 ((rd_T39 t501 x4_2).f2)) ∧ w'.cell? ⟨(ad516.add ((x4_2).toNat * 8)).block, (ad516.add ((x4_2).toNat * 8)).off + 3, none⟩ = some (.int .i64 ((rd_T39 t501 x4_2).f3)) ∧ w'.cell? ⟨(ad516.add ((x4_2).toNat * 8)).block, (ad516.add ((x4_2).toNat * 8)).off + 4, none⟩ = some (.string ((rd_T39 t501 x4_2).f4)) ∧ w'.cell? ⟨(ad516.add ((x4_2).toNat * 8)).block, (ad516.add ((x4_2).toNat * 8)).off + 5, none⟩ = some (.int .u8 ((rd_T39 t501 x4_2).f5.f0)) ∧ w'.cell? ⟨(ad516.add ((x4_2).toNat * 8)).block, (ad516.add ((x4_2).toNat * 8)).off + 6, none⟩ = some (.int .i64 ((rd_T39 t501 x4_2).f5.f1)) ∧ w'.cell? ⟨(ad516.add ((x4_2).toNat * 8)).block, (ad516.add ((x4_2).toNat * 8)).off + 7, none⟩ = some (.string ((rd_T39 t501 x4_2).f5.f2)) ∧ w'.cell? (ad516.add ((x4_2).toNat * 8)) = some (.int .u8 ((rd_T39 t501 x4_2).f0)) ∧ w'.cell? ⟨(ad516.add ((x4_2).toNat * 8)).block, (ad516.add ((x4_2).toNat * 8)).off + 1, none⟩ = some (.int .i64 ((rd_T39 t501 x4_2).f1)) ∧ w'.cell? ⟨(ad516.add ((x4_2).toNat * 8)).block, (ad516.add ((x4_2).toNat * 8)).off + 2, none⟩ = some (.int .i64 ((rd_T39 t501 x4_2).f2)) ∧ w'.cell? ⟨(ad516.add ((x4_2).toNat * 8)).block, (ad516.add ((x4_2).toNat * 8)).off + 3, none⟩ = some (.int .i64 ((rd_T39 t501 x4_2).f3)) ∧ w'.cell? ⟨(ad516.add ((x4_2).toNat * 8)).block, (ad516.add ((x4_2).toNat * 8)).off + 4, none⟩ = some (.string ((rd_T39 t501 x4_2).f4)) ∧ w'.cell? ⟨(ad516.add ((x4_2).toNat * 8)).block, (ad516.add ((x4_2).toNat * 8)).off + 5, none⟩ = some (.int .u8 ((rd_T39 t501 x4_2).f5.f0)) ∧ w'.cell? ⟨(ad516.add ((x4_2).toNat * 8)).block, (ad516.add ((x4_2).toNat * 8)).off + 6, none⟩ = some (.int .i64 ((rd_T39 t501 x4_2).f5.f1)) ∧ w'.cell? ⟨(ad516.add ((x4_2).toNat * 8)).block, (ad516.add ((x4_2).toNat * 8)).off + 7, none⟩ = some (.string ((rd_T39 t501 x4_2).f5.f2))) (ds := []) #[false, false, false, false, false, false, false, false, false, false, false, false, false, false, false, false, false, false, false, false, false, false, false] (by kernel_rfl) rfl rfl ⟨(blk_cell BK514.out 0).trans rfl, (blk_cell BK514.out 1).trans rfl, (blk_cell BK514.out 2).trans rfl, (blk_cell BK514.out 3).trans rfl, (blk_cell BK514.out 4).trans rfl, (blk_cell BK514.out 5).trans rfl, (blk_cell BK514.out 6).trans rfl, (blk_cell BK514.out 7).trans rfl, (blk_cell BK514.out 8).trans rfl, (blk_cell BK514.out 9).trans rfl, hx516_0, hx516_1, hx516_2, hx516_3, hx516_4, hx516_5, hx516_6, hx516_7, hx521_0, hx521_1, hx521_2, hx521_3, hx521_4, hx521_5, hx521_6, hx521_7⟩ (fun hHeld => ?_); refine with_tabW sacristanlaw18_SweepLast.tab7 sacristanlaw18_SweepLast.bits7 (fun HT_ HW_ => ?_)
                        generalize wr.drew = w35 at HO_515003 HO_515005 HO_515006 BK494 BK514 HB HR520 hx516_0 hx516_1 hx516_2 hx516_3 hx516_4 hx516_5 hx516_6 hx516_7 hx521_0 hx521_1 hx521_2 hx521_3 hx521_4 hx521_5 hx521_6 hx521_7 hHeld ⊢
                        refine pure_ (i := 0) (N := some 23) (v := ?_) (a' := ?_) #[true, false, false, false, false, false, false, false, false, false, false, false, false, false, false, false, false, false, false, false, false, false, false] rfl rfl (any_of HT_.out (by kernel_rfl)) (fun _ _ _ h => h) (Or.inl ⟨by rfl, ?_⟩) ?_ ?_
                        rotate_left
                        · intro w'
                          go_simp
                          with_reducible rfl
                        rotate_left
                        · simp only [Act.put, List.setIfInBounds_toArray, List.set_cons_zero, List.set_cons_succ, i64_w, i32_w]
                          rfl
                        refine pure_ (i := 2) (N := some 25) (v := ?_) (a' := ?_) #[true, false, true, false, false, false, false, false, false, false, false, false, false, false, false, false, false, false, false, false, false, false, false] rfl rfl (any_of HT_.out (by kernel_rfl)) (fun _ _ _ h => h) (Or.inl ⟨by rfl, ?_⟩) ?_ ?_
                        rotate_left
                        · intro w'
                          go_simp
                          with_reducible rfl
                        rotate_left
                        · simp only [Act.put, List.setIfInBounds_toArray, List.set_cons_zero, List.set_cons_succ, i64_w, i32_w]
                          rfl
                        refine take_ (i := 1) (N := some 24) (v := ?_) (a' := ?_) #[true, true, true, false, false, false, false, false, false, false, false, false, false, false, false, false, false, false, false, false, false, false, false] rfl rfl (take_ofW HT_.out HW_.out (by kernel_rfl)) (fun _ _ _ h => h) (Or.inl ⟨by rfl, ?_⟩) hHeld ?_ ?_
                        rotate_left
                        · rintro w' ⟨s0, s1, s2, s3, s4, s5, s6, s7, s8, s9, s10, s11, s12, s13, s14, s15, s16, s17, s18, s19, s20, s21, s22, s23, s24, s25⟩
                          go_simp
                          with_reducible rfl
                        rotate_left
                        · simp only [Act.put, List.setIfInBounds_toArray, List.set_cons_zero, List.set_cons_succ, i64_w, i32_w]
                          rfl
                        refine pure_ (i := 3) (N := some 26) (v := ?_) (a' := ?_) #[true, true, true, true, false, false, false, false, false, false, false, false, false, false, false, false, false, false, false, false, false, false, false] rfl rfl (any_of HT_.out (by kernel_rfl)) (fun _ _ _ h => h) (Or.inl ⟨by rfl, ?_⟩) ?_ ?_
                        rotate_left
                        · intro w'
                          go_simp
                          with_reducible rfl
                        rotate_left
                        · simp only [Act.put, List.setIfInBounds_toArray, List.set_cons_zero, List.set_cons_succ, i64_w, i32_w]
                          rfl
                        refine pure_ (i := 4) (N := some 27) (v := ?_) (a' := ?_) #[true, true, true, true, true, false, false, false, false, false, false, false, false, false, false, false, false, false, false, false, false, false, false] rfl rfl (any_of HT_.out (by kernel_rfl)) (fun _ _ _ h => h) (Or.inl ⟨by rfl, ?_⟩) ?_ ?_
                        rotate_left
                        · intro w'
                          go_simp
                          with_reducible rfl
                        rotate_left
                        · simp only [Act.put, List.setIfInBounds_toArray, List.set_cons_zero, List.set_cons_succ, i64_w, i32_w]
                          rfl
                        refine take_ (i := 5) (N := some 28) (v := ?_) (a' := ?_) #[true, true, true, true, true, true, false, false, false, false, false, false, false, false, false, false, false, false, false, false, false, false, false] rfl rfl (take_ofW HT_.out HW_.out (by kernel_rfl)) (fun _ _ _ h => h) (Or.inl ⟨by rfl, ?_⟩) hHeld ?_ ?_
                        rotate_left
                        · rintro w' ⟨s0, s1, s2, s3, s4, s5, s6, s7, s8, s9, s10, s11, s12, s13, s14, s15, s16, s17, s18, s19, s20, s21, s22, s23, s24, s25⟩
                          go_simp
                          with_reducible rfl
                        rotate_left
                        · simp only [Act.put, List.setIfInBounds_toArray, List.set_cons_zero, List.set_cons_succ, i64_w, i32_w]
                          rfl
                        refine pure_ (i := 6) (N := some 29) (v := ?_) (a' := ?_) #[true, true, true, true, true, true, true, false, false, false, false, false, false, false, false, false, false, false, false, false, false, false, false] rfl rfl (any_of HT_.out (by kernel_rfl)) (fun _ _ _ h => h) (Or.inl ⟨by rfl, ?_⟩) ?_ ?_
                        rotate_left
                        · intro w'
                          go_simp
                          with_reducible rfl
                        rotate_left
                        · simp only [Act.put, List.setIfInBounds_toArray, List.set_cons_zero, List.set_cons_succ, i64_w, i32_w]
                          rfl
                        refine pure_ (i := 7) (N := some 30) (v := ?_) (a' := ?_) #[true, true, true, true, true, true, true, true, false, false, false, false, false, false, false, false, false, false, false, false, false, false, false] rfl rfl (any_of HT_.out (by kernel_rfl)) (fun _ _ _ h => h) (Or.inl ⟨by rfl, ?_⟩) ?_ ?_
                        rotate_left
                        · intro w'
                          go_simp
                          with_reducible rfl
                        rotate_left
                        · simp only [Act.put, List.setIfInBounds_toArray, List.set_cons_zero, List.set_cons_succ, i64_w, i32_w]
                          rfl
                        refine pure_ (i := 9) (N := some 32) (v := ?_) (a' := ?_) #[true, true, true, true, true, true, true, true, false, true, false, false, false, false, false, false, false, false, false, false, false, false, false] rfl rfl (any_of HT_.out (by kernel_rfl)) (fun _ _ _ h => h) (Or.inl ⟨by rfl, ?_⟩) ?_ ?_
                        rotate_left
                        · intro w'
                          go_simp
                          with_reducible rfl
                        rotate_left
                        · simp only [Act.put, List.setIfInBounds_toArray, List.set_cons_zero, List.set_cons_succ, i64_w, i32_w]
                          rfl
                        refine pure_ (i := 11) (N := some 34) (v := ?_) (a' := ?_) #[true, true, true, true, true, true, true, true, false, true, false, true, false, false, false, false, false, false, false, false, false, false, false] rfl rfl (any_of HT_.out (by kernel_rfl)) (fun _ _ _ h => h) (Or.inl ⟨by rfl, ?_⟩) ?_ ?_
                        rotate_left
                        · intro w'
                          go_simp
                          with_reducible rfl
                        rotate_left
                        · simp only [Act.put, List.setIfInBounds_toArray, List.set_cons_zero, List.set_cons_succ, i64_w, i32_w]
                          rfl
                        refine pure_ (i := 12) (N := some 35) (v := ?_) (a' := ?_) #[true, true, true, true, true, true, true, true, false, true, false, true, true, false, false, false, false, false, false, false, false, false, false] rfl rfl (any_of HT_.out (by kernel_rfl)) (fun _ _ _ h => h) (Or.inl ⟨by rfl, ?_⟩) ?_ ?_
                        rotate_left
                        · intro w'
                          go_simp
                          with_reducible rfl
                        rotate_left
                        · simp only [Act.put, List.setIfInBounds_toArray, List.set_cons_zero, List.set_cons_succ, i64_w, i32_w]
                          rfl
                        refine pure_ (i := 14) (N := some 37) (v := ?_) (a' := ?_) #[true, true, true, true, true, true, true, true, false, true, false, true, true, false, true, false, false, false, false, false, false, false, false] rfl rfl (any_of HT_.out (by kernel_rfl)) (fun _ _ _ h => h) (Or.inl ⟨by rfl, ?_⟩) ?_ ?_
                        rotate_left
                        · intro w'
                          go_simp
                          with_reducible rfl
                        rotate_left
                        · simp only [Act.put, List.setIfInBounds_toArray, List.set_cons_zero, List.set_cons_succ, i64_w, i32_w]
                          rfl
                        refine pure_ (i := 16) (N := some 39) (v := ?_) (a' := ?_) #[true, true, true, true, true, true, true, true, false, true, false, true, true, false, true, false, true, false, false, false, false, false, false] rfl rfl (any_of HT_.out (by kernel_rfl)) (fun _ _ _ h => h) (Or.inl ⟨by rfl, ?_⟩) ?_ ?_
                        rotate_left
                        · intro w'
                          go_simp
                          with_reducible rfl
                        rotate_left
                        · simp only [Act.put, List.setIfInBounds_toArray, List.set_cons_zero, List.set_cons_succ, i64_w, i32_w]
                          rfl
                        refine take_ (i := 8) (N := some 31) (v := ?_) (a' := ?_) #[true, true, true, true, true, true, true, true, true, true, false, true, true, false, true, false, true, false, false, false, false, false, false] rfl rfl (take_ofW HT_.out HW_.out (by kernel_rfl)) (fun _ _ _ h => h) (Or.inl ⟨by rfl, ?_⟩) hHeld ?_ ?_
                        rotate_left
                        · rintro w' ⟨s0, s1, s2, s3, s4, s5, s6, s7, s8, s9, s10, s11, s12, s13, s14, s15, s16, s17, s18, s19, s20, s21, s22, s23, s24, s25⟩
                          go_simp
                          with_reducible rfl
                        rotate_left
                        · simp only [Act.put, List.setIfInBounds_toArray, List.set_cons_zero, List.set_cons_succ, i64_w, i32_w]
                          rfl
                        refine take_ (i := 10) (N := some 33) (v := ?_) (a' := ?_) #[true, true, true, true, true, true, true, true, true, true, true, true, true, false, true, false, true, false, false, false, false, false, false] rfl rfl (take_ofW HT_.out HW_.out (by kernel_rfl)) (fun _ _ _ h => h) (Or.inl ⟨by rfl, ?_⟩) hHeld ?_ ?_
                        rotate_left
                        · rintro w' ⟨s0, s1, s2, s3, s4, s5, s6, s7, s8, s9, s10, s11, s12, s13, s14, s15, s16, s17, s18, s19, s20, s21, s22, s23, s24, s25⟩
                          go_simp
                          with_reducible rfl
                        rotate_left
                        · simp only [Act.put, List.setIfInBounds_toArray, List.set_cons_zero, List.set_cons_succ, i64_w, i32_w]
                          rfl
                        refine pure_ (i := 13) (N := some 36) (v := ?_) (a' := ?_) #[true, true, true, true, true, true, true, true, true, true, true, true, true, true, true, false, true, false, false, false, false, false, false] rfl rfl (any_of HT_.out (by kernel_rfl)) (fun _ _ _ h => h) (Or.inl ⟨by rfl, ?_⟩) ?_ ?_
                        rotate_left
                        · intro w'
                          go_simp
                          with_reducible rfl
                        rotate_left
                        · simp only [Act.put, List.setIfInBounds_toArray, List.set_cons_zero, List.set_cons_succ, i64_w, i32_w]
                          rfl
                        refine take_ (i := 15) (N := some 38) (v := ?_) (a' := ?_) #[true, true, true, true, true, true, true, true, true, true, true, true, true, true, true, true, true, false, false, false, false, false, false] rfl rfl (take_ofW HT_.out HW_.out (by kernel_rfl)) (fun _ _ _ h => h) (Or.inl ⟨by rfl, ?_⟩) hHeld ?_ ?_
                        rotate_left
                        · rintro w' ⟨s0, s1, s2, s3, s4, s5, s6, s7, s8, s9, s10, s11, s12, s13, s14, s15, s16, s17, s18, s19, s20, s21, s22, s23, s24, s25⟩
                          go_simp
                          with_reducible rfl
                        rotate_left
                        · simp only [Act.put, List.setIfInBounds_toArray, List.set_cons_zero, List.set_cons_succ, i64_w, i32_w]
                          rfl
                        refine pure_ (i := 17) (N := some 40) (v := ?_) (a' := ?_) #[true, true, true, true, true, true, true, true, true, true, true, true, true, true, true, true, true, true, false, false, false, false, false] rfl rfl (any_of HT_.out (by kernel_rfl)) (fun _ _ _ h => h) (Or.inl ⟨by rfl, ?_⟩) ?_ ?_
                        rotate_left
                        · intro w'
                          go_simp
                          with_reducible rfl
                        rotate_left
                        · simp only [Act.put, List.setIfInBounds_toArray, List.set_cons_zero, List.set_cons_succ, i64_w, i32_w]
                          rfl
                        refine pure_ (i := 18) (N := some 41) (v := ?_) (a' := ?_) #[true, true, true, true, true, true, true, true, true, true, true, true, true, true, true, true, true, true, true, false, false, false, false] rfl rfl (any_of HT_.out (by kernel_rfl)) (fun _ _ _ h => h) (Or.inl ⟨by rfl, ?_⟩) ?_ ?_
                        rotate_left
                        · intro w'
                          go_simp
                          with_reducible rfl
                        rotate_left
                        · simp only [Act.put, List.setIfInBounds_toArray, List.set_cons_zero, List.set_cons_succ, i64_w, i32_w]
                          rfl
                        refine take_ (i := 19) (N := some 42) (v := ?_) (a' := ?_) #[true, true, true, true, true, true, true, true, true, true, true, true, true, true, true, true, true, true, true, true, false, false, false] rfl rfl (take_ofW HT_.out HW_.out (by kernel_rfl)) (fun _ _ _ h => h) (Or.inl ⟨by rfl, ?_⟩) hHeld ?_ ?_
                        rotate_left
                        · rintro w' ⟨s0, s1, s2, s3, s4, s5, s6, s7, s8, s9, s10, s11, s12, s13, s14, s15, s16, s17, s18, s19, s20, s21, s22, s23, s24, s25⟩
                          go_simp
                          with_reducible rfl
                        rotate_left
                        · simp only [Act.put, List.setIfInBounds_toArray, List.set_cons_zero, List.set_cons_succ, i64_w, i32_w]
                          rfl
                        refine one_ (i := 20) (N := some 43) #[true, true, true, true, true, true, true, true, true, true, true, true, true, true, true, true, true, true, true, true, true, false, false] rfl rfl (one_of HT_.out (by kernel_rfl)) (by decide) (fun K hK => ?_)
                        refine goes_ Try.func23 (by kernel_rfl) rfl #[.agg #[.int .i64 t498, .int .i64 t499, .int .i64 t500, .slice (some ad516) t501.length co22, .int .i64 t504, .slice Ao23 t505.length co23, .slice Ao24 t508.length co24, .int .i64 t511, .int .i64 t512, .int .i64 t513], .slice A36 y517.length c36, .int .i64 ((rd_T39 t501 x4_2).f1)] (by rfl) rfl rfl (by (try simp only [List.map_toArray, List.map_cons, List.map_nil]); first | done | rfl | (simp only [List.length_drop, List.length_take]; rfl)) ?_
                        with_reducible refine (sacristanref18_Read.calls k2 t498 t499 t500 _ _ t501 t504 _ _ t505 _ _ t508 t511 t512 t513 _ _ y517 ((rd_T39 t501 x4_2).f1) true _ ?side1 ?side2 ?side3 ?side4 ?side5 ?side6 ?side7 ?side8 A31.out).mono ?_
                        (case side1 => repeat (first | exact (Kd.R_reads' HO_515003.out).2.2 | (with_reducible refine Kd.C_alloc ?_ _) | (with_reducible refine Kd.C_drewN ?_ _) | (with_reducible refine Kd.C_drew ?_)))
                        (case side2 => exact (Kd.R_reads' HO_515003.out).2.1)
                        (case side3 => repeat (first | exact (Kd.R_reads' HO_515005.out).2.2 | (with_reducible refine Kd.C_alloc ?_ _) | (with_reducible refine Kd.C_drewN ?_ _) | (with_reducible refine Kd.C_drew ?_)))
                        (case side4 => exact (Kd.R_reads' HO_515005.out).2.1)
                        (case side5 => repeat (first | exact (Kd.R_reads' HO_515006.out).2.2 | (with_reducible refine Kd.C_alloc ?_ _) | (with_reducible refine Kd.C_drewN ?_ _) | (with_reducible refine Kd.C_drew ?_)))
                        (case side6 => exact (Kd.R_reads' HO_515006.out).2.1)
                        (case side7 => repeat (first | exact (by repeat (first | (with_reducible exact HR520.out) | (with_reducible refine Kd.C_alloc ?_ _) | (with_reducible refine Kd.C_drewN ?_ _) | (with_reducible refine Kd.C_drew ?_) | exact HR520.out)) | (with_reducible refine Kd.C_alloc ?_ _) | (with_reducible refine Kd.C_drewN ?_ _) | (with_reducible refine Kd.C_drew ?_)))
                        (case side8 => exact HC520.out)
                        rintro e w37 ⟨rfl, hb⟩
                        have HS10_ := (hb.cell (World.block_lt_of_cell? _ _ (hHeld.2.2.2.2.2.2.2.2.2.2.1))).trans (hHeld.2.2.2.2.2.2.2.2.2.2.1)
                        have HS11_ := (hb.cell (World.block_lt_of_cell? _ _ (hHeld.2.2.2.2.2.2.2.2.2.2.2.1))).trans (hHeld.2.2.2.2.2.2.2.2.2.2.2.1)
                        have HS12_ := (hb.cell (World.block_lt_of_cell? _ _ (hHeld.2.2.2.2.2.2.2.2.2.2.2.2.1))).trans (hHeld.2.2.2.2.2.2.2.2.2.2.2.2.1)
                        have HS13_ := (hb.cell (World.block_lt_of_cell? _ _ (hHeld.2.2.2.2.2.2.2.2.2.2.2.2.2.1))).trans (hHeld.2.2.2.2.2.2.2.2.2.2.2.2.2.1)
                        have HS14_ := (hb.cell (World.block_lt_of_cell? _ _ (hHeld.2.2.2.2.2.2.2.2.2.2.2.2.2.2.1))).trans (hHeld.2.2.2.2.2.2.2.2.2.2.2.2.2.2.1)
                        have HS15_ := (hb.cell (World.block_lt_of_cell? _ _ (hHeld.2.2.2.2.2.2.2.2.2.2.2.2.2.2.2.1))).trans (hHeld.2.2.2.2.2.2.2.2.2.2.2.2.2.2.2.1)
                        have HS16_ := (hb.cell (World.block_lt_of_cell? _ _ (hHeld.2.2.2.2.2.2.2.2.2.2.2.2.2.2.2.2.1))).trans (hHeld.2.2.2.2.2.2.2.2.2.2.2.2.2.2.2.2.1)
                        have HS17_ := (hb.cell (World.block_lt_of_cell? _ _ (hHeld.2.2.2.2.2.2.2.2.2.2.2.2.2.2.2.2.2.1))).trans (hHeld.2.2.2.2.2.2.2.2.2.2.2.2.2.2.2.2.2.1)
                        have HS18_ := (hb.cell (World.block_lt_of_cell? _ _ (hHeld.2.2.2.2.2.2.2.2.2.2.2.2.2.2.2.2.2.2.1))).trans (hHeld.2.2.2.2.2.2.2.2.2.2.2.2.2.2.2.2.2.2.1)
                        have HS19_ := (hb.cell (World.block_lt_of_cell? _ _ (hHeld.2.2.2.2.2.2.2.2.2.2.2.2.2.2.2.2.2.2.2.1))).trans (hHeld.2.2.2.2.2.2.2.2.2.2.2.2.2.2.2.2.2.2.2.1)
                        have HS20_ := (hb.cell (World.block_lt_of_cell? _ _ (hHeld.2.2.2.2.2.2.2.2.2.2.2.2.2.2.2.2.2.2.2.2.1))).trans (hHeld.2.2.2.2.2.2.2.2.2.2.2.2.2.2.2.2.2.2.2.2.1)
                        have HS21_ := (hb.cell (World.block_lt_of_cell? _ _ (hHeld.2.2.2.2.2.2.2.2.2.2.2.2.2.2.2.2.2.2.2.2.2.1))).trans (hHeld.2.2.2.2.2.2.2.2.2.2.2.2.2.2.2.2.2.2.2.2.2.1)
                        have HS22_ := (hb.cell (World.block_lt_of_cell? _ _ (hHeld.2.2.2.2.2.2.2.2.2.2.2.2.2.2.2.2.2.2.2.2.2.2.1))).trans (hHeld.2.2.2.2.2.2.2.2.2.2.2.2.2.2.2.2.2.2.2.2.2.2.1)
                        have HS23_ := (hb.cell (World.block_lt_of_cell? _ _ (hHeld.2.2.2.2.2.2.2.2.2.2.2.2.2.2.2.2.2.2.2.2.2.2.2.1))).trans (hHeld.2.2.2.2.2.2.2.2.2.2.2.2.2.2.2.2.2.2.2.2.2.2.2.1)
                        have HS24_ := (hb.cell (World.block_lt_of_cell? _ _ (hHeld.2.2.2.2.2.2.2.2.2.2.2.2.2.2.2.2.2.2.2.2.2.2.2.2.1))).trans (hHeld.2.2.2.2.2.2.2.2.2.2.2.2.2.2.2.2.2.2.2.2.2.2.2.2.1)
                        have HS25_ := (hb.cell (World.block_lt_of_cell? _ _ (hHeld.2.2.2.2.2.2.2.2.2.2.2.2.2.2.2.2.2.2.2.2.2.2.2.2.2))).trans (hHeld.2.2.2.2.2.2.2.2.2.2.2.2.2.2.2.2.2.2.2.2.2.2.2.2.2)
                        refine ⟨_, rfl, ?_⟩
                        have n0_ := Aside0.mk (Kd.R_below (by (with_reducible repeat (first | apply Kd.R_alloc | apply Kd.R_drewN | apply Kd.R_drew)); exact HO_515003.out) hb)
                        have n1_ := Aside0.mk (Kd.R_below (by (with_reducible repeat (first | apply Kd.R_alloc | apply Kd.R_drewN | apply Kd.R_drew)); exact HO_515005.out) hb)
                        have n2_ := Aside0.mk (Kd.R_below (by (with_reducible repeat (first | apply Kd.R_alloc | apply Kd.R_drewN | apply Kd.R_drew)); exact HO_515006.out) hb)
                        have n3_ := Aside0.mk (blk_below (g := gb494) (o := .cells #[.int .i64 a0_0, .int .i64 a0_1, .int .i64 a0_2, .slice A0_3 l0_3.length c0_3, .int .i64 a0_4, .slice A0_5 l0_5.length c0_5, .slice A0_6 l0_6.length c0_6, .int .i64 a0_7, .int .i64 a0_8, .int .i64 a0_9] 25 (0, 0)) (by (with_reducible repeat (first | refine blk_drewN ?_ _ | refine blk_drew ?_ | refine blk_alloc ?_ _)); exact BK494.out) hb)
                        have n4_ := Aside0.mk (blk_below (g := gb514) (o := .cells #[.int .i64 t498, .int .i64 t499, .int .i64 t500, .slice (some ad516) t501.length co22, .int .i64 t504, .slice Ao23 t505.length co23, .slice Ao24 t508.length co24, .int .i64 t511, .int .i64 t512, .int .i64 t513] 25 (0, 0)) (by (with_reducible repeat (first | refine blk_drewN ?_ _ | refine blk_drew ?_ | refine blk_alloc ?_ _)); exact BK514.out) hb)
                        have n5_ := Aside0.mk (Kd.C_below (by repeat (first | (with_reducible exact HR520.out) | (with_reducible refine Kd.C_alloc ?_ _) | (with_reducible refine Kd.C_drewN ?_ _) | (with_reducible refine Kd.C_drew ?_) | exact HR520.out)) hb)
                        have n6_ := Aside0.mk (below_step (by repeat (first | (with_reducible first | exact HB.out | apply below_alloc | apply pw_below_drewN | apply below_drew1 | refine below_set ?_ GE494.out | refine below_set ?_ GE514.out) | exact HB.out)) hb)
                        clear HO_515003
                        clear HO_515005
                        clear HO_515006
                        clear BK494
                        clear BK514
                        clear HR520
                        clear HB
                        have HO_515003 := n0_
                        have HO_515005 := n1_
                        have HO_515006 := n2_
                        have BK494 := n3_
                        have BK514 := n4_
                        have HR520 := n5_
                        have HB := n6_
                        clear n0_ n1_ n2_ n3_ n4_ n5_ n6_
                        (try clear hb)
                        (try clear hb2)
                        (try clear hk)
                        (try clear hi)
                        refine hK.out _ _ ⟨(blk_cell BK514.out 0).trans rfl, (blk_cell BK514.out 1).trans rfl, (blk_cell BK514.out 2).trans rfl, (blk_cell BK514.out 3).trans rfl, (blk_cell BK514.out 4).trans rfl, (blk_cell BK514.out 5).trans rfl, (blk_cell BK514.out 6).trans rfl, (blk_cell BK514.out 7).trans rfl, (blk_cell BK514.out 8).trans rfl, (blk_cell BK514.out 9).trans rfl, HS10_, HS11_, HS12_, HS13_, HS14_, HS15_, HS16_, HS17_, HS18_, HS19_, HS20_, HS21_, HS22_, HS23_, HS24_, HS25_⟩ (fun hHeld => ?_)
                        clear hK K
                        refine norm_ (a' := ?_) ?_ ?_
                        rotate_left
                        · show Act.put _ (some 43) _ = _
                          simp only [Act.put, List.setIfInBounds_toArray, List.set_cons_zero, List.set_cons_succ, i64_w, i32_w]
                          rfl
                        refine pure_ (i := 21) (N := some 44) (v := ?_) (a' := ?_) #[true, true, true, true, true, true, true, true, true, true, true, true, true, true, true, true, true, true, true, true, true, true, false] rfl rfl (any_of HT_.out (by kernel_rfl)) (fun _ _ _ h => h) (Or.inl ⟨by rfl, ?_⟩) ?_ ?_
                        rotate_left
                        · intro w'
                          go_simp
                          with_reducible rfl
                        rotate_left
                        · simp only [Act.put, List.setIfInBounds_toArray, List.set_cons_zero, List.set_cons_succ, i64_w, i32_w]
                          rfl
                        refine pure_ (i := 22) (N := some 45) (v := ?_) (a' := ?_) #[true, true, true, true, true, true, true, true, true, true, true, true, true, true, true, true, true, true, true, true, true, true, true] rfl rfl (any_of HT_.out (by kernel_rfl)) (fun _ _ _ h => h) (Or.inl ⟨by rfl, ?_⟩) ?_ ?_
                        rotate_left
                        · intro w'
                          go_simp
                          with_reducible rfl
                        rotate_left
                        · simp only [Act.put, List.setIfInBounds_toArray, List.set_cons_zero, List.set_cons_succ, i64_w, i32_w]
                          rfl
                        refine done_ (done_of HT_.out (by kernel_rfl)) ?_
                        try go_wp2
                        go_roundg k2
                        case measure => have := HJ1.out; have := HK2.out; omega
                        case rel => exact ⟨(ji28), (by first | rfl | (simp; done) | (simp only [← hji28] <;> (first | rfl | simp)) | (simp [*]; done)), H', ⟨by have := HJ1.out; have := HK2.out; omega⟩, ⟨by (with_reducible repeat (first | apply Kd.R_alloc | apply Kd.R_drewN | apply Kd.R_drew)); exact HO_515003.out⟩, ⟨by (with_reducible repeat (first | apply Kd.R_alloc | apply Kd.R_drewN | apply Kd.R_drew)); exact HO_515005.out⟩, ⟨by (with_reducible repeat (first | apply Kd.R_alloc | apply Kd.R_drewN | apply Kd.R_drew)); exact HO_515006.out⟩, ⟨by (with_reducible repeat (first | refine blk_drewN ?_ _ | refine blk_drew ?_ | refine blk_alloc ?_ _)); exact BK494.out⟩, ⟨by (with_reducible repeat (first | refine blk_drewN ?_ _ | refine blk_drew ?_ | refine blk_alloc ?_ _)); exact BK514.out⟩, ⟨by repeat (first | (with_reducible first | exact HB.out | apply below_alloc | apply pw_below_drewN | apply below_drew1 | refine below_set ?_ GE494.out | refine below_set ?_ GE514.out) | exact HB.out)⟩⟩
                      · replace c32 := Bool.eq_false_iff.mpr c32
                        subst c32
                        have H1 : (some false) = some r := by rw [if_neg (show ¬ (false = true) by decide)] at H; exact H
                        clear H
                        have H := H1
                        clear H1
                        obtain rfl := Option.some.inj H
                        have hnb38 := NB514_494.out
                        have hnc38 := NB494_514.out
                        have hcz39_0 : wr.cell? ⟨gb514, 0, none⟩ = some (.int .i64 t498) := (blk_cell BK514.out 0).trans rfl
                        have hcz39_1 : wr.cell? ⟨gb514, 1, none⟩ = some (.int .i64 t499) := (blk_cell BK514.out 1).trans rfl
                        have hcz39_2 : wr.cell? ⟨gb514, 2, none⟩ = some (.int .i64 t500) := (blk_cell BK514.out 2).trans rfl
                        have hcz39_3 : wr.cell? ⟨gb514, 3, none⟩ = some (.slice Ao22 t501.length co22) := (blk_cell BK514.out 3).trans rfl
                        have hcz39_4 : wr.cell? ⟨gb514, 4, none⟩ = some (.int .i64 t504) := (blk_cell BK514.out 4).trans rfl
                        have hcz39_5 : wr.cell? ⟨gb514, 5, none⟩ = some (.slice Ao23 t505.length co23) := (blk_cell BK514.out 5).trans rfl
                        have hcz39_6 : wr.cell? ⟨gb514, 6, none⟩ = some (.slice Ao24 t508.length co24) := (blk_cell BK514.out 6).trans rfl
                        have hcz39_7 : wr.cell? ⟨gb514, 7, none⟩ = some (.int .i64 t511) := (blk_cell BK514.out 7).trans rfl
                        have hcz39_8 : wr.cell? ⟨gb514, 8, none⟩ = some (.int .i64 t512) := (blk_cell BK514.out 8).trans rfl
                        have hcz39_9 : wr.cell? ⟨gb514, 9, none⟩ = some (.int .i64 t513) := (blk_cell BK514.out 9).trans rfl
                        have hfz39_0 := blk_frozen BK514.out 0
                        have hfz39_1 := blk_frozen BK514.out 1
                        have hfz39_2 := blk_frozen BK514.out 2
                        have hfz39_3 := blk_frozen BK514.out 3
                        have hfz39_4 := blk_frozen BK514.out 4
                        have hfz39_5 := blk_frozen BK514.out 5
                        have hfz39_6 := blk_frozen BK514.out 6
                        have hfz39_7 := blk_frozen BK514.out 7
                        have hfz39_8 := blk_frozen BK514.out 8
                        have hfz39_9 := blk_frozen BK514.out 9
                        try go_wp2
                        have n0_ := Aside0.mk (Kd.R_drew HO_515003.out)
                        have n1_ := Aside0.mk (Kd.R_drew HO_515005.out)
                        have n2_ := Aside0.mk (Kd.R_drew HO_515006.out)
                        have n3_ := Aside0.mk (blk_drew BK494.out)
                        have n4_ := Aside0.mk (blk_drew BK514.out)
                        have n5_ := Aside0.mk (below_drew1 HB.out)
                        clear HO_515003
                        clear HO_515005
                        clear HO_515006
                        clear BK494
                        clear BK514
                        clear HB
                        have HO_515003 := n0_
                        have HO_515005 := n1_
                        have HO_515006 := n2_
                        have BK494 := n3_
                        have BK514 := n4_
                        have HB := n5_
                        clear n0_ n1_ n2_ n3_ n4_ n5_
                        have p516 : 0 ≤ (x4_2 : Int) := of_decide_eq_true (by first | (with_reducible assumption) | assumption)
                        have q516 : x4_2 < (t501.length : Int) := of_decide_eq_true (by first | (with_reducible assumption) | assumption)
                        obtain ⟨ad516, e516, hx516_0, hx516_1, hx516_2, hx516_3, hx516_4, hx516_5, hx516_6, hx516_7⟩ := at_T39 (Kd.R_reads' HO_515003.out).2.2 x4_2 p516 q516
                        cases e516
                        replace p516 := eq_true p516
                        replace q516 := eq_true q516
                        have q41 : ((ji28) : Int) ≤ ((t501.length : Int) : Int) := of_decide_eq_true (by first | (with_reducible assumption) | assumption)
                        obtain ⟨i041, hi041, _, hsz41, _⟩ := info_parts info39
                        have hroom41 : t501.length ≤ co22 := (Kd.R_reads' HO_515003.out).2.1
                        have hC41 : Kd.C k39 _ (some ad516) t501.length t501 := (Kd.R_reads' HO_515003.out).2.2
                        have q041 : (0 : Int) ≤ ((ji28) : Int) := of_decide_eq_true (by first | (with_reducible assumption) | assumption)
                        have hcut41 := cut_from (P := Try.prog) 22 39 .i64 Try.underlying22 hi041 8 hsz41 (some ad516) t501.length co22 (ji28) q041 q41
                        have hr41 := Kd.C_drop (m := ((ji28) : Int).toNat) (c := co22) hC41 (by omega) hroom41
                        obtain ⟨A41, hA41⟩ : ∃ A1, A1 = (if co22 = ((ji28) : Int).toNat then (some ad516) else ((some ad516) : Option Addr).map (·.add (((ji28) : Int).toNat * 8))) := ⟨_, rfl⟩
                        obtain ⟨c41, hc41⟩ : ∃ c1, c1 = co22 - ((ji28) : Int).toNat := ⟨_, rfl⟩
                        have hy41 : y517.length = t501.length - ((ji28) : Int).toNat := (by rw [Ny517.out, List.length_drop] <;> omega)
                        rw [show (t501).drop ((ji28) : Int).toNat = y517 from Ny517.out.symm] at hr41
                        replace hr41 : Kd.C k39 _ A41 y517.length y517 := (by rw [hA41]; exact hr41)
                        rw [← hy41, ← hA41, ← hc41] at hcut41
                        have HR520 := Aside0.mk hr41
                        have HC520 := Aside0.mk (show y517.length ≤ c41 from by rw [hy41, hc41]; exact Nat.sub_le_sub_right hroom41 _)
                        clear hr41 hC41 hroom41 hi041 hsz41 hc41
                        have KY41 := Aside0.mk hy41
                        have KA41 := Aside0.mk hA41
                        clear hy41 hA41
                        have KL41 := Aside0.mk (show ((ji28) : Int).toNat ≤ t501.length from by omega)
                        replace q41 := eq_true q41
                        have p521 : 0 ≤ (x4_2 : Int) := of_decide_eq_true (by first | (with_reducible assumption) | assumption)
                        have q521 : x4_2 < (t501.length : Int) := of_decide_eq_true (by first | (with_reducible assumption) | assumption)
                        obtain ⟨ad521, e521, hx521_0, hx521_1, hx521_2, hx521_3, hx521_4, hx521_5, hx521_6, hx521_7⟩ := at_T39 (Kd.R_reads' HO_515003.out).2.2 x4_2 p521 q521
                        obtain rfl : ad516 = ad521 := (by injection e521)
                        replace p521 := eq_true p521
                        replace q521 := eq_true q521
                        refine start_ (n := 23) (S := fun w' => w'.cell? ⟨gb514, 0, none⟩ = some (.int .i64 t498) ∧ w'.cell? ⟨gb514, 1, none⟩ = some (.int .i64 t499) ∧ w'.cell? ⟨gb514, 2, none⟩ = some (.int .i64 t500) ∧ w'.cell? ⟨gb514, 3, none⟩ = some (.slice (some ad516) t501.length co22) ∧ w'.cell? ⟨gb514, 4, none⟩ = some (.int .i64 t504) ∧ w'.cell? ⟨gb514, 5, none⟩ = some (.slice Ao23 t505.length co23) ∧ w'.cell? ⟨gb514, 6, none⟩ = some (.slice Ao24 t508.length co24) ∧ w'.cell? ⟨gb514, 7, none⟩ = some (.int .i64 t511) ∧ w'.cell? ⟨gb514, 8, none⟩ = some (.int .i64 t512) ∧ w'.cell? ⟨gb514, 9, none⟩ = some (.int .i64 t513) ∧ w'.cell? (ad516.add ((x4_2).toNat * 8)) = some (.int .u8 ((rd_T39 t501 x4_2).f0)) ∧ w'.cell? ⟨(ad516.add ((x4_2).toNat * 8)).block, (ad516.add ((x4_2).toNat * 8)).off + 1, none⟩ = some (.int .i64 ((rd_T39 t501 x4_2).f1)) ∧ w'.cell? ⟨(ad516.add ((x4_2).toNat * 8)).block, (ad516.add ((x4_2).toNat * 8)).off + 2, none⟩ = some (.int .i64 ((rd_T39 t501 x4_2).f2)) ∧ w'.cell? ⟨(ad516.add ((x4_2).toNat * 8)).block, (ad516.add ((x4_2).toNat * 8)).off + 3, none⟩ = some (.int .i64 ((rd_T39 t501 x4_2).f3)) ∧ w'.cell? ⟨(ad516.add ((x4_2).toNat * 8)).block, (ad516.add ((x4_2).toNat * 8)).off + 4, none⟩ = some (.string ((rd_T39 t501 x4_2).f4)) ∧ w'.cell? ⟨(ad516.add ((x4_2).toNat * 8)).block, (ad516.add ((x4_2).toNat * 8)).off + 5, none⟩ = some (.int .u8 ((rd_T39 t501 x4_2).f5.f0)) ∧ w'.cell? ⟨(ad516.add ((x4_2).toNat * 8)).block, (ad516.add ((x4_2).toNat * 8)).off + 6, none⟩ = some (.int .i64 ((rd_T39 t501 x4_2).f5.f1)) ∧ w'.cell? ⟨(ad516.add ((x4_2).toNat * 8)).block, (ad516.add ((x4_2).toNat * 8)).off + 7, none⟩ = some (.string ((rd_T39 t501 x4_2).f5.f2)) ∧ w'.cell? (ad516.add ((x4_2).toNat * 8)) = some (.int .u8 ((rd_T39 t501 x4_2).f0)) ∧ w'.cell? ⟨(ad516.add ((x4_2).toNat * 8)).block, (ad516.add ((x4_2).toNat * 8)).off + 1, none⟩ = some (.int .i64 ((rd_T39 t501 x4_2).f1)) ∧ w'.cell? ⟨(ad516.add ((x4_2).toNat * 8)).block, (ad516.add ((x4_2).toNat * 8)).off + 2, none⟩ = some (.int .i64 ((rd_T39 t501 x4_2).f2)) ∧ w'.cell? ⟨(ad516.add ((x4_2).toNat * 8)).block, (ad516.add ((x4_2).toNat * 8)).off + 3, none⟩ = some (.int .i64 ((rd_T39 t501 x4_2).f3)) ∧ w'.cell? ⟨(ad516.add ((x4_2).toNat * 8)).block, (ad516.add ((x4_2).toNat * 8)).off + 4, none⟩ = some (.string ((rd_T39 t501 x4_2).f4)) ∧ w'.cell? ⟨(ad516.add ((x4_2).toNat * 8)).block, (ad516.add ((x4_2).toNat * 8)).off + 5, none⟩ = some (.int .u8 ((rd_T39 t501 x4_2).f5.f0)) ∧ w'.cell? ⟨(ad516.add ((x4_2).toNat * 8)).block, (ad516.add ((x4_2).toNat * 8)).off + 6, none⟩ = some (.int .i64 ((rd_T39 t501 x4_2).f5.f1)) ∧ w'.cell? ⟨(ad516.add ((x4_2).toNat * 8)).block, (ad516.add ((x4_2).toNat * 8)).off + 7, none⟩ = some (.string ((rd_T39 t501 x4_2).f5.f2))) (ds := []) #[false, false, false, false, false, false, false, false, false, false, false, false, false, false, false, false, false, false, false, false, false, false, false] (by kernel_rfl) rfl rfl ⟨(blk_cell BK514.out 0).trans rfl, (blk_cell BK514.out 1).trans rfl, (blk_cell BK514.out 2).trans rfl, (blk_cell BK514.out 3).trans rfl, (blk_cell BK514.out 4).trans rfl, (blk_cell BK514.out 5).trans rfl, (blk_cell BK514.out 6).trans rfl, (blk_cell BK514.out 7).trans rfl, (blk_cell BK514.out 8).trans rfl, (blk_cell BK514.out 9).trans rfl, hx516_0, hx516_1, hx516_2, hx516_3, hx516_4, hx516_5, hx516_6, hx516_7, hx521_0, hx521_1, hx521_2, hx521_3, hx521_4, hx521_5, hx521_6, hx521_7⟩ (fun hHeld => ?_); refine with_tabW sacristanlaw18_SweepLast.tab7 sacristanlaw18_SweepLast.bits7 (fun HT_ HW_ => ?_)
                        generalize wr.drew = w40 at HO_515003 HO_515005 HO_515006 BK494 BK514 HB HR520 hx516_0 hx516_1 hx516_2 hx516_3 hx516_4 hx516_5 hx516_6 hx516_7 hx521_0 hx521_1 hx521_2 hx521_3 hx521_4 hx521_5 hx521_6 hx521_7 hHeld ⊢
                        refine pure_ (i := 0) (N := some 23) (v := ?_) (a' := ?_) #[true, false, false, false, false, false, false, false, false, false, false, false, false, false, false, false, false, false, false, false, false, false, false] rfl rfl (any_of HT_.out (by kernel_rfl)) (fun _ _ _ h => h) (Or.inl ⟨by rfl, ?_⟩) ?_ ?_
                        rotate_left
                        · intro w'
                          go_simp
                          with_reducible rfl
                        rotate_left
                        · simp only [Act.put, List.setIfInBounds_toArray, List.set_cons_zero, List.set_cons_succ, i64_w, i32_w]
                          rfl
                        refine pure_ (i := 2) (N := some 25) (v := ?_) (a' := ?_) #[true, false, true, false, false, false, false, false, false, false, false, false, false, false, false, false, false, false, false, false, false, false, false] rfl rfl (any_of HT_.out (by kernel_rfl)) (fun _ _ _ h => h) (Or.inl ⟨by rfl, ?_⟩) ?_ ?_
                        rotate_left
                        · intro w'
                          go_simp
                          with_reducible rfl
                        rotate_left
                        · simp only [Act.put, List.setIfInBounds_toArray, List.set_cons_zero, List.set_cons_succ, i64_w, i32_w]
                          rfl
                        refine take_ (i := 1) (N := some 24) (v := ?_) (a' := ?_) #[true, true, true, false, false, false, false, false, false, false, false, false, false, false, false, false, false, false, false, false, false, false, false] rfl rfl (take_ofW HT_.out HW_.out (by kernel_rfl)) (fun _ _ _ h => h) (Or.inl ⟨by rfl, ?_⟩) hHeld ?_ ?_
                        rotate_left
                        · rintro w' ⟨s0, s1, s2, s3, s4, s5, s6, s7, s8, s9, s10, s11, s12, s13, s14, s15, s16, s17, s18, s19, s20, s21, s22, s23, s24, s25⟩
                          go_simp
                          with_reducible rfl
                        rotate_left
                        · simp only [Act.put, List.setIfInBounds_toArray, List.set_cons_zero, List.set_cons_succ, i64_w, i32_w]
                          rfl
                        refine pure_ (i := 3) (N := some 26) (v := ?_) (a' := ?_) #[true, true, true, true, false, false, false, false, false, false, false, false, false, false, false, false, false, false, false, false, false, false, false] rfl rfl (any_of HT_.out (by kernel_rfl)) (fun _ _ _ h => h) (Or.inl ⟨by rfl, ?_⟩) ?_ ?_
                        rotate_left
                        · intro w'
                          go_simp
                          with_reducible rfl
                        rotate_left
                        · simp only [Act.put, List.setIfInBounds_toArray, List.set_cons_zero, List.set_cons_succ, i64_w, i32_w]
                          rfl
                        refine pure_ (i := 4) (N := some 27) (v := ?_) (a' := ?_) #[true, true, true, true, true, false, false, false, false, false, false, false, false, false, false, false, false, false, false, false, false, false, false] rfl rfl (any_of HT_.out (by kernel_rfl)) (fun _ _ _ h => h) (Or.inl ⟨by rfl, ?_⟩) ?_ ?_
                        rotate_left
                        · intro w'
                          go_simp
                          with_reducible rfl
                        rotate_left
                        · simp only [Act.put, List.setIfInBounds_toArray, List.set_cons_zero, List.set_cons_succ, i64_w, i32_w]
                          rfl
                        refine take_ (i := 5) (N := some 28) (v := ?_) (a' := ?_) #[true, true, true, true, true, true, false, false, false, false, false, false, false, false, false, false, false, false, false, false, false, false, false] rfl rfl (take_ofW HT_.out HW_.out (by kernel_rfl)) (fun _ _ _ h => h) (Or.inl ⟨by rfl, ?_⟩) hHeld ?_ ?_
                        rotate_left
                        · rintro w' ⟨s0, s1, s2, s3, s4, s5, s6, s7, s8, s9, s10, s11, s12, s13, s14, s15, s16, s17, s18, s19, s20, s21, s22, s23, s24, s25⟩
                          go_simp
                          with_reducible rfl
                        rotate_left
                        · simp only [Act.put, List.setIfInBounds_toArray, List.set_cons_zero, List.set_cons_succ, i64_w, i32_w]
                          rfl
                        refine pure_ (i := 6) (N := some 29) (v := ?_) (a' := ?_) #[true, true, true, true, true, true, true, false, false, false, false, false, false, false, false, false, false, false, false, false, false, false, false] rfl rfl (any_of HT_.out (by kernel_rfl)) (fun _ _ _ h => h) (Or.inl ⟨by rfl, ?_⟩) ?_ ?_
                        rotate_left
                        · intro w'
                          go_simp
                          with_reducible rfl
                        rotate_left
                        · simp only [Act.put, List.setIfInBounds_toArray, List.set_cons_zero, List.set_cons_succ, i64_w, i32_w]
                          rfl
                        refine pure_ (i := 7) (N := some 30) (v := ?_) (a' := ?_) #[true, true, true, true, true, true, true, true, false, false, false, false, false, false, false, false, false, false, false, false, false, false, false] rfl rfl (any_of HT_.out (by kernel_rfl)) (fun _ _ _ h => h) (Or.inl ⟨by rfl, ?_⟩) ?_ ?_
                        rotate_left
                        · intro w'
                          go_simp
                          with_reducible rfl
                        rotate_left
                        · simp only [Act.put, List.setIfInBounds_toArray, List.set_cons_zero, List.set_cons_succ, i64_w, i32_w]
                          rfl
                        refine pure_ (i := 9) (N := some 32) (v := ?_) (a' := ?_) #[true, true, true, true, true, true, true, true, false, true, false, false, false, false, false, false, false, false, false, false, false, false, false] rfl rfl (any_of HT_.out (by kernel_rfl)) (fun _ _ _ h => h) (Or.inl ⟨by rfl, ?_⟩) ?_ ?_
                        rotate_left
                        · intro w'
                          go_simp
                          with_reducible rfl
                        rotate_left
                        · simp only [Act.put, List.setIfInBounds_toArray, List.set_cons_zero, List.set_cons_succ, i64_w, i32_w]
                          rfl
                        refine pure_ (i := 11) (N := some 34) (v := ?_) (a' := ?_) #[true, true, true, true, true, true, true, true, false, true, false, true, false, false, false, false, false, false, false, false, false, false, false] rfl rfl (any_of HT_.out (by kernel_rfl)) (fun _ _ _ h => h) (Or.inl ⟨by rfl, ?_⟩) ?_ ?_
                        rotate_left
                        · intro w'
                          go_simp
                          with_reducible rfl
                        rotate_left
                        · simp only [Act.put, List.setIfInBounds_toArray, List.set_cons_zero, List.set_cons_succ, i64_w, i32_w]
                          rfl
                        refine pure_ (i := 12) (N := some 35) (v := ?_) (a' := ?_) #[true, true, true, true, true, true, true, true, false, true, false, true, true, false, false, false, false, false, false, false, false, false, false] rfl rfl (any_of HT_.out (by kernel_rfl)) (fun _ _ _ h => h) (Or.inl ⟨by rfl, ?_⟩) ?_ ?_
                        rotate_left
                        · intro w'
                          go_simp
                          with_reducible rfl
                        rotate_left
                        · simp only [Act.put, List.setIfInBounds_toArray, List.set_cons_zero, List.set_cons_succ, i64_w, i32_w]
                          rfl
                        refine pure_ (i := 14) (N := some 37) (v := ?_) (a' := ?_) #[true, true, true, true, true, true, true, true, false, true, false, true, true, false, true, false, false, false, false, false, false, false, false] rfl rfl (any_of HT_.out (by kernel_rfl)) (fun _ _ _ h => h) (Or.inl ⟨by rfl, ?_⟩) ?_ ?_
                        rotate_left
                        · intro w'
                          go_simp
                          with_reducible rfl
                        rotate_left
                        · simp only [Act.put, List.setIfInBounds_toArray, List.set_cons_zero, List.set_cons_succ, i64_w, i32_w]
                          rfl
                        refine pure_ (i := 16) (N := some 39) (v := ?_) (a' := ?_) #[true, true, true, true, true, true, true, true, false, true, false, true, true, false, true, false, true, false, false, false, false, false, false] rfl rfl (any_of HT_.out (by kernel_rfl)) (fun _ _ _ h => h) (Or.inl ⟨by rfl, ?_⟩) ?_ ?_
                        rotate_left
                        · intro w'
                          go_simp
                          with_reducible rfl
                        rotate_left
                        · simp only [Act.put, List.setIfInBounds_toArray, List.set_cons_zero, List.set_cons_succ, i64_w, i32_w]
                          rfl
                        refine take_ (i := 8) (N := some 31) (v := ?_) (a' := ?_) #[true, true, true, true, true, true, true, true, true, true, false, true, true, false, true, false, true, false, false, false, false, false, false] rfl rfl (take_ofW HT_.out HW_.out (by kernel_rfl)) (fun _ _ _ h => h) (Or.inl ⟨by rfl, ?_⟩) hHeld ?_ ?_
                        rotate_left
                        · rintro w' ⟨s0, s1, s2, s3, s4, s5, s6, s7, s8, s9, s10, s11, s12, s13, s14, s15, s16, s17, s18, s19, s20, s21, s22, s23, s24, s25⟩
                          go_simp
                          with_reducible rfl
                        rotate_left
                        · simp only [Act.put, List.setIfInBounds_toArray, List.set_cons_zero, List.set_cons_succ, i64_w, i32_w]
                          rfl
                        refine take_ (i := 10) (N := some 33) (v := ?_) (a' := ?_) #[true, true, true, true, true, true, true, true, true, true, true, true, true, false, true, false, true, false, false, false, false, false, false] rfl rfl (take_ofW HT_.out HW_.out (by kernel_rfl)) (fun _ _ _ h => h) (Or.inl ⟨by rfl, ?_⟩) hHeld ?_ ?_
                        rotate_left
                        · rintro w' ⟨s0, s1, s2, s3, s4, s5, s6, s7, s8, s9, s10, s11, s12, s13, s14, s15, s16, s17, s18, s19, s20, s21, s22, s23, s24, s25⟩
                          go_simp
                          with_reducible rfl
                        rotate_left
                        · simp only [Act.put, List.setIfInBounds_toArray, List.set_cons_zero, List.set_cons_succ, i64_w, i32_w]
                          rfl
                        refine pure_ (i := 13) (N := some 36) (v := ?_) (a' := ?_) #[true, true, true, true, true, true, true, true, true, true, true, true, true, true, true, false, true, false, false, false, false, false, false] rfl rfl (any_of HT_.out (by kernel_rfl)) (fun _ _ _ h => h) (Or.inl ⟨by rfl, ?_⟩) ?_ ?_
                        rotate_left
                        · intro w'
                          go_simp
                          with_reducible rfl
                        rotate_left
                        · simp only [Act.put, List.setIfInBounds_toArray, List.set_cons_zero, List.set_cons_succ, i64_w, i32_w]
                          rfl
                        refine take_ (i := 15) (N := some 38) (v := ?_) (a' := ?_) #[true, true, true, true, true, true, true, true, true, true, true, true, true, true, true, true, true, false, false, false, false, false, false] rfl rfl (take_ofW HT_.out HW_.out (by kernel_rfl)) (fun _ _ _ h => h) (Or.inl ⟨by rfl, ?_⟩) hHeld ?_ ?_
                        rotate_left
                        · rintro w' ⟨s0, s1, s2, s3, s4, s5, s6, s7, s8, s9, s10, s11, s12, s13, s14, s15, s16, s17, s18, s19, s20, s21, s22, s23, s24, s25⟩
                          go_simp
                          with_reducible rfl
                        rotate_left
                        · simp only [Act.put, List.setIfInBounds_toArray, List.set_cons_zero, List.set_cons_succ, i64_w, i32_w]
                          rfl
                        refine pure_ (i := 17) (N := some 40) (v := ?_) (a' := ?_) #[true, true, true, true, true, true, true, true, true, true, true, true, true, true, true, true, true, true, false, false, false, false, false] rfl rfl (any_of HT_.out (by kernel_rfl)) (fun _ _ _ h => h) (Or.inl ⟨by rfl, ?_⟩) ?_ ?_
                        rotate_left
                        · intro w'
                          go_simp
                          with_reducible rfl
                        rotate_left
                        · simp only [Act.put, List.setIfInBounds_toArray, List.set_cons_zero, List.set_cons_succ, i64_w, i32_w]
                          rfl
                        refine pure_ (i := 18) (N := some 41) (v := ?_) (a' := ?_) #[true, true, true, true, true, true, true, true, true, true, true, true, true, true, true, true, true, true, true, false, false, false, false] rfl rfl (any_of HT_.out (by kernel_rfl)) (fun _ _ _ h => h) (Or.inl ⟨by rfl, ?_⟩) ?_ ?_
                        rotate_left
                        · intro w'
                          go_simp
                          with_reducible rfl
                        rotate_left
                        · simp only [Act.put, List.setIfInBounds_toArray, List.set_cons_zero, List.set_cons_succ, i64_w, i32_w]
                          rfl
                        refine take_ (i := 19) (N := some 42) (v := ?_) (a' := ?_) #[true, true, true, true, true, true, true, true, true, true, true, true, true, true, true, true, true, true, true, true, false, false, false] rfl rfl (take_ofW HT_.out HW_.out (by kernel_rfl)) (fun _ _ _ h => h) (Or.inl ⟨by rfl, ?_⟩) hHeld ?_ ?_
                        rotate_left
                        · rintro w' ⟨s0, s1, s2, s3, s4, s5, s6, s7, s8, s9, s10, s11, s12, s13, s14, s15, s16, s17, s18, s19, s20, s21, s22, s23, s24, s25⟩
                          go_simp
                          with_reducible rfl
                        rotate_left
                        · simp only [Act.put, List.setIfInBounds_toArray, List.set_cons_zero, List.set_cons_succ, i64_w, i32_w]
                          rfl
                        refine one_ (i := 20) (N := some 43) #[true, true, true, true, true, true, true, true, true, true, true, true, true, true, true, true, true, true, true, true, true, false, false] rfl rfl (one_of HT_.out (by kernel_rfl)) (by decide) (fun K hK => ?_)
                        refine goes_ Try.func23 (by kernel_rfl) rfl #[.agg #[.int .i64 t498, .int .i64 t499, .int .i64 t500, .slice (some ad516) t501.length co22, .int .i64 t504, .slice Ao23 t505.length co23, .slice Ao24 t508.length co24, .int .i64 t511, .int .i64 t512, .int .i64 t513], .slice A41 y517.length c41, .int .i64 ((rd_T39 t501 x4_2).f1)] (by rfl) rfl rfl (by (try simp only [List.map_toArray, List.map_cons, List.map_nil]); first | done | rfl | (simp only [List.length_drop, List.length_take]; rfl)) ?_
                        with_reducible refine (sacristanref18_Read.calls k2 t498 t499 t500 _ _ t501 t504 _ _ t505 _ _ t508 t511 t512 t513 _ _ y517 ((rd_T39 t501 x4_2).f1) false _ ?side1 ?side2 ?side3 ?side4 ?side5 ?side6 ?side7 ?side8 A31.out).mono ?_
                        (case side1 => repeat (first | exact (Kd.R_reads' HO_515003.out).2.2 | (with_reducible refine Kd.C_alloc ?_ _) | (with_reducible refine Kd.C_drewN ?_ _) | (with_reducible refine Kd.C_drew ?_)))
                        (case side2 => exact (Kd.R_reads' HO_515003.out).2.1)
                        (case side3 => repeat (first | exact (Kd.R_reads' HO_515005.out).2.2 | (with_reducible refine Kd.C_alloc ?_ _) | (with_reducible refine Kd.C_drewN ?_ _) | (with_reducible refine Kd.C_drew ?_)))
                        (case side4 => exact (Kd.R_reads' HO_515005.out).2.1)
                        (case side5 => repeat (first | exact (Kd.R_reads' HO_515006.out).2.2 | (with_reducible refine Kd.C_alloc ?_ _) | (with_reducible refine Kd.C_drewN ?_ _) | (with_reducible refine Kd.C_drew ?_)))
                        (case side6 => exact (Kd.R_reads' HO_515006.out).2.1)
                        (case side7 => repeat (first | exact (by repeat (first | (with_reducible exact HR520.out) | (with_reducible refine Kd.C_alloc ?_ _) | (with_reducible refine Kd.C_drewN ?_ _) | (with_reducible refine Kd.C_drew ?_) | exact HR520.out)) | (with_reducible refine Kd.C_alloc ?_ _) | (with_reducible refine Kd.C_drewN ?_ _) | (with_reducible refine Kd.C_drew ?_)))
                        (case side8 => exact HC520.out)
                        rintro e w42 ⟨rfl, hb⟩
                        have HS10_ := (hb.cell (World.block_lt_of_cell? _ _ (hHeld.2.2.2.2.2.2.2.2.2.2.1))).trans (hHeld.2.2.2.2.2.2.2.2.2.2.1)
                        have HS11_ := (hb.cell (World.block_lt_of_cell? _ _ (hHeld.2.2.2.2.2.2.2.2.2.2.2.1))).trans (hHeld.2.2.2.2.2.2.2.2.2.2.2.1)
                        have HS12_ := (hb.cell (World.block_lt_of_cell? _ _ (hHeld.2.2.2.2.2.2.2.2.2.2.2.2.1))).trans (hHeld.2.2.2.2.2.2.2.2.2.2.2.2.1)
                        have HS13_ := (hb.cell (World.block_lt_of_cell? _ _ (hHeld.2.2.2.2.2.2.2.2.2.2.2.2.2.1))).trans (hHeld.2.2.2.2.2.2.2.2.2.2.2.2.2.1)
                        have HS14_ := (hb.cell (World.block_lt_of_cell? _ _ (hHeld.2.2.2.2.2.2.2.2.2.2.2.2.2.2.1))).trans (hHeld.2.2.2.2.2.2.2.2.2.2.2.2.2.2.1)
                        have HS15_ := (hb.cell (World.block_lt_of_cell? _ _ (hHeld.2.2.2.2.2.2.2.2.2.2.2.2.2.2.2.1))).trans (hHeld.2.2.2.2.2.2.2.2.2.2.2.2.2.2.2.1)
                        have HS16_ := (hb.cell (World.block_lt_of_cell? _ _ (hHeld.2.2.2.2.2.2.2.2.2.2.2.2.2.2.2.2.1))).trans (hHeld.2.2.2.2.2.2.2.2.2.2.2.2.2.2.2.2.1)
                        have HS17_ := (hb.cell (World.block_lt_of_cell? _ _ (hHeld.2.2.2.2.2.2.2.2.2.2.2.2.2.2.2.2.2.1))).trans (hHeld.2.2.2.2.2.2.2.2.2.2.2.2.2.2.2.2.2.1)
                        have HS18_ := (hb.cell (World.block_lt_of_cell? _ _ (hHeld.2.2.2.2.2.2.2.2.2.2.2.2.2.2.2.2.2.2.1))).trans (hHeld.2.2.2.2.2.2.2.2.2.2.2.2.2.2.2.2.2.2.1)
                        have HS19_ := (hb.cell (World.block_lt_of_cell? _ _ (hHeld.2.2.2.2.2.2.2.2.2.2.2.2.2.2.2.2.2.2.2.1))).trans (hHeld.2.2.2.2.2.2.2.2.2.2.2.2.2.2.2.2.2.2.2.1)
                        have HS20_ := (hb.cell (World.block_lt_of_cell? _ _ (hHeld.2.2.2.2.2.2.2.2.2.2.2.2.2.2.2.2.2.2.2.2.1))).trans (hHeld.2.2.2.2.2.2.2.2.2.2.2.2.2.2.2.2.2.2.2.2.1)
                        have HS21_ := (hb.cell (World.block_lt_of_cell? _ _ (hHeld.2.2.2.2.2.2.2.2.2.2.2.2.2.2.2.2.2.2.2.2.2.1))).trans (hHeld.2.2.2.2.2.2.2.2.2.2.2.2.2.2.2.2.2.2.2.2.2.1)
                        have HS22_ := (hb.cell (World.block_lt_of_cell? _ _ (hHeld.2.2.2.2.2.2.2.2.2.2.2.2.2.2.2.2.2.2.2.2.2.2.1))).trans (hHeld.2.2.2.2.2.2.2.2.2.2.2.2.2.2.2.2.2.2.2.2.2.2.1)
                        have HS23_ := (hb.cell (World.block_lt_of_cell? _ _ (hHeld.2.2.2.2.2.2.2.2.2.2.2.2.2.2.2.2.2.2.2.2.2.2.2.1))).trans (hHeld.2.2.2.2.2.2.2.2.2.2.2.2.2.2.2.2.2.2.2.2.2.2.2.1)
                        have HS24_ := (hb.cell (World.block_lt_of_cell? _ _ (hHeld.2.2.2.2.2.2.2.2.2.2.2.2.2.2.2.2.2.2.2.2.2.2.2.2.1))).trans (hHeld.2.2.2.2.2.2.2.2.2.2.2.2.2.2.2.2.2.2.2.2.2.2.2.2.1)
                        have HS25_ := (hb.cell (World.block_lt_of_cell? _ _ (hHeld.2.2.2.2.2.2.2.2.2.2.2.2.2.2.2.2.2.2.2.2.2.2.2.2.2))).trans (hHeld.2.2.2.2.2.2.2.2.2.2.2.2.2.2.2.2.2.2.2.2.2.2.2.2.2)
                        refine ⟨_, rfl, ?_⟩
                        have n0_ := Aside0.mk (Kd.R_below (by (with_reducible repeat (first | apply Kd.R_alloc | apply Kd.R_drewN | apply Kd.R_drew)); exact HO_515003.out) hb)
                        have n1_ := Aside0.mk (Kd.R_below (by (with_reducible repeat (first | apply Kd.R_alloc | apply Kd.R_drewN | apply Kd.R_drew)); exact HO_515005.out) hb)
                        have n2_ := Aside0.mk (Kd.R_below (by (with_reducible repeat (first | apply Kd.R_alloc | apply Kd.R_drewN | apply Kd.R_drew)); exact HO_515006.out) hb)
                        have n3_ := Aside0.mk (blk_below (g := gb494) (o := .cells #[.int .i64 a0_0, .int .i64 a0_1, .int .i64 a0_2, .slice A0_3 l0_3.length c0_3, .int .i64 a0_4, .slice A0_5 l0_5.length c0_5, .slice A0_6 l0_6.length c0_6, .int .i64 a0_7, .int .i64 a0_8, .int .i64 a0_9] 25 (0, 0)) (by (with_reducible repeat (first | refine blk_drewN ?_ _ | refine blk_drew ?_ | refine blk_alloc ?_ _)); exact BK494.out) hb)
                        have n4_ := Aside0.mk (blk_below (g := gb514) (o := .cells #[.int .i64 t498, .int .i64 t499, .int .i64 t500, .slice (some ad516) t501.length co22, .int .i64 t504, .slice Ao23 t505.length co23, .slice Ao24 t508.length co24, .int .i64 t511, .int .i64 t512, .int .i64 t513] 25 (0, 0)) (by (with_reducible repeat (first | refine blk_drewN ?_ _ | refine blk_drew ?_ | refine blk_alloc ?_ _)); exact BK514.out) hb)
                        have n5_ := Aside0.mk (Kd.C_below (by repeat (first | (with_reducible exact HR520.out) | (with_reducible refine Kd.C_alloc ?_ _) | (with_reducible refine Kd.C_drewN ?_ _) | (with_reducible refine Kd.C_drew ?_) | exact HR520.out)) hb)
                        have n6_ := Aside0.mk (below_step (by repeat (first | (with_reducible first | exact HB.out | apply below_alloc | apply pw_below_drewN | apply below_drew1 | refine below_set ?_ GE494.out | refine below_set ?_ GE514.out) | exact HB.out)) hb)
                        clear HO_515003
                        clear HO_515005
                        clear HO_515006
                        clear BK494
                        clear BK514
                        clear HR520
                        clear HB
                        have HO_515003 := n0_
                        have HO_515005 := n1_
                        have HO_515006 := n2_
                        have BK494 := n3_
                        have BK514 := n4_
                        have HR520 := n5_
                        have HB := n6_
                        clear n0_ n1_ n2_ n3_ n4_ n5_ n6_
                        (try clear hb)
                        (try clear hb2)
                        (try clear hk)
                        (try clear hi)
                        refine hK.out _ _ ⟨(blk_cell BK514.out 0).trans rfl, (blk_cell BK514.out 1).trans rfl, (blk_cell BK514.out 2).trans rfl, (blk_cell BK514.out 3).trans rfl, (blk_cell BK514.out 4).trans rfl, (blk_cell BK514.out 5).trans rfl, (blk_cell BK514.out 6).trans rfl, (blk_cell BK514.out 7).trans rfl, (blk_cell BK514.out 8).trans rfl, (blk_cell BK514.out 9).trans rfl, HS10_, HS11_, HS12_, HS13_, HS14_, HS15_, HS16_, HS17_, HS18_, HS19_, HS20_, HS21_, HS22_, HS23_, HS24_, HS25_⟩ (fun hHeld => ?_)
                        clear hK K
                        refine norm_ (a' := ?_) ?_ ?_
                        rotate_left
                        · show Act.put _ (some 43) _ = _
                          simp only [Act.put, List.setIfInBounds_toArray, List.set_cons_zero, List.set_cons_succ, i64_w, i32_w]
                          rfl
                        refine pure_ (i := 21) (N := some 44) (v := ?_) (a' := ?_) #[true, true, true, true, true, true, true, true, true, true, true, true, true, true, true, true, true, true, true, true, true, true, false] rfl rfl (any_of HT_.out (by kernel_rfl)) (fun _ _ _ h => h) (Or.inl ⟨by rfl, ?_⟩) ?_ ?_
                        rotate_left
                        · intro w'
                          go_simp
                          with_reducible rfl
                        rotate_left
                        · simp only [Act.put, List.setIfInBounds_toArray, List.set_cons_zero, List.set_cons_succ, i64_w, i32_w]
                          rfl
                        refine pure_ (i := 22) (N := some 45) (v := ?_) (a' := ?_) #[true, true, true, true, true, true, true, true, true, true, true, true, true, true, true, true, true, true, true, true, true, true, true] rfl rfl (any_of HT_.out (by kernel_rfl)) (fun _ _ _ h => h) (Or.inl ⟨by rfl, ?_⟩) ?_ ?_
                        rotate_left
                        · intro w'
                          go_simp
                          with_reducible rfl
                        rotate_left
                        · simp only [Act.put, List.setIfInBounds_toArray, List.set_cons_zero, List.set_cons_succ, i64_w, i32_w]
                          rfl
                        refine done_ (done_of HT_.out (by kernel_rfl)) ?_
                        try go_wp2
                        go_ret
                        exact ⟨by first | rfl | (simp [errW_none, errW_some] <;> rfl) | (simp only [← hji28]; first | rfl | (simp [errW_none, errW_some] <;> rfl)) | (simp [*, errW_none, errW_some] <;> rfl), by repeat (first | (with_reducible first | exact HB.out | apply below_alloc | apply pw_below_drewN | apply below_drew1 | refine below_set ?_ GE494.out | refine below_set ?_ GE514.out) | exact HB.out)⟩
                    · rw [if_neg c30] at H
                      exact absurd H (by simp)
                  · rw [if_neg c29] at H
                    exact absurd H (by simp)
                · rw [if_neg c27] at H
                  have c27b0 : decide (((rd_T39 t501 x4_2).f0) ≤ 2) = false := decide_eq_false c27
                  clear c27
                  have H' := Aside0.mk H
                  clear H
                  have hnb43 := NB514_494.out
                  have hnc43 := NB494_514.out
                  have hcz44_0 : wr.cell? ⟨gb514, 0, none⟩ = some (.int .i64 t498) := (blk_cell BK514.out 0).trans rfl
                  have hcz44_1 : wr.cell? ⟨gb514, 1, none⟩ = some (.int .i64 t499) := (blk_cell BK514.out 1).trans rfl
                  have hcz44_2 : wr.cell? ⟨gb514, 2, none⟩ = some (.int .i64 t500) := (blk_cell BK514.out 2).trans rfl
                  have hcz44_3 : wr.cell? ⟨gb514, 3, none⟩ = some (.slice Ao22 t501.length co22) := (blk_cell BK514.out 3).trans rfl
                  have hcz44_4 : wr.cell? ⟨gb514, 4, none⟩ = some (.int .i64 t504) := (blk_cell BK514.out 4).trans rfl
                  have hcz44_5 : wr.cell? ⟨gb514, 5, none⟩ = some (.slice Ao23 t505.length co23) := (blk_cell BK514.out 5).trans rfl
                  have hcz44_6 : wr.cell? ⟨gb514, 6, none⟩ = some (.slice Ao24 t508.length co24) := (blk_cell BK514.out 6).trans rfl
                  have hcz44_7 : wr.cell? ⟨gb514, 7, none⟩ = some (.int .i64 t511) := (blk_cell BK514.out 7).trans rfl
                  have hcz44_8 : wr.cell? ⟨gb514, 8, none⟩ = some (.int .i64 t512) := (blk_cell BK514.out 8).trans rfl
                  have hcz44_9 : wr.cell? ⟨gb514, 9, none⟩ = some (.int .i64 t513) := (blk_cell BK514.out 9).trans rfl
                  have hfz44_0 := blk_frozen BK514.out 0
                  have hfz44_1 := blk_frozen BK514.out 1
                  have hfz44_2 := blk_frozen BK514.out 2
                  have hfz44_3 := blk_frozen BK514.out 3
                  have hfz44_4 := blk_frozen BK514.out 4
                  have hfz44_5 := blk_frozen BK514.out 5
                  have hfz44_6 := blk_frozen BK514.out 6
                  have hfz44_7 := blk_frozen BK514.out 7
                  have hfz44_8 := blk_frozen BK514.out 8
                  have hfz44_9 := blk_frozen BK514.out 9
                  try go_wp2
                  have n0_ := Aside0.mk (Kd.R_drew HO_515003.out)
                  have n1_ := Aside0.mk (Kd.R_drew HO_515005.out)
                  have n2_ := Aside0.mk (Kd.R_drew HO_515006.out)
                  have n3_ := Aside0.mk (blk_drew BK494.out)
                  have n4_ := Aside0.mk (blk_drew BK514.out)
                  have n5_ := Aside0.mk (below_drew1 HB.out)
                  clear HO_515003
                  clear HO_515005
                  clear HO_515006
                  clear BK494
                  clear BK514
                  clear HB
                  have HO_515003 := n0_
                  have HO_515005 := n1_
                  have HO_515006 := n2_
                  have BK494 := n3_
                  have BK514 := n4_
                  have HB := n5_
                  clear n0_ n1_ n2_ n3_ n4_ n5_
                  have p516 : 0 ≤ (x4_2 : Int) := of_decide_eq_true (by first | (with_reducible assumption) | assumption)
                  have q516 : x4_2 < (t501.length : Int) := of_decide_eq_true (by first | (with_reducible assumption) | assumption)
                  obtain ⟨ad516, e516, hx516_0, hx516_1, hx516_2, hx516_3, hx516_4, hx516_5, hx516_6, hx516_7⟩ := at_T39 (Kd.R_reads' HO_515003.out).2.2 x4_2 p516 q516
                  cases e516
                  replace p516 := eq_true p516
                  replace q516 := eq_true q516
                  refine start_ (n := 23) (S := fun w' => w'.cell? ⟨gb514, 0, none⟩ = some (.int .i64 t498) ∧ w'.cell? ⟨gb514, 1, none⟩ = some (.int .i64 t499) ∧ w'.cell? ⟨gb514, 2, none⟩ = some (.int .i64 t500) ∧ w'.cell? ⟨gb514, 3, none⟩ = some (.slice (some ad516) t501.length co22) ∧ w'.cell? ⟨gb514, 4, none⟩ = some (.int .i64 t504) ∧ w'.cell? ⟨gb514, 5, none⟩ = some (.slice Ao23 t505.length co23) ∧ w'.cell? ⟨gb514, 6, none⟩ = some (.slice Ao24 t508.length co24) ∧ w'.cell? ⟨gb514, 7, none⟩ = some (.int .i64 t511) ∧ w'.cell? ⟨gb514, 8, none⟩ = some (.int .i64 t512) ∧ w'.cell? ⟨gb514, 9, none⟩ = some (.int .i64 t513) ∧ w'.cell? (ad516.add ((x4_2).toNat * 8)) = some (.int .u8 ((rd_T39 t501 x4_2).f0)) ∧ w'.cell? ⟨(ad516.add ((x4_2).toNat * 8)).block, (ad516.add ((x4_2).toNat * 8)).off + 1, none⟩ = some (.int .i64 ((rd_T39 t501 x4_2).f1)) ∧ w'.cell? ⟨(ad516.add ((x4_2).toNat * 8)).block, (ad516.add ((x4_2).toNat * 8)).off + 2, none⟩ = some (.int .i64 ((rd_T39 t501 x4_2).f2)) ∧ w'.cell? ⟨(ad516.add ((x4_2).toNat * 8)).block, (ad516.add ((x4_2).toNat * 8)).off + 3, none⟩ = some (.int .i64 ((rd_T39 t501 x4_2).f3)) ∧ w'.cell? ⟨(ad516.add ((x4_2).toNat * 8)).block, (ad516.add ((x4_2).toNat * 8)).off + 4, none⟩ = some (.string ((rd_T39 t501 x4_2).f4)) ∧ w'.cell? ⟨(ad516.add ((x4_2).toNat * 8)).block, (ad516.add ((x4_2).toNat * 8)).off + 5, none⟩ = some (.int .u8 ((rd_T39 t501 x4_2).f5.f0)) ∧ w'.cell? ⟨(ad516.add ((x4_2).toNat * 8)).block, (ad516.add ((x4_2).toNat * 8)).off + 6, none⟩ = some (.int .i64 ((rd_T39 t501 x4_2).f5.f1)) ∧ w'.cell? ⟨(ad516.add ((x4_2).toNat * 8)).block, (ad516.add ((x4_2).toNat * 8)).off + 7, none⟩ = some (.string ((rd_T39 t501 x4_2).f5.f2))) (ds := []) #[false, false, false, false, false, false, false, false, false, false, false, false, false, false, false, false, false, false, false, false, false, false, false] (by kernel_rfl) rfl rfl ⟨(blk_cell BK514.out 0).trans rfl, (blk_cell BK514.out 1).trans rfl, (blk_cell BK514.out 2).trans rfl, (blk_cell BK514.out 3).trans rfl, (blk_cell BK514.out 4).trans rfl, (blk_cell BK514.out 5).trans rfl, (blk_cell BK514.out 6).trans rfl, (blk_cell BK514.out 7).trans rfl, (blk_cell BK514.out 8).trans rfl, (blk_cell BK514.out 9).trans rfl, hx516_0, hx516_1, hx516_2, hx516_3, hx516_4, hx516_5, hx516_6, hx516_7⟩ (fun hHeld => ?_); refine with_tabW sacristanlaw18_SweepLast.tab7 sacristanlaw18_SweepLast.bits7 (fun HT_ HW_ => ?_)
                  generalize wr.drew = w45 at HO_515003 HO_515005 HO_515006 BK494 BK514 HB hx516_0 hx516_1 hx516_2 hx516_3 hx516_4 hx516_5 hx516_6 hx516_7 hHeld ⊢
                  refine pure_ (i := 0) (N := some 23) (v := ?_) (a' := ?_) #[true, false, false, false, false, false, false, false, false, false, false, false, false, false, false, false, false, false, false, false, false, false, false] rfl rfl (any_of HT_.out (by kernel_rfl)) (fun _ _ _ h => h) (Or.inl ⟨by rfl, ?_⟩) ?_ ?_
                  rotate_left
                  · intro w'
                    go_simp
                    with_reducible rfl
                  rotate_left
                  · simp only [Act.put, List.setIfInBounds_toArray, List.set_cons_zero, List.set_cons_succ, i64_w, i32_w]
                    rfl
                  refine pure_ (i := 2) (N := some 25) (v := ?_) (a' := ?_) #[true, false, true, false, false, false, false, false, false, false, false, false, false, false, false, false, false, false, false, false, false, false, false] rfl rfl (any_of HT_.out (by kernel_rfl)) (fun _ _ _ h => h) (Or.inl ⟨by rfl, ?_⟩) ?_ ?_
                  rotate_left
                  · intro w'
                    go_simp
                    with_reducible rfl
                  rotate_left
                  · simp only [Act.put, List.setIfInBounds_toArray, List.set_cons_zero, List.set_cons_succ, i64_w, i32_w]
                    rfl
                  refine take_ (i := 1) (N := some 24) (v := ?_) (a' := ?_) #[true, true, true, false, false, false, false, false, false, false, false, false, false, false, false, false, false, false, false, false, false, false, false] rfl rfl (take_ofW HT_.out HW_.out (by kernel_rfl)) (fun _ _ _ h => h) (Or.inl ⟨by rfl, ?_⟩) hHeld ?_ ?_
                  rotate_left
                  · rintro w' ⟨s0, s1, s2, s3, s4, s5, s6, s7, s8, s9, s10, s11, s12, s13, s14, s15, s16, s17⟩
                    go_simp
                    with_reducible rfl
                  rotate_left
                  · simp only [Act.put, List.setIfInBounds_toArray, List.set_cons_zero, List.set_cons_succ, i64_w, i32_w]
                    rfl
                  refine pure_ (i := 3) (N := some 26) (v := ?_) (a' := ?_) #[true, true, true, true, false, false, false, false, false, false, false, false, false, false, false, false, false, false, false, false, false, false, false] rfl rfl (any_of HT_.out (by kernel_rfl)) (fun _ _ _ h => h) (Or.inl ⟨by rfl, ?_⟩) ?_ ?_
                  rotate_left
                  · intro w'
                    go_simp
                    with_reducible rfl
                  rotate_left
                  · simp only [Act.put, List.setIfInBounds_toArray, List.set_cons_zero, List.set_cons_succ, i64_w, i32_w]
                    rfl
                  refine pure_ (i := 4) (N := some 27) (v := ?_) (a' := ?_) #[true, true, true, true, true, false, false, false, false, false, false, false, false, false, false, false, false, false, false, false, false, false, false] rfl rfl (any_of HT_.out (by kernel_rfl)) (fun _ _ _ h => h) (Or.inl ⟨by rfl, ?_⟩) ?_ ?_
                  rotate_left
                  · intro w'
                    go_simp
                    with_reducible rfl
                  rotate_left
                  · simp only [Act.put, List.setIfInBounds_toArray, List.set_cons_zero, List.set_cons_succ, i64_w, i32_w]
                    rfl
                  refine take_ (i := 5) (N := some 28) (v := ?_) (a' := ?_) #[true, true, true, true, true, true, false, false, false, false, false, false, false, false, false, false, false, false, false, false, false, false, false] rfl rfl (take_ofW HT_.out HW_.out (by kernel_rfl)) (fun _ _ _ h => h) (Or.inl ⟨by rfl, ?_⟩) hHeld ?_ ?_
                  rotate_left
                  · rintro w' ⟨s0, s1, s2, s3, s4, s5, s6, s7, s8, s9, s10, s11, s12, s13, s14, s15, s16, s17⟩
                    go_simp
                    with_reducible rfl
                  rotate_left
                  · simp only [Act.put, List.setIfInBounds_toArray, List.set_cons_zero, List.set_cons_succ, i64_w, i32_w]
                    rfl
                  refine pure_ (i := 6) (N := some 29) (v := ?_) (a' := ?_) #[true, true, true, true, true, true, true, false, false, false, false, false, false, false, false, false, false, false, false, false, false, false, false] rfl rfl (any_of HT_.out (by kernel_rfl)) (fun _ _ _ h => h) (Or.inl ⟨by rfl, ?_⟩) ?_ ?_
                  rotate_left
                  · intro w'
                    go_simp
                    with_reducible rfl
                  rotate_left
                  · simp only [Act.put, List.setIfInBounds_toArray, List.set_cons_zero, List.set_cons_succ, i64_w, i32_w]
                    rfl
                  refine pure_ (i := 7) (N := some 30) (v := ?_) (a' := ?_) #[true, true, true, true, true, true, true, true, false, false, false, false, false, false, false, false, false, false, false, false, false, false, false] rfl rfl (any_of HT_.out (by kernel_rfl)) (fun _ _ _ h => h) (Or.inl ⟨by rfl, ?_⟩) ?_ ?_
                  rotate_left
                  · intro w'
                    go_simp
                    with_reducible rfl
                  rotate_left
                  · simp only [Act.put, List.setIfInBounds_toArray, List.set_cons_zero, List.set_cons_succ, i64_w, i32_w]
                    rfl
                  refine pure_ (i := 8) (N := some 31) (v := undef) (a' := ?_) #[true, true, true, true, true, true, true, true, true, false, false, false, false, false, false, false, false, false, false, false, false, false, false] rfl rfl (any_of HT_.out (by kernel_rfl)) (fun _ _ _ h => h) (Or.inr ⟨by rfl, rfl⟩) ?_ ?_
                  rotate_left
                  · simp only [Act.put, List.setIfInBounds_toArray, List.set_cons_zero, List.set_cons_succ, i64_w, i32_w]
                    rfl
                  refine pure_ (i := 9) (N := some 32) (v := undef) (a' := ?_) #[true, true, true, true, true, true, true, true, true, true, false, false, false, false, false, false, false, false, false, false, false, false, false] rfl rfl (any_of HT_.out (by kernel_rfl)) (fun _ _ _ h => h) (Or.inr ⟨by rfl, rfl⟩) ?_ ?_
                  rotate_left
                  · simp only [Act.put, List.setIfInBounds_toArray, List.set_cons_zero, List.set_cons_succ, i64_w, i32_w]
                    rfl
                  refine pure_ (i := 10) (N := some 33) (v := undef) (a' := ?_) #[true, true, true, true, true, true, true, true, true, true, true, false, false, false, false, false, false, false, false, false, false, false, false] rfl rfl (any_of HT_.out (by kernel_rfl)) (fun _ _ _ h => h) (Or.inr ⟨by rfl, rfl⟩) ?_ ?_
                  rotate_left
                  · simp only [Act.put, List.setIfInBounds_toArray, List.set_cons_zero, List.set_cons_succ, i64_w, i32_w]
                    rfl
                  refine pure_ (i := 11) (N := some 34) (v := undef) (a' := ?_) #[true, true, true, true, true, true, true, true, true, true, true, true, false, false, false, false, false, false, false, false, false, false, false] rfl rfl (any_of HT_.out (by kernel_rfl)) (fun _ _ _ h => h) (Or.inr ⟨by rfl, rfl⟩) ?_ ?_
                  rotate_left
                  · simp only [Act.put, List.setIfInBounds_toArray, List.set_cons_zero, List.set_cons_succ, i64_w, i32_w]
                    rfl
                  refine pure_ (i := 12) (N := some 35) (v := undef) (a' := ?_) #[true, true, true, true, true, true, true, true, true, true, true, true, true, false, false, false, false, false, false, false, false, false, false] rfl rfl (any_of HT_.out (by kernel_rfl)) (fun _ _ _ h => h) (Or.inr ⟨by rfl, rfl⟩) ?_ ?_
                  rotate_left
                  · simp only [Act.put, List.setIfInBounds_toArray, List.set_cons_zero, List.set_cons_succ, i64_w, i32_w]
                    rfl
                  refine pure_ (i := 13) (N := some 36) (v := undef) (a' := ?_) #[true, true, true, true, true, true, true, true, true, true, true, true, true, true, false, false, false, false, false, false, false, false, false] rfl rfl (any_of HT_.out (by kernel_rfl)) (fun _ _ _ h => h) (Or.inr ⟨by rfl, rfl⟩) ?_ ?_
                  rotate_left
                  · simp only [Act.put, List.setIfInBounds_toArray, List.set_cons_zero, List.set_cons_succ, i64_w, i32_w]
                    rfl
                  refine pure_ (i := 14) (N := some 37) (v := undef) (a' := ?_) #[true, true, true, true, true, true, true, true, true, true, true, true, true, true, true, false, false, false, false, false, false, false, false] rfl rfl (any_of HT_.out (by kernel_rfl)) (fun _ _ _ h => h) (Or.inr ⟨by rfl, rfl⟩) ?_ ?_
                  rotate_left
                  · simp only [Act.put, List.setIfInBounds_toArray, List.set_cons_zero, List.set_cons_succ, i64_w, i32_w]
                    rfl
                  refine pure_ (i := 15) (N := some 38) (v := undef) (a' := ?_) #[true, true, true, true, true, true, true, true, true, true, true, true, true, true, true, true, false, false, false, false, false, false, false] rfl rfl (any_of HT_.out (by kernel_rfl)) (fun _ _ _ h => h) (Or.inr ⟨by rfl, rfl⟩) ?_ ?_
                  rotate_left
                  · simp only [Act.put, List.setIfInBounds_toArray, List.set_cons_zero, List.set_cons_succ, i64_w, i32_w]
                    rfl
                  refine pure_ (i := 16) (N := some 39) (v := undef) (a' := ?_) #[true, true, true, true, true, true, true, true, true, true, true, true, true, true, true, true, true, false, false, false, false, false, false] rfl rfl (any_of HT_.out (by kernel_rfl)) (fun _ _ _ h => h) (Or.inr ⟨by rfl, rfl⟩) ?_ ?_
                  rotate_left
                  · simp only [Act.put, List.setIfInBounds_toArray, List.set_cons_zero, List.set_cons_succ, i64_w, i32_w]
                    rfl
                  refine pure_ (i := 17) (N := some 40) (v := undef) (a' := ?_) #[true, true, true, true, true, true, true, true, true, true, true, true, true, true, true, true, true, true, false, false, false, false, false] rfl rfl (any_of HT_.out (by kernel_rfl)) (fun _ _ _ h => h) (Or.inr ⟨by rfl, rfl⟩) ?_ ?_
                  rotate_left
                  · simp only [Act.put, List.setIfInBounds_toArray, List.set_cons_zero, List.set_cons_succ, i64_w, i32_w]
                    rfl
                  refine pure_ (i := 18) (N := some 41) (v := undef) (a' := ?_) #[true, true, true, true, true, true, true, true, true, true, true, true, true, true, true, true, true, true, true, false, false, false, false] rfl rfl (any_of HT_.out (by kernel_rfl)) (fun _ _ _ h => h) (Or.inr ⟨by rfl, rfl⟩) ?_ ?_
                  rotate_left
                  · simp only [Act.put, List.setIfInBounds_toArray, List.set_cons_zero, List.set_cons_succ, i64_w, i32_w]
                    rfl
                  refine pure_ (i := 19) (N := some 42) (v := undef) (a' := ?_) #[true, true, true, true, true, true, true, true, true, true, true, true, true, true, true, true, true, true, true, true, false, false, false] rfl rfl (any_of HT_.out (by kernel_rfl)) (fun _ _ _ h => h) (Or.inr ⟨by rfl, rfl⟩) ?_ ?_
                  rotate_left
                  · simp only [Act.put, List.setIfInBounds_toArray, List.set_cons_zero, List.set_cons_succ, i64_w, i32_w]
                    rfl
                  refine pure_ (i := 20) (N := some 43) (v := undef) (a' := ?_) #[true, true, true, true, true, true, true, true, true, true, true, true, true, true, true, true, true, true, true, true, true, false, false] rfl rfl (any_of HT_.out (by kernel_rfl)) (fun _ _ _ h => h) (Or.inr ⟨by rfl, rfl⟩) ?_ ?_
                  rotate_left
                  · simp only [Act.put, List.setIfInBounds_toArray, List.set_cons_zero, List.set_cons_succ, i64_w, i32_w]
                    rfl
                  refine pure_ (i := 21) (N := some 44) (v := undef) (a' := ?_) #[true, true, true, true, true, true, true, true, true, true, true, true, true, true, true, true, true, true, true, true, true, true, false] rfl rfl (any_of HT_.out (by kernel_rfl)) (fun _ _ _ h => h) (Or.inr ⟨by rfl, rfl⟩) ?_ ?_
                  rotate_left
                  · simp only [Act.put, List.setIfInBounds_toArray, List.set_cons_zero, List.set_cons_succ, i64_w, i32_w]
                    rfl
                  refine pure_ (i := 22) (N := some 45) (v := ?_) (a' := ?_) #[true, true, true, true, true, true, true, true, true, true, true, true, true, true, true, true, true, true, true, true, true, true, true] rfl rfl (any_of HT_.out (by kernel_rfl)) (fun _ _ _ h => h) (Or.inl ⟨by rfl, ?_⟩) ?_ ?_
                  rotate_left
                  · intro w'
                    go_simp
                    with_reducible rfl
                  rotate_left
                  · simp only [Act.put, List.setIfInBounds_toArray, List.set_cons_zero, List.set_cons_succ, i64_w, i32_w]
                    rfl
                  refine done_ (done_of HT_.out (by kernel_rfl)) ?_
                  try go_wp2
                  go_roundg k2
                  case measure => have := HJ1.out; have := HK2.out; omega
                  case rel => exact ⟨(wrap64 (x4_2 + 1)), (by first | rfl | (simp; done) | (simp [*]; done)), H', ⟨by have := HJ1.out; have := HK2.out; omega⟩, ⟨by (with_reducible repeat (first | apply Kd.R_alloc | apply Kd.R_drewN | apply Kd.R_drew)); exact HO_515003.out⟩, ⟨by (with_reducible repeat (first | apply Kd.R_alloc | apply Kd.R_drewN | apply Kd.R_drew)); exact HO_515005.out⟩, ⟨by (with_reducible repeat (first | apply Kd.R_alloc | apply Kd.R_drewN | apply Kd.R_drew)); exact HO_515006.out⟩, ⟨by (with_reducible repeat (first | refine blk_drewN ?_ _ | refine blk_drew ?_ | refine blk_alloc ?_ _)); exact BK494.out⟩, ⟨by (with_reducible repeat (first | refine blk_drewN ?_ _ | refine blk_drew ?_ | refine blk_alloc ?_ _)); exact BK514.out⟩, ⟨by repeat (first | (with_reducible first | exact HB.out | apply below_alloc | apply pw_below_drewN | apply below_drew1 | refine below_set ?_ GE494.out | refine below_set ?_ GE514.out) | exact HB.out)⟩⟩
              · rw [if_neg c26] at H
                exact absurd H (by simp)
            · rw [if_neg c25] at H
              have c25b0 : decide (x4_2 < (t501.length : Int)) = false := decide_eq_false c25
              clear c25
              by_cases c46 : (t501.length : Int) ≤ (l0_3.length : Int)
              · rw [if_pos c46] at H
                have c46b0 : decide ((t501.length : Int) ≤ (l0_3.length : Int)) = true := decide_eq_true c46
                have c46b1 : decide (t501.length ≤ l0_3.length) = true := decide_eq_true (Int.ofNat_le.mp c46)
                clear c46
                replace H := Option.bind_eq_some_iff.mp H
                obtain ⟨t515, A470, H⟩ := H
                replace H : (some t515) = some r := H
                have A47 := Aside0.mk A470
                clear A470
                obtain rfl := Option.some.inj H
                have hnb48 := NB514_494.out
                have hnc48 := NB494_514.out
                have hcz49_0 : wr.cell? ⟨gb514, 0, none⟩ = some (.int .i64 t498) := (blk_cell BK514.out 0).trans rfl
                have hcz49_1 : wr.cell? ⟨gb514, 1, none⟩ = some (.int .i64 t499) := (blk_cell BK514.out 1).trans rfl
                have hcz49_2 : wr.cell? ⟨gb514, 2, none⟩ = some (.int .i64 t500) := (blk_cell BK514.out 2).trans rfl
                have hcz49_3 : wr.cell? ⟨gb514, 3, none⟩ = some (.slice Ao22 t501.length co22) := (blk_cell BK514.out 3).trans rfl
                have hcz49_4 : wr.cell? ⟨gb514, 4, none⟩ = some (.int .i64 t504) := (blk_cell BK514.out 4).trans rfl
                have hcz49_5 : wr.cell? ⟨gb514, 5, none⟩ = some (.slice Ao23 t505.length co23) := (blk_cell BK514.out 5).trans rfl
                have hcz49_6 : wr.cell? ⟨gb514, 6, none⟩ = some (.slice Ao24 t508.length co24) := (blk_cell BK514.out 6).trans rfl
                have hcz49_7 : wr.cell? ⟨gb514, 7, none⟩ = some (.int .i64 t511) := (blk_cell BK514.out 7).trans rfl
                have hcz49_8 : wr.cell? ⟨gb514, 8, none⟩ = some (.int .i64 t512) := (blk_cell BK514.out 8).trans rfl
                have hcz49_9 : wr.cell? ⟨gb514, 9, none⟩ = some (.int .i64 t513) := (blk_cell BK514.out 9).trans rfl
                have hfz49_0 := blk_frozen BK514.out 0
                have hfz49_1 := blk_frozen BK514.out 1
                have hfz49_2 := blk_frozen BK514.out 2
                have hfz49_3 := blk_frozen BK514.out 3
                have hfz49_4 := blk_frozen BK514.out 4
                have hfz49_5 := blk_frozen BK514.out 5
                have hfz49_6 := blk_frozen BK514.out 6
                have hfz49_7 := blk_frozen BK514.out 7
                have hfz49_8 := blk_frozen BK514.out 8
                have hfz49_9 := blk_frozen BK514.out 9
                have hcz50_0 : wr.cell? ⟨gb494, 0, none⟩ = some (.int .i64 a0_0) := (blk_cell BK494.out 0).trans rfl
                have hcz50_1 : wr.cell? ⟨gb494, 1, none⟩ = some (.int .i64 a0_1) := (blk_cell BK494.out 1).trans rfl
                have hcz50_2 : wr.cell? ⟨gb494, 2, none⟩ = some (.int .i64 a0_2) := (blk_cell BK494.out 2).trans rfl
                have hcz50_3 : wr.cell? ⟨gb494, 3, none⟩ = some (.slice A0_3 l0_3.length c0_3) := (blk_cell BK494.out 3).trans rfl
                have hcz50_4 : wr.cell? ⟨gb494, 4, none⟩ = some (.int .i64 a0_4) := (blk_cell BK494.out 4).trans rfl
                have hcz50_5 : wr.cell? ⟨gb494, 5, none⟩ = some (.slice A0_5 l0_5.length c0_5) := (blk_cell BK494.out 5).trans rfl
                have hcz50_6 : wr.cell? ⟨gb494, 6, none⟩ = some (.slice A0_6 l0_6.length c0_6) := (blk_cell BK494.out 6).trans rfl
                have hcz50_7 : wr.cell? ⟨gb494, 7, none⟩ = some (.int .i64 a0_7) := (blk_cell BK494.out 7).trans rfl
                have hcz50_8 : wr.cell? ⟨gb494, 8, none⟩ = some (.int .i64 a0_8) := (blk_cell BK494.out 8).trans rfl
                have hcz50_9 : wr.cell? ⟨gb494, 9, none⟩ = some (.int .i64 a0_9) := (blk_cell BK494.out 9).trans rfl
                have hfz50_0 := blk_frozen BK494.out 0
                have hfz50_1 := blk_frozen BK494.out 1
                have hfz50_2 := blk_frozen BK494.out 2
                have hfz50_3 := blk_frozen BK494.out 3
                have hfz50_4 := blk_frozen BK494.out 4
                have hfz50_5 := blk_frozen BK494.out 5
                have hfz50_6 := blk_frozen BK494.out 6
                have hfz50_7 := blk_frozen BK494.out 7
                have hfz50_8 := blk_frozen BK494.out 8
                have hfz50_9 := blk_frozen BK494.out 9
                go_wp2_with (first | (go_at_call 21; (with_reducible refine (sacristanlaw18_awake.calls  t515 _ ?side1 A47.out).mono ?_); (case side1 => exact NW.MaxOk.below HMX.out (by repeat (first | (with_reducible first | exact HB.out | apply below_alloc | apply pw_below_drewN | apply below_drew1 | refine below_set ?_ GE494.out | refine below_set ?_ GE514.out) | exact HB.out))); rintro e w51 ⟨rfl, hb⟩; have n0_ := Aside0.mk (Kd.R_below (by (with_reducible repeat (first | apply Kd.R_alloc | apply Kd.R_drewN | apply Kd.R_drew)); exact HO_515003.out) hb); have n1_ := Aside0.mk (Kd.R_below (by (with_reducible repeat (first | apply Kd.R_alloc | apply Kd.R_drewN | apply Kd.R_drew)); exact HO_515005.out) hb); have n2_ := Aside0.mk (Kd.R_below (by (with_reducible repeat (first | apply Kd.R_alloc | apply Kd.R_drewN | apply Kd.R_drew)); exact HO_515006.out) hb); have n3_ := Aside0.mk (blk_below (g := gb494) (o := .cells #[.int .i64 a0_0, .int .i64 a0_1, .int .i64 a0_2, .slice A0_3 l0_3.length c0_3, .int .i64 a0_4, .slice A0_5 l0_5.length c0_5, .slice A0_6 l0_6.length c0_6, .int .i64 a0_7, .int .i64 a0_8, .int .i64 a0_9] 25 (0, 0)) (by (with_reducible repeat (first | refine blk_drewN ?_ _ | refine blk_drew ?_ | refine blk_alloc ?_ _)); exact BK494.out) hb); have n4_ := Aside0.mk (blk_below (g := gb514) (o := .cells #[.int .i64 t498, .int .i64 t499, .int .i64 t500, .slice Ao22 t501.length co22, .int .i64 t504, .slice Ao23 t505.length co23, .slice Ao24 t508.length co24, .int .i64 t511, .int .i64 t512, .int .i64 t513] 25 (0, 0)) (by (with_reducible repeat (first | refine blk_drewN ?_ _ | refine blk_drew ?_ | refine blk_alloc ?_ _)); exact BK514.out) hb); have n5_ := Aside0.mk (below_step (by repeat (first | (with_reducible first | exact HB.out | apply below_alloc | apply pw_below_drewN | apply below_drew1 | refine below_set ?_ GE494.out | refine below_set ?_ GE514.out) | exact HB.out)) hb); clear HO_515003; clear HO_515005; clear HO_515006; clear BK494; clear BK514; clear HB; have HO_515003 := n0_; have HO_515005 := n1_; have HO_515006 := n2_; have BK494 := n3_; have BK514 := n4_; have HB := n5_; clear n0_ n1_ n2_ n3_ n4_ n5_; (try clear hb); (try clear hb2); (try clear hk); (try clear hi)))
                go_ret
                exact ⟨by first | rfl | (simp [errW_none, errW_some] <;> rfl) | (simp [*, errW_none, errW_some] <;> rfl), by repeat (first | (with_reducible first | exact HB.out | apply below_alloc | apply pw_below_drewN | apply below_drew1 | refine below_set ?_ GE494.out | refine below_set ?_ GE514.out) | exact HB.out)⟩
              · rw [if_neg c46] at H
                have c46b0 : decide ((t501.length : Int) ≤ (l0_3.length : Int)) = false := decide_eq_false c46
                have c46b1 : decide (t501.length ≤ l0_3.length) = false := decide_eq_false (fun h => c46 (Int.ofNat_le.mpr h))
                clear c46
                obtain rfl := Option.some.inj H
                have hnb52 := NB514_494.out
                have hnc52 := NB494_514.out
                have hcz53_0 : wr.cell? ⟨gb514, 0, none⟩ = some (.int .i64 t498) := (blk_cell BK514.out 0).trans rfl
                have hcz53_1 : wr.cell? ⟨gb514, 1, none⟩ = some (.int .i64 t499) := (blk_cell BK514.out 1).trans rfl
                have hcz53_2 : wr.cell? ⟨gb514, 2, none⟩ = some (.int .i64 t500) := (blk_cell BK514.out 2).trans rfl
                have hcz53_3 : wr.cell? ⟨gb514, 3, none⟩ = some (.slice Ao22 t501.length co22) := (blk_cell BK514.out 3).trans rfl
                have hcz53_4 : wr.cell? ⟨gb514, 4, none⟩ = some (.int .i64 t504) := (blk_cell BK514.out 4).trans rfl
                have hcz53_5 : wr.cell? ⟨gb514, 5, none⟩ = some (.slice Ao23 t505.length co23) := (blk_cell BK514.out 5).trans rfl
                have hcz53_6 : wr.cell? ⟨gb514, 6, none⟩ = some (.slice Ao24 t508.length co24) := (blk_cell BK514.out 6).trans rfl
                have hcz53_7 : wr.cell? ⟨gb514, 7, none⟩ = some (.int .i64 t511) := (blk_cell BK514.out 7).trans rfl
                have hcz53_8 : wr.cell? ⟨gb514, 8, none⟩ = some (.int .i64 t512) := (blk_cell BK514.out 8).trans rfl
                have hcz53_9 : wr.cell? ⟨gb514, 9, none⟩ = some (.int .i64 t513) := (blk_cell BK514.out 9).trans rfl
                have hfz53_0 := blk_frozen BK514.out 0
                have hfz53_1 := blk_frozen BK514.out 1
                have hfz53_2 := blk_frozen BK514.out 2
                have hfz53_3 := blk_frozen BK514.out 3
                have hfz53_4 := blk_frozen BK514.out 4
                have hfz53_5 := blk_frozen BK514.out 5
                have hfz53_6 := blk_frozen BK514.out 6
                have hfz53_7 := blk_frozen BK514.out 7
                have hfz53_8 := blk_frozen BK514.out 8
                have hfz53_9 := blk_frozen BK514.out 9
                have hcz54_0 : wr.cell? ⟨gb494, 0, none⟩ = some (.int .i64 a0_0) := (blk_cell BK494.out 0).trans rfl
                have hcz54_1 : wr.cell? ⟨gb494, 1, none⟩ = some (.int .i64 a0_1) := (blk_cell BK494.out 1).trans rfl
                have hcz54_2 : wr.cell? ⟨gb494, 2, none⟩ = some (.int .i64 a0_2) := (blk_cell BK494.out 2).trans rfl
                have hcz54_3 : wr.cell? ⟨gb494, 3, none⟩ = some (.slice A0_3 l0_3.length c0_3) := (blk_cell BK494.out 3).trans rfl
                have hcz54_4 : wr.cell? ⟨gb494, 4, none⟩ = some (.int .i64 a0_4) := (blk_cell BK494.out 4).trans rfl
                have hcz54_5 : wr.cell? ⟨gb494, 5, none⟩ = some (.slice A0_5 l0_5.length c0_5) := (blk_cell BK494.out 5).trans rfl
                have hcz54_6 : wr.cell? ⟨gb494, 6, none⟩ = some (.slice A0_6 l0_6.length c0_6) := (blk_cell BK494.out 6).trans rfl
                have hcz54_7 : wr.cell? ⟨gb494, 7, none⟩ = some (.int .i64 a0_7) := (blk_cell BK494.out 7).trans rfl
                have hcz54_8 : wr.cell? ⟨gb494, 8, none⟩ = some (.int .i64 a0_8) := (blk_cell BK494.out 8).trans rfl
                have hcz54_9 : wr.cell? ⟨gb494, 9, none⟩ = some (.int .i64 a0_9) := (blk_cell BK494.out 9).trans rfl
                have hfz54_0 := blk_frozen BK494.out 0
                have hfz54_1 := blk_frozen BK494.out 1
                have hfz54_2 := blk_frozen BK494.out 2
                have hfz54_3 := blk_frozen BK494.out 3
                have hfz54_4 := blk_frozen BK494.out 4
                have hfz54_5 := blk_frozen BK494.out 5
                have hfz54_6 := blk_frozen BK494.out 6
                have hfz54_7 := blk_frozen BK494.out 7
                have hfz54_8 := blk_frozen BK494.out 8
                have hfz54_9 := blk_frozen BK494.out 9
                go_wp2
                go_ret
                exact ⟨by first | rfl | (simp [errW_none, errW_some] <;> rfl) | (simp [*, errW_none, errW_some] <;> rfl), by repeat (first | (with_reducible first | exact HB.out | apply below_alloc | apply pw_below_drewN | apply below_drew1 | refine below_set ?_ GE494.out | refine below_set ?_ GE514.out) | exact HB.out)⟩

end Go.Proofs.Ytjkjbfhhfdbnoaa.PB
