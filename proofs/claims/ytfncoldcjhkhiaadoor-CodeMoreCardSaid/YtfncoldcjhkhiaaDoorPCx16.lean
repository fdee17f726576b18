-- Own text: made by this session's variant of the printer (wip/mkpp.py); Lean checks it.
import Derived.Test.YtfncoldcjhkhiaaDoorPCx0
import Derived.Test.YtfncoldcjhkhiaaDoorPCx1
namespace Go.Proofs.YtfncoldcjhkhiaaDoor.PC
open Go.RowKit Go.Proofs.YtfncoldcjhkhiaaDoorW.PrintWords Go.Proofs.YtfncoldcjhkhiaaDoorW.PrintLast Go.Proofs.YtfncoldcjhkhiaaDoorW.PrintMore Go.Proofs.YtfncoldcjhkhiaaDoorW.Own
attribute [local go_sem high] own_gtr own_leq own_geq
attribute [local go_sem] max2_int min2_int max_two min_two max_three min_three max_four min_four   -- for this text's walks alone
set_option linter.unusedVariables false
set_option linter.unusedSimpArgs false

attribute [local go_sem high] eqA32
/-! ### sacristanref09_same: function 66 -/
mutual
def sacristanref09_same.j0 : Nat → Bool → Int → Int → Int → List (S32) → Int → Int → Int → List (S32) → Option (Bool)
  | 0, _, _, _, _, _, _, _, _, _ => none
  | k + 1, x33, x311000, x311001, x311002, x311003, x312000, x312001, x312002, x312003 => if x33 = true then (some false) else (sacristanref09_same.l0 k (x311003.length : Int) 0 x311000 x311001 x311002 x311003 x312000 x312001 x312002 x312003)
def sacristanref09_same.l0 : Nat → Int → Int → Int → Int → Int → List (S32) → Int → Int → Int → List (S32) → Option (Bool)
  | 0, _, _, _, _, _, _, _, _, _, _ => none
  | k + 1, x36, x37, x311000, x311001, x311002, x311003, x312000, x312001, x312002, x312003 => if x37 < x36 then (if 0 ≤ x37 then (if x37 < (x311003.length : Int) then (if x37 < (x312003.length : Int) then (if (!(((rd_T32 x311003 x37).f0) == ((rd_T32 x312003 x37).f0)) || (!(((rd_T32 x311003 x37).f1) == ((rd_T32 x312003 x37).f1)))) = true then (some false) else (sacristanref09_same.l0 k x36 (wrap64 (x37 + 1)) x311000 x311001 x311002 x311003 x312000 x312001 x312002 x312003)) else (none)) else (none)) else (none)) else (some true)
end
def sacristanref09_same.f (k : Nat) (a0_0 : Int) (a0_1 : Int) (a0_2 : Int) (l0_3 : List (S32)) (a1_0 : Int) (a1_1 : Int) (a1_2 : Int) (l1_3 : List (S32)) : Option (Bool) := if a0_0 = a1_0 then (if a0_1 = a1_1 then (if a0_2 = a1_2 then (sacristanref09_same.j0 k ((l0_3.length : Int) != (l1_3.length : Int)) a0_0 a0_1 a0_2 l0_3 a1_0 a1_1 a1_2 l1_3) else (sacristanref09_same.j0 k true a0_0 a0_1 a0_2 l0_3 a1_0 a1_1 a1_2 l1_3)) else (sacristanref09_same.j0 k true a0_0 a0_1 a0_2 l0_3 a1_0 a1_1 a1_2 l1_3)) else (sacristanref09_same.j0 k true a0_0 a0_1 a0_2 l0_3 a1_0 a1_1 a1_2 l1_3)
theorem sacristanref09_same.mono_l : ∀ k, (∀ y0 y1 y2 y3 y4 y5 y6 y7 y8, LeO (sacristanref09_same.j0 k y0 y1 y2 y3 y4 y5 y6 y7 y8) (sacristanref09_same.j0 (k + 1) y0 y1 y2 y3 y4 y5 y6 y7 y8)) ∧ (∀ y0 y1 y2 y3 y4 y5 y6 y7 y8 y9, LeO (sacristanref09_same.l0 k y0 y1 y2 y3 y4 y5 y6 y7 y8 y9) (sacristanref09_same.l0 (k + 1) y0 y1 y2 y3 y4 y5 y6 y7 y8 y9))
  | 0 => ⟨fun _ _ _ _ _ _ _ _ _ r h => by simp [sacristanref09_same.j0] at h, fun _ _ _ _ _ _ _ _ _ _ r h => by simp [sacristanref09_same.l0] at h⟩
  | k + 1 => by
    obtain ⟨ih0, ih1⟩ := sacristanref09_same.mono_l k
    refine ⟨?_, ?_⟩
    · intro y0 y1 y2 y3 y4 y5 y6 y7 y8
      unfold sacristanref09_same.j0
      repeat' first | (with_reducible exact ih1 _ _ _ _ _ _ _ _ _ _) | (with_reducible exact LeO.refl _) | (with_reducible refine LeO.ite ?_ ?_)
    · intro y0 y1 y2 y3 y4 y5 y6 y7 y8 y9
      unfold sacristanref09_same.l0
      repeat' first | (with_reducible exact ih1 _ _ _ _ _ _ _ _ _ _) | (with_reducible exact LeO.refl _) | (with_reducible refine LeO.ite ?_ ?_)
theorem sacristanref09_same.mono : ∀ a0 a1 a2 a3 a4 a5 a6 a7 k, LeO (sacristanref09_same.f k a0 a1 a2 a3 a4 a5 a6 a7) (sacristanref09_same.f (k + 1) a0 a1 a2 a3 a4 a5 a6 a7) := by
  intro a0 a1 a2 a3 a4 a5 a6 a7 k
  obtain ⟨ih0, ih1⟩ := sacristanref09_same.mono_l k
  unfold sacristanref09_same.f
  repeat' first | (with_reducible exact ih0 _ _ _ _ _ _ _ _ _) | (with_reducible refine LeO.ite ?_ ?_)
set_option maxHeartbeats 8000000 in
set_option maxRecDepth 100000 in
theorem sacristanref09_same.calls (k : Nat) (a0_0 : Int) (a0_1 : Int) (a0_2 : Int) (A0_3 : Option Addr) (c0_3 : Nat) (l0_3 : List (S32)) (a1_0 : Int) (a1_1 : Int) (a1_2 : Int) (A1_3 : Option Addr) (c1_3 : Nat) (l1_3 : List (S32)) (r : Bool) (w : World) (hr0_3 : Kd.C k32 w A0_3 l0_3.length l0_3) (hc0_3 : l0_3.length ≤ c0_3) (hr1_3 : Kd.C k32 w A1_3 l1_3.length l1_3) (hc1_3 : l1_3.length ≤ c1_3) (h : sacristanref09_same.f k a0_0 a0_1 a0_2 l0_3 a1_0 a1_1 a1_2 l1_3 = some r) :
    Calls Tryd.prog 66 #[.agg #[.int .i64 a0_0, .int .i64 a0_1, .int .i64 a0_2, .slice A0_3 l0_3.length c0_3], .agg #[.int .i64 a1_0, .int .i64 a1_1, .int .i64 a1_2, .slice A1_3 l1_3.length c1_3]] w fun e w' => e = .returned (.bool r) ∧ Below w.heap.size w w' := by
  have hu44 := Tryd.underlying44
  have hu32 := Tryd.underlying32
  have HR0_3 := Aside0.mk hr0_3
  have HC0_3 := Aside0.mk hc0_3
  clear hr0_3 hc0_3
  have HR1_3 := Aside0.mk hr1_3
  have HC1_3 := Aside0.mk hc1_3
  clear hr1_3 hc1_3
  have HB := Aside0.mk (Below.refl w.heap.size w)
  have H : (if a0_0 = a1_0 then (if a0_1 = a1_1 then (if a0_2 = a1_2 then (sacristanref09_same.j0 k ((l0_3.length : Int) != (l1_3.length : Int)) a0_0 a0_1 a0_2 l0_3 a1_0 a1_1 a1_2 l1_3) else (sacristanref09_same.j0 k true a0_0 a0_1 a0_2 l0_3 a1_0 a1_1 a1_2 l1_3)) else (sacristanref09_same.j0 k true a0_0 a0_1 a0_2 l0_3 a1_0 a1_1 a1_2 l1_3)) else (sacristanref09_same.j0 k true a0_0 a0_1 a0_2 l0_3 a1_0 a1_1 a1_2 l1_3)) = some r := h
  clear h
  have HC3 := Aside0.mk H
  clear H
  go_enter Tryd.func66, Tryd.ntmps66
  go_upto_region 1 with (first | ((with_reducible refine gate_dst (N := 2) rfl ?_); (try (refine gate_guard (by rfl) ?_; dsimp only)); refine box_event ?hg (N := 2) ?hd (cs := #[.int .i64 a0_0, .int .i64 a0_1, .int .i64 a0_2, .slice A0_3 l0_3.length c0_3]) (t := 44) ?hr ?_; (case hd => rfl); (case hg => rfl); (case hr => ((go_simp; done))); intro gb310 hg w4 hbox hb; have n0_ := Aside0.mk (below_step (by repeat ((with_reducible exact HB.out))) hb); have n1_ := Aside0.mk (hbox); have n2_ := Aside0.mk ((by rw [hg]; exact (below_size (by repeat ((with_reducible exact HB.out)))) : w.heap.size ≤ gb310)); have n3_ := Aside0.mk ((by rw [hg]; exact (below_size (by repeat ((with_reducible exact HB.out)))) : w.heap.size ≤ gb310)); clear HB; have HB := n0_; have BK310 := n1_; have GW310 := n2_; have GE310 := n3_; clear n0_ n1_ n2_ n3_; clear hb hbox hg) | ((with_reducible refine gate_dst (N := 3) rfl ?_); (try (refine gate_guard (by rfl) ?_; dsimp only)); refine box_event ?hg (N := 3) ?hd (cs := #[.int .i64 a1_0, .int .i64 a1_1, .int .i64 a1_2, .slice A1_3 l1_3.length c1_3]) (t := 44) ?hr ?_; (case hd => rfl); (case hg => rfl); (case hr => ((go_simp; done))); intro gb311 hg w5 hbox hb; have n0_ := Aside0.mk (blk_below (g := gb310) (o := .cells #[.int .i64 a0_0, .int .i64 a0_1, .int .i64 a0_2, .slice A0_3 l0_3.length c0_3] 44 (0, 0)) (by (with_reducible repeat (fail)); exact BK310.out) hb); have n1_ := Aside0.mk (below_step (by repeat ((with_reducible exact HB.out))) hb); have n2_ := Aside0.mk (hbox); have n3_ := Aside0.mk ((by rw [hg]; exact (below_size (by repeat ((with_reducible exact HB.out)))) : w.heap.size ≤ gb311)); have n4_ := Aside0.mk ((by rw [hg]; exact (below_size (by repeat ((with_reducible exact HB.out)))) : w.heap.size ≤ gb311)); have n5_ := Aside0.mk ((by rw [hg]; exact Nat.ne_of_lt (blk_lt (g := gb310) (o := .cells #[.int .i64 a0_0, .int .i64 a0_1, .int .i64 a0_2, .slice A0_3 l0_3.length c0_3] 44 (0, 0)) (by (with_reducible repeat (fail)); exact BK310.out)) : gb310 ≠ gb311)); have n6_ := Aside0.mk ((by rw [hg]; exact Nat.ne_of_gt (blk_lt (g := gb310) (o := .cells #[.int .i64 a0_0, .int .i64 a0_1, .int .i64 a0_2, .slice A0_3 l0_3.length c0_3] 44 (0, 0)) (by (with_reducible repeat (fail)); exact BK310.out)) : gb311 ≠ gb310)); clear BK310; clear HB; have BK310 := n0_; have HB := n1_; have BK311 := n2_; have GW311 := n3_; have GE311 := n4_; have NB310_311 := n5_; have NB311_310 := n6_; clear n0_ n1_ n2_ n3_ n4_ n5_ n6_; clear hb hbox hg))
  repeat (go_quiet (fail); go_upto_region 1 with (fail))
  go_cut [33] (fun v33 wc => ∃ (kq : Nat) (x33_2 : Bool), v33 = .bool x33_2 ∧ Aside0 (sacristanref09_same.j0 kq x33_2 a0_0 a0_1 a0_2 l0_3 a1_0 a1_1 a1_2 l1_3 = some r) ∧ Aside0 (kq ≤ k) ∧ Aside0 (wc.heap[gb310]? = some (.cells #[.int .i64 a0_0, .int .i64 a0_1, .int .i64 a0_2, (.slice A0_3 l0_3.length c0_3)] 44 (0, 0))) ∧ Aside0 (wc.heap[gb311]? = some (.cells #[.int .i64 a1_0, .int .i64 a1_1, .int .i64 a1_2, (.slice A1_3 l1_3.length c1_3)] 44 (0, 0))) ∧ Aside0 (Below w.heap.size w wc))
  case first =>
    have H := HC3.out
    clear HC3
    by_cases c6 : a0_0 = a1_0
    · rw [if_pos c6] at H
      have c6b0 : (a0_0 == a1_0) = true := beq_iff_eq.mpr c6
      have c6b1 : (a0_0 != a1_0) = false := bne_eq_false_iff_eq.mpr c6
      clear c6
      (skip)
      by_cases c7 : a0_1 = a1_1
      · rw [if_pos c7] at H
        have c7b0 : (a0_1 == a1_1) = true := beq_iff_eq.mpr c7
        have c7b1 : (a0_1 != a1_1) = false := bne_eq_false_iff_eq.mpr c7
        clear c7
        by_cases c8 : a0_2 = a1_2
        · rw [if_pos c8] at H
          have c8b0 : (a0_2 == a1_2) = true := beq_iff_eq.mpr c8
          have c8b1 : (a0_2 != a1_2) = false := bne_eq_false_iff_eq.mpr c8
          clear c8
          have H' := Aside0.mk H
          clear H
          have hnb9 := NB310_311.out
          have hnc9 := NB311_310.out
          have hcz10_0 : w5.cell? ⟨gb310, 0, none⟩ = some (.int .i64 a0_0) := (blk_cell BK310.out 0).trans rfl
          have hcz10_1 : w5.cell? ⟨gb310, 1, none⟩ = some (.int .i64 a0_1) := (blk_cell BK310.out 1).trans rfl
          have hcz10_2 : w5.cell? ⟨gb310, 2, none⟩ = some (.int .i64 a0_2) := (blk_cell BK310.out 2).trans rfl
          have hcz10_3 : w5.cell? ⟨gb310, 3, none⟩ = some (.slice A0_3 l0_3.length c0_3) := (blk_cell BK310.out 3).trans rfl
          have hfz10_0 := blk_frozen BK310.out 0
          have hfz10_1 := blk_frozen BK310.out 1
          have hfz10_2 := blk_frozen BK310.out 2
          have hfz10_3 := blk_frozen BK310.out 3
          have hcz11_0 : w5.cell? ⟨gb311, 0, none⟩ = some (.int .i64 a1_0) := (blk_cell BK311.out 0).trans rfl
          have hcz11_1 : w5.cell? ⟨gb311, 1, none⟩ = some (.int .i64 a1_1) := (blk_cell BK311.out 1).trans rfl
          have hcz11_2 : w5.cell? ⟨gb311, 2, none⟩ = some (.int .i64 a1_2) := (blk_cell BK311.out 2).trans rfl
          have hcz11_3 : w5.cell? ⟨gb311, 3, none⟩ = some (.slice A1_3 l1_3.length c1_3) := (blk_cell BK311.out 3).trans rfl
          have hfz11_0 := blk_frozen BK311.out 0
          have hfz11_1 := blk_frozen BK311.out 1
          have hfz11_2 := blk_frozen BK311.out 2
          have hfz11_3 := blk_frozen BK311.out 3
          go_wp2
          repeat (go_quiet (fail))
          go_meet
          case rel => exact ⟨_, (((l0_3.length : Int) != (l1_3.length : Int))), (by rfl), H', ⟨by omega⟩, ⟨by (with_reducible repeat (fail)); exact BK310.out⟩, ⟨by (with_reducible repeat (fail)); exact BK311.out⟩, ⟨by repeat ((with_reducible exact HB.out))⟩⟩
        rw [if_neg c8] at H
        have c8b0 : (a0_2 == a1_2) = false := beq_eq_false_iff_ne.mpr c8
        have c8b1 : (a0_2 != a1_2) = true := bne_iff_ne.mpr c8
        have H' := Aside0.mk H
        clear H
        have hnb12 := NB310_311.out
        have hnc12 := NB311_310.out
        have hcz13_0 : w5.cell? ⟨gb310, 0, none⟩ = some (.int .i64 a0_0) := (blk_cell BK310.out 0).trans rfl
        have hcz13_1 : w5.cell? ⟨gb310, 1, none⟩ = some (.int .i64 a0_1) := (blk_cell BK310.out 1).trans rfl
        have hcz13_2 : w5.cell? ⟨gb310, 2, none⟩ = some (.int .i64 a0_2) := (blk_cell BK310.out 2).trans rfl
        have hcz13_3 : w5.cell? ⟨gb310, 3, none⟩ = some (.slice A0_3 l0_3.length c0_3) := (blk_cell BK310.out 3).trans rfl
        have hfz13_0 := blk_frozen BK310.out 0
        have hfz13_1 := blk_frozen BK310.out 1
        have hfz13_2 := blk_frozen BK310.out 2
        have hfz13_3 := blk_frozen BK310.out 3
        have hcz14_0 : w5.cell? ⟨gb311, 0, none⟩ = some (.int .i64 a1_0) := (blk_cell BK311.out 0).trans rfl
        have hcz14_1 : w5.cell? ⟨gb311, 1, none⟩ = some (.int .i64 a1_1) := (blk_cell BK311.out 1).trans rfl
        have hcz14_2 : w5.cell? ⟨gb311, 2, none⟩ = some (.int .i64 a1_2) := (blk_cell BK311.out 2).trans rfl
        have hcz14_3 : w5.cell? ⟨gb311, 3, none⟩ = some (.slice A1_3 l1_3.length c1_3) := (blk_cell BK311.out 3).trans rfl
        have hfz14_0 := blk_frozen BK311.out 0
        have hfz14_1 := blk_frozen BK311.out 1
        have hfz14_2 := blk_frozen BK311.out 2
        have hfz14_3 := blk_frozen BK311.out 3
        go_wp2
        repeat (go_quiet (fail))
        go_meet
        case rel => exact ⟨_, (true), (by rfl), H', ⟨by omega⟩, ⟨by (with_reducible repeat (fail)); exact BK310.out⟩, ⟨by (with_reducible repeat (fail)); exact BK311.out⟩, ⟨by repeat ((with_reducible exact HB.out))⟩⟩
      rw [if_neg c7] at H
      have c7b0 : (a0_1 == a1_1) = false := beq_eq_false_iff_ne.mpr c7
      have c7b1 : (a0_1 != a1_1) = true := bne_iff_ne.mpr c7
      have H' := Aside0.mk H
      clear H
      have hnb15 := NB310_311.out
      have hnc15 := NB311_310.out
      have hcz16_0 : w5.cell? ⟨gb310, 0, none⟩ = some (.int .i64 a0_0) := (blk_cell BK310.out 0).trans rfl
      have hcz16_1 : w5.cell? ⟨gb310, 1, none⟩ = some (.int .i64 a0_1) := (blk_cell BK310.out 1).trans rfl
      have hcz16_2 : w5.cell? ⟨gb310, 2, none⟩ = some (.int .i64 a0_2) := (blk_cell BK310.out 2).trans rfl
      have hcz16_3 : w5.cell? ⟨gb310, 3, none⟩ = some (.slice A0_3 l0_3.length c0_3) := (blk_cell BK310.out 3).trans rfl
      have hfz16_0 := blk_frozen BK310.out 0
      have hfz16_1 := blk_frozen BK310.out 1
      have hfz16_2 := blk_frozen BK310.out 2
      have hfz16_3 := blk_frozen BK310.out 3
      have hcz17_0 : w5.cell? ⟨gb311, 0, none⟩ = some (.int .i64 a1_0) := (blk_cell BK311.out 0).trans rfl
      have hcz17_1 : w5.cell? ⟨gb311, 1, none⟩ = some (.int .i64 a1_1) := (blk_cell BK311.out 1).trans rfl
      have hcz17_2 : w5.cell? ⟨gb311, 2, none⟩ = some (.int .i64 a1_2) := (blk_cell BK311.out 2).trans rfl
      have hcz17_3 : w5.cell? ⟨gb311, 3, none⟩ = some (.slice A1_3 l1_3.length c1_3) := (blk_cell BK311.out 3).trans rfl
      have hfz17_0 := blk_frozen BK311.out 0
      have hfz17_1 := blk_frozen BK311.out 1
      have hfz17_2 := blk_frozen BK311.out 2
      have hfz17_3 := blk_frozen BK311.out 3
      go_wp2
      repeat (go_quiet (fail))
      go_meet
      case rel => exact ⟨_, (true), (by rfl), H', ⟨by omega⟩, ⟨by (with_reducible repeat (fail)); exact BK310.out⟩, ⟨by (with_reducible repeat (fail)); exact BK311.out⟩, ⟨by repeat ((with_reducible exact HB.out))⟩⟩
    rw [if_neg c6] at H
    have c6b0 : (a0_0 == a1_0) = false := beq_eq_false_iff_ne.mpr c6
    have c6b1 : (a0_0 != a1_0) = true := bne_iff_ne.mpr c6
    (skip)
    have H' := Aside0.mk H
    clear H
    have hnb18 := NB310_311.out
    have hnc18 := NB311_310.out
    have hcz19_0 : w5.cell? ⟨gb310, 0, none⟩ = some (.int .i64 a0_0) := (blk_cell BK310.out 0).trans rfl
    have hcz19_1 : w5.cell? ⟨gb310, 1, none⟩ = some (.int .i64 a0_1) := (blk_cell BK310.out 1).trans rfl
    have hcz19_2 : w5.cell? ⟨gb310, 2, none⟩ = some (.int .i64 a0_2) := (blk_cell BK310.out 2).trans rfl
    have hcz19_3 : w5.cell? ⟨gb310, 3, none⟩ = some (.slice A0_3 l0_3.length c0_3) := (blk_cell BK310.out 3).trans rfl
    have hfz19_0 := blk_frozen BK310.out 0
    have hfz19_1 := blk_frozen BK310.out 1
    have hfz19_2 := blk_frozen BK310.out 2
    have hfz19_3 := blk_frozen BK310.out 3
    have hcz20_0 : w5.cell? ⟨gb311, 0, none⟩ = some (.int .i64 a1_0) := (blk_cell BK311.out 0).trans rfl
    have hcz20_1 : w5.cell? ⟨gb311, 1, none⟩ = some (.int .i64 a1_1) := (blk_cell BK311.out 1).trans rfl
    have hcz20_2 : w5.cell? ⟨gb311, 2, none⟩ = some (.int .i64 a1_2) := (blk_cell BK311.out 2).trans rfl
    have hcz20_3 : w5.cell? ⟨gb311, 3, none⟩ = some (.slice A1_3 l1_3.length c1_3) := (blk_cell BK311.out 3).trans rfl
    have hfz20_0 := blk_frozen BK311.out 0
    have hfz20_1 := blk_frozen BK311.out 1
    have hfz20_2 := blk_frozen BK311.out 2
    have hfz20_3 := blk_frozen BK311.out 3
    go_wp2
    repeat (go_quiet (fail))
    go_meet
    case rel => exact ⟨_, (true), (by rfl), H', ⟨by omega⟩, ⟨by (with_reducible repeat (fail)); exact BK310.out⟩, ⟨by (with_reducible repeat (fail)); exact BK311.out⟩, ⟨by repeat ((with_reducible exact HB.out))⟩⟩
  case rest =>
    clear HC3
    obtain ⟨kq, x33_2, rfl, HA, HJ2, BK310, BK311, HB⟩ := hcut
    cases kq with
    | zero => exact absurd HA.out (by simp [sacristanref09_same.j0])
    | succ kj2 =>
      have H := HA.out
      clear HA
      simp only [sacristanref09_same.j0] at H
      by_cases c21 : x33_2 = true
      · subst c21
        have H1 : (some false) = some r := by rw [if_pos rfl] at H; exact H
        clear H
        have H := H1
        clear H1
        obtain rfl := Option.some.inj H
        go_wp2
        repeat (go_quiet (fail))
        go_ret
        exact ⟨by rfl, by repeat ((with_reducible exact HB.out))⟩
      replace c21 := Bool.eq_false_iff.mpr c21
      subst c21
      have H1 : (sacristanref09_same.l0 kj2 (l0_3.length : Int) 0 a0_0 a0_1 a0_2 l0_3 a1_0 a1_1 a1_2 l1_3) = some r := by rw [if_neg (show ¬ (false = true) by decide)] at H; exact H
      clear H
      have H := H1
      clear H1
      have H' := Aside0.mk H
      clear H
      have hnb22 := NB310_311.out
      have hnc22 := NB311_310.out
      have hcz23_0 : wc.cell? ⟨gb310, 0, none⟩ = some (.int .i64 a0_0) := (blk_cell BK310.out 0).trans rfl
      have hcz23_1 : wc.cell? ⟨gb310, 1, none⟩ = some (.int .i64 a0_1) := (blk_cell BK310.out 1).trans rfl
      have hcz23_2 : wc.cell? ⟨gb310, 2, none⟩ = some (.int .i64 a0_2) := (blk_cell BK310.out 2).trans rfl
      have hcz23_3 : wc.cell? ⟨gb310, 3, none⟩ = some (.slice A0_3 l0_3.length c0_3) := (blk_cell BK310.out 3).trans rfl
      have hfz23_0 := blk_frozen BK310.out 0
      have hfz23_1 := blk_frozen BK310.out 1
      have hfz23_2 := blk_frozen BK310.out 2
      have hfz23_3 := blk_frozen BK310.out 3
      go_wp2
      repeat (go_quiet (fail))
      go_loopg [37] kj2 (fun kq v37 w' => ∃ (x37_2 : Int), v37 = .int .i64 x37_2 ∧ Aside0 (sacristanref09_same.l0 kq (l0_3.length : Int) x37_2 a0_0 a0_1 a0_2 l0_3 a1_0 a1_1 a1_2 l1_3 = some r) ∧ Aside0 (kq ≤ kj2) ∧ Aside0 (w'.heap[gb310]? = some (.cells #[.int .i64 a0_0, .int .i64 a0_1, .int .i64 a0_2, (.slice A0_3 l0_3.length c0_3)] 44 (0, 0))) ∧ Aside0 (w'.heap[gb311]? = some (.cells #[.int .i64 a1_0, .int .i64 a1_1, .int .i64 a1_2, (.slice A1_3 l1_3.length c1_3)] 44 (0, 0))) ∧ Aside0 (Below w.heap.size w w'))
      case atStart => exact ⟨(0), (by rfl), H', ⟨Nat.le_refl _⟩, ⟨by (with_reducible repeat (fail)); exact BK310.out⟩, ⟨by (with_reducible repeat (fail)); exact BK311.out⟩, ⟨by repeat ((with_reducible exact HB.out))⟩⟩
      case round =>
        clear H' hcz23_0 hcz23_1 hcz23_2 hcz23_3 hfz23_0 hfz23_1 hfz23_2 hfz23_3
        obtain ⟨x37_2, rfl, HA, HK2, BK310, BK311, HB⟩ := hrel
        cases gk with
        | zero => exact absurd HA.out (by simp [sacristanref09_same.l0])
        | succ k2 =>
          have H := HA.out
          clear HA
          simp only [sacristanref09_same.l0] at H
          by_cases c24 : x37_2 < (l0_3.length : Int)
          · rw [if_pos c24] at H
            have c24b0 : decide (x37_2 < (l0_3.length : Int)) = true := decide_eq_true c24
            clear c24
            by_cases c25 : 0 ≤ x37_2
            · rw [if_pos c25] at H
              have c25b0 : decide (0 ≤ x37_2) = true := decide_eq_true c25
              clear c25
              by_cases c26 : x37_2 < (l0_3.length : Int)
              · rw [if_pos c26] at H
                have c26b0 : decide (x37_2 < (l0_3.length : Int)) = true := decide_eq_true c26
                clear c26
                by_cases c27 : x37_2 < (l1_3.length : Int)
                · rw [if_pos c27] at H
                  have c27b0 : decide (x37_2 < (l1_3.length : Int)) = true := decide_eq_true c27
                  clear c27
                  by_cases c28 : (!(((rd_T32 l0_3 x37_2).f0) == ((rd_T32 l1_3 x37_2).f0)) || (!(((rd_T32 l0_3 x37_2).f1) == ((rd_T32 l1_3 x37_2).f1)))) = true
                  · rw [if_pos c28] at H
                    have c28b0 : (!(((rd_T32 l0_3 x37_2).f0) == ((rd_T32 l1_3 x37_2).f0)) || (!(((rd_T32 l0_3 x37_2).f1) == ((rd_T32 l1_3 x37_2).f1)))) = true := c28
                    clear c28
                    obtain rfl := Option.some.inj H
                    have hnb29 := NB310_311.out
                    have hnc29 := NB311_310.out
                    have hcz30_0 : wr.cell? ⟨gb310, 0, none⟩ = some (.int .i64 a0_0) := (blk_cell BK310.out 0).trans rfl
                    have hcz30_1 : wr.cell? ⟨gb310, 1, none⟩ = some (.int .i64 a0_1) := (blk_cell BK310.out 1).trans rfl
                    have hcz30_2 : wr.cell? ⟨gb310, 2, none⟩ = some (.int .i64 a0_2) := (blk_cell BK310.out 2).trans rfl
                    have hcz30_3 : wr.cell? ⟨gb310, 3, none⟩ = some (.slice A0_3 l0_3.length c0_3) := (blk_cell BK310.out 3).trans rfl
                    have hfz30_0 := blk_frozen BK310.out 0
                    have hfz30_1 := blk_frozen BK310.out 1
                    have hfz30_2 := blk_frozen BK310.out 2
                    have hfz30_3 := blk_frozen BK310.out 3
                    have p312 : 0 ≤ (x37_2 : Int) := of_decide_eq_true (by (with_reducible assumption))
                    have q312 : x37_2 < (l0_3.length : Int) := of_decide_eq_true (by (with_reducible assumption))
                    obtain ⟨ad312, e312, hx312_0, hx312_1⟩ := at_T32 HR0_3.out x37_2 p312 q312
                    cases e312
                    replace hx312_0 := (HB.out.cell (World.block_lt_of_cell? w _ hx312_0)).trans hx312_0
                    replace hx312_1 := (HB.out.cell (World.block_lt_of_cell? w _ hx312_1)).trans hx312_1
                    replace p312 := eq_true p312
                    replace q312 := eq_true q312
                    have hcz31_0 : wr.cell? ⟨gb311, 0, none⟩ = some (.int .i64 a1_0) := (blk_cell BK311.out 0).trans rfl
                    have hcz31_1 : wr.cell? ⟨gb311, 1, none⟩ = some (.int .i64 a1_1) := (blk_cell BK311.out 1).trans rfl
                    have hcz31_2 : wr.cell? ⟨gb311, 2, none⟩ = some (.int .i64 a1_2) := (blk_cell BK311.out 2).trans rfl
                    have hcz31_3 : wr.cell? ⟨gb311, 3, none⟩ = some (.slice A1_3 l1_3.length c1_3) := (blk_cell BK311.out 3).trans rfl
                    have hfz31_0 := blk_frozen BK311.out 0
                    have hfz31_1 := blk_frozen BK311.out 1
                    have hfz31_2 := blk_frozen BK311.out 2
                    have hfz31_3 := blk_frozen BK311.out 3
                    have p313 : 0 ≤ (x37_2 : Int) := of_decide_eq_true (by (with_reducible assumption))
                    have q313 : x37_2 < (l1_3.length : Int) := of_decide_eq_true (by (with_reducible assumption))
                    obtain ⟨ad313, e313, hx313_0, hx313_1⟩ := at_T32 HR1_3.out x37_2 p313 q313
                    cases e313
                    replace hx313_0 := (HB.out.cell (World.block_lt_of_cell? w _ hx313_0)).trans hx313_0
                    replace hx313_1 := (HB.out.cell (World.block_lt_of_cell? w _ hx313_1)).trans hx313_1
                    replace p313 := eq_true p313
                    replace q313 := eq_true q313
                    go_wp2
                    repeat (go_quiet (fail); try go_wp2)
                    go_ret
                    exact ⟨by rfl, by repeat ((with_reducible first | exact HB.out | apply pw_below_drewN))⟩
                  rw [if_neg c28] at H
                  have c28b0 : (!(((rd_T32 l0_3 x37_2).f0) == ((rd_T32 l1_3 x37_2).f0)) || (!(((rd_T32 l0_3 x37_2).f1) == ((rd_T32 l1_3 x37_2).f1)))) = false := by simpa using c28
                  clear c28
                  have H' := Aside0.mk H
                  clear H
                  have hnb32 := NB310_311.out
                  have hnc32 := NB311_310.out
                  have hcz33_0 : wr.cell? ⟨gb310, 0, none⟩ = some (.int .i64 a0_0) := (blk_cell BK310.out 0).trans rfl
                  have hcz33_1 : wr.cell? ⟨gb310, 1, none⟩ = some (.int .i64 a0_1) := (blk_cell BK310.out 1).trans rfl
                  have hcz33_2 : wr.cell? ⟨gb310, 2, none⟩ = some (.int .i64 a0_2) := (blk_cell BK310.out 2).trans rfl
                  have hcz33_3 : wr.cell? ⟨gb310, 3, none⟩ = some (.slice A0_3 l0_3.length c0_3) := (blk_cell BK310.out 3).trans rfl
                  have hfz33_0 := blk_frozen BK310.out 0
                  have hfz33_1 := blk_frozen BK310.out 1
                  have hfz33_2 := blk_frozen BK310.out 2
                  have hfz33_3 := blk_frozen BK310.out 3
                  have p312 : 0 ≤ (x37_2 : Int) := of_decide_eq_true (by (with_reducible assumption))
                  have q312 : x37_2 < (l0_3.length : Int) := of_decide_eq_true (by (with_reducible assumption))
                  obtain ⟨ad312, e312, hx312_0, hx312_1⟩ := at_T32 HR0_3.out x37_2 p312 q312
                  cases e312
                  replace hx312_0 := (HB.out.cell (World.block_lt_of_cell? w _ hx312_0)).trans hx312_0
                  replace hx312_1 := (HB.out.cell (World.block_lt_of_cell? w _ hx312_1)).trans hx312_1
                  replace p312 := eq_true p312
                  replace q312 := eq_true q312
                  have hcz34_0 : wr.cell? ⟨gb311, 0, none⟩ = some (.int .i64 a1_0) := (blk_cell BK311.out 0).trans rfl
                  have hcz34_1 : wr.cell? ⟨gb311, 1, none⟩ = some (.int .i64 a1_1) := (blk_cell BK311.out 1).trans rfl
                  have hcz34_2 : wr.cell? ⟨gb311, 2, none⟩ = some (.int .i64 a1_2) := (blk_cell BK311.out 2).trans rfl
                  have hcz34_3 : wr.cell? ⟨gb311, 3, none⟩ = some (.slice A1_3 l1_3.length c1_3) := (blk_cell BK311.out 3).trans rfl
                  have hfz34_0 := blk_frozen BK311.out 0
                  have hfz34_1 := blk_frozen BK311.out 1
                  have hfz34_2 := blk_frozen BK311.out 2
                  have hfz34_3 := blk_frozen BK311.out 3
                  have p313 : 0 ≤ (x37_2 : Int) := of_decide_eq_true (by (with_reducible assumption))
                  have q313 : x37_2 < (l1_3.length : Int) := of_decide_eq_true (by (with_reducible assumption))
                  obtain ⟨ad313, e313, hx313_0, hx313_1⟩ := at_T32 HR1_3.out x37_2 p313 q313
                  cases e313
                  replace hx313_0 := (HB.out.cell (World.block_lt_of_cell? w _ hx313_0)).trans hx313_0
                  replace hx313_1 := (HB.out.cell (World.block_lt_of_cell? w _ hx313_1)).trans hx313_1
                  replace p313 := eq_true p313
                  replace q313 := eq_true q313
                  go_wp2
                  repeat (go_quiet (fail); try go_wp2)
                  go_roundg k2
                  case measure => have := HJ2.out; have := HK2.out; omega
                  case rel => exact ⟨(wrap64 (x37_2 + 1)), (by rfl), H', ⟨by have := HJ2.out; have := HK2.out; omega⟩, ⟨by (with_reducible repeat (refine blk_drewN ?_ _)); exact BK310.out⟩, ⟨by (with_reducible repeat (refine blk_drewN ?_ _)); exact BK311.out⟩, ⟨by repeat ((with_reducible first | exact HB.out | apply pw_below_drewN))⟩⟩
                rw [if_neg c27] at H
                exact absurd H (by simp)
              rw [if_neg c26] at H
              exact absurd H (by simp)
            rw [if_neg c25] at H
            exact absurd H (by simp)
          rw [if_neg c24] at H
          have c24b0 : decide (x37_2 < (l0_3.length : Int)) = false := decide_eq_false c24
          clear c24
          obtain rfl := Option.some.inj H
          go_wp2
          repeat (go_quiet (fail))
          go_ret
          exact ⟨by rfl, by repeat ((with_reducible exact HB.out))⟩

end Go.Proofs.YtfncoldcjhkhiaaDoor.PC
