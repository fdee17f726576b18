/- Own text: the definitions and the first half of the walk are printed by wip/mkpp.py; the loops are walked by hand. -/
import Derived.Test.YtjkjbfhhfdbnoaaRi
import Derived.Test.YtjkjbfhhfdbnoaaRa
import Derived.Test.YtjkjbfhhfdbnoaaPBx0
import Derived.Test.YtjkjbfhhfdbnoaaPBx3
import Derived.Test.YtjkjbfhhfdbnoaaPBx4
import Derived.Test.YtjkjbfhhfdbnoaaPBx8
import Derived.Test.YtjkjbfhhfdbnoaaPBx13
import Derived.Test.YtjkjbfhhfdbnoaaRj
namespace Go.Proofs.Ytjkjbfhhfdbnoaa.PB
open Go.RowKit Go.Proofs.YtjkjbfhhfdbnoaaW.PrintWords Go.Proofs.YtjkjbfhhfdbnoaaW.PrintLast Go.Proofs.YtjkjbfhhfdbnoaaW.PrintMore Go.Proofs.YtjkjbfhhfdbnoaaW.Own
attribute [local go_sem high] own_gtr own_leq own_geq
attribute [local go_sem] max2_int min2_int max_two min_two max_three min_three max_four min_four   -- for this text's walks alone
set_option linter.unusedVariables false
set_option linter.unusedSimpArgs false

/-! ### sacristanlaw17_SpreadEnds: function 4 -/
mutual
def sacristanlaw17_SpreadEnds.j0 : Nat → Bool → Int → Int → Int → List (S39) → Int → List Int → List Int → Int → Int → Int → Option (Bool)
  | 0, _, _, _, _, _, _, _, _, _, _, _ => none
  | k + 1, x14, x395000, x395001, x395002, x395003, x395004, x395005, x395006, x395007, x395008, x395009 => if x14 = true then ((sacristanlaw17_awake.f).bind fun t397 => (some t397)) else ((spread_Spread.f x395000 x395001 x395002 x395003 x395004 x395005 x395006 x395007 x395008 x395009).bind fun bt398 => (sacristanlaw17_SpreadEnds.l0 k 0 bt398.1 bt398.2.1 bt398.2.2.1 bt398.2.2.2.1 bt398.2.2.2.2.1 bt398.2.2.2.2.2.1 bt398.2.2.2.2.2.2.1 bt398.2.2.2.2.2.2.2.1 bt398.2.2.2.2.2.2.2.2.1 bt398.2.2.2.2.2.2.2.2.2))
def sacristanlaw17_SpreadEnds.l0 : Nat → Int → Int → Int → Int → List (S39) → Int → List Int → List Int → Int → Int → Int → Option (Bool)
  | 0, _, _, _, _, _, _, _, _, _, _, _ => none
  | k + 1, x4, x415000, x415001, x415002, x415003, x415004, x415005, x415006, x415007, x415008, x415009 => if x4 < (x415005.length : Int) then (sacristanlaw17_SpreadEnds.l1 k x4 (wrap64 ((x415003.length : Int) - 1)) x415000 x415001 x415002 x415003 x415004 x415005 x415006 x415007 x415008 x415009) else ((sacristanlaw17_awake.f).bind fun t415 => (some t415))
def sacristanlaw17_SpreadEnds.l1 : Nat → Int → Int → Int → Int → Int → List (S39) → Int → List Int → List Int → Int → Int → Int → Option (Bool)
  | 0, _, _, _, _, _, _, _, _, _, _, _, _ => none
  | k + 1, x4, x5, x415000, x415001, x415002, x415003, x415004, x415005, x415006, x415007, x415008, x415009 => if x5 ≥ 0 then (if 0 ≤ x5 then (if x5 < (x415003.length : Int) then (if ((rd_T39 x415003 x5).f0) = 6 then (sacristanlaw17_SpreadEnds.j3 k x4 x5 true x415000 x415001 x415002 x415003 x415004 x415005 x415006 x415007 x415008 x415009 ((rd_T39 x415003 x5).f0) ((rd_T39 x415003 x5).f1) ((rd_T39 x415003 x5).f2) ((rd_T39 x415003 x5).f3) ((rd_T39 x415003 x5).f4) ((rd_T39 x415003 x5).f5.f0) ((rd_T39 x415003 x5).f5.f1) ((rd_T39 x415003 x5).f5.f2)) else (if ((rd_T39 x415003 x5).f0) = 8 then (sacristanlaw17_SpreadEnds.j3 k x4 x5 true x415000 x415001 x415002 x415003 x415004 x415005 x415006 x415007 x415008 x415009 ((rd_T39 x415003 x5).f0) ((rd_T39 x415003 x5).f1) ((rd_T39 x415003 x5).f2) ((rd_T39 x415003 x5).f3) ((rd_T39 x415003 x5).f4) ((rd_T39 x415003 x5).f5.f0) ((rd_T39 x415003 x5).f5.f1) ((rd_T39 x415003 x5).f5.f2)) else (if 0 ≤ x4 then (if x4 < (x415005.length : Int) then (sacristanlaw17_SpreadEnds.j3 k x4 x5 (((rd_T39 x415003 x5).f1) != (rd x415005 x4)) x415000 x415001 x415002 x415003 x415004 x415005 x415006 x415007 x415008 x415009 ((rd_T39 x415003 x5).f0) ((rd_T39 x415003 x5).f1) ((rd_T39 x415003 x5).f2) ((rd_T39 x415003 x5).f3) ((rd_T39 x415003 x5).f4) ((rd_T39 x415003 x5).f5.f0) ((rd_T39 x415003 x5).f5.f1) ((rd_T39 x415003 x5).f5.f2)) else (none)) else (none)))) else (none)) else (none)) else (sacristanlaw17_SpreadEnds.l0 k (wrap64 (x4 + 1)) x415000 x415001 x415002 x415003 x415004 x415005 x415006 x415007 x415008 x415009)
def sacristanlaw17_SpreadEnds.j3 : Nat → Int → Int → Bool → Int → Int → Int → List (S39) → Int → List Int → List Int → Int → Int → Int → Int → Int → Int → Int → ByteArray → Int → Int → ByteArray → Option (Bool)
  | 0, _, _, _, _, _, _, _, _, _, _, _, _, _, _, _, _, _, _, _, _, _ => none
  | k + 1, x4, x5, x55, x415000, x415001, x415002, x415003, x415004, x415005, x415006, x415007, x415008, x415009, x418000, x418001, x418002, x418003, x418004, x418005, x418006, x418007 => if x55 = true then (sacristanlaw17_SpreadEnds.l1 k x4 (wrap64 (x5 - 1)) x415000 x415001 x415002 x415003 x415004 x415005 x415006 x415007 x415008 x415009) else (if x418000 = 2 then (if 0 ≤ (wrap64 (x5 + 1)) then (if (wrap64 (x5 + 1)) ≤ (x415003.length : Int) then ((sacristanlaw17_touched.f k (x415003.drop ((wrap64 (x5 + 1)) : Int).toNat) x418002).bind fun t423 => (if t423 = true then (sacristanlaw17_SpreadEnds.l0 k (wrap64 (x4 + 1)) x415000 x415001 x415002 x415003 x415004 x415005 x415006 x415007 x415008 x415009) else (some false))) else (none)) else (none)) else (sacristanlaw17_SpreadEnds.l0 k (wrap64 (x4 + 1)) x415000 x415001 x415002 x415003 x415004 x415005 x415006 x415007 x415008 x415009))
end
def sacristanlaw17_SpreadEnds.f (k : Nat) (a0_0 : Int) (a0_1 : Int) (a0_2 : Int) (l0_3 : List (S39)) (a0_4 : Int) (l0_5 : List Int) (l0_6 : List Int) (a0_7 : Int) (a0_8 : Int) (a0_9 : Int) : Option (Bool) := (sacristanref15_Great.f k a0_0 a0_1 a0_2 l0_3 a0_4 l0_5 l0_6 a0_7 a0_8 a0_9 ([] : List (S37)) ([] : List (S37)) ([] : List (S37)) ([] : List (S54))).bind fun t395 => (if t395 = true then (sacristanlaw17_SpreadEnds.j0 k true a0_0 a0_1 a0_2 l0_3 a0_4 l0_5 l0_6 a0_7 a0_8 a0_9) else ((sacristanref15_May.f k a0_0 a0_1 a0_2 l0_3 a0_4 l0_5 l0_6 a0_7 a0_8 a0_9).bind fun t396 => (sacristanlaw17_SpreadEnds.j0 k (!t396) a0_0 a0_1 a0_2 l0_3 a0_4 l0_5 l0_6 a0_7 a0_8 a0_9)))
set_option maxHeartbeats 8000000 in
set_option maxRecDepth 100000 in
theorem sacristanlaw17_SpreadEnds.calls (k : Nat) (a0_0 : Int) (a0_1 : Int) (a0_2 : Int) (A0_3 : Option Addr) (c0_3 : Nat) (l0_3 : List (S39)) (a0_4 : Int) (A0_5 : Option Addr) (c0_5 : Nat) (l0_5 : List Int) (A0_6 : Option Addr) (c0_6 : Nat) (l0_6 : List Int) (a0_7 : Int) (a0_8 : Int) (a0_9 : Int) (r : Bool) (w : World) (hr0_3 : Kd.C k39 w A0_3 l0_3.length l0_3) (hc0_3 : l0_3.length ≤ c0_3) (hr0_5 : Kd.C (Kd.int .i64) w A0_5 l0_5.length l0_5) (hc0_5 : l0_5.length ≤ c0_5) (hr0_6 : Kd.C (Kd.int .i64) w A0_6 l0_6.length l0_6) (hc0_6 : l0_6.length ≤ c0_6) (hM : NW.MaxOk w) (h : sacristanlaw17_SpreadEnds.f k a0_0 a0_1 a0_2 l0_3 a0_4 l0_5 l0_6 a0_7 a0_8 a0_9 = some r) :
    Calls Try.prog 4 #[.agg #[.int .i64 a0_0, .int .i64 a0_1, .int .i64 a0_2, .slice A0_3 l0_3.length c0_3, .int .i64 a0_4, .slice A0_5 l0_5.length c0_5, .slice A0_6 l0_6.length c0_6, .int .i64 a0_7, .int .i64 a0_8, .int .i64 a0_9]] w fun e w' => e = .returned (.bool r) ∧ Below w.heap.size w w' := by
  have hu25 := Try.underlying25
  have hu29 := Try.underlying29
  have hu39 := Try.underlying39
  have HR0_3 := Aside0.mk hr0_3
  have HC0_3 := Aside0.mk hc0_3
  clear hr0_3 hc0_3
  have HR0_5 := Aside0.mk hr0_5
  have HC0_5 := Aside0.mk hc0_5
  clear hr0_5 hc0_5
  have HR0_6 := Aside0.mk hr0_6
  have HC0_6 := Aside0.mk hc0_6
  clear hr0_6 hc0_6
  have HB := Aside0.mk (Below.refl w.heap.size w)
  have HMX := Aside0.mk hM
  clear hM
  have H : ((sacristanref15_Great.f k a0_0 a0_1 a0_2 l0_3 a0_4 l0_5 l0_6 a0_7 a0_8 a0_9 ([] : List (S37)) ([] : List (S37)) ([] : List (S37)) ([] : List (S54))).bind fun t395 => (if t395 = true then (sacristanlaw17_SpreadEnds.j0 k true a0_0 a0_1 a0_2 l0_3 a0_4 l0_5 l0_6 a0_7 a0_8 a0_9) else ((sacristanref15_May.f k a0_0 a0_1 a0_2 l0_3 a0_4 l0_5 l0_6 a0_7 a0_8 a0_9).bind fun t396 => (sacristanlaw17_SpreadEnds.j0 k (!t396) a0_0 a0_1 a0_2 l0_3 a0_4 l0_5 l0_6 a0_7 a0_8 a0_9)))) = some r := h
  clear h
  have HC2 := Aside0.mk H
  clear H
  go_enter Try.func4, Try.ntmps4
  go_upto_region 1 with (first | ((with_reducible refine gate_dst (N := 1) rfl ?_); refine box_event ?hg (N := 1) ?hd (cs := #[.int .i64 a0_0, .int .i64 a0_1, .int .i64 a0_2, .slice A0_3 l0_3.length c0_3, .int .i64 a0_4, .slice A0_5 l0_5.length c0_5, .slice A0_6 l0_6.length c0_6, .int .i64 a0_7, .int .i64 a0_8, .int .i64 a0_9]) (t := 25) ?hr ?_; (case hd => rfl); (case hg => rfl); (case hr => first | (go_simp; done) | (go_simp; rfl)); intro gb394 hg w3 hbox hb; have n0_ := Aside0.mk (below_step (by repeat (first | (with_reducible first | exact HB.out | apply below_alloc | apply pw_below_drewN | apply below_drew1) | exact HB.out)) hb); have n1_ := Aside0.mk (hbox); have n2_ := Aside0.mk ((by rw [hg]; exact (below_size (by repeat (first | (with_reducible first | exact HB.out | apply below_alloc | apply pw_below_drewN | apply below_drew1) | exact HB.out))) : w.heap.size ≤ gb394)); have n3_ := Aside0.mk ((by rw [hg]; exact (below_size (by repeat (first | (with_reducible first | exact HB.out | apply below_alloc | apply pw_below_drewN | apply below_drew1) | exact HB.out))) : w.heap.size ≤ gb394)); clear HB; have HB := n0_; have BK394 := n1_; have GW394 := n2_; have GE394 := n3_; clear n0_ n1_ n2_ n3_; clear hb hbox hg))
  repeat (go_quiet (first | ((with_reducible refine gate_dst (N := 1) rfl ?_); refine box_event ?hg (N := 1) ?hd (cs := #[.int .i64 a0_0, .int .i64 a0_1, .int .i64 a0_2, .slice A0_3 l0_3.length c0_3, .int .i64 a0_4, .slice A0_5 l0_5.length c0_5, .slice A0_6 l0_6.length c0_6, .int .i64 a0_7, .int .i64 a0_8, .int .i64 a0_9]) (t := 25) ?hr ?_; (case hd => rfl); (case hg => rfl); (case hr => first | (go_simp; done) | (go_simp; rfl)); intro gb394 hg w3 hbox hb; have n0_ := Aside0.mk (below_step (by repeat (first | (with_reducible first | exact HB.out | apply below_alloc | apply pw_below_drewN | apply below_drew1) | exact HB.out)) hb); have n1_ := Aside0.mk (hbox); have n2_ := Aside0.mk ((by rw [hg]; exact (below_size (by repeat (first | (with_reducible first | exact HB.out | apply below_alloc | apply pw_below_drewN | apply below_drew1) | exact HB.out))) : w.heap.size ≤ gb394)); have n3_ := Aside0.mk ((by rw [hg]; exact (below_size (by repeat (first | (with_reducible first | exact HB.out | apply below_alloc | apply pw_below_drewN | apply below_drew1) | exact HB.out))) : w.heap.size ≤ gb394)); clear HB; have HB := n0_; have BK394 := n1_; have GW394 := n2_; have GE394 := n3_; clear n0_ n1_ n2_ n3_; clear hb hbox hg)); go_upto_region 1 with (first | ((with_reducible refine gate_dst (N := 1) rfl ?_); refine box_event ?hg (N := 1) ?hd (cs := #[.int .i64 a0_0, .int .i64 a0_1, .int .i64 a0_2, .slice A0_3 l0_3.length c0_3, .int .i64 a0_4, .slice A0_5 l0_5.length c0_5, .slice A0_6 l0_6.length c0_6, .int .i64 a0_7, .int .i64 a0_8, .int .i64 a0_9]) (t := 25) ?hr ?_; (case hd => rfl); (case hg => rfl); (case hr => first | (go_simp; done) | (go_simp; rfl)); intro gb394 hg w3 hbox hb; have n0_ := Aside0.mk (below_step (by repeat (first | (with_reducible first | exact HB.out | apply below_alloc | apply pw_below_drewN | apply below_drew1) | exact HB.out)) hb); have n1_ := Aside0.mk (hbox); have n2_ := Aside0.mk ((by rw [hg]; exact (below_size (by repeat (first | (with_reducible first | exact HB.out | apply below_alloc | apply pw_below_drewN | apply below_drew1) | exact HB.out))) : w.heap.size ≤ gb394)); have n3_ := Aside0.mk ((by rw [hg]; exact (below_size (by repeat (first | (with_reducible first | exact HB.out | apply below_alloc | apply pw_below_drewN | apply below_drew1) | exact HB.out))) : w.heap.size ≤ gb394)); clear HB; have HB := n0_; have BK394 := n1_; have GW394 := n2_; have GE394 := n3_; clear n0_ n1_ n2_ n3_; clear hb hbox hg)))
  (try simp only [Act.put, List.setIfInBounds_toArray, List.set_cons_zero, List.set_cons_succ])
  go_cut [14] (fun v14 wc => ∃ (kq : Nat) (x14_1 : Bool), v14 = .bool x14_1 ∧ Aside0 (sacristanlaw17_SpreadEnds.j0 kq x14_1 a0_0 a0_1 a0_2 l0_3 a0_4 l0_5 l0_6 a0_7 a0_8 a0_9 = some r) ∧ Aside0 (kq ≤ k) ∧ Aside0 (wc.heap[gb394]? = some (.cells #[.int .i64 a0_0, .int .i64 a0_1, .int .i64 a0_2, (.slice A0_3 l0_3.length c0_3), .int .i64 a0_4, (.slice A0_5 l0_5.length c0_5), (.slice A0_6 l0_6.length c0_6), .int .i64 a0_7, .int .i64 a0_8, .int .i64 a0_9] 25 (0, 0))) ∧ Aside0 (Below w.heap.size w wc))
  case first =>
    have H := HC2.out
    clear HC2
    replace H := Option.bind_eq_some_iff.mp H
    obtain ⟨t395, A40, H⟩ := H
    (try dsimp only at H)
    have A4 := Aside0.mk A40
    clear A40
    by_cases c5 : t395 = true
    · subst c5
      have H1 : (sacristanlaw17_SpreadEnds.j0 k true a0_0 a0_1 a0_2 l0_3 a0_4 l0_5 l0_6 a0_7 a0_8 a0_9) = some r := by rw [if_pos rfl] at H; exact H
      clear H
      have H := H1
      clear H1
      have H' := Aside0.mk H
      clear H
      have hcz6_0 : w3.cell? ⟨gb394, 0, none⟩ = some (.int .i64 a0_0) := (blk_cell BK394.out 0).trans rfl
      have hcz6_1 : w3.cell? ⟨gb394, 1, none⟩ = some (.int .i64 a0_1) := (blk_cell BK394.out 1).trans rfl
      have hcz6_2 : w3.cell? ⟨gb394, 2, none⟩ = some (.int .i64 a0_2) := (blk_cell BK394.out 2).trans rfl
      have hcz6_3 : w3.cell? ⟨gb394, 3, none⟩ = some (.slice A0_3 l0_3.length c0_3) := (blk_cell BK394.out 3).trans rfl
      have hcz6_4 : w3.cell? ⟨gb394, 4, none⟩ = some (.int .i64 a0_4) := (blk_cell BK394.out 4).trans rfl
      have hcz6_5 : w3.cell? ⟨gb394, 5, none⟩ = some (.slice A0_5 l0_5.length c0_5) := (blk_cell BK394.out 5).trans rfl
      have hcz6_6 : w3.cell? ⟨gb394, 6, none⟩ = some (.slice A0_6 l0_6.length c0_6) := (blk_cell BK394.out 6).trans rfl
      have hcz6_7 : w3.cell? ⟨gb394, 7, none⟩ = some (.int .i64 a0_7) := (blk_cell BK394.out 7).trans rfl
      have hcz6_8 : w3.cell? ⟨gb394, 8, none⟩ = some (.int .i64 a0_8) := (blk_cell BK394.out 8).trans rfl
      have hcz6_9 : w3.cell? ⟨gb394, 9, none⟩ = some (.int .i64 a0_9) := (blk_cell BK394.out 9).trans rfl
      have hfz6_0 := blk_frozen BK394.out 0
      have hfz6_1 := blk_frozen BK394.out 1
      have hfz6_2 := blk_frozen BK394.out 2
      have hfz6_3 := blk_frozen BK394.out 3
      have hfz6_4 := blk_frozen BK394.out 4
      have hfz6_5 := blk_frozen BK394.out 5
      have hfz6_6 := blk_frozen BK394.out 6
      have hfz6_7 := blk_frozen BK394.out 7
      have hfz6_8 := blk_frozen BK394.out 8
      have hfz6_9 := blk_frozen BK394.out 9
      go_wp2_with (first | (go_at_call 14; (refine (sacristanref15_Great.calls k a0_0 a0_1 a0_2 _ _ l0_3 a0_4 _ _ l0_5 _ _ l0_6 a0_7 a0_8 a0_9 _ _ ([] : List (S37)) _ _ ([] : List (S37)) _ _ ([] : List (S37)) _ _ ([] : List (S54)) true _ ?side1 ?side2 ?side3 ?side4 ?side5 ?side6 ?side7 ?side8 ?side9 ?side10 ?side11 ?side12 ?side13 ?side14 A4.out).mono ?_); (case side1 => repeat (first | exact (Kd.C_below HR0_3.out HB.out) | (with_reducible refine Kd.C_alloc ?_ _) | (with_reducible refine Kd.C_drewN ?_ _) | (with_reducible refine Kd.C_drew ?_))); (case side2 => exact HC0_3.out); (case side3 => repeat (first | exact (Kd.C_below HR0_5.out HB.out) | (with_reducible refine Kd.C_alloc ?_ _) | (with_reducible refine Kd.C_drewN ?_ _) | (with_reducible refine Kd.C_drew ?_))); (case side4 => exact HC0_5.out); (case side5 => repeat (first | exact (Kd.C_below HR0_6.out HB.out) | (with_reducible refine Kd.C_alloc ?_ _) | (with_reducible refine Kd.C_drewN ?_ _) | (with_reducible refine Kd.C_drew ?_))); (case side6 => exact HC0_6.out); (case side7 => exact Kd.C_nil _ _); (case side8 => exact Nat.le_refl _); (case side9 => exact Kd.C_nil _ _); (case side10 => exact Nat.le_refl _); (case side11 => exact Kd.C_nil _ _); (case side12 => exact Nat.le_refl _); (case side13 => exact Kd.C_nil _ _); (case side14 => exact Nat.le_refl _); rintro e w7 ⟨rfl, hb⟩; have n0_ := Aside0.mk (blk_below (g := gb394) (o := .cells #[.int .i64 a0_0, .int .i64 a0_1, .int .i64 a0_2, .slice A0_3 l0_3.length c0_3, .int .i64 a0_4, .slice A0_5 l0_5.length c0_5, .slice A0_6 l0_6.length c0_6, .int .i64 a0_7, .int .i64 a0_8, .int .i64 a0_9] 25 (0, 0)) (by (with_reducible repeat (first | refine blk_drewN ?_ _ | refine blk_drew ?_ | refine blk_alloc ?_ _)); exact BK394.out) hb); have n1_ := Aside0.mk (below_step (by repeat (first | (with_reducible first | exact HB.out | apply below_alloc | apply pw_below_drewN | apply below_drew1 | refine below_set ?_ GE394.out) | exact HB.out)) hb); clear BK394; clear HB; have BK394 := n0_; have HB := n1_; clear n0_ n1_; (try clear hb); (try clear hb2); (try clear hk); (try clear hi)))
      repeat (go_quiet (first | (go_at_call 14; (refine (sacristanref15_Great.calls k a0_0 a0_1 a0_2 _ _ l0_3 a0_4 _ _ l0_5 _ _ l0_6 a0_7 a0_8 a0_9 _ _ ([] : List (S37)) _ _ ([] : List (S37)) _ _ ([] : List (S37)) _ _ ([] : List (S54)) true _ ?side1 ?side2 ?side3 ?side4 ?side5 ?side6 ?side7 ?side8 ?side9 ?side10 ?side11 ?side12 ?side13 ?side14 A4.out).mono ?_); (case side1 => repeat (first | exact (Kd.C_below HR0_3.out HB.out) | (with_reducible refine Kd.C_alloc ?_ _) | (with_reducible refine Kd.C_drewN ?_ _) | (with_reducible refine Kd.C_drew ?_))); (case side2 => exact HC0_3.out); (case side3 => repeat (first | exact (Kd.C_below HR0_5.out HB.out) | (with_reducible refine Kd.C_alloc ?_ _) | (with_reducible refine Kd.C_drewN ?_ _) | (with_reducible refine Kd.C_drew ?_))); (case side4 => exact HC0_5.out); (case side5 => repeat (first | exact (Kd.C_below HR0_6.out HB.out) | (with_reducible refine Kd.C_alloc ?_ _) | (with_reducible refine Kd.C_drewN ?_ _) | (with_reducible refine Kd.C_drew ?_))); (case side6 => exact HC0_6.out); (case side7 => exact Kd.C_nil _ _); (case side8 => exact Nat.le_refl _); (case side9 => exact Kd.C_nil _ _); (case side10 => exact Nat.le_refl _); (case side11 => exact Kd.C_nil _ _); (case side12 => exact Nat.le_refl _); (case side13 => exact Kd.C_nil _ _); (case side14 => exact Nat.le_refl _); rintro e w7 ⟨rfl, hb⟩; have n0_ := Aside0.mk (blk_below (g := gb394) (o := .cells #[.int .i64 a0_0, .int .i64 a0_1, .int .i64 a0_2, .slice A0_3 l0_3.length c0_3, .int .i64 a0_4, .slice A0_5 l0_5.length c0_5, .slice A0_6 l0_6.length c0_6, .int .i64 a0_7, .int .i64 a0_8, .int .i64 a0_9] 25 (0, 0)) (by (with_reducible repeat (first | refine blk_drewN ?_ _ | refine blk_drew ?_ | refine blk_alloc ?_ _)); exact BK394.out) hb); have n1_ := Aside0.mk (below_step (by repeat (first | (with_reducible first | exact HB.out | apply below_alloc | apply pw_below_drewN | apply below_drew1 | refine below_set ?_ GE394.out) | exact HB.out)) hb); clear BK394; clear HB; have BK394 := n0_; have HB := n1_; clear n0_ n1_; (try clear hb); (try clear hb2); (try clear hk); (try clear hi))); try go_wp2_with (first | (go_at_call 14; (refine (sacristanref15_Great.calls k a0_0 a0_1 a0_2 _ _ l0_3 a0_4 _ _ l0_5 _ _ l0_6 a0_7 a0_8 a0_9 _ _ ([] : List (S37)) _ _ ([] : List (S37)) _ _ ([] : List (S37)) _ _ ([] : List (S54)) true _ ?side1 ?side2 ?side3 ?side4 ?side5 ?side6 ?side7 ?side8 ?side9 ?side10 ?side11 ?side12 ?side13 ?side14 A4.out).mono ?_); (case side1 => repeat (first | exact (Kd.C_below HR0_3.out HB.out) | (with_reducible refine Kd.C_alloc ?_ _) | (with_reducible refine Kd.C_drewN ?_ _) | (with_reducible refine Kd.C_drew ?_))); (case side2 => exact HC0_3.out); (case side3 => repeat (first | exact (Kd.C_below HR0_5.out HB.out) | (with_reducible refine Kd.C_alloc ?_ _) | (with_reducible refine Kd.C_drewN ?_ _) | (with_reducible refine Kd.C_drew ?_))); (case side4 => exact HC0_5.out); (case side5 => repeat (first | exact (Kd.C_below HR0_6.out HB.out) | (with_reducible refine Kd.C_alloc ?_ _) | (with_reducible refine Kd.C_drewN ?_ _) | (with_reducible refine Kd.C_drew ?_))); (case side6 => exact HC0_6.out); (case side7 => exact Kd.C_nil _ _); (case side8 => exact Nat.le_refl _); (case side9 => exact Kd.C_nil _ _); (case side10 => exact Nat.le_refl _); (case side11 => exact Kd.C_nil _ _); (case side12 => exact Nat.le_refl _); (case side13 => exact Kd.C_nil _ _); (case side14 => exact Nat.le_refl _); rintro e w7 ⟨rfl, hb⟩; have n0_ := Aside0.mk (blk_below (g := gb394) (o := .cells #[.int .i64 a0_0, .int .i64 a0_1, .int .i64 a0_2, .slice A0_3 l0_3.length c0_3, .int .i64 a0_4, .slice A0_5 l0_5.length c0_5, .slice A0_6 l0_6.length c0_6, .int .i64 a0_7, .int .i64 a0_8, .int .i64 a0_9] 25 (0, 0)) (by (with_reducible repeat (first | refine blk_drewN ?_ _ | refine blk_drew ?_ | refine blk_alloc ?_ _)); exact BK394.out) hb); have n1_ := Aside0.mk (below_step (by repeat (first | (with_reducible first | exact HB.out | apply below_alloc | apply pw_below_drewN | apply below_drew1 | refine below_set ?_ GE394.out) | exact HB.out)) hb); clear BK394; clear HB; have BK394 := n0_; have HB := n1_; clear n0_ n1_; (try clear hb); (try clear hb2); (try clear hk); (try clear hi))))
      go_meet
      case rel => exact ⟨_, (true), (by first | rfl | (simp; done) | (simp [*]; done)), H', ⟨by first | omega | exact Nat.le_refl _⟩, ⟨by (with_reducible repeat (first | refine blk_drewN ?_ _ | refine blk_drew ?_ | refine blk_alloc ?_ _)); exact BK394.out⟩, ⟨by repeat (first | (with_reducible first | exact HB.out | apply below_alloc | apply pw_below_drewN | apply below_drew1 | refine below_set ?_ GE394.out) | exact HB.out)⟩⟩
    · replace c5 := Bool.eq_false_iff.mpr c5
      subst c5
      have H1 : ((sacristanref15_May.f k a0_0 a0_1 a0_2 l0_3 a0_4 l0_5 l0_6 a0_7 a0_8 a0_9).bind fun t396 => (sacristanlaw17_SpreadEnds.j0 k (!t396) a0_0 a0_1 a0_2 l0_3 a0_4 l0_5 l0_6 a0_7 a0_8 a0_9)) = some r := by rw [if_neg (show ¬ (false = true) by decide)] at H; exact H
      clear H
      have H := H1
      clear H1
      replace H := Option.bind_eq_some_iff.mp H
      obtain ⟨t396, A80, H⟩ := H
      replace H : (sacristanlaw17_SpreadEnds.j0 k (!t396) a0_0 a0_1 a0_2 l0_3 a0_4 l0_5 l0_6 a0_7 a0_8 a0_9) = some r := H
      have A8 := Aside0.mk A80
      clear A80
      have H' := Aside0.mk H
      clear H
      have hcz9_0 : w3.cell? ⟨gb394, 0, none⟩ = some (.int .i64 a0_0) := (blk_cell BK394.out 0).trans rfl
      have hcz9_1 : w3.cell? ⟨gb394, 1, none⟩ = some (.int .i64 a0_1) := (blk_cell BK394.out 1).trans rfl
      have hcz9_2 : w3.cell? ⟨gb394, 2, none⟩ = some (.int .i64 a0_2) := (blk_cell BK394.out 2).trans rfl
      have hcz9_3 : w3.cell? ⟨gb394, 3, none⟩ = some (.slice A0_3 l0_3.length c0_3) := (blk_cell BK394.out 3).trans rfl
      have hcz9_4 : w3.cell? ⟨gb394, 4, none⟩ = some (.int .i64 a0_4) := (blk_cell BK394.out 4).trans rfl
      have hcz9_5 : w3.cell? ⟨gb394, 5, none⟩ = some (.slice A0_5 l0_5.length c0_5) := (blk_cell BK394.out 5).trans rfl
      have hcz9_6 : w3.cell? ⟨gb394, 6, none⟩ = some (.slice A0_6 l0_6.length c0_6) := (blk_cell BK394.out 6).trans rfl
      have hcz9_7 : w3.cell? ⟨gb394, 7, none⟩ = some (.int .i64 a0_7) := (blk_cell BK394.out 7).trans rfl
      have hcz9_8 : w3.cell? ⟨gb394, 8, none⟩ = some (.int .i64 a0_8) := (blk_cell BK394.out 8).trans rfl
      have hcz9_9 : w3.cell? ⟨gb394, 9, none⟩ = some (.int .i64 a0_9) := (blk_cell BK394.out 9).trans rfl
      have hfz9_0 := blk_frozen BK394.out 0
      have hfz9_1 := blk_frozen BK394.out 1
      have hfz9_2 := blk_frozen BK394.out 2
      have hfz9_3 := blk_frozen BK394.out 3
      have hfz9_4 := blk_frozen BK394.out 4
      have hfz9_5 := blk_frozen BK394.out 5
      have hfz9_6 := blk_frozen BK394.out 6
      have hfz9_7 := blk_frozen BK394.out 7
      have hfz9_8 := blk_frozen BK394.out 8
      have hfz9_9 := blk_frozen BK394.out 9
      go_wp2_with (first | (go_at_call 14; (refine (sacristanref15_Great.calls k a0_0 a0_1 a0_2 _ _ l0_3 a0_4 _ _ l0_5 _ _ l0_6 a0_7 a0_8 a0_9 _ _ ([] : List (S37)) _ _ ([] : List (S37)) _ _ ([] : List (S37)) _ _ ([] : List (S54)) false _ ?side1 ?side2 ?side3 ?side4 ?side5 ?side6 ?side7 ?side8 ?side9 ?side10 ?side11 ?side12 ?side13 ?side14 A4.out).mono ?_); (case side1 => repeat (first | exact (Kd.C_below HR0_3.out HB.out) | (with_reducible refine Kd.C_alloc ?_ _) | (with_reducible refine Kd.C_drewN ?_ _) | (with_reducible refine Kd.C_drew ?_))); (case side2 => exact HC0_3.out); (case side3 => repeat (first | exact (Kd.C_below HR0_5.out HB.out) | (with_reducible refine Kd.C_alloc ?_ _) | (with_reducible refine Kd.C_drewN ?_ _) | (with_reducible refine Kd.C_drew ?_))); (case side4 => exact HC0_5.out); (case side5 => repeat (first | exact (Kd.C_below HR0_6.out HB.out) | (with_reducible refine Kd.C_alloc ?_ _) | (with_reducible refine Kd.C_drewN ?_ _) | (with_reducible refine Kd.C_drew ?_))); (case side6 => exact HC0_6.out); (case side7 => exact Kd.C_nil _ _); (case side8 => exact Nat.le_refl _); (case side9 => exact Kd.C_nil _ _); (case side10 => exact Nat.le_refl _); (case side11 => exact Kd.C_nil _ _); (case side12 => exact Nat.le_refl _); (case side13 => exact Kd.C_nil _ _); (case side14 => exact Nat.le_refl _); rintro e w10 ⟨rfl, hb⟩; have n0_ := Aside0.mk (blk_below (g := gb394) (o := .cells #[.int .i64 a0_0, .int .i64 a0_1, .int .i64 a0_2, .slice A0_3 l0_3.length c0_3, .int .i64 a0_4, .slice A0_5 l0_5.length c0_5, .slice A0_6 l0_6.length c0_6, .int .i64 a0_7, .int .i64 a0_8, .int .i64 a0_9] 25 (0, 0)) (by (with_reducible repeat (first | refine blk_drewN ?_ _ | refine blk_drew ?_ | refine blk_alloc ?_ _)); exact BK394.out) hb); have n1_ := Aside0.mk (below_step (by repeat (first | (with_reducible first | exact HB.out | apply below_alloc | apply pw_below_drewN | apply below_drew1 | refine below_set ?_ GE394.out) | exact HB.out)) hb); clear BK394; clear HB; have BK394 := n0_; have HB := n1_; clear n0_ n1_; (try clear hb); (try clear hb2); (try clear hk); (try clear hi); have hcz11_0 : w10.cell? ⟨gb394, 0, none⟩ = some (.int .i64 a0_0) := (blk_cell BK394.out 0).trans rfl; have hcz11_1 : w10.cell? ⟨gb394, 1, none⟩ = some (.int .i64 a0_1) := (blk_cell BK394.out 1).trans rfl; have hcz11_2 : w10.cell? ⟨gb394, 2, none⟩ = some (.int .i64 a0_2) := (blk_cell BK394.out 2).trans rfl; have hcz11_3 : w10.cell? ⟨gb394, 3, none⟩ = some (.slice A0_3 l0_3.length c0_3) := (blk_cell BK394.out 3).trans rfl; have hcz11_4 : w10.cell? ⟨gb394, 4, none⟩ = some (.int .i64 a0_4) := (blk_cell BK394.out 4).trans rfl; have hcz11_5 : w10.cell? ⟨gb394, 5, none⟩ = some (.slice A0_5 l0_5.length c0_5) := (blk_cell BK394.out 5).trans rfl; have hcz11_6 : w10.cell? ⟨gb394, 6, none⟩ = some (.slice A0_6 l0_6.length c0_6) := (blk_cell BK394.out 6).trans rfl; have hcz11_7 : w10.cell? ⟨gb394, 7, none⟩ = some (.int .i64 a0_7) := (blk_cell BK394.out 7).trans rfl; have hcz11_8 : w10.cell? ⟨gb394, 8, none⟩ = some (.int .i64 a0_8) := (blk_cell BK394.out 8).trans rfl; have hcz11_9 : w10.cell? ⟨gb394, 9, none⟩ = some (.int .i64 a0_9) := (blk_cell BK394.out 9).trans rfl; have hfz11_0 := blk_frozen BK394.out 0; have hfz11_1 := blk_frozen BK394.out 1; have hfz11_2 := blk_frozen BK394.out 2; have hfz11_3 := blk_frozen BK394.out 3; have hfz11_4 := blk_frozen BK394.out 4; have hfz11_5 := blk_frozen BK394.out 5; have hfz11_6 := blk_frozen BK394.out 6; have hfz11_7 := blk_frozen BK394.out 7; have hfz11_8 := blk_frozen BK394.out 8; have hfz11_9 := blk_frozen BK394.out 9) | (go_at_call 19; (with_reducible refine (sacristanref15_May.calls k a0_0 a0_1 a0_2 _ _ l0_3 a0_4 _ _ l0_5 _ _ l0_6 a0_7 a0_8 a0_9 t396 _ ?side1 ?side2 ?side3 ?side4 ?side5 ?side6 A8.out).mono ?_); (case side1 => repeat (first | exact (Kd.C_below HR0_3.out HB.out) | (with_reducible refine Kd.C_alloc ?_ _) | (with_reducible refine Kd.C_drewN ?_ _) | (with_reducible refine Kd.C_drew ?_))); (case side2 => exact HC0_3.out); (case side3 => repeat (first | exact (Kd.C_below HR0_5.out HB.out) | (with_reducible refine Kd.C_alloc ?_ _) | (with_reducible refine Kd.C_drewN ?_ _) | (with_reducible refine Kd.C_drew ?_))); (case side4 => exact HC0_5.out); (case side5 => repeat (first | exact (Kd.C_below HR0_6.out HB.out) | (with_reducible refine Kd.C_alloc ?_ _) | (with_reducible refine Kd.C_drewN ?_ _) | (with_reducible refine Kd.C_drew ?_))); (case side6 => exact HC0_6.out); rintro e w12 ⟨rfl, hb⟩; have n0_ := Aside0.mk (blk_below (g := gb394) (o := .cells #[.int .i64 a0_0, .int .i64 a0_1, .int .i64 a0_2, .slice A0_3 l0_3.length c0_3, .int .i64 a0_4, .slice A0_5 l0_5.length c0_5, .slice A0_6 l0_6.length c0_6, .int .i64 a0_7, .int .i64 a0_8, .int .i64 a0_9] 25 (0, 0)) (by (with_reducible repeat (first | refine blk_drewN ?_ _ | refine blk_drew ?_ | refine blk_alloc ?_ _)); exact BK394.out) hb); have n1_ := Aside0.mk (below_step (by repeat (first | (with_reducible first | exact HB.out | apply below_alloc | apply pw_below_drewN | apply below_drew1 | refine below_set ?_ GE394.out) | exact HB.out)) hb); clear BK394; clear HB; have BK394 := n0_; have HB := n1_; clear n0_ n1_; (try clear hb); (try clear hb2); (try clear hk); (try clear hi)))
      repeat (go_quiet (first | (go_at_call 14; (refine (sacristanref15_Great.calls k a0_0 a0_1 a0_2 _ _ l0_3 a0_4 _ _ l0_5 _ _ l0_6 a0_7 a0_8 a0_9 _ _ ([] : List (S37)) _ _ ([] : List (S37)) _ _ ([] : List (S37)) _ _ ([] : List (S54)) false _ ?side1 ?side2 ?side3 ?side4 ?side5 ?side6 ?side7 ?side8 ?side9 ?side10 ?side11 ?side12 ?side13 ?side14 A4.out).mono ?_); (case side1 => repeat (first | exact (Kd.C_below HR0_3.out HB.out) | (with_reducible refine Kd.C_alloc ?_ _) | (with_reducible refine Kd.C_drewN ?_ _) | (with_reducible refine Kd.C_drew ?_))); (case side2 => exact HC0_3.out); (case side3 => repeat (first | exact (Kd.C_below HR0_5.out HB.out) | (with_reducible refine Kd.C_alloc ?_ _) | (with_reducible refine Kd.C_drewN ?_ _) | (with_reducible refine Kd.C_drew ?_))); (case side4 => exact HC0_5.out); (case side5 => repeat (first | exact (Kd.C_below HR0_6.out HB.out) | (with_reducible refine Kd.C_alloc ?_ _) | (with_reducible refine Kd.C_drewN ?_ _) | (with_reducible refine Kd.C_drew ?_))); (case side6 => exact HC0_6.out); (case side7 => exact Kd.C_nil _ _); (case side8 => exact Nat.le_refl _); (case side9 => exact Kd.C_nil _ _); (case side10 => exact Nat.le_refl _); (case side11 => exact Kd.C_nil _ _); (case side12 => exact Nat.le_refl _); (case side13 => exact Kd.C_nil _ _); (case side14 => exact Nat.le_refl _); rintro e w10 ⟨rfl, hb⟩; have n0_ := Aside0.mk (blk_below (g := gb394) (o := .cells #[.int .i64 a0_0, .int .i64 a0_1, .int .i64 a0_2, .slice A0_3 l0_3.length c0_3, .int .i64 a0_4, .slice A0_5 l0_5.length c0_5, .slice A0_6 l0_6.length c0_6, .int .i64 a0_7, .int .i64 a0_8, .int .i64 a0_9] 25 (0, 0)) (by (with_reducible repeat (first | refine blk_drewN ?_ _ | refine blk_drew ?_ | refine blk_alloc ?_ _)); exact BK394.out) hb); have n1_ := Aside0.mk (below_step (by repeat (first | (with_reducible first | exact HB.out | apply below_alloc | apply pw_below_drewN | apply below_drew1 | refine below_set ?_ GE394.out) | exact HB.out)) hb); clear BK394; clear HB; have BK394 := n0_; have HB := n1_; clear n0_ n1_; (try clear hb); (try clear hb2); (try clear hk); (try clear hi); have hcz11_0 : w10.cell? ⟨gb394, 0, none⟩ = some (.int .i64 a0_0) := (blk_cell BK394.out 0).trans rfl; have hcz11_1 : w10.cell? ⟨gb394, 1, none⟩ = some (.int .i64 a0_1) := (blk_cell BK394.out 1).trans rfl; have hcz11_2 : w10.cell? ⟨gb394, 2, none⟩ = some (.int .i64 a0_2) := (blk_cell BK394.out 2).trans rfl; have hcz11_3 : w10.cell? ⟨gb394, 3, none⟩ = some (.slice A0_3 l0_3.length c0_3) := (blk_cell BK394.out 3).trans rfl; have hcz11_4 : w10.cell? ⟨gb394, 4, none⟩ = some (.int .i64 a0_4) := (blk_cell BK394.out 4).trans rfl; have hcz11_5 : w10.cell? ⟨gb394, 5, none⟩ = some (.slice A0_5 l0_5.length c0_5) := (blk_cell BK394.out 5).trans rfl; have hcz11_6 : w10.cell? ⟨gb394, 6, none⟩ = some (.slice A0_6 l0_6.length c0_6) := (blk_cell BK394.out 6).trans rfl; have hcz11_7 : w10.cell? ⟨gb394, 7, none⟩ = some (.int .i64 a0_7) := (blk_cell BK394.out 7).trans rfl; have hcz11_8 : w10.cell? ⟨gb394, 8, none⟩ = some (.int .i64 a0_8) := (blk_cell BK394.out 8).trans rfl; have hcz11_9 : w10.cell? ⟨gb394, 9, none⟩ = some (.int .i64 a0_9) := (blk_cell BK394.out 9).trans rfl; have hfz11_0 := blk_frozen BK394.out 0; have hfz11_1 := blk_frozen BK394.out 1; have hfz11_2 := blk_frozen BK394.out 2; have hfz11_3 := blk_frozen BK394.out 3; have hfz11_4 := blk_frozen BK394.out 4; have hfz11_5 := blk_frozen BK394.out 5; have hfz11_6 := blk_frozen BK394.out 6; have hfz11_7 := blk_frozen BK394.out 7; have hfz11_8 := blk_frozen BK394.out 8; have hfz11_9 := blk_frozen BK394.out 9) | (go_at_call 19; (with_reducible refine (sacristanref15_May.calls k a0_0 a0_1 a0_2 _ _ l0_3 a0_4 _ _ l0_5 _ _ l0_6 a0_7 a0_8 a0_9 t396 _ ?side1 ?side2 ?side3 ?side4 ?side5 ?side6 A8.out).mono ?_); (case side1 => repeat (first | exact (Kd.C_below HR0_3.out HB.out) | (with_reducible refine Kd.C_alloc ?_ _) | (with_reducible refine Kd.C_drewN ?_ _) | (with_reducible refine Kd.C_drew ?_))); (case side2 => exact HC0_3.out); (case side3 => repeat (first | exact (Kd.C_below HR0_5.out HB.out) | (with_reducible refine Kd.C_alloc ?_ _) | (with_reducible refine Kd.C_drewN ?_ _) | (with_reducible refine Kd.C_drew ?_))); (case side4 => exact HC0_5.out); (case side5 => repeat (first | exact (Kd.C_below HR0_6.out HB.out) | (with_reducible refine Kd.C_alloc ?_ _) | (with_reducible refine Kd.C_drewN ?_ _) | (with_reducible refine Kd.C_drew ?_))); (case side6 => exact HC0_6.out); rintro e w12 ⟨rfl, hb⟩; have n0_ := Aside0.mk (blk_below (g := gb394) (o := .cells #[.int .i64 a0_0, .int .i64 a0_1, .int .i64 a0_2, .slice A0_3 l0_3.length c0_3, .int .i64 a0_4, .slice A0_5 l0_5.length c0_5, .slice A0_6 l0_6.length c0_6, .int .i64 a0_7, .int .i64 a0_8, .int .i64 a0_9] 25 (0, 0)) (by (with_reducible repeat (first | refine blk_drewN ?_ _ | refine blk_drew ?_ | refine blk_alloc ?_ _)); exact BK394.out) hb); have n1_ := Aside0.mk (below_step (by repeat (first | (with_reducible first | exact HB.out | apply below_alloc | apply pw_below_drewN | apply below_drew1 | refine below_set ?_ GE394.out) | exact HB.out)) hb); clear BK394; clear HB; have BK394 := n0_; have HB := n1_; clear n0_ n1_; (try clear hb); (try clear hb2); (try clear hk); (try clear hi))); try go_wp2_with (first | (go_at_call 14; (refine (sacristanref15_Great.calls k a0_0 a0_1 a0_2 _ _ l0_3 a0_4 _ _ l0_5 _ _ l0_6 a0_7 a0_8 a0_9 _ _ ([] : List (S37)) _ _ ([] : List (S37)) _ _ ([] : List (S37)) _ _ ([] : List (S54)) false _ ?side1 ?side2 ?side3 ?side4 ?side5 ?side6 ?side7 ?side8 ?side9 ?side10 ?side11 ?side12 ?side13 ?side14 A4.out).mono ?_); (case side1 => repeat (first | exact (Kd.C_below HR0_3.out HB.out) | (with_reducible refine Kd.C_alloc ?_ _) | (with_reducible refine Kd.C_drewN ?_ _) | (with_reducible refine Kd.C_drew ?_))); (case side2 => exact HC0_3.out); (case side3 => repeat (first | exact (Kd.C_below HR0_5.out HB.out) | (with_reducible refine Kd.C_alloc ?_ _) | (with_reducible refine Kd.C_drewN ?_ _) | (with_reducible refine Kd.C_drew ?_))); (case side4 => exact HC0_5.out); (case side5 => repeat (first | exact (Kd.C_below HR0_6.out HB.out) | (with_reducible refine Kd.C_alloc ?_ _) | (with_reducible refine Kd.C_drewN ?_ _) | (with_reducible refine Kd.C_drew ?_))); (case side6 => exact HC0_6.out); (case side7 => exact Kd.C_nil _ _); (case side8 => exact Nat.le_refl _); (case side9 => exact Kd.C_nil _ _); (case side10 => exact Nat.le_refl _); (case side11 => exact Kd.C_nil _ _); (case side12 => exact Nat.le_refl _); (case side13 => exact Kd.C_nil _ _); (case side14 => exact Nat.le_refl _); rintro e w10 ⟨rfl, hb⟩; have n0_ := Aside0.mk (blk_below (g := gb394) (o := .cells #[.int .i64 a0_0, .int .i64 a0_1, .int .i64 a0_2, .slice A0_3 l0_3.length c0_3, .int .i64 a0_4, .slice A0_5 l0_5.length c0_5, .slice A0_6 l0_6.length c0_6, .int .i64 a0_7, .int .i64 a0_8, .int .i64 a0_9] 25 (0, 0)) (by (with_reducible repeat (first | refine blk_drewN ?_ _ | refine blk_drew ?_ | refine blk_alloc ?_ _)); exact BK394.out) hb); have n1_ := Aside0.mk (below_step (by repeat (first | (with_reducible first | exact HB.out | apply below_alloc | apply pw_below_drewN | apply below_drew1 | refine below_set ?_ GE394.out) | exact HB.out)) hb); clear BK394; clear HB; have BK394 := n0_; have HB := n1_; clear n0_ n1_; (try clear hb); (try clear hb2); (try clear hk); (try clear hi); have hcz11_0 : w10.cell? ⟨gb394, 0, none⟩ = some (.int .i64 a0_0) := (blk_cell BK394.out 0).trans rfl; have hcz11_1 : w10.cell? ⟨gb394, 1, none⟩ = some (.int .i64 a0_1) := (blk_cell BK394.out 1).trans rfl; have hcz11_2 : w10.cell? ⟨gb394, 2, none⟩ = some (.int .i64 a0_2) := (blk_cell BK394.out 2).trans rfl; have hcz11_3 : w10.cell? ⟨gb394, 3, none⟩ = some (.slice A0_3 l0_3.length c0_3) := (blk_cell BK394.out 3).trans rfl; have hcz11_4 : w10.cell? ⟨gb394, 4, none⟩ = some (.int .i64 a0_4) := (blk_cell BK394.out 4).trans rfl; have hcz11_5 : w10.cell? ⟨gb394, 5, none⟩ = some (.slice A0_5 l0_5.length c0_5) := (blk_cell BK394.out 5).trans rfl; have hcz11_6 : w10.cell? ⟨gb394, 6, none⟩ = some (.slice A0_6 l0_6.length c0_6) := (blk_cell BK394.out 6).trans rfl; have hcz11_7 : w10.cell? ⟨gb394, 7, none⟩ = some (.int .i64 a0_7) := (blk_cell BK394.out 7).trans rfl; have hcz11_8 : w10.cell? ⟨gb394, 8, none⟩ = some (.int .i64 a0_8) := (blk_cell BK394.out 8).trans rfl; have hcz11_9 : w10.cell? ⟨gb394, 9, none⟩ = some (.int .i64 a0_9) := (blk_cell BK394.out 9).trans rfl; have hfz11_0 := blk_frozen BK394.out 0; have hfz11_1 := blk_frozen BK394.out 1; have hfz11_2 := blk_frozen BK394.out 2; have hfz11_3 := blk_frozen BK394.out 3; have hfz11_4 := blk_frozen BK394.out 4; have hfz11_5 := blk_frozen BK394.out 5; have hfz11_6 := blk_frozen BK394.out 6; have hfz11_7 := blk_frozen BK394.out 7; have hfz11_8 := blk_frozen BK394.out 8; have hfz11_9 := blk_frozen BK394.out 9) | (go_at_call 19; (with_reducible refine (sacristanref15_May.calls k a0_0 a0_1 a0_2 _ _ l0_3 a0_4 _ _ l0_5 _ _ l0_6 a0_7 a0_8 a0_9 t396 _ ?side1 ?side2 ?side3 ?side4 ?side5 ?side6 A8.out).mono ?_); (case side1 => repeat (first | exact (Kd.C_below HR0_3.out HB.out) | (with_reducible refine Kd.C_alloc ?_ _) | (with_reducible refine Kd.C_drewN ?_ _) | (with_reducible refine Kd.C_drew ?_))); (case side2 => exact HC0_3.out); (case side3 => repeat (first | exact (Kd.C_below HR0_5.out HB.out) | (with_reducible refine Kd.C_alloc ?_ _) | (with_reducible refine Kd.C_drewN ?_ _) | (with_reducible refine Kd.C_drew ?_))); (case side4 => exact HC0_5.out); (case side5 => repeat (first | exact (Kd.C_below HR0_6.out HB.out) | (with_reducible refine Kd.C_alloc ?_ _) | (with_reducible refine Kd.C_drewN ?_ _) | (with_reducible refine Kd.C_drew ?_))); (case side6 => exact HC0_6.out); rintro e w12 ⟨rfl, hb⟩; have n0_ := Aside0.mk (blk_below (g := gb394) (o := .cells #[.int .i64 a0_0, .int .i64 a0_1, .int .i64 a0_2, .slice A0_3 l0_3.length c0_3, .int .i64 a0_4, .slice A0_5 l0_5.length c0_5, .slice A0_6 l0_6.length c0_6, .int .i64 a0_7, .int .i64 a0_8, .int .i64 a0_9] 25 (0, 0)) (by (with_reducible repeat (first | refine blk_drewN ?_ _ | refine blk_drew ?_ | refine blk_alloc ?_ _)); exact BK394.out) hb); have n1_ := Aside0.mk (below_step (by repeat (first | (with_reducible first | exact HB.out | apply below_alloc | apply pw_below_drewN | apply below_drew1 | refine below_set ?_ GE394.out) | exact HB.out)) hb); clear BK394; clear HB; have BK394 := n0_; have HB := n1_; clear n0_ n1_; (try clear hb); (try clear hb2); (try clear hk); (try clear hi))))
      go_meet
      case rel => exact ⟨_, (!t396), (by first | rfl | (simp; done) | (simp [*]; done)), H', ⟨by first | omega | exact Nat.le_refl _⟩, ⟨by (with_reducible repeat (first | refine blk_drewN ?_ _ | refine blk_drew ?_ | refine blk_alloc ?_ _)); exact BK394.out⟩, ⟨by repeat (first | (with_reducible first | exact HB.out | apply below_alloc | apply pw_below_drewN | apply below_drew1 | refine below_set ?_ GE394.out) | exact HB.out)⟩⟩
  case rest =>
    clear HC2
    try clear p2
    try clear c4
    try clear c5
    try clear hcz11_0
    try clear hcz11_1
    try clear hcz11_2
    try clear hcz11_3
    try clear hcz11_4
    try clear hcz11_5
    try clear hcz11_6
    try clear hcz11_7
    try clear hcz11_8
    try clear hcz11_9
    try clear hcz6_0
    try clear hcz6_1
    try clear hcz6_2
    try clear hcz6_3
    try clear hcz6_4
    try clear hcz6_5
    try clear hcz6_6
    try clear hcz6_7
    try clear hcz6_8
    try clear hcz6_9
    try clear hcz9_0
    try clear hcz9_1
    try clear hcz9_2
    try clear hcz9_3
    try clear hcz9_4
    try clear hcz9_5
    try clear hcz9_6
    try clear hcz9_7
    try clear hcz9_8
    try clear hcz9_9
    try clear hfz11_0
    try clear hfz11_1
    try clear hfz11_2
    try clear hfz11_3
    try clear hfz11_4
    try clear hfz11_5
    try clear hfz11_6
    try clear hfz11_7
    try clear hfz11_8
    try clear hfz11_9
    try clear hfz6_0
    try clear hfz6_1
    try clear hfz6_2
    try clear hfz6_3
    try clear hfz6_4
    try clear hfz6_5
    try clear hfz6_6
    try clear hfz6_7
    try clear hfz6_8
    try clear hfz6_9
    try clear hfz9_0
    try clear hfz9_1
    try clear hfz9_2
    try clear hfz9_3
    try clear hfz9_4
    try clear hfz9_5
    try clear hfz9_6
    try clear hfz9_7
    try clear hfz9_8
    try clear hfz9_9
    obtain ⟨kq, x14_1, rfl, HA, HJ1, BK394, HB⟩ := hcut
    cases kq with
    | zero => exact absurd HA.out (by simp [sacristanlaw17_SpreadEnds.j0])
    | succ kj1 =>
      have H := HA.out
      clear HA
      simp only [sacristanlaw17_SpreadEnds.j0] at H
      by_cases c13 : x14_1 = true
      · subst c13
        have H1 : ((sacristanlaw17_awake.f).bind fun t397 => (some t397)) = some r := by rw [if_pos rfl] at H; exact H
        clear H
        have H := H1
        clear H1
        replace H := Option.bind_eq_some_iff.mp H
        obtain ⟨t397, A140, H⟩ := H
        replace H : (some t397) = some r := H
        have A14 := Aside0.mk A140
        clear A140
        obtain rfl := Option.some.inj H
        go_wp2_with (first | (go_at_call 16; (with_reducible refine (sacristanlaw17_awake.calls  t397 _ ?side1 A14.out).mono ?_); (case side1 => exact NW.MaxOk.below HMX.out (by repeat (first | (with_reducible first | exact HB.out | apply below_alloc | apply pw_below_drewN | apply below_drew1 | refine below_set ?_ GE394.out) | exact HB.out))); rintro e w15 ⟨rfl, hb⟩; have n0_ := Aside0.mk (blk_below (g := gb394) (o := .cells #[.int .i64 a0_0, .int .i64 a0_1, .int .i64 a0_2, .slice A0_3 l0_3.length c0_3, .int .i64 a0_4, .slice A0_5 l0_5.length c0_5, .slice A0_6 l0_6.length c0_6, .int .i64 a0_7, .int .i64 a0_8, .int .i64 a0_9] 25 (0, 0)) (by (with_reducible repeat (first | refine blk_drewN ?_ _ | refine blk_drew ?_ | refine blk_alloc ?_ _)); exact BK394.out) hb); have n1_ := Aside0.mk (below_step (by repeat (first | (with_reducible first | exact HB.out | apply below_alloc | apply pw_below_drewN | apply below_drew1 | refine below_set ?_ GE394.out) | exact HB.out)) hb); clear BK394; clear HB; have BK394 := n0_; have HB := n1_; clear n0_ n1_; (try clear hb); (try clear hb2); (try clear hk); (try clear hi)))
        repeat (go_quiet (first | (go_at_call 16; (with_reducible refine (sacristanlaw17_awake.calls  t397 _ ?side1 A14.out).mono ?_); (case side1 => exact NW.MaxOk.below HMX.out (by repeat (first | (with_reducible first | exact HB.out | apply below_alloc | apply pw_below_drewN | apply below_drew1 | refine below_set ?_ GE394.out) | exact HB.out))); rintro e w15 ⟨rfl, hb⟩; have n0_ := Aside0.mk (blk_below (g := gb394) (o := .cells #[.int .i64 a0_0, .int .i64 a0_1, .int .i64 a0_2, .slice A0_3 l0_3.length c0_3, .int .i64 a0_4, .slice A0_5 l0_5.length c0_5, .slice A0_6 l0_6.length c0_6, .int .i64 a0_7, .int .i64 a0_8, .int .i64 a0_9] 25 (0, 0)) (by (with_reducible repeat (first | refine blk_drewN ?_ _ | refine blk_drew ?_ | refine blk_alloc ?_ _)); exact BK394.out) hb); have n1_ := Aside0.mk (below_step (by repeat (first | (with_reducible first | exact HB.out | apply below_alloc | apply pw_below_drewN | apply below_drew1 | refine below_set ?_ GE394.out) | exact HB.out)) hb); clear BK394; clear HB; have BK394 := n0_; have HB := n1_; clear n0_ n1_; (try clear hb); (try clear hb2); (try clear hk); (try clear hi))); try go_wp2_with (first | (go_at_call 16; (with_reducible refine (sacristanlaw17_awake.calls  t397 _ ?side1 A14.out).mono ?_); (case side1 => exact NW.MaxOk.below HMX.out (by repeat (first | (with_reducible first | exact HB.out | apply below_alloc | apply pw_below_drewN | apply below_drew1 | refine below_set ?_ GE394.out) | exact HB.out))); rintro e w15 ⟨rfl, hb⟩; have n0_ := Aside0.mk (blk_below (g := gb394) (o := .cells #[.int .i64 a0_0, .int .i64 a0_1, .int .i64 a0_2, .slice A0_3 l0_3.length c0_3, .int .i64 a0_4, .slice A0_5 l0_5.length c0_5, .slice A0_6 l0_6.length c0_6, .int .i64 a0_7, .int .i64 a0_8, .int .i64 a0_9] 25 (0, 0)) (by (with_reducible repeat (first | refine blk_drewN ?_ _ | refine blk_drew ?_ | refine blk_alloc ?_ _)); exact BK394.out) hb); have n1_ := Aside0.mk (below_step (by repeat (first | (with_reducible first | exact HB.out | apply below_alloc | apply pw_below_drewN | apply below_drew1 | refine below_set ?_ GE394.out) | exact HB.out)) hb); clear BK394; clear HB; have BK394 := n0_; have HB := n1_; clear n0_ n1_; (try clear hb); (try clear hb2); (try clear hk); (try clear hi))))
        go_ret
        exact ⟨by first | rfl | (simp [errW_none, errW_some] <;> rfl) | (simp [*, errW_none, errW_some] <;> rfl), by repeat (first | (with_reducible first | exact HB.out | apply below_alloc | apply pw_below_drewN | apply below_drew1 | refine below_set ?_ GE394.out) | exact HB.out)⟩
      · replace c13 := Bool.eq_false_iff.mpr c13
        subst c13
        have H1 : ((spread_Spread.f a0_0 a0_1 a0_2 l0_3 a0_4 l0_5 l0_6 a0_7 a0_8 a0_9).bind fun bt398 => (sacristanlaw17_SpreadEnds.l0 kj1 0 bt398.1 bt398.2.1 bt398.2.2.1 bt398.2.2.2.1 bt398.2.2.2.2.1 bt398.2.2.2.2.2.1 bt398.2.2.2.2.2.2.1 bt398.2.2.2.2.2.2.2.1 bt398.2.2.2.2.2.2.2.2.1 bt398.2.2.2.2.2.2.2.2.2)) = some r := by rw [if_neg (show ¬ (false = true) by decide)] at H; exact H
        clear H
        have H := H1
        clear H1
        replace H := Option.bind_eq_some_iff.mp H
        obtain ⟨⟨t398, t399, t400, t401, t404, t405, t408, t411, t412, t413⟩, A160, H⟩ := H
        replace H : (sacristanlaw17_SpreadEnds.l0 kj1 0 t398 t399 t400 t401 t404 t405 t408 t411 t412 t413) = some r := H
        have A16 := Aside0.mk A160
        clear A160
        have H' := Aside0.mk H
        clear H
        have hcz17_0 : wc.cell? ⟨gb394, 0, none⟩ = some (.int .i64 a0_0) := (blk_cell BK394.out 0).trans rfl
        have hcz17_1 : wc.cell? ⟨gb394, 1, none⟩ = some (.int .i64 a0_1) := (blk_cell BK394.out 1).trans rfl
        have hcz17_2 : wc.cell? ⟨gb394, 2, none⟩ = some (.int .i64 a0_2) := (blk_cell BK394.out 2).trans rfl
        have hcz17_3 : wc.cell? ⟨gb394, 3, none⟩ = some (.slice A0_3 l0_3.length c0_3) := (blk_cell BK394.out 3).trans rfl
        have hcz17_4 : wc.cell? ⟨gb394, 4, none⟩ = some (.int .i64 a0_4) := (blk_cell BK394.out 4).trans rfl
        have hcz17_5 : wc.cell? ⟨gb394, 5, none⟩ = some (.slice A0_5 l0_5.length c0_5) := (blk_cell BK394.out 5).trans rfl
        have hcz17_6 : wc.cell? ⟨gb394, 6, none⟩ = some (.slice A0_6 l0_6.length c0_6) := (blk_cell BK394.out 6).trans rfl
        have hcz17_7 : wc.cell? ⟨gb394, 7, none⟩ = some (.int .i64 a0_7) := (blk_cell BK394.out 7).trans rfl
        have hcz17_8 : wc.cell? ⟨gb394, 8, none⟩ = some (.int .i64 a0_8) := (blk_cell BK394.out 8).trans rfl
        have hcz17_9 : wc.cell? ⟨gb394, 9, none⟩ = some (.int .i64 a0_9) := (blk_cell BK394.out 9).trans rfl
        have hfz17_0 := blk_frozen BK394.out 0
        have hfz17_1 := blk_frozen BK394.out 1
        have hfz17_2 := blk_frozen BK394.out 2
        have hfz17_3 := blk_frozen BK394.out 3
        have hfz17_4 := blk_frozen BK394.out 4
        have hfz17_5 := blk_frozen BK394.out 5
        have hfz17_6 := blk_frozen BK394.out 6
        have hfz17_7 := blk_frozen BK394.out 7
        have hfz17_8 := blk_frozen BK394.out 8
        have hfz17_9 := blk_frozen BK394.out 9
        go_wp2_with (first | (go_at_call 17; (with_reducible refine (spread_Spread.calls a0_0 a0_1 a0_2 _ _ l0_3 a0_4 _ _ l0_5 _ _ l0_6 a0_7 a0_8 a0_9 t398 t399 t400 t401 t404 t405 t408 t411 t412 t413 _ ?side1 ?side2 ?side3 ?side4 ?side5 ?side6 ?side7 A16.out).mono ?_); (case side1 => repeat (first | exact (Kd.C_below HR0_3.out HB.out) | (with_reducible refine Kd.C_alloc ?_ _) | (with_reducible refine Kd.C_drewN ?_ _) | (with_reducible refine Kd.C_drew ?_))); (case side2 => exact HC0_3.out); (case side3 => repeat (first | exact (Kd.C_below HR0_5.out HB.out) | (with_reducible refine Kd.C_alloc ?_ _) | (with_reducible refine Kd.C_drewN ?_ _) | (with_reducible refine Kd.C_drew ?_))); (case side4 => exact HC0_5.out); (case side5 => repeat (first | exact (Kd.C_below HR0_6.out HB.out) | (with_reducible refine Kd.C_alloc ?_ _) | (with_reducible refine Kd.C_drewN ?_ _) | (with_reducible refine Kd.C_drew ?_))); (case side6 => exact HC0_6.out); (case side7 => exact NW.MaxOk.below HMX.out (by repeat (first | (with_reducible first | exact HB.out | apply below_alloc | apply pw_below_drewN | apply below_drew1 | refine below_set ?_ GE394.out) | exact HB.out))); rintro e w18 ⟨v402, v406, v409, rfl, ho0, ho1, ho2, hb⟩; have n0_ := Aside0.mk (Kd.R_lower ho0 (below_size (by repeat (first | (with_reducible first | exact HB.out | apply below_alloc | apply pw_below_drewN | apply below_drew1 | refine below_set ?_ GE394.out) | exact HB.out)))); have n1_ := Aside0.mk (Kd.R_lower ho1 (below_size (by repeat (first | (with_reducible first | exact HB.out | apply below_alloc | apply pw_below_drewN | apply below_drew1 | refine below_set ?_ GE394.out) | exact HB.out)))); have n2_ := Aside0.mk (Kd.R_lower ho2 (below_size (by repeat (first | (with_reducible first | exact HB.out | apply below_alloc | apply pw_below_drewN | apply below_drew1 | refine below_set ?_ GE394.out) | exact HB.out)))); have n3_ := Aside0.mk (blk_below (g := gb394) (o := .cells #[.int .i64 a0_0, .int .i64 a0_1, .int .i64 a0_2, .slice A0_3 l0_3.length c0_3, .int .i64 a0_4, .slice A0_5 l0_5.length c0_5, .slice A0_6 l0_6.length c0_6, .int .i64 a0_7, .int .i64 a0_8, .int .i64 a0_9] 25 (0, 0)) (by (with_reducible repeat (first | refine blk_drewN ?_ _ | refine blk_drew ?_ | refine blk_alloc ?_ _)); exact BK394.out) hb); have n4_ := Aside0.mk (below_step (by repeat (first | (with_reducible first | exact HB.out | apply below_alloc | apply pw_below_drewN | apply below_drew1 | refine below_set ?_ GE394.out) | exact HB.out)) hb); clear BK394; clear HB; have HO403 := n0_; have HO407 := n1_; have HO410 := n2_; have BK394 := n3_; have HB := n4_; clear n0_ n1_ n2_ n3_ n4_; (try clear hb); (try clear hb2); (try clear hk); (try clear hi); (try clear ho0); (try clear ho1); (try clear ho2)) | ((with_reducible refine gate_dst (N := 3) rfl ?_); refine box_event ?hg (N := 3) ?hd (cs := #[.int .i64 0, .int .i64 0, .int .i64 0, .slice none 0 0, .int .i64 0, .slice none 0 0, .slice none 0 0, .int .i64 0, .int .i64 0, .int .i64 0]) (t := 25) ?hr ?_; (case hd => rfl); (case hg => rfl); (case hr => first | (go_simp; done) | (go_simp; rfl)); intro gb414 hg w19 hbox hb; have n0_ := Aside0.mk (Kd.R_below (by (with_reducible repeat (first | apply Kd.R_alloc | apply Kd.R_drewN | apply Kd.R_drew)); exact HO403.out) hb); have n1_ := Aside0.mk (Kd.R_below (by (with_reducible repeat (first | apply Kd.R_alloc | apply Kd.R_drewN | apply Kd.R_drew)); exact HO407.out) hb); have n2_ := Aside0.mk (Kd.R_below (by (with_reducible repeat (first | apply Kd.R_alloc | apply Kd.R_drewN | apply Kd.R_drew)); exact HO410.out) hb); have n3_ := Aside0.mk (blk_below (g := gb394) (o := .cells #[.int .i64 a0_0, .int .i64 a0_1, .int .i64 a0_2, .slice A0_3 l0_3.length c0_3, .int .i64 a0_4, .slice A0_5 l0_5.length c0_5, .slice A0_6 l0_6.length c0_6, .int .i64 a0_7, .int .i64 a0_8, .int .i64 a0_9] 25 (0, 0)) (by (with_reducible repeat (first | refine blk_drewN ?_ _ | refine blk_drew ?_ | refine blk_alloc ?_ _)); exact BK394.out) hb); have n4_ := Aside0.mk (below_step (by repeat (first | (with_reducible first | exact HB.out | apply below_alloc | apply pw_below_drewN | apply below_drew1 | refine below_set ?_ GE394.out) | exact HB.out)) hb); have n5_ := Aside0.mk (hbox); have n6_ := Aside0.mk ((by rw [hg]; exact (below_size (by repeat (first | (with_reducible first | exact HB.out | apply below_alloc | apply pw_below_drewN | apply below_drew1 | refine below_set ?_ GE394.out) | exact HB.out))) : w.heap.size ≤ gb414)); have n7_ := Aside0.mk ((by rw [hg]; exact (below_size (by repeat (first | (with_reducible first | exact HB.out | apply below_alloc | apply pw_below_drewN | apply below_drew1 | refine below_set ?_ GE394.out) | exact HB.out))) : w.heap.size ≤ gb414)); have n8_ := Aside0.mk ((by rw [hg]; exact Nat.ne_of_lt (blk_lt (g := gb394) (o := .cells #[.int .i64 a0_0, .int .i64 a0_1, .int .i64 a0_2, .slice A0_3 l0_3.length c0_3, .int .i64 a0_4, .slice A0_5 l0_5.length c0_5, .slice A0_6 l0_6.length c0_6, .int .i64 a0_7, .int .i64 a0_8, .int .i64 a0_9] 25 (0, 0)) (by (with_reducible repeat (first | refine blk_drewN ?_ _ | refine blk_drew ?_ | refine blk_alloc ?_ _)); exact BK394.out)) : gb394 ≠ gb414)); have n9_ := Aside0.mk ((by rw [hg]; exact Nat.ne_of_gt (blk_lt (g := gb394) (o := .cells #[.int .i64 a0_0, .int .i64 a0_1, .int .i64 a0_2, .slice A0_3 l0_3.length c0_3, .int .i64 a0_4, .slice A0_5 l0_5.length c0_5, .slice A0_6 l0_6.length c0_6, .int .i64 a0_7, .int .i64 a0_8, .int .i64 a0_9] 25 (0, 0)) (by (with_reducible repeat (first | refine blk_drewN ?_ _ | refine blk_drew ?_ | refine blk_alloc ?_ _)); exact BK394.out)) : gb414 ≠ gb394)); clear HO403; clear HO407; clear HO410; clear BK394; clear HB; have HO403 := n0_; have HO407 := n1_; have HO410 := n2_; have BK394 := n3_; have HB := n4_; have BK414 := n5_; have GW414 := n6_; have GE414 := n7_; have NB394_414 := n8_; have NB414_394 := n9_; clear n0_ n1_ n2_ n3_ n4_ n5_ n6_ n7_ n8_ n9_; clear hb hbox hg; have hnb20 := NB414_394.out; have hnc20 := NB394_414.out; have hcz21_0 : w19.cell? ⟨gb414, 0, none⟩ = some (.int .i64 0) := (blk_cell BK414.out 0).trans rfl; have hcz21_1 : w19.cell? ⟨gb414, 1, none⟩ = some (.int .i64 0) := (blk_cell BK414.out 1).trans rfl; have hcz21_2 : w19.cell? ⟨gb414, 2, none⟩ = some (.int .i64 0) := (blk_cell BK414.out 2).trans rfl; have hcz21_3 : w19.cell? ⟨gb414, 3, none⟩ = some (.slice none 0 0) := (blk_cell BK414.out 3).trans rfl; have hcz21_4 : w19.cell? ⟨gb414, 4, none⟩ = some (.int .i64 0) := (blk_cell BK414.out 4).trans rfl; have hcz21_5 : w19.cell? ⟨gb414, 5, none⟩ = some (.slice none 0 0) := (blk_cell BK414.out 5).trans rfl; have hcz21_6 : w19.cell? ⟨gb414, 6, none⟩ = some (.slice none 0 0) := (blk_cell BK414.out 6).trans rfl; have hcz21_7 : w19.cell? ⟨gb414, 7, none⟩ = some (.int .i64 0) := (blk_cell BK414.out 7).trans rfl; have hcz21_8 : w19.cell? ⟨gb414, 8, none⟩ = some (.int .i64 0) := (blk_cell BK414.out 8).trans rfl; have hcz21_9 : w19.cell? ⟨gb414, 9, none⟩ = some (.int .i64 0) := (blk_cell BK414.out 9).trans rfl; have hfz21_0 := blk_frozen BK414.out 0; have hfz21_1 := blk_frozen BK414.out 1; have hfz21_2 := blk_frozen BK414.out 2; have hfz21_3 := blk_frozen BK414.out 3; have hfz21_4 := blk_frozen BK414.out 4; have hfz21_5 := blk_frozen BK414.out 5; have hfz21_6 := blk_frozen BK414.out 6; have hfz21_7 := blk_frozen BK414.out 7; have hfz21_8 := blk_frozen BK414.out 8; have hfz21_9 := blk_frozen BK414.out 9; obtain ⟨Ao22, co22, eo22⟩ := Kd.R_slice HO403.out; subst eo22; obtain ⟨Ao23, co23, eo23⟩ := Kd.R_slice HO407.out; subst eo23; obtain ⟨Ao24, co24, eo24⟩ := Kd.R_slice HO410.out; subst eo24))
        repeat (go_quiet (first | (go_at_call 17; (with_reducible refine (spread_Spread.calls a0_0 a0_1 a0_2 _ _ l0_3 a0_4 _ _ l0_5 _ _ l0_6 a0_7 a0_8 a0_9 t398 t399 t400 t401 t404 t405 t408 t411 t412 t413 _ ?side1 ?side2 ?side3 ?side4 ?side5 ?side6 ?side7 A16.out).mono ?_); (case side1 => repeat (first | exact (Kd.C_below HR0_3.out HB.out) | (with_reducible refine Kd.C_alloc ?_ _) | (with_reducible refine Kd.C_drewN ?_ _) | (with_reducible refine Kd.C_drew ?_))); (case side2 => exact HC0_3.out); (case side3 => repeat (first | exact (Kd.C_below HR0_5.out HB.out) | (with_reducible refine Kd.C_alloc ?_ _) | (with_reducible refine Kd.C_drewN ?_ _) | (with_reducible refine Kd.C_drew ?_))); (case side4 => exact HC0_5.out); (case side5 => repeat (first | exact (Kd.C_below HR0_6.out HB.out) | (with_reducible refine Kd.C_alloc ?_ _) | (with_reducible refine Kd.C_drewN ?_ _) | (with_reducible refine Kd.C_drew ?_))); (case side6 => exact HC0_6.out); (case side7 => exact NW.MaxOk.below HMX.out (by repeat (first | (with_reducible first | exact HB.out | apply below_alloc | apply pw_below_drewN | apply below_drew1 | refine below_set ?_ GE394.out) | exact HB.out))); rintro e w18 ⟨v402, v406, v409, rfl, ho0, ho1, ho2, hb⟩; have n0_ := Aside0.mk (Kd.R_lower ho0 (below_size (by repeat (first | (with_reducible first | exact HB.out | apply below_alloc | apply pw_below_drewN | apply below_drew1 | refine below_set ?_ GE394.out) | exact HB.out)))); have n1_ := Aside0.mk (Kd.R_lower ho1 (below_size (by repeat (first | (with_reducible first | exact HB.out | apply below_alloc | apply pw_below_drewN | apply below_drew1 | refine below_set ?_ GE394.out) | exact HB.out)))); have n2_ := Aside0.mk (Kd.R_lower ho2 (below_size (by repeat (first | (with_reducible first | exact HB.out | apply below_alloc | apply pw_below_drewN | apply below_drew1 | refine below_set ?_ GE394.out) | exact HB.out)))); have n3_ := Aside0.mk (blk_below (g := gb394) (o := .cells #[.int .i64 a0_0, .int .i64 a0_1, .int .i64 a0_2, .slice A0_3 l0_3.length c0_3, .int .i64 a0_4, .slice A0_5 l0_5.length c0_5, .slice A0_6 l0_6.length c0_6, .int .i64 a0_7, .int .i64 a0_8, .int .i64 a0_9] 25 (0, 0)) (by (with_reducible repeat (first | refine blk_drewN ?_ _ | refine blk_drew ?_ | refine blk_alloc ?_ _)); exact BK394.out) hb); have n4_ := Aside0.mk (below_step (by repeat (first | (with_reducible first | exact HB.out | apply below_alloc | apply pw_below_drewN | apply below_drew1 | refine below_set ?_ GE394.out) | exact HB.out)) hb); clear BK394; clear HB; have HO403 := n0_; have HO407 := n1_; have HO410 := n2_; have BK394 := n3_; have HB := n4_; clear n0_ n1_ n2_ n3_ n4_; (try clear hb); (try clear hb2); (try clear hk); (try clear hi); (try clear ho0); (try clear ho1); (try clear ho2)) | ((with_reducible refine gate_dst (N := 3) rfl ?_); refine box_event ?hg (N := 3) ?hd (cs := #[.int .i64 0, .int .i64 0, .int .i64 0, .slice none 0 0, .int .i64 0, .slice none 0 0, .slice none 0 0, .int .i64 0, .int .i64 0, .int .i64 0]) (t := 25) ?hr ?_; (case hd => rfl); (case hg => rfl); (case hr => first | (go_simp; done) | (go_simp; rfl)); intro gb414 hg w19 hbox hb; have n0_ := Aside0.mk (Kd.R_below (by (with_reducible repeat (first | apply Kd.R_alloc | apply Kd.R_drewN | apply Kd.R_drew)); exact HO403.out) hb); have n1_ := Aside0.mk (Kd.R_below (by (with_reducible repeat (first | apply Kd.R_alloc | apply Kd.R_drewN | apply Kd.R_drew)); exact HO407.out) hb); have n2_ := Aside0.mk (Kd.R_below (by (with_reducible repeat (first | apply Kd.R_alloc | apply Kd.R_drewN | apply Kd.R_drew)); exact HO410.out) hb); have n3_ := Aside0.mk (blk_below (g := gb394) (o := .cells #[.int .i64 a0_0, .int .i64 a0_1, .int .i64 a0_2, .slice A0_3 l0_3.length c0_3, .int .i64 a0_4, .slice A0_5 l0_5.length c0_5, .slice A0_6 l0_6.length c0_6, .int .i64 a0_7, .int .i64 a0_8, .int .i64 a0_9] 25 (0, 0)) (by (with_reducible repeat (first | refine blk_drewN ?_ _ | refine blk_drew ?_ | refine blk_alloc ?_ _)); exact BK394.out) hb); have n4_ := Aside0.mk (below_step (by repeat (first | (with_reducible first | exact HB.out | apply below_alloc | apply pw_below_drewN | apply below_drew1 | refine below_set ?_ GE394.out) | exact HB.out)) hb); have n5_ := Aside0.mk (hbox); have n6_ := Aside0.mk ((by rw [hg]; exact (below_size (by repeat (first | (with_reducible first | exact HB.out | apply below_alloc | apply pw_below_drewN | apply below_drew1 | refine below_set ?_ GE394.out) | exact HB.out))) : w.heap.size ≤ gb414)); have n7_ := Aside0.mk ((by rw [hg]; exact (below_size (by repeat (first | (with_reducible first | exact HB.out | apply below_alloc | apply pw_below_drewN | apply below_drew1 | refine below_set ?_ GE394.out) | exact HB.out))) : w.heap.size ≤ gb414)); have n8_ := Aside0.mk ((by rw [hg]; exact Nat.ne_of_lt (blk_lt (g := gb394) (o := .cells #[.int .i64 a0_0, .int .i64 a0_1, .int .i64 a0_2, .slice A0_3 l0_3.length c0_3, .int .i64 a0_4, .slice A0_5 l0_5.length c0_5, .slice A0_6 l0_6.length c0_6, .int .i64 a0_7, .int .i64 a0_8, .int .i64 a0_9] 25 (0, 0)) (by (with_reducible repeat (first | refine blk_drewN ?_ _ | refine blk_drew ?_ | refine blk_alloc ?_ _)); exact BK394.out)) : gb394 ≠ gb414)); have n9_ := Aside0.mk ((by rw [hg]; exact Nat.ne_of_gt (blk_lt (g := gb394) (o := .cells #[.int .i64 a0_0, .int .i64 a0_1, .int .i64 a0_2, .slice A0_3 l0_3.length c0_3, .int .i64 a0_4, .slice A0_5 l0_5.length c0_5, .slice A0_6 l0_6.length c0_6, .int .i64 a0_7, .int .i64 a0_8, .int .i64 a0_9] 25 (0, 0)) (by (with_reducible repeat (first | refine blk_drewN ?_ _ | refine blk_drew ?_ | refine blk_alloc ?_ _)); exact BK394.out)) : gb414 ≠ gb394)); clear HO403; clear HO407; clear HO410; clear BK394; clear HB; have HO403 := n0_; have HO407 := n1_; have HO410 := n2_; have BK394 := n3_; have HB := n4_; have BK414 := n5_; have GW414 := n6_; have GE414 := n7_; have NB394_414 := n8_; have NB414_394 := n9_; clear n0_ n1_ n2_ n3_ n4_ n5_ n6_ n7_ n8_ n9_; clear hb hbox hg; have hnb20 := NB414_394.out; have hnc20 := NB394_414.out; have hcz21_0 : w19.cell? ⟨gb414, 0, none⟩ = some (.int .i64 0) := (blk_cell BK414.out 0).trans rfl; have hcz21_1 : w19.cell? ⟨gb414, 1, none⟩ = some (.int .i64 0) := (blk_cell BK414.out 1).trans rfl; have hcz21_2 : w19.cell? ⟨gb414, 2, none⟩ = some (.int .i64 0) := (blk_cell BK414.out 2).trans rfl; have hcz21_3 : w19.cell? ⟨gb414, 3, none⟩ = some (.slice none 0 0) := (blk_cell BK414.out 3).trans rfl; have hcz21_4 : w19.cell? ⟨gb414, 4, none⟩ = some (.int .i64 0) := (blk_cell BK414.out 4).trans rfl; have hcz21_5 : w19.cell? ⟨gb414, 5, none⟩ = some (.slice none 0 0) := (blk_cell BK414.out 5).trans rfl; have hcz21_6 : w19.cell? ⟨gb414, 6, none⟩ = some (.slice none 0 0) := (blk_cell BK414.out 6).trans rfl; have hcz21_7 : w19.cell? ⟨gb414, 7, none⟩ = some (.int .i64 0) := (blk_cell BK414.out 7).trans rfl; have hcz21_8 : w19.cell? ⟨gb414, 8, none⟩ = some (.int .i64 0) := (blk_cell BK414.out 8).trans rfl; have hcz21_9 : w19.cell? ⟨gb414, 9, none⟩ = some (.int .i64 0) := (blk_cell BK414.out 9).trans rfl; have hfz21_0 := blk_frozen BK414.out 0; have hfz21_1 := blk_frozen BK414.out 1; have hfz21_2 := blk_frozen BK414.out 2; have hfz21_3 := blk_frozen BK414.out 3; have hfz21_4 := blk_frozen BK414.out 4; have hfz21_5 := blk_frozen BK414.out 5; have hfz21_6 := blk_frozen BK414.out 6; have hfz21_7 := blk_frozen BK414.out 7; have hfz21_8 := blk_frozen BK414.out 8; have hfz21_9 := blk_frozen BK414.out 9; obtain ⟨Ao22, co22, eo22⟩ := Kd.R_slice HO403.out; subst eo22; obtain ⟨Ao23, co23, eo23⟩ := Kd.R_slice HO407.out; subst eo23; obtain ⟨Ao24, co24, eo24⟩ := Kd.R_slice HO410.out; subst eo24)); try go_wp2_with (first | (go_at_call 17; (with_reducible refine (spread_Spread.calls a0_0 a0_1 a0_2 _ _ l0_3 a0_4 _ _ l0_5 _ _ l0_6 a0_7 a0_8 a0_9 t398 t399 t400 t401 t404 t405 t408 t411 t412 t413 _ ?side1 ?side2 ?side3 ?side4 ?side5 ?side6 ?side7 A16.out).mono ?_); (case side1 => repeat (first | exact (Kd.C_below HR0_3.out HB.out) | (with_reducible refine Kd.C_alloc ?_ _) | (with_reducible refine Kd.C_drewN ?_ _) | (with_reducible refine Kd.C_drew ?_))); (case side2 => exact HC0_3.out); (case side3 => repeat (first | exact (Kd.C_below HR0_5.out HB.out) | (with_reducible refine Kd.C_alloc ?_ _) | (with_reducible refine Kd.C_drewN ?_ _) | (with_reducible refine Kd.C_drew ?_))); (case side4 => exact HC0_5.out); (case side5 => repeat (first | exact (Kd.C_below HR0_6.out HB.out) | (with_reducible refine Kd.C_alloc ?_ _) | (with_reducible refine Kd.C_drewN ?_ _) | (with_reducible refine Kd.C_drew ?_))); (case side6 => exact HC0_6.out); (case side7 => exact NW.MaxOk.below HMX.out (by repeat (first | (with_reducible first | exact HB.out | apply below_alloc | apply pw_below_drewN | apply below_drew1 | refine below_set ?_ GE394.out) | exact HB.out))); rintro e w18 ⟨v402, v406, v409, rfl, ho0, ho1, ho2, hb⟩; have n0_ := Aside0.mk (Kd.R_lower ho0 (below_size (by repeat (first | (with_reducible first | exact HB.out | apply below_alloc | apply pw_below_drewN | apply below_drew1 | refine below_set ?_ GE394.out) | exact HB.out)))); have n1_ := Aside0.mk (Kd.R_lower ho1 (below_size (by repeat (first | (with_reducible first | exact HB.out | apply below_alloc | apply pw_below_drewN | apply below_drew1 | refine below_set ?_ GE394.out) | exact HB.out)))); have n2_ := Aside0.mk (Kd.R_lower ho2 (below_size (by repeat (first | (with_reducible first | exact HB.out | apply below_alloc | apply pw_below_drewN | apply below_drew1 | refine below_set ?_ GE394.out) | exact HB.out)))); have n3_ := Aside0.mk (blk_below (g := gb394) (o := .cells #[.int .i64 a0_0, .int .i64 a0_1, .int .i64 a0_2, .slice A0_3 l0_3.length c0_3, .int .i64 a0_4, .slice A0_5 l0_5.length c0_5, .slice A0_6 l0_6.length c0_6, .int .i64 a0_7, .int .i64 a0_8, .int .i64 a0_9] 25 (0, 0)) (by (with_reducible repeat (first | refine blk_drewN ?_ _ | refine blk_drew ?_ | refine blk_alloc ?_ _)); exact BK394.out) hb); have n4_ := Aside0.mk (below_step (by repeat (first | (with_reducible first | exact HB.out | apply below_alloc | apply pw_below_drewN | apply below_drew1 | refine below_set ?_ GE394.out) | exact HB.out)) hb); clear BK394; clear HB; have HO403 := n0_; have HO407 := n1_; have HO410 := n2_; have BK394 := n3_; have HB := n4_; clear n0_ n1_ n2_ n3_ n4_; (try clear hb); (try clear hb2); (try clear hk); (try clear hi); (try clear ho0); (try clear ho1); (try clear ho2)) | ((with_reducible refine gate_dst (N := 3) rfl ?_); refine box_event ?hg (N := 3) ?hd (cs := #[.int .i64 0, .int .i64 0, .int .i64 0, .slice none 0 0, .int .i64 0, .slice none 0 0, .slice none 0 0, .int .i64 0, .int .i64 0, .int .i64 0]) (t := 25) ?hr ?_; (case hd => rfl); (case hg => rfl); (case hr => first | (go_simp; done) | (go_simp; rfl)); intro gb414 hg w19 hbox hb; have n0_ := Aside0.mk (Kd.R_below (by (with_reducible repeat (first | apply Kd.R_alloc | apply Kd.R_drewN | apply Kd.R_drew)); exact HO403.out) hb); have n1_ := Aside0.mk (Kd.R_below (by (with_reducible repeat (first | apply Kd.R_alloc | apply Kd.R_drewN | apply Kd.R_drew)); exact HO407.out) hb); have n2_ := Aside0.mk (Kd.R_below (by (with_reducible repeat (first | apply Kd.R_alloc | apply Kd.R_drewN | apply Kd.R_drew)); exact HO410.out) hb); have n3_ := Aside0.mk (blk_below (g := gb394) (o := .cells #[.int .i64 a0_0, .int .i64 a0_1, .int .i64 a0_2, .slice A0_3 l0_3.length c0_3, .int .i64 a0_4, .slice A0_5 l0_5.length c0_5, .slice A0_6 l0_6.length c0_6, .int .i64 a0_7, .int .i64 a0_8, .int .i64 a0_9] 25 (0, 0)) (by (with_reducible repeat (first | refine blk_drewN ?_ _ | refine blk_drew ?_ | refine blk_alloc ?_ _)); exact BK394.out) hb); have n4_ := Aside0.mk (below_step (by repeat (first | (with_reducible first | exact HB.out | apply below_alloc | apply pw_below_drewN | apply below_drew1 | refine below_set ?_ GE394.out) | exact HB.out)) hb); have n5_ := Aside0.mk (hbox); have n6_ := Aside0.mk ((by rw [hg]; exact (below_size (by repeat (first | (with_reducible first | exact HB.out | apply below_alloc | apply pw_below_drewN | apply below_drew1 | refine below_set ?_ GE394.out) | exact HB.out))) : w.heap.size ≤ gb414)); have n7_ := Aside0.mk ((by rw [hg]; exact (below_size (by repeat (first | (with_reducible first | exact HB.out | apply below_alloc | apply pw_below_drewN | apply below_drew1 | refine below_set ?_ GE394.out) | exact HB.out))) : w.heap.size ≤ gb414)); have n8_ := Aside0.mk ((by rw [hg]; exact Nat.ne_of_lt (blk_lt (g := gb394) (o := .cells #[.int .i64 a0_0, .int .i64 a0_1, .int .i64 a0_2, .slice A0_3 l0_3.length c0_3, .int .i64 a0_4, .slice A0_5 l0_5.length c0_5, .slice A0_6 l0_6.length c0_6, .int .i64 a0_7, .int .i64 a0_8, .int .i64 a0_9] 25 (0, 0)) (by (with_reducible repeat (first | refine blk_drewN ?_ _ | refine blk_drew ?_ | refine blk_alloc ?_ _)); exact BK394.out)) : gb394 ≠ gb414)); have n9_ := Aside0.mk ((by rw [hg]; exact Nat.ne_of_gt (blk_lt (g := gb394) (o := .cells #[.int .i64 a0_0, .int .i64 a0_1, .int .i64 a0_2, .slice A0_3 l0_3.length c0_3, .int .i64 a0_4, .slice A0_5 l0_5.length c0_5, .slice A0_6 l0_6.length c0_6, .int .i64 a0_7, .int .i64 a0_8, .int .i64 a0_9] 25 (0, 0)) (by (with_reducible repeat (first | refine blk_drewN ?_ _ | refine blk_drew ?_ | refine blk_alloc ?_ _)); exact BK394.out)) : gb414 ≠ gb394)); clear HO403; clear HO407; clear HO410; clear BK394; clear HB; have HO403 := n0_; have HO407 := n1_; have HO410 := n2_; have BK394 := n3_; have HB := n4_; have BK414 := n5_; have GW414 := n6_; have GE414 := n7_; have NB394_414 := n8_; have NB414_394 := n9_; clear n0_ n1_ n2_ n3_ n4_ n5_ n6_ n7_ n8_ n9_; clear hb hbox hg; have hnb20 := NB414_394.out; have hnc20 := NB394_414.out; have hcz21_0 : w19.cell? ⟨gb414, 0, none⟩ = some (.int .i64 0) := (blk_cell BK414.out 0).trans rfl; have hcz21_1 : w19.cell? ⟨gb414, 1, none⟩ = some (.int .i64 0) := (blk_cell BK414.out 1).trans rfl; have hcz21_2 : w19.cell? ⟨gb414, 2, none⟩ = some (.int .i64 0) := (blk_cell BK414.out 2).trans rfl; have hcz21_3 : w19.cell? ⟨gb414, 3, none⟩ = some (.slice none 0 0) := (blk_cell BK414.out 3).trans rfl; have hcz21_4 : w19.cell? ⟨gb414, 4, none⟩ = some (.int .i64 0) := (blk_cell BK414.out 4).trans rfl; have hcz21_5 : w19.cell? ⟨gb414, 5, none⟩ = some (.slice none 0 0) := (blk_cell BK414.out 5).trans rfl; have hcz21_6 : w19.cell? ⟨gb414, 6, none⟩ = some (.slice none 0 0) := (blk_cell BK414.out 6).trans rfl; have hcz21_7 : w19.cell? ⟨gb414, 7, none⟩ = some (.int .i64 0) := (blk_cell BK414.out 7).trans rfl; have hcz21_8 : w19.cell? ⟨gb414, 8, none⟩ = some (.int .i64 0) := (blk_cell BK414.out 8).trans rfl; have hcz21_9 : w19.cell? ⟨gb414, 9, none⟩ = some (.int .i64 0) := (blk_cell BK414.out 9).trans rfl; have hfz21_0 := blk_frozen BK414.out 0; have hfz21_1 := blk_frozen BK414.out 1; have hfz21_2 := blk_frozen BK414.out 2; have hfz21_3 := blk_frozen BK414.out 3; have hfz21_4 := blk_frozen BK414.out 4; have hfz21_5 := blk_frozen BK414.out 5; have hfz21_6 := blk_frozen BK414.out 6; have hfz21_7 := blk_frozen BK414.out 7; have hfz21_8 := blk_frozen BK414.out 8; have hfz21_9 := blk_frozen BK414.out 9; obtain ⟨Ao22, co22, eo22⟩ := Kd.R_slice HO403.out; subst eo22; obtain ⟨Ao23, co23, eo23⟩ := Kd.R_slice HO407.out; subst eo23; obtain ⟨Ao24, co24, eo24⟩ := Kd.R_slice HO410.out; subst eo24)))
        obtain ⟨wz, hwz⟩ : ∃ wz, ((((((((((w19.setCell ⟨gb414, 0, none⟩ (.int .i64 t398)).setCell ⟨gb414, 1, none⟩ (.int .i64 t399)).setCell ⟨gb414, 2, none⟩ (.int .i64 t400)).setCell ⟨gb414, 3, none⟩ (.slice Ao22 t401.length co22)).setCell ⟨gb414, 4, none⟩ (.int .i64 t404)).setCell ⟨gb414, 5, none⟩ (.slice Ao23 t405.length co23)).setCell ⟨gb414, 6, none⟩ (.slice Ao24 t408.length co24)).setCell ⟨gb414, 7, none⟩ (.int .i64 t411)).setCell ⟨gb414, 8, none⟩ (.int .i64 t412)).setCell ⟨gb414, 9, none⟩ (.int .i64 t413)) = wz := ⟨_, rfl⟩
        rw [hwz]
        have hZ : wz.heap[gb414]? = some (.cells #[.int .i64 t398, .int .i64 t399, .int .i64 t400, .slice Ao22 t401.length co22, .int .i64 t404, .slice Ao23 t405.length co23, .slice Ao24 t408.length co24, .int .i64 t411, .int .i64 t412, .int .i64 t413] 25 (0, 0)) := by rw [← hwz]; exact NW.blk_set10 BK414.out _ _ _ _ _ _ _ _ _ _
        have hgz : w19.grownBy wz (some gb414) := by rw [← hwz]; exact NW.kept_set10 w19 gb414 _ _ _ _ _ _ _ _ _ _
        have hR3 := NW.Kd_R_grown (Kd.R_types HO403.out BK414.out (by decide)) hgz (fun k hk => hk.2)
        have hR5 := NW.Kd_R_grown (Kd.R_types HO407.out BK414.out (by decide)) hgz (fun k hk => hk.2)
        have hbz := NW.below_grown HB.out hgz GW414.out HB.out.size
        have HZ := Aside0.mk hZ
        have HC3 := Aside0.mk (Kd.R_reads' hR3).2.2
        have HM3 := Aside0.mk (Kd.R_reads' hR3).2.1
        have HC5 := Aside0.mk (Kd.R_reads' hR5).2.2
        have HBZ := Aside0.mk hbz
        have HGZ := Aside0.mk (show gb414 < wz.heap.size from (Array.getElem?_eq_some_iff.1 hZ).1)
        clear hZ hgz hR3 hR5 hbz hwz HO403 HO407 HO410 BK394 BK414 HB A16 GW394 GE394 GW414 GE414 NB394_414 NB414_394 hnb20 hnc20
        clear hcz17_0 hcz17_1 hcz17_2 hcz17_3 hcz17_4 hcz17_5 hcz17_6 hcz17_7 hcz17_8 hcz17_9 hfz17_0 hfz17_1 hfz17_2 hfz17_3 hfz17_4 hfz17_5 hfz17_6 hfz17_7 hfz17_8 hfz17_9
        clear hcz21_0 hcz21_1 hcz21_2 hcz21_3 hcz21_4 hcz21_5 hcz21_6 hcz21_7 hcz21_8 hcz21_9 hfz21_0 hfz21_1 hfz21_2 hfz21_3 hfz21_4 hfz21_5 hfz21_6 hfz21_7 hfz21_8 hfz21_9
        go_loopg [4] kj1 (fun kq v4 w' => ∃ (x4 : Int), v4 = .int .i64 x4 ∧ Aside0 (sacristanlaw17_SpreadEnds.l0 kq x4 t398 t399 t400 t401 t404 t405 t408 t411 t412 t413 = some r) ∧ Aside0 (kq ≤ kj1) ∧ Aside0 (Below wz.heap.size wz w'))
        case atStart => exact ⟨0, rfl, H', ⟨Nat.le_refl _⟩, ⟨Below.refl _ _⟩⟩
        case round =>
          clear H'
          obtain ⟨x4, rfl, HA, HK2, HB2⟩ := hrel
          have hz := blk_below HZ.out HB2.out
          have z3 := (blk_cell hz 3).trans rfl
          have z5 := (blk_cell hz 5).trans rfl
          clear hz
          cases gk with
          | zero => exact absurd HA.out (by simp [sacristanlaw17_SpreadEnds.l0])
          | succ k2 =>
            have H := HA.out
            clear HA
            simp only [sacristanlaw17_SpreadEnds.l0] at H
            by_cases c25 : x4 < (t405.length : Int)
            · rw [if_pos c25] at H
              have d25 : decide (x4 < (t405.length : Int)) = true := decide_eq_true c25
              have C25 := Aside0.mk c25
              clear c25
              have H' := Aside0.mk H
              clear H
              go_wp2_with fail
              clear z3 z5
              go_loopg [5] k2 (fun kq v5 w' => ∃ (x5 : Int), v5 = .int .i64 x5 ∧ Aside0 (sacristanlaw17_SpreadEnds.l1 kq x4 x5 t398 t399 t400 t401 t404 t405 t408 t411 t412 t413 = some r) ∧ Aside0 (kq ≤ k2) ∧ Aside0 (Below wz.heap.size wz w'))
              case atStart => exact ⟨_, rfl, H', ⟨Nat.le_refl _⟩, HB2⟩
              case round =>
                clear H' HB2
                obtain ⟨x5, rfl, HA, HK3, HB3⟩ := hrel
                cases gk with
                | zero => exact absurd HA.out (by simp [sacristanlaw17_SpreadEnds.l1])
                | succ k3 =>
                  have H := HA.out
                  clear HA
                  simp only [sacristanlaw17_SpreadEnds.l1] at H
                  by_cases c28 : x5 ≥ 0
                  · rw [if_pos c28] at H
                    have c29 : 0 ≤ x5 := c28
                    rw [if_pos c29] at H
                    by_cases c30 : x5 < (t401.length : Int)
                    · rw [if_pos c30] at H
                      have C28 := Aside0.mk c28
                      have C30 := Aside0.mk c30
                      have d28 : decide (0 ≤ x5) = true := decide_eq_true c28
                      obtain ⟨ad, rfl, q0, q1, q2, q3, q4, q5, q6, q7⟩ := at_T39 HC3.out x5 c28 c30
                      replace q0 := (HB3.out.cell (World.block_lt_of_cell? wz _ q0)).trans q0
                      replace q1 := (HB3.out.cell (World.block_lt_of_cell? wz _ q1)).trans q1
                      replace q2 := (HB3.out.cell (World.block_lt_of_cell? wz _ q2)).trans q2
                      replace q3 := (HB3.out.cell (World.block_lt_of_cell? wz _ q3)).trans q3
                      replace q4 := (HB3.out.cell (World.block_lt_of_cell? wz _ q4)).trans q4
                      replace q5 := (HB3.out.cell (World.block_lt_of_cell? wz _ q5)).trans q5
                      replace q6 := (HB3.out.cell (World.block_lt_of_cell? wz _ q6)).trans q6
                      replace q7 := (HB3.out.cell (World.block_lt_of_cell? wz _ q7)).trans q7
                      generalize hx : rd_T39 t401 x5 = x at H q0 q1 q2 q3 q4 q5 q6 q7
                      clear hx
                      have HI := Aside0.mk H
                      clear H
                      have hz := blk_below HZ.out HB3.out
                      have z3 := (blk_cell hz 3).trans rfl
                      clear hz
                      have hX := blk_new wr (.cells #[.int .u8 x.f0, .int .i64 x.f1, .int .i64 x.f2, .int .i64 x.f3, .string x.f4, .int .u8 x.f5.f0, .int .i64 x.f5.f1, .string x.f5.f2] 39 (0, 0))
                      have hbx := (Below.refl wr.heap.size wr).alloc (Nat.le_refl _) (.cells #[.int .u8 x.f0, .int .i64 x.f1, .int .i64 x.f2, .int .i64 x.f3, .string x.f4, .int .u8 x.f5.f0, .int .i64 x.f5.f1, .string x.f5.f2] 39 (0, 0))
                      have HX := Aside0.mk hX
                      have HBX := Aside0.mk (HB3.out.trans (hbx.mono HB3.out.size))
                      clear hX hbx
                      go_wp2_with fail
                      clear q0 q1 q2 q3 q4 q5 q6 q7 z3 d25 d28
                      obtain ⟨wx, hwx⟩ : ∃ wx, (wr.alloc (.cells #[.int .u8 x.f0, .int .i64 x.f1, .int .i64 x.f2, .int .i64 x.f3, .string x.f4, .int .u8 x.f5.f0, .int .i64 x.f5.f1, .string x.f5.f2] 39 (0, 0))) = wx := ⟨_, rfl⟩
                      rw [hwx] at HX HBX ⊢
                      clear hwx
                      obtain ⟨gx, hgx⟩ : ∃ gx, wr.heap.size = gx := ⟨_, rfl⟩
                      rw [hgx] at HX ⊢
                      clear hgx
                      go_cut [55] (fun v55 wc => ∃ (kq : Nat) (b : Bool), v55 = .bool b ∧ Aside0 (sacristanlaw17_SpreadEnds.j3 kq x4 x5 b t398 t399 t400 t401 t404 t405 t408 t411 t412 t413 x.f0 x.f1 x.f2 x.f3 x.f4 x.f5.f0 x.f5.f1 x.f5.f2 = some r) ∧ Aside0 (kq ≤ k3) ∧ Aside0 (wc.heap[gx]? = some (.cells #[.int .u8 x.f0, .int .i64 x.f1, .int .i64 x.f2, .int .i64 x.f3, .string x.f4, .int .u8 x.f5.f0, .int .i64 x.f5.f1, .string x.f5.f2] 39 (0, 0))) ∧ Aside0 (Below wz.heap.size wz wc))
                      case first =>
                        have x0 := (blk_cell HX.out 0).trans rfl
                        have x1 := (blk_cell HX.out 1).trans rfl
                        have H := HI.out
                        clear HI
                        have hz := blk_below HZ.out HBX.out
                        have z5 := (blk_cell hz 5).trans rfl
                        clear hz
                        by_cases c6 : x.f0 = 6
                        · rw [if_pos c6] at H
                          have H' := Aside0.mk H
                          clear H z5
                          have d6 : (x.f0 == 6) = true := beq_iff_eq.mpr c6
                          clear c6
                          go_quiet (fail)
                          try go_wp2
                          go_meet
                          case rel => exact ⟨_, true, by first | rfl | (simp; done) | (simp [*]; done), H', ⟨Nat.le_refl _⟩, ⟨by (with_reducible repeat (first | refine blk_drewN ?_ _ | refine blk_drew ?_)); exact HX.out⟩, ⟨by repeat (first | (with_reducible first | exact HBX.out | apply below_alloc | apply pw_below_drewN | apply below_drew1) | exact HBX.out)⟩⟩
                        rw [if_neg c6] at H
                        have d6 : (x.f0 == 6) = false := beq_eq_false_iff_ne.mpr c6
                        clear c6
                        by_cases c8 : x.f0 = 8
                        · rw [if_pos c8] at H
                          have H' := Aside0.mk H
                          clear H z5
                          have d8 : (x.f0 == 8) = true := beq_iff_eq.mpr c8
                          clear c8
                          go_quiet (fail)
                          try go_wp2
                          go_meet
                          case rel => exact ⟨_, true, by first | rfl | (simp; done) | (simp [*]; done), H', ⟨Nat.le_refl _⟩, ⟨by (with_reducible repeat (first | refine blk_drewN ?_ _ | refine blk_drew ?_)); exact HX.out⟩, ⟨by repeat (first | (with_reducible first | exact HBX.out | apply below_alloc | apply pw_below_drewN | apply below_drew1) | exact HBX.out)⟩⟩
                        rw [if_neg c8] at H
                        have d8 : (x.f0 == 8) = false := beq_eq_false_iff_ne.mpr c8
                        clear c8
                        by_cases c46 : 0 ≤ x4
                        · rw [if_pos c46, if_pos C25.out] at H
                          have H' := Aside0.mk H
                          clear H
                          obtain ⟨ad5, rfl, s0⟩ := Kd.at_int HC5.out x4 c46 C25.out
                          replace s0 := (HBX.out.cell (World.block_lt_of_cell? wz _ s0)).trans s0
                          have p1 := eq_true c46
                          have p2 := eq_true C25.out
                          clear c46
                          go_quiet (fail)
                          try go_wp2
                          go_meet
                          case rel => exact ⟨_, (x.f1 != rd t405 x4), by first | rfl | (simp; done) | (simp [*]; done), H', ⟨Nat.le_refl _⟩, ⟨by (with_reducible repeat (first | refine blk_drewN ?_ _ | refine blk_drew ?_)); exact HX.out⟩, ⟨by repeat (first | (with_reducible first | exact HBX.out | apply below_alloc | apply pw_below_drewN | apply below_drew1) | exact HBX.out)⟩⟩
                        · rw [if_neg c46] at H
                          exact absurd H (by simp)
                      case rest =>
                        clear HI HX HBX
                        obtain ⟨kq, b, rfl, HA, HJ3, HX, HBX⟩ := hcut
                        cases kq with
                        | zero => exact absurd HA.out (by simp [sacristanlaw17_SpreadEnds.j3])
                        | succ kj =>
                          have H := HA.out
                          clear HA
                          simp only [sacristanlaw17_SpreadEnds.j3] at H
                          cases b with
                          | true =>
                            rw [if_pos rfl] at H
                            have H' := Aside0.mk H
                            clear H
                            go_wp2_with fail
                            go_roundg kj
                            case measure => have := HJ1.out; have := HK2.out; have := HK3.out; have := HJ3.out; omega
                            case rel => exact ⟨_, rfl, H', ⟨by have := HJ1.out; have := HK2.out; have := HK3.out; have := HJ3.out; omega⟩, HBX⟩
                          | false =>
                            rw [if_neg (by decide)] at H
                            have x0 := (blk_cell HX.out 0).trans rfl
                            have x2 := (blk_cell HX.out 2).trans rfl
                            have hz := blk_below HZ.out HBX.out
                            have z3 := (blk_cell hz 3).trans rfl
                            clear hz
                            by_cases c2 : x.f0 = 2
                            · rw [if_pos c2] at H
                              have d2 : (x.f0 == 2) = true := beq_iff_eq.mpr c2
                              clear c2
                              obtain ⟨ji, hji⟩ : ∃ j_ : Int, (wrap64 (x5 + 1)) = j_ := ⟨_, rfl⟩
                              rw [hji] at H
                              have hjiw : (IntKind.i64.wrap (x5 + 1)) = ji := (i64_w _).trans hji
                              by_cases c56 : 0 ≤ ji
                              · rw [if_pos c56] at H
                                by_cases c57 : ji ≤ (t401.length : Int)
                                · rw [if_pos c57] at H
                                  obtain ⟨y, hy⟩ : ∃ y_ : List S39, y_ = t401.drop ji.toNat := ⟨_, rfl⟩
                                  rw [← hy] at H
                                  obtain ⟨t423, A580, H⟩ := Option.bind_eq_some_iff.mp H
                                  (try dsimp only at H)
                                  have A58 := Aside0.mk A580
                                  clear A580
                                  obtain ⟨i0, hi0, _, hsz, _⟩ := info_parts info39
                                  have hroom : t401.length ≤ co22 := HM3.out
                                  have hcut := cut_from (P := Try.prog) 22 39 .i64 Try.underlying22 hi0 8 hsz (some ad) t401.length co22 ji c56 c57
                                  have hr := Kd.C_below (Kd.C_drop (m := ji.toNat) (c := co22) HC3.out (by omega) hroom) HBX.out
                                  obtain ⟨A65, hA65⟩ : ∃ A1, A1 = (if co22 = (ji : Int).toNat then (some ad) else ((some ad) : Option Addr).map (·.add ((ji : Int).toNat * 8))) := ⟨_, rfl⟩
                                  obtain ⟨c65, hc65⟩ : ∃ c1, c1 = co22 - (ji : Int).toNat := ⟨_, rfl⟩
                                  have hyl : y.length = t401.length - (ji : Int).toNat := by rw [hy, List.length_drop]
                                  rw [show t401.drop ji.toNat = y from hy.symm] at hr
                                  replace hr : Kd.C k39 wc A65 y.length y := by rw [hA65]; exact hr
                                  rw [← hyl, ← hA65, ← hc65] at hcut
                                  have HR := Aside0.mk hr
                                  have HCC := Aside0.mk (show y.length ≤ c65 from by rw [hyl, hc65]; exact Nat.sub_le_sub_right hroom _)
                                  clear hr hroom hi0 hsz hc65 hyl hA65 hy
                                  have c57 := eq_true c57
                                  go_wp2_with fail
                                  cases t423 with
                                  | true =>
                                    rw [if_pos rfl] at H
                                    have H' := Aside0.mk H
                                    clear H
                                    repeat (go_quiet (first | (go_at_call 20; (with_reducible refine (sacristanlaw17_touched.calls kj _ _ y x.f2 true _ ?side1 ?side2 A58.out).mono ?_); (case side1 => repeat (first | exact (by repeat (first | (with_reducible exact HR.out) | (with_reducible refine Kd.C_alloc ?_ _) | (with_reducible refine Kd.C_drewN ?_ _) | (with_reducible refine Kd.C_drew ?_) | exact HR.out)) | (with_reducible refine Kd.C_alloc ?_ _) | (with_reducible refine Kd.C_drewN ?_ _) | (with_reducible refine Kd.C_drew ?_))); (case side2 => exact HCC.out); rintro e w' ⟨rfl, ⟨nd, rfl⟩⟩; (try first | exact ⟨rfl, _, World.drewN_drewN _ _ _⟩ | exact ⟨rfl, _, Eq.trans (World.drewN_drewN _ _ _) (congrArg (World.drewN _) (Nat.add_assoc _ _ _))⟩))); try go_wp2)
                                    go_roundg kj
                                    case measure => have := HJ1.out; have := HK2.out; have := HK3.out; have := HJ3.out; omega
                                    case rel => exact ⟨_, rfl, H', ⟨by have := HJ1.out; have := HK2.out; have := HK3.out; have := HJ3.out; omega⟩, ⟨by repeat (first | (with_reducible first | exact HBX.out | apply below_alloc | apply pw_below_drewN | apply below_drew1) | exact HBX.out)⟩⟩
                                  | false =>
                                    rw [if_neg (by decide)] at H
                                    obtain rfl := Option.some.inj H
                                    clear H
                                    repeat (go_quiet (first | (go_at_call 20; (with_reducible refine (sacristanlaw17_touched.calls kj _ _ y x.f2 false _ ?side1 ?side2 A58.out).mono ?_); (case side1 => repeat (first | exact (by repeat (first | (with_reducible exact HR.out) | (with_reducible refine Kd.C_alloc ?_ _) | (with_reducible refine Kd.C_drewN ?_ _) | (with_reducible refine Kd.C_drew ?_) | exact HR.out)) | (with_reducible refine Kd.C_alloc ?_ _) | (with_reducible refine Kd.C_drewN ?_ _) | (with_reducible refine Kd.C_drew ?_))); (case side2 => exact HCC.out); rintro e w' ⟨rfl, ⟨nd, rfl⟩⟩; (try first | exact ⟨rfl, _, World.drewN_drewN _ _ _⟩ | exact ⟨rfl, _, Eq.trans (World.drewN_drewN _ _ _) (congrArg (World.drewN _) (Nat.add_assoc _ _ _))⟩))); try go_wp2)
                                    go_ret
                                    have HBW := Aside0.mk ((HBZ.out).trans (HBX.out.mono HBZ.out.size))
                                    exact ⟨rfl, by repeat (first | (with_reducible first | exact HBW.out | apply below_alloc | apply pw_below_drewN | apply below_drew1) | exact HBW.out)⟩
                                · rw [if_neg c57] at H
                                  exact absurd H (by simp)
                              · rw [if_neg c56] at H
                                exact absurd H (by simp)
                            · rw [if_neg c2] at H
                              have H' := Aside0.mk H
                              clear H
                              have d2 : (x.f0 == 2) = false := beq_eq_false_iff_ne.mpr c2
                              go_wp2_with fail
                              go_quiet (fail)
                              try go_wp2
                              go_roundg kj
                              case measure => have := HJ1.out; have := HK2.out; have := HK3.out; have := HJ3.out; omega
                              case rel => exact ⟨_, rfl, H', ⟨by have := HJ1.out; have := HK2.out; have := HK3.out; have := HJ3.out; omega⟩, ⟨by repeat (first | (with_reducible first | exact HBX.out | apply below_alloc | apply pw_below_drewN | apply below_drew1) | exact HBX.out)⟩⟩
                    · rw [if_neg c30] at H
                      exact absurd H (by simp)
                  · rw [if_neg c28] at H
                    have c28b0 : decide (0 ≤ x5) = false := decide_eq_false c28
                    clear c28
                    have H' := Aside0.mk H
                    clear H
                    go_wp2_with fail
                    go_roundg k3
                    case measure => have := HJ1.out; have := HK2.out; have := HK3.out; omega
                    case rel => exact ⟨_, rfl, H', ⟨by have := HJ1.out; have := HK2.out; have := HK3.out; omega⟩, HB3⟩
            · rw [if_neg c25] at H
              have c25b0 : decide (x4 < (t405.length : Int)) = false := decide_eq_false c25
              clear c25
              replace H := Option.bind_eq_some_iff.mp H
              obtain ⟨t415, A750, H⟩ := H
              replace H : (some t415) = some r := H
              have A75 := Aside0.mk A750
              clear A750
              obtain rfl := Option.some.inj H
              clear H
              have HBW := Aside0.mk ((HBZ.out).trans (HB2.out.mono HBZ.out.size))
              go_wp2_with (go_at_call 16; refine (sacristanlaw17_awake.calls t415 _ (NW.MaxOk.below HMX.out HBW.out) A75.out).mono ?_; rintro e w15 ⟨rfl, hb⟩)
              go_ret
              exact ⟨rfl, HBW.out.trans (hb.mono HBW.out.size)⟩
end Go.Proofs.Ytjkjbfhhfdbnoaa.PB
