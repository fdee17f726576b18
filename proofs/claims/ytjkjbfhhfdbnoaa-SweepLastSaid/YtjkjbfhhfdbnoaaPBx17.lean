-- Own text: made by this session's variant of the printer (wip/mkpp.py); Lean checks it.
import Derived.Test.YtjkjbfhhfdbnoaaPBx0
namespace Go.Proofs.Ytjkjbfhhfdbnoaa.PB
open Go.RowKit Go.Proofs.YtjkjbfhhfdbnoaaW.PrintWords Go.Proofs.YtjkjbfhhfdbnoaaW.PrintLast Go.Proofs.YtjkjbfhhfdbnoaaW.PrintMore Go.Proofs.YtjkjbfhhfdbnoaaW.Own
attribute [local go_sem high] own_gtr own_leq own_geq
attribute [local go_sem] max2_int min2_int max_two min_two max_three min_three max_four min_four   -- for this text's walks alone
set_option linter.unusedVariables false
set_option linter.unusedSimpArgs false

/-! ### sacristanref18_reads: function 52 -/
def sacristanref18_reads.f (a0_0 : Int) (a0_1 : Int) (a0_2 : Int) (a0_3 : Int) (a0_4 : ByteArray) (a0_5 : Int) (a0_6 : Int) (a0_7 : ByteArray) (a1 : Int) : Option (Bool) := if a0_0 = 2 then (if a0_2 = a1 then (some true) else (if a0_0 = 4 then (some (a0_3 == a1)) else (some false))) else (if a0_0 = 3 then (if a0_2 = a1 then (some true) else (if a0_0 = 4 then (some (a0_3 == a1)) else (some false))) else (if a0_0 = 4 then (if a0_2 = a1 then (some true) else (some (a0_3 == a1))) else (if a0_0 = 8 then (if a0_2 = a1 then (some true) else (some false)) else (some false))))
set_option maxHeartbeats 8000000 in
set_option maxRecDepth 100000 in
theorem sacristanref18_reads.calls (a0_0 : Int) (a0_1 : Int) (a0_2 : Int) (a0_3 : Int) (a0_4 : ByteArray) (a0_5 : Int) (a0_6 : Int) (a0_7 : ByteArray) (a1 : Int) (r : Bool) (w : World) (h : sacristanref18_reads.f a0_0 a0_1 a0_2 a0_3 a0_4 a0_5 a0_6 a0_7 a1 = some r) :
    Calls Try.prog 52 #[.agg #[.int .u8 a0_0, .int .i64 a0_1, .int .i64 a0_2, .int .i64 a0_3, .string a0_4, .int .u8 a0_5, .int .i64 a0_6, .string a0_7], .int .i64 a1] w fun e w' => e = .returned (.bool r) ∧ Below w.heap.size w w' := by
  have hu39 := Try.underlying39
  have HB := Aside0.mk (Below.refl w.heap.size w)
  have H : (if a0_0 = 2 then (if a0_2 = a1 then (some true) else (if a0_0 = 4 then (some (a0_3 == a1)) else (some false))) else (if a0_0 = 3 then (if a0_2 = a1 then (some true) else (if a0_0 = 4 then (some (a0_3 == a1)) else (some false))) else (if a0_0 = 4 then (if a0_2 = a1 then (some true) else (some (a0_3 == a1))) else (if a0_0 = 8 then (if a0_2 = a1 then (some true) else (some false)) else (some false))))) = some r := h
  clear h
  by_cases c3 : a0_0 = 2
  · rw [if_pos c3] at H
    have c3b0 : (a0_0 == 2) = true := beq_iff_eq.mpr c3
    have c3b1 : (a0_0 != 2) = false := bne_eq_false_iff_eq.mpr c3
    clear c3
    by_cases c4 : a0_2 = a1
    · rw [if_pos c4] at H
      have c4b0 : (a0_2 == a1) = true := beq_iff_eq.mpr c4
      have c4b1 : (a0_2 != a1) = false := bne_eq_false_iff_eq.mpr c4
      clear c4
      obtain rfl := Option.some.inj H
      go_enter Try.func52, Try.ntmps52
      go_wp2_with (first | ((with_reducible refine gate_dst (N := 2) rfl ?_); refine box_event ?hg (N := 2) ?hd (cs := #[.int .u8 a0_0, .int .i64 a0_1, .int .i64 a0_2, .int .i64 a0_3, .string a0_4, .int .u8 a0_5, .int .i64 a0_6, .string a0_7]) (t := 39) ?hr ?_; (case hd => rfl); (case hg => rfl); (case hr => first | (go_simp; done) | (go_simp; rfl)); intro gb484 hg w5 hbox hb; have n0_ := Aside0.mk (below_step (by repeat (first | (with_reducible first | exact HB.out | apply below_alloc | apply pw_below_drewN | apply below_drew1) | exact HB.out)) hb); have n1_ := Aside0.mk (hbox); have n2_ := Aside0.mk ((by rw [hg]; exact (below_size (by repeat (first | (with_reducible first | exact HB.out | apply below_alloc | apply pw_below_drewN | apply below_drew1) | exact HB.out))) : w.heap.size ≤ gb484)); have n3_ := Aside0.mk ((by rw [hg]; exact (below_size (by repeat (first | (with_reducible first | exact HB.out | apply below_alloc | apply pw_below_drewN | apply below_drew1) | exact HB.out))) : w.heap.size ≤ gb484)); clear HB; have HB := n0_; have BK484 := n1_; have GW484 := n2_; have GE484 := n3_; clear n0_ n1_ n2_ n3_; clear hb hbox hg; have hcz6_0 : w5.cell? ⟨gb484, 0, none⟩ = some (.int .u8 a0_0) := (blk_cell BK484.out 0).trans rfl; have hcz6_1 : w5.cell? ⟨gb484, 1, none⟩ = some (.int .i64 a0_1) := (blk_cell BK484.out 1).trans rfl; have hcz6_2 : w5.cell? ⟨gb484, 2, none⟩ = some (.int .i64 a0_2) := (blk_cell BK484.out 2).trans rfl; have hcz6_3 : w5.cell? ⟨gb484, 3, none⟩ = some (.int .i64 a0_3) := (blk_cell BK484.out 3).trans rfl; have hcz6_4 : w5.cell? ⟨gb484, 4, none⟩ = some (.string a0_4) := (blk_cell BK484.out 4).trans rfl; have hcz6_5 : w5.cell? ⟨gb484, 5, none⟩ = some (.int .u8 a0_5) := (blk_cell BK484.out 5).trans rfl; have hcz6_6 : w5.cell? ⟨gb484, 6, none⟩ = some (.int .i64 a0_6) := (blk_cell BK484.out 6).trans rfl; have hcz6_7 : w5.cell? ⟨gb484, 7, none⟩ = some (.string a0_7) := (blk_cell BK484.out 7).trans rfl; have hfz6_0 := blk_frozen BK484.out 0; have hfz6_1 := blk_frozen BK484.out 1; have hfz6_2 := blk_frozen BK484.out 2; have hfz6_3 := blk_frozen BK484.out 3; have hfz6_4 := blk_frozen BK484.out 4; have hfz6_5 := blk_frozen BK484.out 5; have hfz6_6 := blk_frozen BK484.out 6; have hfz6_7 := blk_frozen BK484.out 7))
      go_ret
      exact ⟨by first | rfl | (simp [errW_none, errW_some] <;> rfl) | (simp [*, errW_none, errW_some] <;> rfl), by repeat (first | (with_reducible first | exact HB.out | apply below_alloc | apply pw_below_drewN | apply below_drew1 | refine below_set ?_ GE484.out) | exact HB.out)⟩
    · rw [if_neg c4] at H
      have c4b0 : (a0_2 == a1) = false := beq_eq_false_iff_ne.mpr c4
      have c4b1 : (a0_2 != a1) = true := bne_iff_ne.mpr c4
      by_cases c7 : a0_0 = 4
      · rw [if_pos c7] at H
        have c7b0 : (a0_0 == 4) = true := beq_iff_eq.mpr c7
        have c7b1 : (a0_0 != 4) = false := bne_eq_false_iff_eq.mpr c7
        clear c7
        obtain rfl := Option.some.inj H
        go_enter Try.func52, Try.ntmps52
        go_wp2_with (first | ((with_reducible refine gate_dst (N := 2) rfl ?_); refine box_event ?hg (N := 2) ?hd (cs := #[.int .u8 a0_0, .int .i64 a0_1, .int .i64 a0_2, .int .i64 a0_3, .string a0_4, .int .u8 a0_5, .int .i64 a0_6, .string a0_7]) (t := 39) ?hr ?_; (case hd => rfl); (case hg => rfl); (case hr => first | (go_simp; done) | (go_simp; rfl)); intro gb484 hg w8 hbox hb; have n0_ := Aside0.mk (below_step (by repeat (first | (with_reducible first | exact HB.out | apply below_alloc | apply pw_below_drewN | apply below_drew1) | exact HB.out)) hb); have n1_ := Aside0.mk (hbox); have n2_ := Aside0.mk ((by rw [hg]; exact (below_size (by repeat (first | (with_reducible first | exact HB.out | apply below_alloc | apply pw_below_drewN | apply below_drew1) | exact HB.out))) : w.heap.size ≤ gb484)); have n3_ := Aside0.mk ((by rw [hg]; exact (below_size (by repeat (first | (with_reducible first | exact HB.out | apply below_alloc | apply pw_below_drewN | apply below_drew1) | exact HB.out))) : w.heap.size ≤ gb484)); clear HB; have HB := n0_; have BK484 := n1_; have GW484 := n2_; have GE484 := n3_; clear n0_ n1_ n2_ n3_; clear hb hbox hg; have hcz9_0 : w8.cell? ⟨gb484, 0, none⟩ = some (.int .u8 a0_0) := (blk_cell BK484.out 0).trans rfl; have hcz9_1 : w8.cell? ⟨gb484, 1, none⟩ = some (.int .i64 a0_1) := (blk_cell BK484.out 1).trans rfl; have hcz9_2 : w8.cell? ⟨gb484, 2, none⟩ = some (.int .i64 a0_2) := (blk_cell BK484.out 2).trans rfl; have hcz9_3 : w8.cell? ⟨gb484, 3, none⟩ = some (.int .i64 a0_3) := (blk_cell BK484.out 3).trans rfl; have hcz9_4 : w8.cell? ⟨gb484, 4, none⟩ = some (.string a0_4) := (blk_cell BK484.out 4).trans rfl; have hcz9_5 : w8.cell? ⟨gb484, 5, none⟩ = some (.int .u8 a0_5) := (blk_cell BK484.out 5).trans rfl; have hcz9_6 : w8.cell? ⟨gb484, 6, none⟩ = some (.int .i64 a0_6) := (blk_cell BK484.out 6).trans rfl; have hcz9_7 : w8.cell? ⟨gb484, 7, none⟩ = some (.string a0_7) := (blk_cell BK484.out 7).trans rfl; have hfz9_0 := blk_frozen BK484.out 0; have hfz9_1 := blk_frozen BK484.out 1; have hfz9_2 := blk_frozen BK484.out 2; have hfz9_3 := blk_frozen BK484.out 3; have hfz9_4 := blk_frozen BK484.out 4; have hfz9_5 := blk_frozen BK484.out 5; have hfz9_6 := blk_frozen BK484.out 6; have hfz9_7 := blk_frozen BK484.out 7))
        go_ret
        exact ⟨by first | rfl | (simp [errW_none, errW_some] <;> rfl) | (simp [*, errW_none, errW_some] <;> rfl), by repeat (first | (with_reducible first | exact HB.out | apply below_alloc | apply pw_below_drewN | apply below_drew1 | refine below_set ?_ GE484.out) | exact HB.out)⟩
      · rw [if_neg c7] at H
        have c7b0 : (a0_0 == 4) = false := beq_eq_false_iff_ne.mpr c7
        have c7b1 : (a0_0 != 4) = true := bne_iff_ne.mpr c7
        obtain rfl := Option.some.inj H
        go_enter Try.func52, Try.ntmps52
        go_wp2_with (first | ((with_reducible refine gate_dst (N := 2) rfl ?_); refine box_event ?hg (N := 2) ?hd (cs := #[.int .u8 a0_0, .int .i64 a0_1, .int .i64 a0_2, .int .i64 a0_3, .string a0_4, .int .u8 a0_5, .int .i64 a0_6, .string a0_7]) (t := 39) ?hr ?_; (case hd => rfl); (case hg => rfl); (case hr => first | (go_simp; done) | (go_simp; rfl)); intro gb484 hg w10 hbox hb; have n0_ := Aside0.mk (below_step (by repeat (first | (with_reducible first | exact HB.out | apply below_alloc | apply pw_below_drewN | apply below_drew1) | exact HB.out)) hb); have n1_ := Aside0.mk (hbox); have n2_ := Aside0.mk ((by rw [hg]; exact (below_size (by repeat (first | (with_reducible first | exact HB.out | apply below_alloc | apply pw_below_drewN | apply below_drew1) | exact HB.out))) : w.heap.size ≤ gb484)); have n3_ := Aside0.mk ((by rw [hg]; exact (below_size (by repeat (first | (with_reducible first | exact HB.out | apply below_alloc | apply pw_below_drewN | apply below_drew1) | exact HB.out))) : w.heap.size ≤ gb484)); clear HB; have HB := n0_; have BK484 := n1_; have GW484 := n2_; have GE484 := n3_; clear n0_ n1_ n2_ n3_; clear hb hbox hg; have hcz11_0 : w10.cell? ⟨gb484, 0, none⟩ = some (.int .u8 a0_0) := (blk_cell BK484.out 0).trans rfl; have hcz11_1 : w10.cell? ⟨gb484, 1, none⟩ = some (.int .i64 a0_1) := (blk_cell BK484.out 1).trans rfl; have hcz11_2 : w10.cell? ⟨gb484, 2, none⟩ = some (.int .i64 a0_2) := (blk_cell BK484.out 2).trans rfl; have hcz11_3 : w10.cell? ⟨gb484, 3, none⟩ = some (.int .i64 a0_3) := (blk_cell BK484.out 3).trans rfl; have hcz11_4 : w10.cell? ⟨gb484, 4, none⟩ = some (.string a0_4) := (blk_cell BK484.out 4).trans rfl; have hcz11_5 : w10.cell? ⟨gb484, 5, none⟩ = some (.int .u8 a0_5) := (blk_cell BK484.out 5).trans rfl; have hcz11_6 : w10.cell? ⟨gb484, 6, none⟩ = some (.int .i64 a0_6) := (blk_cell BK484.out 6).trans rfl; have hcz11_7 : w10.cell? ⟨gb484, 7, none⟩ = some (.string a0_7) := (blk_cell BK484.out 7).trans rfl; have hfz11_0 := blk_frozen BK484.out 0; have hfz11_1 := blk_frozen BK484.out 1; have hfz11_2 := blk_frozen BK484.out 2; have hfz11_3 := blk_frozen BK484.out 3; have hfz11_4 := blk_frozen BK484.out 4; have hfz11_5 := blk_frozen BK484.out 5; have hfz11_6 := blk_frozen BK484.out 6; have hfz11_7 := blk_frozen BK484.out 7))
        go_ret
        exact ⟨by first | rfl | (simp [errW_none, errW_some] <;> rfl) | (simp [*, errW_none, errW_some] <;> rfl), by repeat (first | (with_reducible first | exact HB.out | apply below_alloc | apply pw_below_drewN | apply below_drew1 | refine below_set ?_ GE484.out) | exact HB.out)⟩
  · rw [if_neg c3] at H
    have c3b0 : (a0_0 == 2) = false := beq_eq_false_iff_ne.mpr c3
    have c3b1 : (a0_0 != 2) = true := bne_iff_ne.mpr c3
    by_cases c12 : a0_0 = 3
    · rw [if_pos c12] at H
      have c12b0 : (a0_0 == 3) = true := beq_iff_eq.mpr c12
      have c12b1 : (a0_0 != 3) = false := bne_eq_false_iff_eq.mpr c12
      clear c12
      by_cases c13 : a0_2 = a1
      · rw [if_pos c13] at H
        have c13b0 : (a0_2 == a1) = true := beq_iff_eq.mpr c13
        have c13b1 : (a0_2 != a1) = false := bne_eq_false_iff_eq.mpr c13
        clear c13
        obtain rfl := Option.some.inj H
        go_enter Try.func52, Try.ntmps52
        go_wp2_with (first | ((with_reducible refine gate_dst (N := 2) rfl ?_); refine box_event ?hg (N := 2) ?hd (cs := #[.int .u8 a0_0, .int .i64 a0_1, .int .i64 a0_2, .int .i64 a0_3, .string a0_4, .int .u8 a0_5, .int .i64 a0_6, .string a0_7]) (t := 39) ?hr ?_; (case hd => rfl); (case hg => rfl); (case hr => first | (go_simp; done) | (go_simp; rfl)); intro gb484 hg w14 hbox hb; have n0_ := Aside0.mk (below_step (by repeat (first | (with_reducible first | exact HB.out | apply below_alloc | apply pw_below_drewN | apply below_drew1) | exact HB.out)) hb); have n1_ := Aside0.mk (hbox); have n2_ := Aside0.mk ((by rw [hg]; exact (below_size (by repeat (first | (with_reducible first | exact HB.out | apply below_alloc | apply pw_below_drewN | apply below_drew1) | exact HB.out))) : w.heap.size ≤ gb484)); have n3_ := Aside0.mk ((by rw [hg]; exact (below_size (by repeat (first | (with_reducible first | exact HB.out | apply below_alloc | apply pw_below_drewN | apply below_drew1) | exact HB.out))) : w.heap.size ≤ gb484)); clear HB; have HB := n0_; have BK484 := n1_; have GW484 := n2_; have GE484 := n3_; clear n0_ n1_ n2_ n3_; clear hb hbox hg; have hcz15_0 : w14.cell? ⟨gb484, 0, none⟩ = some (.int .u8 a0_0) := (blk_cell BK484.out 0).trans rfl; have hcz15_1 : w14.cell? ⟨gb484, 1, none⟩ = some (.int .i64 a0_1) := (blk_cell BK484.out 1).trans rfl; have hcz15_2 : w14.cell? ⟨gb484, 2, none⟩ = some (.int .i64 a0_2) := (blk_cell BK484.out 2).trans rfl; have hcz15_3 : w14.cell? ⟨gb484, 3, none⟩ = some (.int .i64 a0_3) := (blk_cell BK484.out 3).trans rfl; have hcz15_4 : w14.cell? ⟨gb484, 4, none⟩ = some (.string a0_4) := (blk_cell BK484.out 4).trans rfl; have hcz15_5 : w14.cell? ⟨gb484, 5, none⟩ = some (.int .u8 a0_5) := (blk_cell BK484.out 5).trans rfl; have hcz15_6 : w14.cell? ⟨gb484, 6, none⟩ = some (.int .i64 a0_6) := (blk_cell BK484.out 6).trans rfl; have hcz15_7 : w14.cell? ⟨gb484, 7, none⟩ = some (.string a0_7) := (blk_cell BK484.out 7).trans rfl; have hfz15_0 := blk_frozen BK484.out 0; have hfz15_1 := blk_frozen BK484.out 1; have hfz15_2 := blk_frozen BK484.out 2; have hfz15_3 := blk_frozen BK484.out 3; have hfz15_4 := blk_frozen BK484.out 4; have hfz15_5 := blk_frozen BK484.out 5; have hfz15_6 := blk_frozen BK484.out 6; have hfz15_7 := blk_frozen BK484.out 7))
        go_ret
        exact ⟨by first | rfl | (simp [errW_none, errW_some] <;> rfl) | (simp [*, errW_none, errW_some] <;> rfl), by repeat (first | (with_reducible first | exact HB.out | apply below_alloc | apply pw_below_drewN | apply below_drew1 | refine below_set ?_ GE484.out) | exact HB.out)⟩
      · rw [if_neg c13] at H
        have c13b0 : (a0_2 == a1) = false := beq_eq_false_iff_ne.mpr c13
        have c13b1 : (a0_2 != a1) = true := bne_iff_ne.mpr c13
        by_cases c16 : a0_0 = 4
        · rw [if_pos c16] at H
          have c16b0 : (a0_0 == 4) = true := beq_iff_eq.mpr c16
          have c16b1 : (a0_0 != 4) = false := bne_eq_false_iff_eq.mpr c16
          clear c16
          obtain rfl := Option.some.inj H
          go_enter Try.func52, Try.ntmps52
          go_wp2_with (first | ((with_reducible refine gate_dst (N := 2) rfl ?_); refine box_event ?hg (N := 2) ?hd (cs := #[.int .u8 a0_0, .int .i64 a0_1, .int .i64 a0_2, .int .i64 a0_3, .string a0_4, .int .u8 a0_5, .int .i64 a0_6, .string a0_7]) (t := 39) ?hr ?_; (case hd => rfl); (case hg => rfl); (case hr => first | (go_simp; done) | (go_simp; rfl)); intro gb484 hg w17 hbox hb; have n0_ := Aside0.mk (below_step (by repeat (first | (with_reducible first | exact HB.out | apply below_alloc | apply pw_below_drewN | apply below_drew1) | exact HB.out)) hb); have n1_ := Aside0.mk (hbox); have n2_ := Aside0.mk ((by rw [hg]; exact (below_size (by repeat (first | (with_reducible first | exact HB.out | apply below_alloc | apply pw_below_drewN | apply below_drew1) | exact HB.out))) : w.heap.size ≤ gb484)); have n3_ := Aside0.mk ((by rw [hg]; exact (below_size (by repeat (first | (with_reducible first | exact HB.out | apply below_alloc | apply pw_below_drewN | apply below_drew1) | exact HB.out))) : w.heap.size ≤ gb484)); clear HB; have HB := n0_; have BK484 := n1_; have GW484 := n2_; have GE484 := n3_; clear n0_ n1_ n2_ n3_; clear hb hbox hg; have hcz18_0 : w17.cell? ⟨gb484, 0, none⟩ = some (.int .u8 a0_0) := (blk_cell BK484.out 0).trans rfl; have hcz18_1 : w17.cell? ⟨gb484, 1, none⟩ = some (.int .i64 a0_1) := (blk_cell BK484.out 1).trans rfl; have hcz18_2 : w17.cell? ⟨gb484, 2, none⟩ = some (.int .i64 a0_2) := (blk_cell BK484.out 2).trans rfl; have hcz18_3 : w17.cell? ⟨gb484, 3, none⟩ = some (.int .i64 a0_3) := (blk_cell BK484.out 3).trans rfl; have hcz18_4 : w17.cell? ⟨gb484, 4, none⟩ = some (.string a0_4) := (blk_cell BK484.out 4).trans rfl; have hcz18_5 : w17.cell? ⟨gb484, 5, none⟩ = some (.int .u8 a0_5) := (blk_cell BK484.out 5).trans rfl; have hcz18_6 : w17.cell? ⟨gb484, 6, none⟩ = some (.int .i64 a0_6) := (blk_cell BK484.out 6).trans rfl; have hcz18_7 : w17.cell? ⟨gb484, 7, none⟩ = some (.string a0_7) := (blk_cell BK484.out 7).trans rfl; have hfz18_0 := blk_frozen BK484.out 0; have hfz18_1 := blk_frozen BK484.out 1; have hfz18_2 := blk_frozen BK484.out 2; have hfz18_3 := blk_frozen BK484.out 3; have hfz18_4 := blk_frozen BK484.out 4; have hfz18_5 := blk_frozen BK484.out 5; have hfz18_6 := blk_frozen BK484.out 6; have hfz18_7 := blk_frozen BK484.out 7))
          go_ret
          exact ⟨by first | rfl | (simp [errW_none, errW_some] <;> rfl) | (simp [*, errW_none, errW_some] <;> rfl), by repeat (first | (with_reducible first | exact HB.out | apply below_alloc | apply pw_below_drewN | apply below_drew1 | refine below_set ?_ GE484.out) | exact HB.out)⟩
        · rw [if_neg c16] at H
          have c16b0 : (a0_0 == 4) = false := beq_eq_false_iff_ne.mpr c16
          have c16b1 : (a0_0 != 4) = true := bne_iff_ne.mpr c16
          obtain rfl := Option.some.inj H
          go_enter Try.func52, Try.ntmps52
          go_wp2_with (first | ((with_reducible refine gate_dst (N := 2) rfl ?_); refine box_event ?hg (N := 2) ?hd (cs := #[.int .u8 a0_0, .int .i64 a0_1, .int .i64 a0_2, .int .i64 a0_3, .string a0_4, .int .u8 a0_5, .int .i64 a0_6, .string a0_7]) (t := 39) ?hr ?_; (case hd => rfl); (case hg => rfl); (case hr => first | (go_simp; done) | (go_simp; rfl)); intro gb484 hg w19 hbox hb; have n0_ := Aside0.mk (below_step (by repeat (first | (with_reducible first | exact HB.out | apply below_alloc | apply pw_below_drewN | apply below_drew1) | exact HB.out)) hb); have n1_ := Aside0.mk (hbox); have n2_ := Aside0.mk ((by rw [hg]; exact (below_size (by repeat (first | (with_reducible first | exact HB.out | apply below_alloc | apply pw_below_drewN | apply below_drew1) | exact HB.out))) : w.heap.size ≤ gb484)); have n3_ := Aside0.mk ((by rw [hg]; exact (below_size (by repeat (first | (with_reducible first | exact HB.out | apply below_alloc | apply pw_below_drewN | apply below_drew1) | exact HB.out))) : w.heap.size ≤ gb484)); clear HB; have HB := n0_; have BK484 := n1_; have GW484 := n2_; have GE484 := n3_; clear n0_ n1_ n2_ n3_; clear hb hbox hg; have hcz20_0 : w19.cell? ⟨gb484, 0, none⟩ = some (.int .u8 a0_0) := (blk_cell BK484.out 0).trans rfl; have hcz20_1 : w19.cell? ⟨gb484, 1, none⟩ = some (.int .i64 a0_1) := (blk_cell BK484.out 1).trans rfl; have hcz20_2 : w19.cell? ⟨gb484, 2, none⟩ = some (.int .i64 a0_2) := (blk_cell BK484.out 2).trans rfl; have hcz20_3 : w19.cell? ⟨gb484, 3, none⟩ = some (.int .i64 a0_3) := (blk_cell BK484.out 3).trans rfl; have hcz20_4 : w19.cell? ⟨gb484, 4, none⟩ = some (.string a0_4) := (blk_cell BK484.out 4).trans rfl; have hcz20_5 : w19.cell? ⟨gb484, 5, none⟩ = some (.int .u8 a0_5) := (blk_cell BK484.out 5).trans rfl; have hcz20_6 : w19.cell? ⟨gb484, 6, none⟩ = some (.int .i64 a0_6) := (blk_cell BK484.out 6).trans rfl; have hcz20_7 : w19.cell? ⟨gb484, 7, none⟩ = some (.string a0_7) := (blk_cell BK484.out 7).trans rfl; have hfz20_0 := blk_frozen BK484.out 0; have hfz20_1 := blk_frozen BK484.out 1; have hfz20_2 := blk_frozen BK484.out 2; have hfz20_3 := blk_frozen BK484.out 3; have hfz20_4 := blk_frozen BK484.out 4; have hfz20_5 := blk_frozen BK484.out 5; have hfz20_6 := blk_frozen BK484.out 6; have hfz20_7 := blk_frozen BK484.out 7))
          go_ret
          exact ⟨by first | rfl | (simp [errW_none, errW_some] <;> rfl) | (simp [*, errW_none, errW_some] <;> rfl), by repeat (first | (with_reducible first | exact HB.out | apply below_alloc | apply pw_below_drewN | apply below_drew1 | refine below_set ?_ GE484.out) | exact HB.out)⟩
    · rw [if_neg c12] at H
      have c12b0 : (a0_0 == 3) = false := beq_eq_false_iff_ne.mpr c12
      have c12b1 : (a0_0 != 3) = true := bne_iff_ne.mpr c12
      by_cases c21 : a0_0 = 4
      · rw [if_pos c21] at H
        have c21b0 : (a0_0 == 4) = true := beq_iff_eq.mpr c21
        have c21b1 : (a0_0 != 4) = false := bne_eq_false_iff_eq.mpr c21
        clear c21
        by_cases c22 : a0_2 = a1
        · rw [if_pos c22] at H
          have c22b0 : (a0_2 == a1) = true := beq_iff_eq.mpr c22
          have c22b1 : (a0_2 != a1) = false := bne_eq_false_iff_eq.mpr c22
          clear c22
          obtain rfl := Option.some.inj H
          go_enter Try.func52, Try.ntmps52
          go_wp2_with (first | ((with_reducible refine gate_dst (N := 2) rfl ?_); refine box_event ?hg (N := 2) ?hd (cs := #[.int .u8 a0_0, .int .i64 a0_1, .int .i64 a0_2, .int .i64 a0_3, .string a0_4, .int .u8 a0_5, .int .i64 a0_6, .string a0_7]) (t := 39) ?hr ?_; (case hd => rfl); (case hg => rfl); (case hr => first | (go_simp; done) | (go_simp; rfl)); intro gb484 hg w23 hbox hb; have n0_ := Aside0.mk (below_step (by repeat (first | (with_reducible first | exact HB.out | apply below_alloc | apply pw_below_drewN | apply below_drew1) | exact HB.out)) hb); have n1_ := Aside0.mk (hbox); have n2_ := Aside0.mk ((by rw [hg]; exact (below_size (by repeat (first | (with_reducible first | exact HB.out | apply below_alloc | apply pw_below_drewN | apply below_drew1) | exact HB.out))) : w.heap.size ≤ gb484)); have n3_ := Aside0.mk ((by rw [hg]; exact (below_size (by repeat (first | (with_reducible first | exact HB.out | apply below_alloc | apply pw_below_drewN | apply below_drew1) | exact HB.out))) : w.heap.size ≤ gb484)); clear HB; have HB := n0_; have BK484 := n1_; have GW484 := n2_; have GE484 := n3_; clear n0_ n1_ n2_ n3_; clear hb hbox hg; have hcz24_0 : w23.cell? ⟨gb484, 0, none⟩ = some (.int .u8 a0_0) := (blk_cell BK484.out 0).trans rfl; have hcz24_1 : w23.cell? ⟨gb484, 1, none⟩ = some (.int .i64 a0_1) := (blk_cell BK484.out 1).trans rfl; have hcz24_2 : w23.cell? ⟨gb484, 2, none⟩ = some (.int .i64 a0_2) := (blk_cell BK484.out 2).trans rfl; have hcz24_3 : w23.cell? ⟨gb484, 3, none⟩ = some (.int .i64 a0_3) := (blk_cell BK484.out 3).trans rfl; have hcz24_4 : w23.cell? ⟨gb484, 4, none⟩ = some (.string a0_4) := (blk_cell BK484.out 4).trans rfl; have hcz24_5 : w23.cell? ⟨gb484, 5, none⟩ = some (.int .u8 a0_5) := (blk_cell BK484.out 5).trans rfl; have hcz24_6 : w23.cell? ⟨gb484, 6, none⟩ = some (.int .i64 a0_6) := (blk_cell BK484.out 6).trans rfl; have hcz24_7 : w23.cell? ⟨gb484, 7, none⟩ = some (.string a0_7) := (blk_cell BK484.out 7).trans rfl; have hfz24_0 := blk_frozen BK484.out 0; have hfz24_1 := blk_frozen BK484.out 1; have hfz24_2 := blk_frozen BK484.out 2; have hfz24_3 := blk_frozen BK484.out 3; have hfz24_4 := blk_frozen BK484.out 4; have hfz24_5 := blk_frozen BK484.out 5; have hfz24_6 := blk_frozen BK484.out 6; have hfz24_7 := blk_frozen BK484.out 7))
          go_ret
          exact ⟨by first | rfl | (simp [errW_none, errW_some] <;> rfl) | (simp [*, errW_none, errW_some] <;> rfl), by repeat (first | (with_reducible first | exact HB.out | apply below_alloc | apply pw_below_drewN | apply below_drew1 | refine below_set ?_ GE484.out) | exact HB.out)⟩
        · rw [if_neg c22] at H
          have c22b0 : (a0_2 == a1) = false := beq_eq_false_iff_ne.mpr c22
          have c22b1 : (a0_2 != a1) = true := bne_iff_ne.mpr c22
          obtain rfl := Option.some.inj H
          go_enter Try.func52, Try.ntmps52
          go_wp2_with (first | ((with_reducible refine gate_dst (N := 2) rfl ?_); refine box_event ?hg (N := 2) ?hd (cs := #[.int .u8 a0_0, .int .i64 a0_1, .int .i64 a0_2, .int .i64 a0_3, .string a0_4, .int .u8 a0_5, .int .i64 a0_6, .string a0_7]) (t := 39) ?hr ?_; (case hd => rfl); (case hg => rfl); (case hr => first | (go_simp; done) | (go_simp; rfl)); intro gb484 hg w25 hbox hb; have n0_ := Aside0.mk (below_step (by repeat (first | (with_reducible first | exact HB.out | apply below_alloc | apply pw_below_drewN | apply below_drew1) | exact HB.out)) hb); have n1_ := Aside0.mk (hbox); have n2_ := Aside0.mk ((by rw [hg]; exact (below_size (by repeat (first | (with_reducible first | exact HB.out | apply below_alloc | apply pw_below_drewN | apply below_drew1) | exact HB.out))) : w.heap.size ≤ gb484)); have n3_ := Aside0.mk ((by rw [hg]; exact (below_size (by repeat (first | (with_reducible first | exact HB.out | apply below_alloc | apply pw_below_drewN | apply below_drew1) | exact HB.out))) : w.heap.size ≤ gb484)); clear HB; have HB := n0_; have BK484 := n1_; have GW484 := n2_; have GE484 := n3_; clear n0_ n1_ n2_ n3_; clear hb hbox hg; have hcz26_0 : w25.cell? ⟨gb484, 0, none⟩ = some (.int .u8 a0_0) := (blk_cell BK484.out 0).trans rfl; have hcz26_1 : w25.cell? ⟨gb484, 1, none⟩ = some (.int .i64 a0_1) := (blk_cell BK484.out 1).trans rfl; have hcz26_2 : w25.cell? ⟨gb484, 2, none⟩ = some (.int .i64 a0_2) := (blk_cell BK484.out 2).trans rfl; have hcz26_3 : w25.cell? ⟨gb484, 3, none⟩ = some (.int .i64 a0_3) := (blk_cell BK484.out 3).trans rfl; have hcz26_4 : w25.cell? ⟨gb484, 4, none⟩ = some (.string a0_4) := (blk_cell BK484.out 4).trans rfl; have hcz26_5 : w25.cell? ⟨gb484, 5, none⟩ = some (.int .u8 a0_5) := (blk_cell BK484.out 5).trans rfl; have hcz26_6 : w25.cell? ⟨gb484, 6, none⟩ = some (.int .i64 a0_6) := (blk_cell BK484.out 6).trans rfl; have hcz26_7 : w25.cell? ⟨gb484, 7, none⟩ = some (.string a0_7) := (blk_cell BK484.out 7).trans rfl; have hfz26_0 := blk_frozen BK484.out 0; have hfz26_1 := blk_frozen BK484.out 1; have hfz26_2 := blk_frozen BK484.out 2; have hfz26_3 := blk_frozen BK484.out 3; have hfz26_4 := blk_frozen BK484.out 4; have hfz26_5 := blk_frozen BK484.out 5; have hfz26_6 := blk_frozen BK484.out 6; have hfz26_7 := blk_frozen BK484.out 7))
          go_ret
          exact ⟨by first | rfl | (simp [errW_none, errW_some] <;> rfl) | (simp [*, errW_none, errW_some] <;> rfl), by repeat (first | (with_reducible first | exact HB.out | apply below_alloc | apply pw_below_drewN | apply below_drew1 | refine below_set ?_ GE484.out) | exact HB.out)⟩
      · rw [if_neg c21] at H
        have c21b0 : (a0_0 == 4) = false := beq_eq_false_iff_ne.mpr c21
        have c21b1 : (a0_0 != 4) = true := bne_iff_ne.mpr c21
        by_cases c27 : a0_0 = 8
        · rw [if_pos c27] at H
          have c27b0 : (a0_0 == 8) = true := beq_iff_eq.mpr c27
          have c27b1 : (a0_0 != 8) = false := bne_eq_false_iff_eq.mpr c27
          clear c27
          by_cases c28 : a0_2 = a1
          · rw [if_pos c28] at H
            have c28b0 : (a0_2 == a1) = true := beq_iff_eq.mpr c28
            have c28b1 : (a0_2 != a1) = false := bne_eq_false_iff_eq.mpr c28
            clear c28
            obtain rfl := Option.some.inj H
            go_enter Try.func52, Try.ntmps52
            go_wp2_with (first | ((with_reducible refine gate_dst (N := 2) rfl ?_); refine box_event ?hg (N := 2) ?hd (cs := #[.int .u8 a0_0, .int .i64 a0_1, .int .i64 a0_2, .int .i64 a0_3, .string a0_4, .int .u8 a0_5, .int .i64 a0_6, .string a0_7]) (t := 39) ?hr ?_; (case hd => rfl); (case hg => rfl); (case hr => first | (go_simp; done) | (go_simp; rfl)); intro gb484 hg w29 hbox hb; have n0_ := Aside0.mk (below_step (by repeat (first | (with_reducible first | exact HB.out | apply below_alloc | apply pw_below_drewN | apply below_drew1) | exact HB.out)) hb); have n1_ := Aside0.mk (hbox); have n2_ := Aside0.mk ((by rw [hg]; exact (below_size (by repeat (first | (with_reducible first | exact HB.out | apply below_alloc | apply pw_below_drewN | apply below_drew1) | exact HB.out))) : w.heap.size ≤ gb484)); have n3_ := Aside0.mk ((by rw [hg]; exact (below_size (by repeat (first | (with_reducible first | exact HB.out | apply below_alloc | apply pw_below_drewN | apply below_drew1) | exact HB.out))) : w.heap.size ≤ gb484)); clear HB; have HB := n0_; have BK484 := n1_; have GW484 := n2_; have GE484 := n3_; clear n0_ n1_ n2_ n3_; clear hb hbox hg; have hcz30_0 : w29.cell? ⟨gb484, 0, none⟩ = some (.int .u8 a0_0) := (blk_cell BK484.out 0).trans rfl; have hcz30_1 : w29.cell? ⟨gb484, 1, none⟩ = some (.int .i64 a0_1) := (blk_cell BK484.out 1).trans rfl; have hcz30_2 : w29.cell? ⟨gb484, 2, none⟩ = some (.int .i64 a0_2) := (blk_cell BK484.out 2).trans rfl; have hcz30_3 : w29.cell? ⟨gb484, 3, none⟩ = some (.int .i64 a0_3) := (blk_cell BK484.out 3).trans rfl; have hcz30_4 : w29.cell? ⟨gb484, 4, none⟩ = some (.string a0_4) := (blk_cell BK484.out 4).trans rfl; have hcz30_5 : w29.cell? ⟨gb484, 5, none⟩ = some (.int .u8 a0_5) := (blk_cell BK484.out 5).trans rfl; have hcz30_6 : w29.cell? ⟨gb484, 6, none⟩ = some (.int .i64 a0_6) := (blk_cell BK484.out 6).trans rfl; have hcz30_7 : w29.cell? ⟨gb484, 7, none⟩ = some (.string a0_7) := (blk_cell BK484.out 7).trans rfl; have hfz30_0 := blk_frozen BK484.out 0; have hfz30_1 := blk_frozen BK484.out 1; have hfz30_2 := blk_frozen BK484.out 2; have hfz30_3 := blk_frozen BK484.out 3; have hfz30_4 := blk_frozen BK484.out 4; have hfz30_5 := blk_frozen BK484.out 5; have hfz30_6 := blk_frozen BK484.out 6; have hfz30_7 := blk_frozen BK484.out 7))
            go_ret
            exact ⟨by first | rfl | (simp [errW_none, errW_some] <;> rfl) | (simp [*, errW_none, errW_some] <;> rfl), by repeat (first | (with_reducible first | exact HB.out | apply below_alloc | apply pw_below_drewN | apply below_drew1 | refine below_set ?_ GE484.out) | exact HB.out)⟩
          · rw [if_neg c28] at H
            have c28b0 : (a0_2 == a1) = false := beq_eq_false_iff_ne.mpr c28
            have c28b1 : (a0_2 != a1) = true := bne_iff_ne.mpr c28
            obtain rfl := Option.some.inj H
            go_enter Try.func52, Try.ntmps52
            go_wp2_with (first | ((with_reducible refine gate_dst (N := 2) rfl ?_); refine box_event ?hg (N := 2) ?hd (cs := #[.int .u8 a0_0, .int .i64 a0_1, .int .i64 a0_2, .int .i64 a0_3, .string a0_4, .int .u8 a0_5, .int .i64 a0_6, .string a0_7]) (t := 39) ?hr ?_; (case hd => rfl); (case hg => rfl); (case hr => first | (go_simp; done) | (go_simp; rfl)); intro gb484 hg w31 hbox hb; have n0_ := Aside0.mk (below_step (by repeat (first | (with_reducible first | exact HB.out | apply below_alloc | apply pw_below_drewN | apply below_drew1) | exact HB.out)) hb); have n1_ := Aside0.mk (hbox); have n2_ := Aside0.mk ((by rw [hg]; exact (below_size (by repeat (first | (with_reducible first | exact HB.out | apply below_alloc | apply pw_below_drewN | apply below_drew1) | exact HB.out))) : w.heap.size ≤ gb484)); have n3_ := Aside0.mk ((by rw [hg]; exact (below_size (by repeat (first | (with_reducible first | exact HB.out | apply below_alloc | apply pw_below_drewN | apply below_drew1) | exact HB.out))) : w.heap.size ≤ gb484)); clear HB; have HB := n0_; have BK484 := n1_; have GW484 := n2_; have GE484 := n3_; clear n0_ n1_ n2_ n3_; clear hb hbox hg; have hcz32_0 : w31.cell? ⟨gb484, 0, none⟩ = some (.int .u8 a0_0) := (blk_cell BK484.out 0).trans rfl; have hcz32_1 : w31.cell? ⟨gb484, 1, none⟩ = some (.int .i64 a0_1) := (blk_cell BK484.out 1).trans rfl; have hcz32_2 : w31.cell? ⟨gb484, 2, none⟩ = some (.int .i64 a0_2) := (blk_cell BK484.out 2).trans rfl; have hcz32_3 : w31.cell? ⟨gb484, 3, none⟩ = some (.int .i64 a0_3) := (blk_cell BK484.out 3).trans rfl; have hcz32_4 : w31.cell? ⟨gb484, 4, none⟩ = some (.string a0_4) := (blk_cell BK484.out 4).trans rfl; have hcz32_5 : w31.cell? ⟨gb484, 5, none⟩ = some (.int .u8 a0_5) := (blk_cell BK484.out 5).trans rfl; have hcz32_6 : w31.cell? ⟨gb484, 6, none⟩ = some (.int .i64 a0_6) := (blk_cell BK484.out 6).trans rfl; have hcz32_7 : w31.cell? ⟨gb484, 7, none⟩ = some (.string a0_7) := (blk_cell BK484.out 7).trans rfl; have hfz32_0 := blk_frozen BK484.out 0; have hfz32_1 := blk_frozen BK484.out 1; have hfz32_2 := blk_frozen BK484.out 2; have hfz32_3 := blk_frozen BK484.out 3; have hfz32_4 := blk_frozen BK484.out 4; have hfz32_5 := blk_frozen BK484.out 5; have hfz32_6 := blk_frozen BK484.out 6; have hfz32_7 := blk_frozen BK484.out 7))
            go_ret
            exact ⟨by first | rfl | (simp [errW_none, errW_some] <;> rfl) | (simp [*, errW_none, errW_some] <;> rfl), by repeat (first | (with_reducible first | exact HB.out | apply below_alloc | apply pw_below_drewN | apply below_drew1 | refine below_set ?_ GE484.out) | exact HB.out)⟩
        · rw [if_neg c27] at H
          have c27b0 : (a0_0 == 8) = false := beq_eq_false_iff_ne.mpr c27
          have c27b1 : (a0_0 != 8) = true := bne_iff_ne.mpr c27
          obtain rfl := Option.some.inj H
          go_enter Try.func52, Try.ntmps52
          go_wp2_with (first | ((with_reducible refine gate_dst (N := 2) rfl ?_); refine box_event ?hg (N := 2) ?hd (cs := #[.int .u8 a0_0, .int .i64 a0_1, .int .i64 a0_2, .int .i64 a0_3, .string a0_4, .int .u8 a0_5, .int .i64 a0_6, .string a0_7]) (t := 39) ?hr ?_; (case hd => rfl); (case hg => rfl); (case hr => first | (go_simp; done) | (go_simp; rfl)); intro gb484 hg w33 hbox hb; have n0_ := Aside0.mk (below_step (by repeat (first | (with_reducible first | exact HB.out | apply below_alloc | apply pw_below_drewN | apply below_drew1) | exact HB.out)) hb); have n1_ := Aside0.mk (hbox); have n2_ := Aside0.mk ((by rw [hg]; exact (below_size (by repeat (first | (with_reducible first | exact HB.out | apply below_alloc | apply pw_below_drewN | apply below_drew1) | exact HB.out))) : w.heap.size ≤ gb484)); have n3_ := Aside0.mk ((by rw [hg]; exact (below_size (by repeat (first | (with_reducible first | exact HB.out | apply below_alloc | apply pw_below_drewN | apply below_drew1) | exact HB.out))) : w.heap.size ≤ gb484)); clear HB; have HB := n0_; have BK484 := n1_; have GW484 := n2_; have GE484 := n3_; clear n0_ n1_ n2_ n3_; clear hb hbox hg; have hcz34_0 : w33.cell? ⟨gb484, 0, none⟩ = some (.int .u8 a0_0) := (blk_cell BK484.out 0).trans rfl; have hcz34_1 : w33.cell? ⟨gb484, 1, none⟩ = some (.int .i64 a0_1) := (blk_cell BK484.out 1).trans rfl; have hcz34_2 : w33.cell? ⟨gb484, 2, none⟩ = some (.int .i64 a0_2) := (blk_cell BK484.out 2).trans rfl; have hcz34_3 : w33.cell? ⟨gb484, 3, none⟩ = some (.int .i64 a0_3) := (blk_cell BK484.out 3).trans rfl; have hcz34_4 : w33.cell? ⟨gb484, 4, none⟩ = some (.string a0_4) := (blk_cell BK484.out 4).trans rfl; have hcz34_5 : w33.cell? ⟨gb484, 5, none⟩ = some (.int .u8 a0_5) := (blk_cell BK484.out 5).trans rfl; have hcz34_6 : w33.cell? ⟨gb484, 6, none⟩ = some (.int .i64 a0_6) := (blk_cell BK484.out 6).trans rfl; have hcz34_7 : w33.cell? ⟨gb484, 7, none⟩ = some (.string a0_7) := (blk_cell BK484.out 7).trans rfl; have hfz34_0 := blk_frozen BK484.out 0; have hfz34_1 := blk_frozen BK484.out 1; have hfz34_2 := blk_frozen BK484.out 2; have hfz34_3 := blk_frozen BK484.out 3; have hfz34_4 := blk_frozen BK484.out 4; have hfz34_5 := blk_frozen BK484.out 5; have hfz34_6 := blk_frozen BK484.out 6; have hfz34_7 := blk_frozen BK484.out 7))
          go_ret
          exact ⟨by first | rfl | (simp [errW_none, errW_some] <;> rfl) | (simp [*, errW_none, errW_some] <;> rfl), by repeat (first | (with_reducible first | exact HB.out | apply below_alloc | apply pw_below_drewN | apply below_drew1 | refine below_set ?_ GE484.out) | exact HB.out)⟩

/-! ### sacristanref18_among: function 53 -/
def sacristanref18_among.l0 : Nat → Int → List Int → Int → Int → Option (Bool)
  | 0, _, _, _, _ => none
  | k + 1, x0, x1, x7, x8 => if x8 < x7 then (if 0 ≤ x8 then (if x8 < (x1.length : Int) then (if (rd x1 x8) = x0 then (some true) else (sacristanref18_among.l0 k x0 x1 x7 (wrap64 (x8 + 1)))) else (none)) else (none)) else (some false)
def sacristanref18_among.f (k : Nat) (a0 : Int) (l1 : List Int) : Option (Bool) := sacristanref18_among.l0 k a0 l1 (l1.length : Int) 0
theorem sacristanref18_among.mono_l : ∀ k, (∀ y0 y1 y2 y3, LeO (sacristanref18_among.l0 k y0 y1 y2 y3) (sacristanref18_among.l0 (k + 1) y0 y1 y2 y3))
  | 0 => fun _ _ _ _ r h => by simp [sacristanref18_among.l0] at h
  | k + 1 => by
    have ih0 := sacristanref18_among.mono_l k
    · intro y0 y1 y2 y3
      unfold sacristanref18_among.l0
      repeat' first
      | (with_reducible exact ih0 _ _ _ _)
      | (with_reducible exact LeO.refl _)
      | (with_reducible exact LeO.none _)
      | (with_reducible refine LeO.ite ?_ ?_)
      | (with_reducible refine LeO.bind ?_ (fun _ => ?_))
      | exact ih0 _ _ _ _
      | exact LeO.none _
      | refine LeO.ite ?_ ?_
      | refine LeO.bind ?_ (fun _ => ?_)
theorem sacristanref18_among.mono : ∀ a0 a1 k, LeO (sacristanref18_among.f k a0 a1) (sacristanref18_among.f (k + 1) a0 a1) := by
  intro a0 a1 k
  have ih0 := sacristanref18_among.mono_l k
  unfold sacristanref18_among.f
  repeat' first
      | (with_reducible exact ih0 _ _ _ _)
      | (with_reducible exact LeO.refl _)
      | (with_reducible exact LeO.none _)
      | (with_reducible refine LeO.ite ?_ ?_)
      | (with_reducible refine LeO.bind ?_ (fun _ => ?_))
      | exact ih0 _ _ _ _
      | exact LeO.none _
      | refine LeO.ite ?_ ?_
      | refine LeO.bind ?_ (fun _ => ?_)
set_option maxHeartbeats 8000000 in
set_option maxRecDepth 100000 in
theorem sacristanref18_among.calls (k : Nat) (a0 : Int) (A1 : Option Addr) (c1 : Nat) (l1 : List Int) (r : Bool) (w : World) (hr1 : Kd.C (Kd.int .i64) w A1 l1.length l1) (hc1 : l1.length ≤ c1) (h : sacristanref18_among.f k a0 l1 = some r) :
    Calls Try.prog 53 #[.int .i64 a0, .slice A1 l1.length c1] w fun e w' => e = .returned (.bool r) ∧ Drawn0 w w' := by
  have HR1 := Aside0.mk hr1
  have HC1 := Aside0.mk hc1
  clear hr1 hc1
  have H : (sacristanref18_among.l0 k a0 l1 (l1.length : Int) 0) = some r := h
  clear h
  have H' := Aside0.mk H
  clear H
  go_enter Try.func53, Try.ntmps53
  go_wp2
  go_loopg [8] k (fun kq v8 w' => ∃ (x8_1 : Int), v8 = .int .i64 x8_1 ∧ Aside0 (sacristanref18_among.l0 kq a0 l1 (l1.length : Int) x8_1 = some r) ∧ Aside0 (kq ≤ k) ∧ Drawn0 w w')
  case atStart => exact ⟨(0), (by first | rfl | (simp; done) | (simp [*]; done)), H', ⟨Nat.le_refl _⟩, by repeat (first | exact Drawn0.refl _ | apply Drawn0.step)⟩
  case round =>
    clear H'
    try clear c1
    try clear p2
    obtain ⟨x8_1, rfl, HA, HK1, ⟨m1, rfl⟩⟩ := hrel
    cases gk with
    | zero => exact absurd HA.out (by simp [sacristanref18_among.l0])
    | succ k1 =>
      have H := HA.out
      clear HA
      simp only [sacristanref18_among.l0] at H
      by_cases c3 : x8_1 < (l1.length : Int)
      · rw [if_pos c3] at H
        have c3b0 : decide (x8_1 < (l1.length : Int)) = true := decide_eq_true c3
        clear c3
        by_cases c4 : 0 ≤ x8_1
        · rw [if_pos c4] at H
          have c4b0 : decide (0 ≤ x8_1) = true := decide_eq_true c4
          clear c4
          by_cases c5 : x8_1 < (l1.length : Int)
          · rw [if_pos c5] at H
            have c5b0 : decide (x8_1 < (l1.length : Int)) = true := decide_eq_true c5
            clear c5
            by_cases c6 : (rd l1 x8_1) = a0
            · rw [if_pos c6] at H
              have c6b0 : ((rd l1 x8_1) == a0) = true := beq_iff_eq.mpr c6
              have c6b1 : ((rd l1 x8_1) != a0) = false := bne_eq_false_iff_eq.mpr c6
              clear c6
              obtain rfl := Option.some.inj H
              have p485 : 0 ≤ (x8_1 : Int) := of_decide_eq_true (by first | (with_reducible assumption) | assumption)
              have q485 : x8_1 < (l1.length : Int) := of_decide_eq_true (by first | (with_reducible assumption) | assumption)
              obtain ⟨ad485, e485, hx485_0⟩ := Kd.at_int HR1.out x8_1 p485 q485
              cases e485
              replace p485 := eq_true p485
              replace q485 := eq_true q485
              go_wp2
              go_ret
              exact ⟨by first | rfl | (simp; done) | (simp [*]; done), by repeat (first | exact Drawn0.refl _ | apply Drawn0.step)⟩
            · rw [if_neg c6] at H
              have c6b0 : ((rd l1 x8_1) == a0) = false := beq_eq_false_iff_ne.mpr c6
              have c6b1 : ((rd l1 x8_1) != a0) = true := bne_iff_ne.mpr c6
              have H' := Aside0.mk H
              clear H
              have p485 : 0 ≤ (x8_1 : Int) := of_decide_eq_true (by first | (with_reducible assumption) | assumption)
              have q485 : x8_1 < (l1.length : Int) := of_decide_eq_true (by first | (with_reducible assumption) | assumption)
              obtain ⟨ad485, e485, hx485_0⟩ := Kd.at_int HR1.out x8_1 p485 q485
              cases e485
              replace p485 := eq_true p485
              replace q485 := eq_true q485
              go_wp2
              go_roundg k1
              case measure => have := HK1.out; omega
              case rel => exact ⟨(wrap64 (x8_1 + 1)), (by first | rfl | (simp; done) | (simp [*]; done)), H', ⟨by have := HK1.out; omega⟩, by repeat (first | exact Drawn0.refl _ | apply Drawn0.step)⟩
          · rw [if_neg c5] at H
            exact absurd H (by simp)
        · rw [if_neg c4] at H
          exact absurd H (by simp)
      · rw [if_neg c3] at H
        have c3b0 : decide (x8_1 < (l1.length : Int)) = false := decide_eq_false c3
        clear c3
        obtain rfl := Option.some.inj H
        go_wp2
        go_ret
        exact ⟨by first | rfl | (simp; done) | (simp [*]; done), by repeat (first | exact Drawn0.refl _ | apply Drawn0.step)⟩

/-! ### sacristanref18_Read: function 23 -/
mutual
def sacristanref18_Read.l0 : Nat → List (S39) → Int → Int → Int → Int → Int → Int → List (S39) → Int → List Int → List Int → Int → Int → Int → Option (Bool)
  | 0, _, _, _, _, _, _, _, _, _, _, _, _, _, _ => none
  | k + 1, x1, x2, x9, x10, x487000, x487001, x487002, x487003, x487004, x487005, x487006, x487007, x487008, x487009 => if x10 < x9 then (if 0 ≤ x10 then (if x10 < (x1.length : Int) then ((sacristanref18_reads.f ((rd_T39 x1 x10).f0) ((rd_T39 x1 x10).f1) ((rd_T39 x1 x10).f2) ((rd_T39 x1 x10).f3) ((rd_T39 x1 x10).f4) ((rd_T39 x1 x10).f5.f0) ((rd_T39 x1 x10).f5.f1) ((rd_T39 x1 x10).f5.f2) x2).bind fun t488 => (if t488 = true then (some true) else (if ((rd_T39 x1 x10).f0) = 6 then (sacristanref18_Read.j1 k x1 x2 x9 x10 false x487000 x487001 x487002 x487003 x487004 x487005 x487006 x487007 x487008 x487009) else (if ((rd_T39 x1 x10).f0) = 8 then (sacristanref18_Read.j1 k x1 x2 x9 x10 false x487000 x487001 x487002 x487003 x487004 x487005 x487006 x487007 x487008 x487009) else (sacristanref18_Read.j1 k x1 x2 x9 x10 (((rd_T39 x1 x10).f1) == x2) x487000 x487001 x487002 x487003 x487004 x487005 x487006 x487007 x487008 x487009))))) else (none)) else (none)) else (if x487007 = x2 then (some true) else ((sacristanref18_among.f k x2 x487005).bind fun t492 => (if t492 = true then (some true) else ((sacristanref18_among.f k x2 x487006).bind fun t493 => (some t493)))))
def sacristanref18_Read.j1 : Nat → List (S39) → Int → Int → Int → Bool → Int → Int → Int → List (S39) → Int → List Int → List Int → Int → Int → Int → Option (Bool)
  | 0, _, _, _, _, _, _, _, _, _, _, _, _, _, _, _ => none
  | k + 1, x1, x2, x9, x10, x41, x487000, x487001, x487002, x487003, x487004, x487005, x487006, x487007, x487008, x487009 => if x41 = true then (some false) else (sacristanref18_Read.l0 k x1 x2 x9 (wrap64 (x10 + 1)) x487000 x487001 x487002 x487003 x487004 x487005 x487006 x487007 x487008 x487009)
end
def sacristanref18_Read.f (k : Nat) (a0_0 : Int) (a0_1 : Int) (a0_2 : Int) (l0_3 : List (S39)) (a0_4 : Int) (l0_5 : List Int) (l0_6 : List Int) (a0_7 : Int) (a0_8 : Int) (a0_9 : Int) (l1 : List (S39)) (a2 : Int) : Option (Bool) := sacristanref18_Read.l0 k l1 a2 (l1.length : Int) 0 a0_0 a0_1 a0_2 l0_3 a0_4 l0_5 l0_6 a0_7 a0_8 a0_9
theorem sacristanref18_Read.mono_l : ∀ k, (∀ y0 y1 y2 y3 y4 y5 y6 y7 y8 y9 y10 y11 y12 y13, LeO (sacristanref18_Read.l0 k y0 y1 y2 y3 y4 y5 y6 y7 y8 y9 y10 y11 y12 y13) (sacristanref18_Read.l0 (k + 1) y0 y1 y2 y3 y4 y5 y6 y7 y8 y9 y10 y11 y12 y13)) ∧ (∀ y0 y1 y2 y3 y4 y5 y6 y7 y8 y9 y10 y11 y12 y13 y14, LeO (sacristanref18_Read.j1 k y0 y1 y2 y3 y4 y5 y6 y7 y8 y9 y10 y11 y12 y13 y14) (sacristanref18_Read.j1 (k + 1) y0 y1 y2 y3 y4 y5 y6 y7 y8 y9 y10 y11 y12 y13 y14))
  | 0 => ⟨fun _ _ _ _ _ _ _ _ _ _ _ _ _ _ r h => by simp [sacristanref18_Read.l0] at h, fun _ _ _ _ _ _ _ _ _ _ _ _ _ _ _ r h => by simp [sacristanref18_Read.j1] at h⟩
  | k + 1 => by
    obtain ⟨ih0, ih1⟩ := sacristanref18_Read.mono_l k
    refine ⟨?_, ?_⟩
    · intro y0 y1 y2 y3 y4 y5 y6 y7 y8 y9 y10 y11 y12 y13
      unfold sacristanref18_Read.l0
      repeat' first
      | (with_reducible exact ih0 _ _ _ _ _ _ _ _ _ _ _ _ _ _)
      | (with_reducible exact ih1 _ _ _ _ _ _ _ _ _ _ _ _ _ _ _)
      | (with_reducible exact sacristanref18_among.mono _ _ _)
      | (with_reducible exact LeO.refl _)
      | (with_reducible exact LeO.none _)
      | (with_reducible refine LeO.ite ?_ ?_)
      | (with_reducible refine LeO.bind ?_ (fun _ => ?_))
      | exact ih0 _ _ _ _ _ _ _ _ _ _ _ _ _ _
      | exact ih1 _ _ _ _ _ _ _ _ _ _ _ _ _ _ _
      | exact sacristanref18_among.mono _ _ _
      | exact LeO.none _
      | refine LeO.ite ?_ ?_
      | refine LeO.bind ?_ (fun _ => ?_)
    · intro y0 y1 y2 y3 y4 y5 y6 y7 y8 y9 y10 y11 y12 y13 y14
      unfold sacristanref18_Read.j1
      repeat' first
      | (with_reducible exact ih0 _ _ _ _ _ _ _ _ _ _ _ _ _ _)
      | (with_reducible exact ih1 _ _ _ _ _ _ _ _ _ _ _ _ _ _ _)
      | (with_reducible exact sacristanref18_among.mono _ _ _)
      | (with_reducible exact LeO.refl _)
      | (with_reducible exact LeO.none _)
      | (with_reducible refine LeO.ite ?_ ?_)
      | (with_reducible refine LeO.bind ?_ (fun _ => ?_))
      | exact ih0 _ _ _ _ _ _ _ _ _ _ _ _ _ _
      | exact ih1 _ _ _ _ _ _ _ _ _ _ _ _ _ _ _
      | exact sacristanref18_among.mono _ _ _
      | exact LeO.none _
      | refine LeO.ite ?_ ?_
      | refine LeO.bind ?_ (fun _ => ?_)
theorem sacristanref18_Read.mono : ∀ a0 a1 a2 a3 a4 a5 a6 a7 a8 a9 a10 a11 k, LeO (sacristanref18_Read.f k a0 a1 a2 a3 a4 a5 a6 a7 a8 a9 a10 a11) (sacristanref18_Read.f (k + 1) a0 a1 a2 a3 a4 a5 a6 a7 a8 a9 a10 a11) := by
  intro a0 a1 a2 a3 a4 a5 a6 a7 a8 a9 a10 a11 k
  obtain ⟨ih0, ih1⟩ := sacristanref18_Read.mono_l k
  unfold sacristanref18_Read.f
  repeat' first
      | (with_reducible exact ih0 _ _ _ _ _ _ _ _ _ _ _ _ _ _)
      | (with_reducible exact ih1 _ _ _ _ _ _ _ _ _ _ _ _ _ _ _)
      | (with_reducible exact sacristanref18_among.mono _ _ _)
      | (with_reducible exact LeO.refl _)
      | (with_reducible exact LeO.none _)
      | (with_reducible refine LeO.ite ?_ ?_)
      | (with_reducible refine LeO.bind ?_ (fun _ => ?_))
      | exact ih0 _ _ _ _ _ _ _ _ _ _ _ _ _ _
      | exact ih1 _ _ _ _ _ _ _ _ _ _ _ _ _ _ _
      | exact sacristanref18_among.mono _ _ _
      | exact LeO.none _
      | refine LeO.ite ?_ ?_
      | refine LeO.bind ?_ (fun _ => ?_)
set_option maxHeartbeats 8000000 in
set_option maxRecDepth 100000 in
theorem sacristanref18_Read.calls (k : Nat) (a0_0 : Int) (a0_1 : Int) (a0_2 : Int) (A0_3 : Option Addr) (c0_3 : Nat) (l0_3 : List (S39)) (a0_4 : Int) (A0_5 : Option Addr) (c0_5 : Nat) (l0_5 : List Int) (A0_6 : Option Addr) (c0_6 : Nat) (l0_6 : List Int) (a0_7 : Int) (a0_8 : Int) (a0_9 : Int) (A1 : Option Addr) (c1 : Nat) (l1 : List (S39)) (a2 : Int) (r : Bool) (w : World) (hr0_3 : Kd.C k39 w A0_3 l0_3.length l0_3) (hc0_3 : l0_3.length ≤ c0_3) (hr0_5 : Kd.C (Kd.int .i64) w A0_5 l0_5.length l0_5) (hc0_5 : l0_5.length ≤ c0_5) (hr0_6 : Kd.C (Kd.int .i64) w A0_6 l0_6.length l0_6) (hc0_6 : l0_6.length ≤ c0_6) (hr1 : Kd.C k39 w A1 l1.length l1) (hc1 : l1.length ≤ c1) (h : sacristanref18_Read.f k a0_0 a0_1 a0_2 l0_3 a0_4 l0_5 l0_6 a0_7 a0_8 a0_9 l1 a2 = some r) :
    Calls Try.prog 23 #[.agg #[.int .i64 a0_0, .int .i64 a0_1, .int .i64 a0_2, .slice A0_3 l0_3.length c0_3, .int .i64 a0_4, .slice A0_5 l0_5.length c0_5, .slice A0_6 l0_6.length c0_6, .int .i64 a0_7, .int .i64 a0_8, .int .i64 a0_9], .slice A1 l1.length c1, .int .i64 a2] w fun e w' => e = .returned (.bool r) ∧ Below w.heap.size w w' := by
  have hu25 := Try.underlying25
  have hu39 := Try.underlying39
  have HR0_3 := Aside0.mk hr0_3
  have HC0_3 := Aside0.mk hc0_3
  clear hr0_3 hc0_3
  have HR0_5 := Aside0.mk hr0_5
  have HC0_5 := Aside0.mk hc0_5
  clear hr0_5 hc0_5
  have HR0_6 := Aside0.mk hr0_6
  have HC0_6 := Aside0.mk hc0_6
  clear hr0_6 hc0_6
  have HR1 := Aside0.mk hr1
  have HC1 := Aside0.mk hc1
  clear hr1 hc1
  have HB := Aside0.mk (Below.refl w.heap.size w)
  have H : (sacristanref18_Read.l0 k l1 a2 (l1.length : Int) 0 a0_0 a0_1 a0_2 l0_3 a0_4 l0_5 l0_6 a0_7 a0_8 a0_9) = some r := h
  clear h
  have H' := Aside0.mk H
  clear H
  go_enter Try.func23, Try.ntmps23
  go_wp2_with (first | ((with_reducible refine gate_dst (N := 3) rfl ?_); refine box_event ?hg (N := 3) ?hd (cs := #[.int .i64 a0_0, .int .i64 a0_1, .int .i64 a0_2, .slice A0_3 l0_3.length c0_3, .int .i64 a0_4, .slice A0_5 l0_5.length c0_5, .slice A0_6 l0_6.length c0_6, .int .i64 a0_7, .int .i64 a0_8, .int .i64 a0_9]) (t := 25) ?hr ?_; (case hd => rfl); (case hg => rfl); (case hr => first | (go_simp; done) | (go_simp; rfl)); intro gb486 hg w4 hbox hb; have n0_ := Aside0.mk (below_step (by repeat (first | (with_reducible first | exact HB.out | apply below_alloc | apply pw_below_drewN | apply below_drew1) | exact HB.out)) hb); have n1_ := Aside0.mk (hbox); have n2_ := Aside0.mk ((by rw [hg]; exact (below_size (by repeat (first | (with_reducible first | exact HB.out | apply below_alloc | apply pw_below_drewN | apply below_drew1) | exact HB.out))) : w.heap.size ≤ gb486)); have n3_ := Aside0.mk ((by rw [hg]; exact (below_size (by repeat (first | (with_reducible first | exact HB.out | apply below_alloc | apply pw_below_drewN | apply below_drew1) | exact HB.out))) : w.heap.size ≤ gb486)); clear HB; have HB := n0_; have BK486 := n1_; have GW486 := n2_; have GE486 := n3_; clear n0_ n1_ n2_ n3_; clear hb hbox hg))
  go_loopg [10] k (fun kq v10 w' => ∃ (x10_1 : Int), v10 = .int .i64 x10_1 ∧ Aside0 (sacristanref18_Read.l0 kq l1 a2 (l1.length : Int) x10_1 a0_0 a0_1 a0_2 l0_3 a0_4 l0_5 l0_6 a0_7 a0_8 a0_9 = some r) ∧ Aside0 (kq ≤ k) ∧ Aside0 (w'.heap[gb486]? = some (.cells #[.int .i64 a0_0, .int .i64 a0_1, .int .i64 a0_2, (.slice A0_3 l0_3.length c0_3), .int .i64 a0_4, (.slice A0_5 l0_5.length c0_5), (.slice A0_6 l0_6.length c0_6), .int .i64 a0_7, .int .i64 a0_8, .int .i64 a0_9] 25 (0, 0))) ∧ Aside0 (Below w.heap.size w w'))
  case atStart => exact ⟨(0), (by first | rfl | (simp; done) | (simp [*]; done)), H', ⟨Nat.le_refl _⟩, ⟨by (with_reducible repeat (first | refine blk_drewN ?_ _ | refine blk_drew ?_ | refine blk_alloc ?_ _)); exact BK486.out⟩, ⟨by repeat (first | (with_reducible first | exact HB.out | apply below_alloc | apply pw_below_drewN | apply below_drew1 | refine below_set ?_ GE486.out) | exact HB.out)⟩⟩
  case round =>
    clear H'
    try clear c1
    try clear c2
    try clear p2
    obtain ⟨x10_1, rfl, HA, HK1, BK486, HB⟩ := hrel
    cases gk with
    | zero => exact absurd HA.out (by simp [sacristanref18_Read.l0])
    | succ k1 =>
      have H := HA.out
      clear HA
      simp only [sacristanref18_Read.l0] at H
      by_cases c5 : x10_1 < (l1.length : Int)
      · rw [if_pos c5] at H
        have c5b0 : decide (x10_1 < (l1.length : Int)) = true := decide_eq_true c5
        clear c5
        by_cases c6 : 0 ≤ x10_1
        · rw [if_pos c6] at H
          have c6b0 : decide (0 ≤ x10_1) = true := decide_eq_true c6
          clear c6
          by_cases c7 : x10_1 < (l1.length : Int)
          · rw [if_pos c7] at H
            have c7b0 : decide (x10_1 < (l1.length : Int)) = true := decide_eq_true c7
            clear c7
            replace H := Option.bind_eq_some_iff.mp H
            obtain ⟨t488, A80, H⟩ := H
            (try dsimp only at H)
            have A8 := Aside0.mk A80
            clear A80
            by_cases c9 : t488 = true
            · subst c9
              have H1 : (some true) = some r := by rw [if_pos rfl] at H; exact H
              clear H
              have H := H1
              clear H1
              obtain rfl := Option.some.inj H
              have p487 : 0 ≤ (x10_1 : Int) := of_decide_eq_true (by first | (with_reducible assumption) | assumption)
              have q487 : x10_1 < (l1.length : Int) := of_decide_eq_true (by first | (with_reducible assumption) | assumption)
              obtain ⟨ad487, e487, hx487_0, hx487_1, hx487_2, hx487_3, hx487_4, hx487_5, hx487_6, hx487_7⟩ := at_T39 HR1.out x10_1 p487 q487
              cases e487
              replace hx487_0 := (HB.out.cell (World.block_lt_of_cell? w _ hx487_0)).trans hx487_0
              replace hx487_1 := (HB.out.cell (World.block_lt_of_cell? w _ hx487_1)).trans hx487_1
              replace hx487_2 := (HB.out.cell (World.block_lt_of_cell? w _ hx487_2)).trans hx487_2
              replace hx487_3 := (HB.out.cell (World.block_lt_of_cell? w _ hx487_3)).trans hx487_3
              replace hx487_4 := (HB.out.cell (World.block_lt_of_cell? w _ hx487_4)).trans hx487_4
              replace hx487_5 := (HB.out.cell (World.block_lt_of_cell? w _ hx487_5)).trans hx487_5
              replace hx487_6 := (HB.out.cell (World.block_lt_of_cell? w _ hx487_6)).trans hx487_6
              replace hx487_7 := (HB.out.cell (World.block_lt_of_cell? w _ hx487_7)).trans hx487_7
              replace p487 := eq_true p487
              replace q487 := eq_true q487
              go_wp2_with (first | ((with_reducible refine gate_callee (f := 52) rfl ?_); refine goesL_ (some 18) rfl rfl Try.func52 (by kernel_rfl) rfl #[.agg #[.int .u8 ((rd_T39 l1 x10_1).f0), .int .i64 ((rd_T39 l1 x10_1).f1), .int .i64 ((rd_T39 l1 x10_1).f2), .int .i64 ((rd_T39 l1 x10_1).f3), .string ((rd_T39 l1 x10_1).f4), .int .u8 ((rd_T39 l1 x10_1).f5.f0), .int .i64 ((rd_T39 l1 x10_1).f5.f1), .string ((rd_T39 l1 x10_1).f5.f2)], .int .i64 a2] rfl (by (try simp only [List.map_toArray, List.map_cons, List.map_nil]); first | done | rfl | (simp only [List.length_drop, List.length_take]; rfl)) ?_; (with_reducible refine (sacristanref18_reads.calls ((rd_T39 l1 x10_1).f0) ((rd_T39 l1 x10_1).f1) ((rd_T39 l1 x10_1).f2) ((rd_T39 l1 x10_1).f3) ((rd_T39 l1 x10_1).f4) ((rd_T39 l1 x10_1).f5.f0) ((rd_T39 l1 x10_1).f5.f1) ((rd_T39 l1 x10_1).f5.f2) a2 true _ A8.out).mono ?_); rintro e w10 ⟨rfl, hb⟩; refine ⟨_, rfl, ?_⟩; have n0_ := Aside0.mk (blk_below (g := gb486) (o := .cells #[.int .i64 a0_0, .int .i64 a0_1, .int .i64 a0_2, .slice A0_3 l0_3.length c0_3, .int .i64 a0_4, .slice A0_5 l0_5.length c0_5, .slice A0_6 l0_6.length c0_6, .int .i64 a0_7, .int .i64 a0_8, .int .i64 a0_9] 25 (0, 0)) (by (with_reducible repeat (first | refine blk_drewN ?_ _ | refine blk_drew ?_ | refine blk_alloc ?_ _)); exact BK486.out) hb); have n1_ := Aside0.mk (below_step (by repeat (first | (with_reducible first | exact HB.out | apply below_alloc | apply pw_below_drewN | apply below_drew1 | refine below_set ?_ GE486.out) | exact HB.out)) hb); clear BK486; clear HB; have BK486 := n0_; have HB := n1_; clear n0_ n1_; (try clear hb); (try clear hb2); (try clear hk); (try clear hi)))
              go_ret
              exact ⟨by first | rfl | (simp [errW_none, errW_some] <;> rfl) | (simp [*, errW_none, errW_some] <;> rfl), by repeat (first | (with_reducible first | exact HB.out | apply below_alloc | apply pw_below_drewN | apply below_drew1 | refine below_set ?_ GE486.out) | exact HB.out)⟩
            · replace c9 := Bool.eq_false_iff.mpr c9
              subst c9
              have H1 : (if ((rd_T39 l1 x10_1).f0) = 6 then (sacristanref18_Read.j1 k1 l1 a2 (l1.length : Int) x10_1 false a0_0 a0_1 a0_2 l0_3 a0_4 l0_5 l0_6 a0_7 a0_8 a0_9) else (if ((rd_T39 l1 x10_1).f0) = 8 then (sacristanref18_Read.j1 k1 l1 a2 (l1.length : Int) x10_1 false a0_0 a0_1 a0_2 l0_3 a0_4 l0_5 l0_6 a0_7 a0_8 a0_9) else (sacristanref18_Read.j1 k1 l1 a2 (l1.length : Int) x10_1 (((rd_T39 l1 x10_1).f1) == a2) a0_0 a0_1 a0_2 l0_3 a0_4 l0_5 l0_6 a0_7 a0_8 a0_9))) = some r := by rw [if_neg (show ¬ (false = true) by decide)] at H; exact H
              clear H
              have H := H1
              clear H1
              have HC11 := Aside0.mk H
              clear H
              have p487 : 0 ≤ (x10_1 : Int) := of_decide_eq_true (by first | (with_reducible assumption) | assumption)
              have q487 : x10_1 < (l1.length : Int) := of_decide_eq_true (by first | (with_reducible assumption) | assumption)
              obtain ⟨ad487, e487, hx487_0, hx487_1, hx487_2, hx487_3, hx487_4, hx487_5, hx487_6, hx487_7⟩ := at_T39 HR1.out x10_1 p487 q487
              cases e487
              replace hx487_0 := (HB.out.cell (World.block_lt_of_cell? w _ hx487_0)).trans hx487_0
              replace hx487_1 := (HB.out.cell (World.block_lt_of_cell? w _ hx487_1)).trans hx487_1
              replace hx487_2 := (HB.out.cell (World.block_lt_of_cell? w _ hx487_2)).trans hx487_2
              replace hx487_3 := (HB.out.cell (World.block_lt_of_cell? w _ hx487_3)).trans hx487_3
              replace hx487_4 := (HB.out.cell (World.block_lt_of_cell? w _ hx487_4)).trans hx487_4
              replace hx487_5 := (HB.out.cell (World.block_lt_of_cell? w _ hx487_5)).trans hx487_5
              replace hx487_6 := (HB.out.cell (World.block_lt_of_cell? w _ hx487_6)).trans hx487_6
              replace hx487_7 := (HB.out.cell (World.block_lt_of_cell? w _ hx487_7)).trans hx487_7
              replace p487 := eq_true p487
              replace q487 := eq_true q487
              go_upto_region 6 with (first | ((with_reducible refine gate_callee (f := 52) rfl ?_); refine goesL_ (some 18) rfl rfl Try.func52 (by kernel_rfl) rfl #[.agg #[.int .u8 ((rd_T39 l1 x10_1).f0), .int .i64 ((rd_T39 l1 x10_1).f1), .int .i64 ((rd_T39 l1 x10_1).f2), .int .i64 ((rd_T39 l1 x10_1).f3), .string ((rd_T39 l1 x10_1).f4), .int .u8 ((rd_T39 l1 x10_1).f5.f0), .int .i64 ((rd_T39 l1 x10_1).f5.f1), .string ((rd_T39 l1 x10_1).f5.f2)], .int .i64 a2] rfl (by (try simp only [List.map_toArray, List.map_cons, List.map_nil]); first | done | rfl | (simp only [List.length_drop, List.length_take]; rfl)) ?_; (with_reducible refine (sacristanref18_reads.calls ((rd_T39 l1 x10_1).f0) ((rd_T39 l1 x10_1).f1) ((rd_T39 l1 x10_1).f2) ((rd_T39 l1 x10_1).f3) ((rd_T39 l1 x10_1).f4) ((rd_T39 l1 x10_1).f5.f0) ((rd_T39 l1 x10_1).f5.f1) ((rd_T39 l1 x10_1).f5.f2) a2 false _ A8.out).mono ?_); rintro e w12 ⟨rfl, hb⟩; refine ⟨_, rfl, ?_⟩; have n0_ := Aside0.mk (blk_below (g := gb486) (o := .cells #[.int .i64 a0_0, .int .i64 a0_1, .int .i64 a0_2, .slice A0_3 l0_3.length c0_3, .int .i64 a0_4, .slice A0_5 l0_5.length c0_5, .slice A0_6 l0_6.length c0_6, .int .i64 a0_7, .int .i64 a0_8, .int .i64 a0_9] 25 (0, 0)) (by (with_reducible repeat (first | refine blk_drewN ?_ _ | refine blk_drew ?_ | refine blk_alloc ?_ _)); exact BK486.out) hb); have n1_ := Aside0.mk (below_step (by repeat (first | (with_reducible first | exact HB.out | apply below_alloc | apply pw_below_drewN | apply below_drew1 | refine below_set ?_ GE486.out) | exact HB.out)) hb); clear BK486; clear HB; have BK486 := n0_; have HB := n1_; clear n0_ n1_; (try clear hb); (try clear hb2); (try clear hk); (try clear hi)))
              (try simp only [Act.put, List.setIfInBounds_toArray, List.set_cons_zero, List.set_cons_succ])
              go_cut [41] (fun v41 wc => ∃ (kq : Nat) (x41_10 : Bool), v41 = .bool x41_10 ∧ Aside0 (sacristanref18_Read.j1 kq l1 a2 (l1.length : Int) x10_1 x41_10 a0_0 a0_1 a0_2 l0_3 a0_4 l0_5 l0_6 a0_7 a0_8 a0_9 = some r) ∧ Aside0 (kq ≤ k1) ∧ Aside0 (wc.heap[gb486]? = some (.cells #[.int .i64 a0_0, .int .i64 a0_1, .int .i64 a0_2, (.slice A0_3 l0_3.length c0_3), .int .i64 a0_4, (.slice A0_5 l0_5.length c0_5), (.slice A0_6 l0_6.length c0_6), .int .i64 a0_7, .int .i64 a0_8, .int .i64 a0_9] 25 (0, 0))) ∧ Aside0 (Below w.heap.size w wc))
              case first =>
                have H := HC11.out
                clear HC11
                by_cases c13 : ((rd_T39 l1 x10_1).f0) = 6
                · rw [if_pos c13] at H
                  have c13b0 : (((rd_T39 l1 x10_1).f0) == 6) = true := beq_iff_eq.mpr c13
                  have c13b1 : (((rd_T39 l1 x10_1).f0) != 6) = false := bne_eq_false_iff_eq.mpr c13
                  clear c13
                  (first | rw [c13b0] | (simp only [i64_w, i32_w]; rw [c13b0]) | skip)
                  have H' := Aside0.mk H
                  clear H
                  have p489 : 0 ≤ (x10_1 : Int) := of_decide_eq_true (by first | (with_reducible assumption) | assumption)
                  have q489 : x10_1 < (l1.length : Int) := of_decide_eq_true (by first | (with_reducible assumption) | assumption)
                  obtain ⟨ad489, e489, hx489_0, hx489_1, hx489_2, hx489_3, hx489_4, hx489_5, hx489_6, hx489_7⟩ := at_T39 HR1.out x10_1 p489 q489
                  obtain rfl : ad487 = ad489 := (by injection e489)
                  replace hx489_0 := (HB.out.cell (World.block_lt_of_cell? w _ hx489_0)).trans hx489_0
                  replace hx489_1 := (HB.out.cell (World.block_lt_of_cell? w _ hx489_1)).trans hx489_1
                  replace hx489_2 := (HB.out.cell (World.block_lt_of_cell? w _ hx489_2)).trans hx489_2
                  replace hx489_3 := (HB.out.cell (World.block_lt_of_cell? w _ hx489_3)).trans hx489_3
                  replace hx489_4 := (HB.out.cell (World.block_lt_of_cell? w _ hx489_4)).trans hx489_4
                  replace hx489_5 := (HB.out.cell (World.block_lt_of_cell? w _ hx489_5)).trans hx489_5
                  replace hx489_6 := (HB.out.cell (World.block_lt_of_cell? w _ hx489_6)).trans hx489_6
                  replace hx489_7 := (HB.out.cell (World.block_lt_of_cell? w _ hx489_7)).trans hx489_7
                  replace p489 := eq_true p489
                  replace q489 := eq_true q489
                  go_wp2
                  go_meet
                  case rel => exact ⟨_, (false), (by first | rfl | (simp; done) | (simp [*]; done)), H', ⟨by have := HK1.out; first | omega | exact Nat.le_refl _⟩, ⟨by (with_reducible repeat (first | refine blk_drewN ?_ _ | refine blk_drew ?_ | refine blk_alloc ?_ _)); exact BK486.out⟩, ⟨by repeat (first | (with_reducible first | exact HB.out | apply below_alloc | apply pw_below_drewN | apply below_drew1 | refine below_set ?_ GE486.out) | exact HB.out)⟩⟩
                · rw [if_neg c13] at H
                  have c13b0 : (((rd_T39 l1 x10_1).f0) == 6) = false := beq_eq_false_iff_ne.mpr c13
                  have c13b1 : (((rd_T39 l1 x10_1).f0) != 6) = true := bne_iff_ne.mpr c13
                  (first | rw [c13b0] | (simp only [i64_w, i32_w]; rw [c13b0]) | skip)
                  by_cases c14 : ((rd_T39 l1 x10_1).f0) = 8
                  · rw [if_pos c14] at H
                    have c14b0 : (((rd_T39 l1 x10_1).f0) == 8) = true := beq_iff_eq.mpr c14
                    have c14b1 : (((rd_T39 l1 x10_1).f0) != 8) = false := bne_eq_false_iff_eq.mpr c14
                    clear c14
                    have H' := Aside0.mk H
                    clear H
                    have p489 : 0 ≤ (x10_1 : Int) := of_decide_eq_true (by first | (with_reducible assumption) | assumption)
                    have q489 : x10_1 < (l1.length : Int) := of_decide_eq_true (by first | (with_reducible assumption) | assumption)
                    obtain ⟨ad489, e489, hx489_0, hx489_1, hx489_2, hx489_3, hx489_4, hx489_5, hx489_6, hx489_7⟩ := at_T39 HR1.out x10_1 p489 q489
                    obtain rfl : ad487 = ad489 := (by injection e489)
                    replace hx489_0 := (HB.out.cell (World.block_lt_of_cell? w _ hx489_0)).trans hx489_0
                    replace hx489_1 := (HB.out.cell (World.block_lt_of_cell? w _ hx489_1)).trans hx489_1
                    replace hx489_2 := (HB.out.cell (World.block_lt_of_cell? w _ hx489_2)).trans hx489_2
                    replace hx489_3 := (HB.out.cell (World.block_lt_of_cell? w _ hx489_3)).trans hx489_3
                    replace hx489_4 := (HB.out.cell (World.block_lt_of_cell? w _ hx489_4)).trans hx489_4
                    replace hx489_5 := (HB.out.cell (World.block_lt_of_cell? w _ hx489_5)).trans hx489_5
                    replace hx489_6 := (HB.out.cell (World.block_lt_of_cell? w _ hx489_6)).trans hx489_6
                    replace hx489_7 := (HB.out.cell (World.block_lt_of_cell? w _ hx489_7)).trans hx489_7
                    replace p489 := eq_true p489
                    replace q489 := eq_true q489
                    have p490 : 0 ≤ (x10_1 : Int) := of_decide_eq_true (by first | (with_reducible assumption) | assumption)
                    have q490 : x10_1 < (l1.length : Int) := of_decide_eq_true (by first | (with_reducible assumption) | assumption)
                    obtain ⟨ad490, e490, hx490_0, hx490_1, hx490_2, hx490_3, hx490_4, hx490_5, hx490_6, hx490_7⟩ := at_T39 HR1.out x10_1 p490 q490
                    obtain rfl : ad487 = ad490 := (by injection e490)
                    replace hx490_0 := (HB.out.cell (World.block_lt_of_cell? w _ hx490_0)).trans hx490_0
                    replace hx490_1 := (HB.out.cell (World.block_lt_of_cell? w _ hx490_1)).trans hx490_1
                    replace hx490_2 := (HB.out.cell (World.block_lt_of_cell? w _ hx490_2)).trans hx490_2
                    replace hx490_3 := (HB.out.cell (World.block_lt_of_cell? w _ hx490_3)).trans hx490_3
                    replace hx490_4 := (HB.out.cell (World.block_lt_of_cell? w _ hx490_4)).trans hx490_4
                    replace hx490_5 := (HB.out.cell (World.block_lt_of_cell? w _ hx490_5)).trans hx490_5
                    replace hx490_6 := (HB.out.cell (World.block_lt_of_cell? w _ hx490_6)).trans hx490_6
                    replace hx490_7 := (HB.out.cell (World.block_lt_of_cell? w _ hx490_7)).trans hx490_7
                    replace p490 := eq_true p490
                    replace q490 := eq_true q490
                    go_wp2
                    go_meet
                    case rel => exact ⟨_, (false), (by first | rfl | (simp; done) | (simp [*]; done)), H', ⟨by have := HK1.out; first | omega | exact Nat.le_refl _⟩, ⟨by (with_reducible repeat (first | refine blk_drewN ?_ _ | refine blk_drew ?_ | refine blk_alloc ?_ _)); exact BK486.out⟩, ⟨by repeat (first | (with_reducible first | exact HB.out | apply below_alloc | apply pw_below_drewN | apply below_drew1 | refine below_set ?_ GE486.out) | exact HB.out)⟩⟩
                  · rw [if_neg c14] at H
                    have c14b0 : (((rd_T39 l1 x10_1).f0) == 8) = false := beq_eq_false_iff_ne.mpr c14
                    have c14b1 : (((rd_T39 l1 x10_1).f0) != 8) = true := bne_iff_ne.mpr c14
                    have H' := Aside0.mk H
                    clear H
                    have p489 : 0 ≤ (x10_1 : Int) := of_decide_eq_true (by first | (with_reducible assumption) | assumption)
                    have q489 : x10_1 < (l1.length : Int) := of_decide_eq_true (by first | (with_reducible assumption) | assumption)
                    obtain ⟨ad489, e489, hx489_0, hx489_1, hx489_2, hx489_3, hx489_4, hx489_5, hx489_6, hx489_7⟩ := at_T39 HR1.out x10_1 p489 q489
                    obtain rfl : ad487 = ad489 := (by injection e489)
                    replace hx489_0 := (HB.out.cell (World.block_lt_of_cell? w _ hx489_0)).trans hx489_0
                    replace hx489_1 := (HB.out.cell (World.block_lt_of_cell? w _ hx489_1)).trans hx489_1
                    replace hx489_2 := (HB.out.cell (World.block_lt_of_cell? w _ hx489_2)).trans hx489_2
                    replace hx489_3 := (HB.out.cell (World.block_lt_of_cell? w _ hx489_3)).trans hx489_3
                    replace hx489_4 := (HB.out.cell (World.block_lt_of_cell? w _ hx489_4)).trans hx489_4
                    replace hx489_5 := (HB.out.cell (World.block_lt_of_cell? w _ hx489_5)).trans hx489_5
                    replace hx489_6 := (HB.out.cell (World.block_lt_of_cell? w _ hx489_6)).trans hx489_6
                    replace hx489_7 := (HB.out.cell (World.block_lt_of_cell? w _ hx489_7)).trans hx489_7
                    replace p489 := eq_true p489
                    replace q489 := eq_true q489
                    have p490 : 0 ≤ (x10_1 : Int) := of_decide_eq_true (by first | (with_reducible assumption) | assumption)
                    have q490 : x10_1 < (l1.length : Int) := of_decide_eq_true (by first | (with_reducible assumption) | assumption)
                    obtain ⟨ad490, e490, hx490_0, hx490_1, hx490_2, hx490_3, hx490_4, hx490_5, hx490_6, hx490_7⟩ := at_T39 HR1.out x10_1 p490 q490
                    obtain rfl : ad487 = ad490 := (by injection e490)
                    replace hx490_0 := (HB.out.cell (World.block_lt_of_cell? w _ hx490_0)).trans hx490_0
                    replace hx490_1 := (HB.out.cell (World.block_lt_of_cell? w _ hx490_1)).trans hx490_1
                    replace hx490_2 := (HB.out.cell (World.block_lt_of_cell? w _ hx490_2)).trans hx490_2
                    replace hx490_3 := (HB.out.cell (World.block_lt_of_cell? w _ hx490_3)).trans hx490_3
                    replace hx490_4 := (HB.out.cell (World.block_lt_of_cell? w _ hx490_4)).trans hx490_4
                    replace hx490_5 := (HB.out.cell (World.block_lt_of_cell? w _ hx490_5)).trans hx490_5
                    replace hx490_6 := (HB.out.cell (World.block_lt_of_cell? w _ hx490_6)).trans hx490_6
                    replace hx490_7 := (HB.out.cell (World.block_lt_of_cell? w _ hx490_7)).trans hx490_7
                    replace p490 := eq_true p490
                    replace q490 := eq_true q490
                    have p491 : 0 ≤ (x10_1 : Int) := of_decide_eq_true (by first | (with_reducible assumption) | assumption)
                    have q491 : x10_1 < (l1.length : Int) := of_decide_eq_true (by first | (with_reducible assumption) | assumption)
                    obtain ⟨ad491, e491, hx491_0, hx491_1, hx491_2, hx491_3, hx491_4, hx491_5, hx491_6, hx491_7⟩ := at_T39 HR1.out x10_1 p491 q491
                    obtain rfl : ad487 = ad491 := (by injection e491)
                    replace hx491_0 := (HB.out.cell (World.block_lt_of_cell? w _ hx491_0)).trans hx491_0
                    replace hx491_1 := (HB.out.cell (World.block_lt_of_cell? w _ hx491_1)).trans hx491_1
                    replace hx491_2 := (HB.out.cell (World.block_lt_of_cell? w _ hx491_2)).trans hx491_2
                    replace hx491_3 := (HB.out.cell (World.block_lt_of_cell? w _ hx491_3)).trans hx491_3
                    replace hx491_4 := (HB.out.cell (World.block_lt_of_cell? w _ hx491_4)).trans hx491_4
                    replace hx491_5 := (HB.out.cell (World.block_lt_of_cell? w _ hx491_5)).trans hx491_5
                    replace hx491_6 := (HB.out.cell (World.block_lt_of_cell? w _ hx491_6)).trans hx491_6
                    replace hx491_7 := (HB.out.cell (World.block_lt_of_cell? w _ hx491_7)).trans hx491_7
                    replace p491 := eq_true p491
                    replace q491 := eq_true q491
                    go_wp2
                    go_meet
                    case rel => exact ⟨_, ((((rd_T39 l1 x10_1).f1) == a2)), (by first | rfl | (simp; done) | (simp [*]; done)), H', ⟨by have := HK1.out; first | omega | exact Nat.le_refl _⟩, ⟨by (with_reducible repeat (first | refine blk_drewN ?_ _ | refine blk_drew ?_ | refine blk_alloc ?_ _)); exact BK486.out⟩, ⟨by repeat (first | (with_reducible first | exact HB.out | apply below_alloc | apply pw_below_drewN | apply below_drew1 | refine below_set ?_ GE486.out) | exact HB.out)⟩⟩
              case rest =>
                clear HC11
                try clear c1
                try clear c2
                try clear p2
                try clear p4
                try clear q4
                try clear hx4
                try clear c5
                try clear c5b0
                try clear c6
                try clear c6b0
                try clear c7
                try clear c7b0
                try clear c9
                try clear c13
                try clear c13b0
                try clear c13b1
                try clear c14
                try clear c14b0
                try clear c14b1
                try clear hx487_0
                try clear hx487_1
                try clear hx487_2
                try clear hx487_3
                try clear hx487_4
                try clear hx487_5
                try clear hx487_6
                try clear hx487_7
                try clear hx489_0
                try clear hx489_1
                try clear hx489_2
                try clear hx489_3
                try clear hx489_4
                try clear hx489_5
                try clear hx489_6
                try clear hx489_7
                try clear hx490_0
                try clear hx490_1
                try clear hx490_2
                try clear hx490_3
                try clear hx490_4
                try clear hx490_5
                try clear hx490_6
                try clear hx490_7
                try clear hx491_0
                try clear hx491_1
                try clear hx491_2
                try clear hx491_3
                try clear hx491_4
                try clear hx491_5
                try clear hx491_6
                try clear hx491_7
                try clear p2
                try clear p487
                try clear p489
                try clear p490
                try clear p491
                try clear q487
                try clear q489
                try clear q490
                try clear q491
                obtain ⟨kq, x41_10, rfl, HA, HJ10, BK486, HB⟩ := hcut
                cases kq with
                | zero => exact absurd HA.out (by simp [sacristanref18_Read.j1])
                | succ kj10 =>
                  have H := HA.out
                  clear HA
                  simp only [sacristanref18_Read.j1] at H
                  by_cases c15 : x41_10 = true
                  · subst c15
                    have H1 : (some false) = some r := by rw [if_pos rfl] at H; exact H
                    clear H
                    have H := H1
                    clear H1
                    obtain rfl := Option.some.inj H
                    go_wp2
                    go_ret
                    exact ⟨by first | rfl | (simp [errW_none, errW_some] <;> rfl) | (simp [*, errW_none, errW_some] <;> rfl), by repeat (first | (with_reducible first | exact HB.out | apply below_alloc | apply pw_below_drewN | apply below_drew1 | refine below_set ?_ GE486.out) | exact HB.out)⟩
                  · replace c15 := Bool.eq_false_iff.mpr c15
                    subst c15
                    have H1 : (sacristanref18_Read.l0 kj10 l1 a2 (l1.length : Int) (wrap64 (x10_1 + 1)) a0_0 a0_1 a0_2 l0_3 a0_4 l0_5 l0_6 a0_7 a0_8 a0_9) = some r := by rw [if_neg (show ¬ (false = true) by decide)] at H; exact H
                    clear H
                    have H := H1
                    clear H1
                    have H' := Aside0.mk H
                    clear H
                    go_wp2
                    go_roundg kj10
                    case measure => have := HK1.out; have := HJ10.out; omega
                    case rel => exact ⟨(wrap64 (x10_1 + 1)), (by first | rfl | (simp; done) | (simp [*]; done)), H', ⟨by have := HK1.out; have := HJ10.out; omega⟩, ⟨by (with_reducible repeat (first | refine blk_drewN ?_ _ | refine blk_drew ?_ | refine blk_alloc ?_ _)); exact BK486.out⟩, ⟨by repeat (first | (with_reducible first | exact HB.out | apply below_alloc | apply pw_below_drewN | apply below_drew1 | refine below_set ?_ GE486.out) | exact HB.out)⟩⟩
          · rw [if_neg c7] at H
            exact absurd H (by simp)
        · rw [if_neg c6] at H
          exact absurd H (by simp)
      · rw [if_neg c5] at H
        have c5b0 : decide (x10_1 < (l1.length : Int)) = false := decide_eq_false c5
        clear c5
        by_cases c16 : a0_7 = a2
        · rw [if_pos c16] at H
          have c16b0 : (a0_7 == a2) = true := beq_iff_eq.mpr c16
          have c16b1 : (a0_7 != a2) = false := bne_eq_false_iff_eq.mpr c16
          clear c16
          obtain rfl := Option.some.inj H
          have hcz17_0 : wr.cell? ⟨gb486, 0, none⟩ = some (.int .i64 a0_0) := (blk_cell BK486.out 0).trans rfl
          have hcz17_1 : wr.cell? ⟨gb486, 1, none⟩ = some (.int .i64 a0_1) := (blk_cell BK486.out 1).trans rfl
          have hcz17_2 : wr.cell? ⟨gb486, 2, none⟩ = some (.int .i64 a0_2) := (blk_cell BK486.out 2).trans rfl
          have hcz17_3 : wr.cell? ⟨gb486, 3, none⟩ = some (.slice A0_3 l0_3.length c0_3) := (blk_cell BK486.out 3).trans rfl
          have hcz17_4 : wr.cell? ⟨gb486, 4, none⟩ = some (.int .i64 a0_4) := (blk_cell BK486.out 4).trans rfl
          have hcz17_5 : wr.cell? ⟨gb486, 5, none⟩ = some (.slice A0_5 l0_5.length c0_5) := (blk_cell BK486.out 5).trans rfl
          have hcz17_6 : wr.cell? ⟨gb486, 6, none⟩ = some (.slice A0_6 l0_6.length c0_6) := (blk_cell BK486.out 6).trans rfl
          have hcz17_7 : wr.cell? ⟨gb486, 7, none⟩ = some (.int .i64 a0_7) := (blk_cell BK486.out 7).trans rfl
          have hcz17_8 : wr.cell? ⟨gb486, 8, none⟩ = some (.int .i64 a0_8) := (blk_cell BK486.out 8).trans rfl
          have hcz17_9 : wr.cell? ⟨gb486, 9, none⟩ = some (.int .i64 a0_9) := (blk_cell BK486.out 9).trans rfl
          have hfz17_0 := blk_frozen BK486.out 0
          have hfz17_1 := blk_frozen BK486.out 1
          have hfz17_2 := blk_frozen BK486.out 2
          have hfz17_3 := blk_frozen BK486.out 3
          have hfz17_4 := blk_frozen BK486.out 4
          have hfz17_5 := blk_frozen BK486.out 5
          have hfz17_6 := blk_frozen BK486.out 6
          have hfz17_7 := blk_frozen BK486.out 7
          have hfz17_8 := blk_frozen BK486.out 8
          have hfz17_9 := blk_frozen BK486.out 9
          go_wp2
          go_ret
          exact ⟨by first | rfl | (simp [errW_none, errW_some] <;> rfl) | (simp [*, errW_none, errW_some] <;> rfl), by repeat (first | (with_reducible first | exact HB.out | apply below_alloc | apply pw_below_drewN | apply below_drew1 | refine below_set ?_ GE486.out) | exact HB.out)⟩
        · rw [if_neg c16] at H
          have c16b0 : (a0_7 == a2) = false := beq_eq_false_iff_ne.mpr c16
          have c16b1 : (a0_7 != a2) = true := bne_iff_ne.mpr c16
          replace H := Option.bind_eq_some_iff.mp H
          obtain ⟨t492, A180, H⟩ := H
          replace H : (if t492 = true then (some true) else ((sacristanref18_among.f k1 a2 l0_6).bind fun t493 => (some t493))) = some r := H
          have A18 := Aside0.mk A180
          clear A180
          by_cases c19 : t492 = true
          · subst c19
            have H1 : (some true) = some r := by rw [if_pos rfl] at H; exact H
            clear H
            have H := H1
            clear H1
            obtain rfl := Option.some.inj H
            have hcz20_0 : wr.cell? ⟨gb486, 0, none⟩ = some (.int .i64 a0_0) := (blk_cell BK486.out 0).trans rfl
            have hcz20_1 : wr.cell? ⟨gb486, 1, none⟩ = some (.int .i64 a0_1) := (blk_cell BK486.out 1).trans rfl
            have hcz20_2 : wr.cell? ⟨gb486, 2, none⟩ = some (.int .i64 a0_2) := (blk_cell BK486.out 2).trans rfl
            have hcz20_3 : wr.cell? ⟨gb486, 3, none⟩ = some (.slice A0_3 l0_3.length c0_3) := (blk_cell BK486.out 3).trans rfl
            have hcz20_4 : wr.cell? ⟨gb486, 4, none⟩ = some (.int .i64 a0_4) := (blk_cell BK486.out 4).trans rfl
            have hcz20_5 : wr.cell? ⟨gb486, 5, none⟩ = some (.slice A0_5 l0_5.length c0_5) := (blk_cell BK486.out 5).trans rfl
            have hcz20_6 : wr.cell? ⟨gb486, 6, none⟩ = some (.slice A0_6 l0_6.length c0_6) := (blk_cell BK486.out 6).trans rfl
            have hcz20_7 : wr.cell? ⟨gb486, 7, none⟩ = some (.int .i64 a0_7) := (blk_cell BK486.out 7).trans rfl
            have hcz20_8 : wr.cell? ⟨gb486, 8, none⟩ = some (.int .i64 a0_8) := (blk_cell BK486.out 8).trans rfl
            have hcz20_9 : wr.cell? ⟨gb486, 9, none⟩ = some (.int .i64 a0_9) := (blk_cell BK486.out 9).trans rfl
            have hfz20_0 := blk_frozen BK486.out 0
            have hfz20_1 := blk_frozen BK486.out 1
            have hfz20_2 := blk_frozen BK486.out 2
            have hfz20_3 := blk_frozen BK486.out 3
            have hfz20_4 := blk_frozen BK486.out 4
            have hfz20_5 := blk_frozen BK486.out 5
            have hfz20_6 := blk_frozen BK486.out 6
            have hfz20_7 := blk_frozen BK486.out 7
            have hfz20_8 := blk_frozen BK486.out 8
            have hfz20_9 := blk_frozen BK486.out 9
            go_wp2_with (first | (go_at_call 53; (with_reducible refine (sacristanref18_among.calls k1 a2 _ _ l0_5 true _ ?side1 ?side2 A18.out).mono ?_); (case side1 => repeat (first | exact (Kd.C_below HR0_5.out HB.out) | (with_reducible refine Kd.C_alloc ?_ _) | (with_reducible refine Kd.C_drewN ?_ _) | (with_reducible refine Kd.C_drew ?_))); (case side2 => exact HC0_5.out); rintro e w' ⟨rfl, ⟨nd, rfl⟩⟩))
            go_ret
            exact ⟨by first | rfl | (simp [errW_none, errW_some] <;> rfl) | (simp [*, errW_none, errW_some] <;> rfl), by repeat (first | (with_reducible first | exact HB.out | apply below_alloc | apply pw_below_drewN | apply below_drew1 | refine below_set ?_ GE486.out) | exact HB.out)⟩
          · replace c19 := Bool.eq_false_iff.mpr c19
            subst c19
            have H1 : ((sacristanref18_among.f k1 a2 l0_6).bind fun t493 => (some t493)) = some r := by rw [if_neg (show ¬ (false = true) by decide)] at H; exact H
            clear H
            have H := H1
            clear H1
            replace H := Option.bind_eq_some_iff.mp H
            obtain ⟨t493, A210, H⟩ := H
            replace H : (some t493) = some r := H
            have A21 := Aside0.mk A210
            clear A210
            obtain rfl := Option.some.inj H
            have hcz22_0 : wr.cell? ⟨gb486, 0, none⟩ = some (.int .i64 a0_0) := (blk_cell BK486.out 0).trans rfl
            have hcz22_1 : wr.cell? ⟨gb486, 1, none⟩ = some (.int .i64 a0_1) := (blk_cell BK486.out 1).trans rfl
            have hcz22_2 : wr.cell? ⟨gb486, 2, none⟩ = some (.int .i64 a0_2) := (blk_cell BK486.out 2).trans rfl
            have hcz22_3 : wr.cell? ⟨gb486, 3, none⟩ = some (.slice A0_3 l0_3.length c0_3) := (blk_cell BK486.out 3).trans rfl
            have hcz22_4 : wr.cell? ⟨gb486, 4, none⟩ = some (.int .i64 a0_4) := (blk_cell BK486.out 4).trans rfl
            have hcz22_5 : wr.cell? ⟨gb486, 5, none⟩ = some (.slice A0_5 l0_5.length c0_5) := (blk_cell BK486.out 5).trans rfl
            have hcz22_6 : wr.cell? ⟨gb486, 6, none⟩ = some (.slice A0_6 l0_6.length c0_6) := (blk_cell BK486.out 6).trans rfl
            have hcz22_7 : wr.cell? ⟨gb486, 7, none⟩ = some (.int .i64 a0_7) := (blk_cell BK486.out 7).trans rfl
            have hcz22_8 : wr.cell? ⟨gb486, 8, none⟩ = some (.int .i64 a0_8) := (blk_cell BK486.out 8).trans rfl
            have hcz22_9 : wr.cell? ⟨gb486, 9, none⟩ = some (.int .i64 a0_9) := (blk_cell BK486.out 9).trans rfl
            have hfz22_0 := blk_frozen BK486.out 0
            have hfz22_1 := blk_frozen BK486.out 1
            have hfz22_2 := blk_frozen BK486.out 2
            have hfz22_3 := blk_frozen BK486.out 3
            have hfz22_4 := blk_frozen BK486.out 4
            have hfz22_5 := blk_frozen BK486.out 5
            have hfz22_6 := blk_frozen BK486.out 6
            have hfz22_7 := blk_frozen BK486.out 7
            have hfz22_8 := blk_frozen BK486.out 8
            have hfz22_9 := blk_frozen BK486.out 9
            go_wp2_with (first | (go_at_call 53; (with_reducible refine (sacristanref18_among.calls k1 a2 _ _ l0_5 false _ ?side1 ?side2 A18.out).mono ?_); (case side1 => repeat (first | exact (Kd.C_below HR0_5.out HB.out) | (with_reducible refine Kd.C_alloc ?_ _) | (with_reducible refine Kd.C_drewN ?_ _) | (with_reducible refine Kd.C_drew ?_))); (case side2 => exact HC0_5.out); rintro e w' ⟨rfl, ⟨nd, rfl⟩⟩) | (go_at_call 53; (with_reducible refine (sacristanref18_among.calls k1 a2 _ _ l0_6 t493 _ ?side1 ?side2 A21.out).mono ?_); (case side1 => repeat (first | exact (Kd.C_below HR0_6.out (by repeat (first | (with_reducible first | exact HB.out | apply below_alloc | apply pw_below_drewN | apply below_drew1 | refine below_set ?_ GE486.out) | exact HB.out))) | (with_reducible refine Kd.C_alloc ?_ _) | (with_reducible refine Kd.C_drewN ?_ _) | (with_reducible refine Kd.C_drew ?_))); (case side2 => exact HC0_6.out); rintro e w' ⟨rfl, ⟨nd, rfl⟩⟩))
            go_ret
            exact ⟨by first | rfl | (simp [errW_none, errW_some] <;> rfl) | (simp [*, errW_none, errW_some] <;> rfl), by repeat (first | (with_reducible first | exact HB.out | apply below_alloc | apply pw_below_drewN | apply below_drew1 | refine below_set ?_ GE486.out) | exact HB.out)⟩

end Go.Proofs.Ytjkjbfhhfdbnoaa.PB
