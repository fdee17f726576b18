-- Own text: made by this session's variant of the printer (wip/mkpp.py); Lean checks it.
import Derived.Test.YtfncoldcjhkhiaaDoorTa
import Derived.Test.YtfncoldcjhkhiaaDoorPCx0
import Derived.Test.YtfncoldcjhkhiaaDoorPCx2
namespace Go.Proofs.YtfncoldcjhkhiaaDoor.PC
open Go.RowKit Go.Proofs.YtfncoldcjhkhiaaDoorW.PrintWords Go.Proofs.YtfncoldcjhkhiaaDoorW.PrintLast Go.Proofs.YtfncoldcjhkhiaaDoorW.PrintMore Go.Proofs.YtfncoldcjhkhiaaDoorW.Own
attribute [local go_sem high] own_gtr own_leq own_geq
attribute [local go_sem] max2_int min2_int max_two min_two max_three min_three max_four min_four   -- for this text's walks alone
set_option linter.unusedVariables false
set_option linter.unusedSimpArgs false

/-! ### code_Effect: function 20 -/
mutual
def code_Effect.j0 : Nat → Int → Bool → List Int → List ByteArray → List (S44) → List (S41) → Int → Int → Option (Int × Int × Bool)
  | 0, _, _, _, _, _, _, _, _ => none
  | k + 1, x9, x34, x143000, x143001, x143002, x143003, x144000, x144001 => if x34 = true then (some (0, 1, true)) else (if x9 = 7 then (code_Effect.j1 k x9 (x9 == 7) x143000 x143001 x143002 x143003 x144000 x144001) else (if x9 = 14 then (code_Effect.j1 k x9 (x9 == 14) x143000 x143001 x143002 x143003 x144000 x144001) else (code_Effect.j1 k x9 (x9 == 15) x143000 x143001 x143002 x143003 x144000 x144001)))
def code_Effect.j1 : Nat → Int → Bool → List Int → List ByteArray → List (S44) → List (S41) → Int → Int → Option (Int × Int × Bool)
  | 0, _, _, _, _, _, _, _, _ => none
  | k + 1, x9, x40, x143000, x143001, x143002, x143003, x144000, x144001 => if x40 = true then (some (1, 0, true)) else (if x9 = 9 then ((code_in.f x144001 (x143002.length : Int)).bind fun t152 => (if t152 = true then (if 0 ≤ x144001 then (if x144001 < (x143002.length : Int) then ((code_effect.f ((rd_T44 x143002 x144001).f2) 1 (decide (((rd_T44 x143002 x144001).f2) ≥ 0))).bind fun bt155 => (some (bt155.1, bt155.2.1, bt155.2.2))) else (none)) else (none)) else (some (0, 0, false)))) else (if x9 = 10 then ((code_in.f x144001 201).bind fun t158 => ((code_effect.f (wrap64 (x144001 + 1)) 1 t158).bind fun bt159 => (some (bt159.1, bt159.2.1, bt159.2.2)))) else (if x9 = 11 then ((code_in.f x144001 201).bind fun t162 => ((code_effect.f (wrap64 (x144001 + 1)) 0 t162).bind fun bt163 => (some (bt163.1, bt163.2.1, bt163.2.2)))) else (if x9 = 12 then (some (1, 0, true)) else (if x9 = 13 then (some (0, 0, true)) else (if x9 = 16 then ((code_Words.f).bind fun t166 => ((code_in.f x144001 (t166.length : Int)).bind fun t169 => (if t169 = true then (if 0 ≤ x144001 then (if x144001 < (t166.length : Int) then ((tree_Takes.f (rdOf ByteArray.empty t166 x144001)).bind fun t171 => (some (t171, 1, true))) else (none)) else (none)) else (some (0, 0, false))))) else (if x9 = 17 then ((code_in.f x144001 (x143001.length : Int)).bind fun t172 => ((code_effect.f 1 1 t172).bind fun bt173 => (some (bt173.1, bt173.2.1, bt173.2.2)))) else (if x9 = 18 then ((code_in.f x144001 (x143003.length : Int)).bind fun t176 => (if t176 = true then (if 0 ≤ x144001 then (if x144001 < (x143003.length : Int) then ((code_handle.f k ((rd_T41 x143003 x144001).f0) ((rd_T41 x143003 x144001).f1) ((rd_T41 x143003 x144001).f2)).bind fun t178 => (some (t178, 1, true))) else (none)) else (none)) else (some (0, 0, false)))) else (if x9 = 19 then (code_Effect.j2 k x9 (x9 == 19)) else (code_Effect.j2 k x9 (x9 == 20)))))))))))
def code_Effect.j2 : Nat → Int → Bool → Option (Int × Int × Bool)
  | 0, _, _ => none
  | k + 1, x9, x143 => if x143 = true then (some (2, 1, true)) else (if x9 = 22 then (some (2, 0, true)) else (if x9 = 21 then (some (3, 1, true)) else (some (0, 0, false))))
end
def code_Effect.f (k : Nat) (l0_0 : List Int) (l0_1 : List ByteArray) (l0_2 : List (S44)) (l0_3 : List (S41)) (a1_0 : Int) (a1_1 : Int) : Option (Int × Int × Bool) := if a1_0 = 1 then ((code_in.f a1_1 (l0_0.length : Int)).bind fun t144 => ((code_effect.f 0 1 t144).bind fun bt145 => (some (bt145.1, bt145.2.1, bt145.2.2)))) else (if a1_0 = 2 then ((code_in.f a1_1 (l0_1.length : Int)).bind fun t148 => ((code_effect.f 0 1 t148).bind fun bt149 => (some (bt149.1, bt149.2.1, bt149.2.2)))) else (if a1_0 = 3 then (code_Effect.j0 k a1_0 (a1_0 == 3) l0_0 l0_1 l0_2 l0_3 a1_0 a1_1) else (if a1_0 = 4 then (code_Effect.j0 k a1_0 (a1_0 == 4) l0_0 l0_1 l0_2 l0_3 a1_0 a1_1) else (if a1_0 = 5 then (code_Effect.j0 k a1_0 (a1_0 == 5) l0_0 l0_1 l0_2 l0_3 a1_0 a1_1) else (if a1_0 = 6 then (code_Effect.j0 k a1_0 (a1_0 == 6) l0_0 l0_1 l0_2 l0_3 a1_0 a1_1) else (code_Effect.j0 k a1_0 (a1_0 == 8) l0_0 l0_1 l0_2 l0_3 a1_0 a1_1))))))
theorem code_Effect.mono_l : ∀ k, (∀ y0 y1 y2 y3 y4 y5 y6 y7, LeO (code_Effect.j0 k y0 y1 y2 y3 y4 y5 y6 y7) (code_Effect.j0 (k + 1) y0 y1 y2 y3 y4 y5 y6 y7)) ∧ (∀ y0 y1 y2 y3 y4 y5 y6 y7, LeO (code_Effect.j1 k y0 y1 y2 y3 y4 y5 y6 y7) (code_Effect.j1 (k + 1) y0 y1 y2 y3 y4 y5 y6 y7)) ∧ (∀ y0 y1, LeO (code_Effect.j2 k y0 y1) (code_Effect.j2 (k + 1) y0 y1))
  | 0 => ⟨fun _ _ _ _ _ _ _ _ r h => by simp [code_Effect.j0] at h, fun _ _ _ _ _ _ _ _ r h => by simp [code_Effect.j1] at h, fun _ _ r h => by simp [code_Effect.j2] at h⟩
  | k + 1 => by
    obtain ⟨ih0, ih1, ih2⟩ := code_Effect.mono_l k
    refine ⟨?_, ?_, ?_⟩
    · intro y0 y1 y2 y3 y4 y5 y6 y7
      unfold code_Effect.j0
      repeat' first | (with_reducible exact ih1 _ _ _ _ _ _ _ _) | (with_reducible exact LeO.refl _) | (with_reducible refine LeO.ite ?_ ?_)
    · intro y0 y1 y2 y3 y4 y5 y6 y7
      unfold code_Effect.j1
      repeat' first | (with_reducible exact ih2 _ _) | (with_reducible exact code_handle.mono _ _ _ _) | (with_reducible exact LeO.refl _) | (with_reducible refine LeO.ite ?_ ?_) | (with_reducible refine LeO.bind ?_ (fun _ => ?_))
    · intro y0 y1
      unfold code_Effect.j2
      repeat' (with_reducible exact LeO.refl _)
theorem code_Effect.mono : ∀ a0 a1 a2 a3 a4 a5 k, LeO (code_Effect.f k a0 a1 a2 a3 a4 a5) (code_Effect.f (k + 1) a0 a1 a2 a3 a4 a5) := by
  intro a0 a1 a2 a3 a4 a5 k
  obtain ⟨ih0, ih1, ih2⟩ := code_Effect.mono_l k
  unfold code_Effect.f
  repeat' first | (with_reducible exact ih0 _ _ _ _ _ _ _ _) | (with_reducible exact LeO.refl _) | (with_reducible refine LeO.ite ?_ ?_)
set_option maxHeartbeats 8000000 in
set_option maxRecDepth 100000 in
theorem code_Effect.calls (k : Nat) (A0_0 : Option Addr) (c0_0 : Nat) (l0_0 : List Int) (A0_1 : Option Addr) (c0_1 : Nat) (l0_1 : List ByteArray) (A0_2 : Option Addr) (c0_2 : Nat) (l0_2 : List (S44)) (A0_3 : Option Addr) (c0_3 : Nat) (l0_3 : List (S41)) (a1_0 : Int) (a1_1 : Int) (r1 : Int) (r2 : Int) (r3 : Bool) (w : World) (hr0_0 : Kd.C (Kd.int .i64) w A0_0 l0_0.length l0_0) (hc0_0 : l0_0.length ≤ c0_0) (hr0_1 : Kd.C Kd.string w A0_1 l0_1.length l0_1) (hc0_1 : l0_1.length ≤ c0_1) (hr0_2 : Kd.C k44 w A0_2 l0_2.length l0_2) (hc0_2 : l0_2.length ≤ c0_2) (hr0_3 : Kd.C k41 w A0_3 l0_3.length l0_3) (hc0_3 : l0_3.length ≤ c0_3) (hM : NW.MaxOk w) (h : code_Effect.f k l0_0 l0_1 l0_2 l0_3 a1_0 a1_1 = some (r1, r2, r3)) :
    Calls Tryd.prog 20 #[.agg #[.slice A0_0 l0_0.length c0_0, .slice A0_1 l0_1.length c0_1, .slice A0_2 l0_2.length c0_2, .slice A0_3 l0_3.length c0_3], .agg #[.int .u8 a1_0, .int .i64 a1_1]] w fun e w' => e = .returned (.tuple #[.int .i64 r1, .int .i64 r2, .bool r3]) ∧ Below w.heap.size w w' := by
  have hu30 := Tryd.underlying30
  have hu32 := Tryd.underlying32
  have hu41 := Tryd.underlying41
  have HR0_0 := Aside0.mk hr0_0
  have HC0_0 := Aside0.mk hc0_0
  clear hr0_0 hc0_0
  have HR0_1 := Aside0.mk hr0_1
  have HC0_1 := Aside0.mk hc0_1
  clear hr0_1 hc0_1
  have HR0_2 := Aside0.mk hr0_2
  have HC0_2 := Aside0.mk hc0_2
  clear hr0_2 hc0_2
  have HR0_3 := Aside0.mk hr0_3
  have HC0_3 := Aside0.mk hc0_3
  clear hr0_3 hc0_3
  have HB := Aside0.mk (Below.refl w.heap.size w)
  have HMX := Aside0.mk hM
  clear hM
  have H : (if a1_0 = 1 then ((code_in.f a1_1 (l0_0.length : Int)).bind fun t144 => ((code_effect.f 0 1 t144).bind fun bt145 => (some (bt145.1, bt145.2.1, bt145.2.2)))) else (if a1_0 = 2 then ((code_in.f a1_1 (l0_1.length : Int)).bind fun t148 => ((code_effect.f 0 1 t148).bind fun bt149 => (some (bt149.1, bt149.2.1, bt149.2.2)))) else (if a1_0 = 3 then (code_Effect.j0 k a1_0 (a1_0 == 3) l0_0 l0_1 l0_2 l0_3 a1_0 a1_1) else (if a1_0 = 4 then (code_Effect.j0 k a1_0 (a1_0 == 4) l0_0 l0_1 l0_2 l0_3 a1_0 a1_1) else (if a1_0 = 5 then (code_Effect.j0 k a1_0 (a1_0 == 5) l0_0 l0_1 l0_2 l0_3 a1_0 a1_1) else (if a1_0 = 6 then (code_Effect.j0 k a1_0 (a1_0 == 6) l0_0 l0_1 l0_2 l0_3 a1_0 a1_1) else (code_Effect.j0 k a1_0 (a1_0 == 8) l0_0 l0_1 l0_2 l0_3 a1_0 a1_1))))))) = some (r1, r2, r3) := h
  clear h
  by_cases c3 : a1_0 = 1
  · rw [if_pos c3] at H
    have c3b0 : (a1_0 == 1) = true := beq_iff_eq.mpr c3
    have c3b1 : (a1_0 != 1) = false := bne_eq_false_iff_eq.mpr c3
    clear c3
    replace H := Option.bind_eq_some_iff.mp H
    obtain ⟨t144, A40, H⟩ := H
    replace H : ((code_effect.f 0 1 t144).bind fun bt145 => (some (bt145.1, bt145.2.1, bt145.2.2))) = some (r1, r2, r3) := H
    have A4 := Aside0.mk A40
    clear A40
    replace H := Option.bind_eq_some_iff.mp H
    obtain ⟨⟨t145, t146, t147⟩, A50, H⟩ := H
    replace H : (some (t145, t146, t147)) = some (r1, r2, r3) := H
    have A5 := Aside0.mk A50
    clear A50
    simp only [Option.some.injEq, Prod.mk.injEq] at H
    obtain ⟨rfl, rfl, rfl⟩ := H
    go_enter Tryd.func20, Tryd.ntmps20
    go_wp2_with (first | ((with_reducible refine gate_dst (N := 2) rfl ?_); refine box_event ?hg (N := 2) ?hd (cs := #[.slice A0_0 l0_0.length c0_0, .slice A0_1 l0_1.length c0_1, .slice A0_2 l0_2.length c0_2, .slice A0_3 l0_3.length c0_3]) (t := 30) ?hr ?_; (case hd => rfl); (case hg => rfl); (case hr => ((go_simp; done))); intro gb142 hg w6 hbox hb; have n0_ := Aside0.mk (below_step (by repeat ((with_reducible exact HB.out))) hb); have n1_ := Aside0.mk (hbox); have n2_ := Aside0.mk ((by rw [hg]; exact (below_size (by repeat ((with_reducible exact HB.out)))) : w.heap.size ≤ gb142)); have n3_ := Aside0.mk ((by rw [hg]; exact (below_size (by repeat ((with_reducible exact HB.out)))) : w.heap.size ≤ gb142)); clear HB; have HB := n0_; have BK142 := n1_; have GW142 := n2_; have GE142 := n3_; clear n0_ n1_ n2_ n3_; clear hb hbox hg) | ((with_reducible refine gate_dst (N := 3) rfl ?_); refine box_event ?hg (N := 3) ?hd (cs := #[.int .u8 a1_0, .int .i64 a1_1]) (t := 32) ?hr ?_; (case hd => rfl); (case hg => rfl); (case hr => ((go_simp; done))); intro gb143 hg w7 hbox hb; have n0_ := Aside0.mk (blk_below (g := gb142) (o := .cells #[.slice A0_0 l0_0.length c0_0, .slice A0_1 l0_1.length c0_1, .slice A0_2 l0_2.length c0_2, .slice A0_3 l0_3.length c0_3] 30 (0, 0)) (by (with_reducible repeat (fail)); exact BK142.out) hb); have n1_ := Aside0.mk (below_step (by repeat ((with_reducible exact HB.out))) hb); have n2_ := Aside0.mk (hbox); have n3_ := Aside0.mk ((by rw [hg]; exact (below_size (by repeat ((with_reducible exact HB.out)))) : w.heap.size ≤ gb143)); have n4_ := Aside0.mk ((by rw [hg]; exact (below_size (by repeat ((with_reducible exact HB.out)))) : w.heap.size ≤ gb143)); have n5_ := Aside0.mk ((by rw [hg]; exact Nat.ne_of_lt (blk_lt (g := gb142) (o := .cells #[.slice A0_0 l0_0.length c0_0, .slice A0_1 l0_1.length c0_1, .slice A0_2 l0_2.length c0_2, .slice A0_3 l0_3.length c0_3] 30 (0, 0)) (by (with_reducible repeat (fail)); exact BK142.out)) : gb142 ≠ gb143)); have n6_ := Aside0.mk ((by rw [hg]; exact Nat.ne_of_gt (blk_lt (g := gb142) (o := .cells #[.slice A0_0 l0_0.length c0_0, .slice A0_1 l0_1.length c0_1, .slice A0_2 l0_2.length c0_2, .slice A0_3 l0_3.length c0_3] 30 (0, 0)) (by (with_reducible repeat (fail)); exact BK142.out)) : gb143 ≠ gb142)); clear BK142; clear HB; have BK142 := n0_; have HB := n1_; have BK143 := n2_; have GW143 := n3_; have GE143 := n4_; have NB142_143 := n5_; have NB143_142 := n6_; clear n0_ n1_ n2_ n3_ n4_ n5_ n6_; clear hb hbox hg; have hnb8 := NB143_142.out; have hnc8 := NB142_143.out; have hcz9_0 : w7.cell? ⟨gb143, 0, none⟩ = some (.int .u8 a1_0) := (blk_cell BK143.out 0).trans rfl; have hcz9_1 : w7.cell? ⟨gb143, 1, none⟩ = some (.int .i64 a1_1) := (blk_cell BK143.out 1).trans rfl; have hfz9_0 := blk_frozen BK143.out 0; have hfz9_1 := blk_frozen BK143.out 1; have hcz10_0 : w7.cell? ⟨gb142, 0, none⟩ = some (.slice A0_0 l0_0.length c0_0) := (blk_cell BK142.out 0).trans rfl; have hcz10_1 : w7.cell? ⟨gb142, 1, none⟩ = some (.slice A0_1 l0_1.length c0_1) := (blk_cell BK142.out 1).trans rfl; have hcz10_2 : w7.cell? ⟨gb142, 2, none⟩ = some (.slice A0_2 l0_2.length c0_2) := (blk_cell BK142.out 2).trans rfl; have hcz10_3 : w7.cell? ⟨gb142, 3, none⟩ = some (.slice A0_3 l0_3.length c0_3) := (blk_cell BK142.out 3).trans rfl; have hfz10_0 := blk_frozen BK142.out 0; have hfz10_1 := blk_frozen BK142.out 1; have hfz10_2 := blk_frozen BK142.out 2; have hfz10_3 := blk_frozen BK142.out 3) | (go_at_call 43; (with_reducible refine (code_in.calls a1_1 (l0_0.length : Int) t144 _ A4.out).mono ?_); rintro e w' ⟨rfl, ⟨nd, rfl⟩⟩) | (go_at_call 42; (with_reducible refine (code_effect.calls 0 1 t144 t145 t146 t147 _ A5.out).mono ?_); rintro e w' ⟨rfl, ⟨nd, rfl⟩⟩))
    repeat (go_quiet (fail))
    go_ret3
    exact ⟨by rfl, by repeat ((with_reducible first | exact HB.out | apply pw_below_drewN))⟩
  rw [if_neg c3] at H
  have c3b0 : (a1_0 == 1) = false := beq_eq_false_iff_ne.mpr c3
  have c3b1 : (a1_0 != 1) = true := bne_iff_ne.mpr c3
  by_cases c11 : a1_0 = 2
  · rw [if_pos c11] at H
    have c11b0 : (a1_0 == 2) = true := beq_iff_eq.mpr c11
    have c11b1 : (a1_0 != 2) = false := bne_eq_false_iff_eq.mpr c11
    clear c11
    replace H := Option.bind_eq_some_iff.mp H
    obtain ⟨t148, A120, H⟩ := H
    replace H : ((code_effect.f 0 1 t148).bind fun bt149 => (some (bt149.1, bt149.2.1, bt149.2.2))) = some (r1, r2, r3) := H
    have A12 := Aside0.mk A120
    clear A120
    replace H := Option.bind_eq_some_iff.mp H
    obtain ⟨⟨t149, t150, t151⟩, A130, H⟩ := H
    replace H : (some (t149, t150, t151)) = some (r1, r2, r3) := H
    have A13 := Aside0.mk A130
    clear A130
    simp only [Option.some.injEq, Prod.mk.injEq] at H
    obtain ⟨rfl, rfl, rfl⟩ := H
    go_enter Tryd.func20, Tryd.ntmps20
    go_wp2_with (first | ((with_reducible refine gate_dst (N := 2) rfl ?_); refine box_event ?hg (N := 2) ?hd (cs := #[.slice A0_0 l0_0.length c0_0, .slice A0_1 l0_1.length c0_1, .slice A0_2 l0_2.length c0_2, .slice A0_3 l0_3.length c0_3]) (t := 30) ?hr ?_; (case hd => rfl); (case hg => rfl); (case hr => ((go_simp; done))); intro gb142 hg w14 hbox hb; have n0_ := Aside0.mk (below_step (by repeat ((with_reducible exact HB.out))) hb); have n1_ := Aside0.mk (hbox); have n2_ := Aside0.mk ((by rw [hg]; exact (below_size (by repeat ((with_reducible exact HB.out)))) : w.heap.size ≤ gb142)); have n3_ := Aside0.mk ((by rw [hg]; exact (below_size (by repeat ((with_reducible exact HB.out)))) : w.heap.size ≤ gb142)); clear HB; have HB := n0_; have BK142 := n1_; have GW142 := n2_; have GE142 := n3_; clear n0_ n1_ n2_ n3_; clear hb hbox hg) | ((with_reducible refine gate_dst (N := 3) rfl ?_); refine box_event ?hg (N := 3) ?hd (cs := #[.int .u8 a1_0, .int .i64 a1_1]) (t := 32) ?hr ?_; (case hd => rfl); (case hg => rfl); (case hr => ((go_simp; done))); intro gb143 hg w15 hbox hb; have n0_ := Aside0.mk (blk_below (g := gb142) (o := .cells #[.slice A0_0 l0_0.length c0_0, .slice A0_1 l0_1.length c0_1, .slice A0_2 l0_2.length c0_2, .slice A0_3 l0_3.length c0_3] 30 (0, 0)) (by (with_reducible repeat (fail)); exact BK142.out) hb); have n1_ := Aside0.mk (below_step (by repeat ((with_reducible exact HB.out))) hb); have n2_ := Aside0.mk (hbox); have n3_ := Aside0.mk ((by rw [hg]; exact (below_size (by repeat ((with_reducible exact HB.out)))) : w.heap.size ≤ gb143)); have n4_ := Aside0.mk ((by rw [hg]; exact (below_size (by repeat ((with_reducible exact HB.out)))) : w.heap.size ≤ gb143)); have n5_ := Aside0.mk ((by rw [hg]; exact Nat.ne_of_lt (blk_lt (g := gb142) (o := .cells #[.slice A0_0 l0_0.length c0_0, .slice A0_1 l0_1.length c0_1, .slice A0_2 l0_2.length c0_2, .slice A0_3 l0_3.length c0_3] 30 (0, 0)) (by (with_reducible repeat (fail)); exact BK142.out)) : gb142 ≠ gb143)); have n6_ := Aside0.mk ((by rw [hg]; exact Nat.ne_of_gt (blk_lt (g := gb142) (o := .cells #[.slice A0_0 l0_0.length c0_0, .slice A0_1 l0_1.length c0_1, .slice A0_2 l0_2.length c0_2, .slice A0_3 l0_3.length c0_3] 30 (0, 0)) (by (with_reducible repeat (fail)); exact BK142.out)) : gb143 ≠ gb142)); clear BK142; clear HB; have BK142 := n0_; have HB := n1_; have BK143 := n2_; have GW143 := n3_; have GE143 := n4_; have NB142_143 := n5_; have NB143_142 := n6_; clear n0_ n1_ n2_ n3_ n4_ n5_ n6_; clear hb hbox hg; have hnb16 := NB143_142.out; have hnc16 := NB142_143.out; have hcz17_0 : w15.cell? ⟨gb143, 0, none⟩ = some (.int .u8 a1_0) := (blk_cell BK143.out 0).trans rfl; have hcz17_1 : w15.cell? ⟨gb143, 1, none⟩ = some (.int .i64 a1_1) := (blk_cell BK143.out 1).trans rfl; have hfz17_0 := blk_frozen BK143.out 0; have hfz17_1 := blk_frozen BK143.out 1; have hcz18_0 : w15.cell? ⟨gb142, 0, none⟩ = some (.slice A0_0 l0_0.length c0_0) := (blk_cell BK142.out 0).trans rfl; have hcz18_1 : w15.cell? ⟨gb142, 1, none⟩ = some (.slice A0_1 l0_1.length c0_1) := (blk_cell BK142.out 1).trans rfl; have hcz18_2 : w15.cell? ⟨gb142, 2, none⟩ = some (.slice A0_2 l0_2.length c0_2) := (blk_cell BK142.out 2).trans rfl; have hcz18_3 : w15.cell? ⟨gb142, 3, none⟩ = some (.slice A0_3 l0_3.length c0_3) := (blk_cell BK142.out 3).trans rfl; have hfz18_0 := blk_frozen BK142.out 0; have hfz18_1 := blk_frozen BK142.out 1; have hfz18_2 := blk_frozen BK142.out 2; have hfz18_3 := blk_frozen BK142.out 3) | (go_at_call 43; (with_reducible refine (code_in.calls a1_1 (l0_1.length : Int) t148 _ A12.out).mono ?_); rintro e w' ⟨rfl, ⟨nd, rfl⟩⟩) | (go_at_call 42; (with_reducible refine (code_effect.calls 0 1 t148 t149 t150 t151 _ A13.out).mono ?_); rintro e w' ⟨rfl, ⟨nd, rfl⟩⟩))
    repeat (go_quiet (fail))
    go_ret3
    exact ⟨by rfl, by repeat ((with_reducible first | exact HB.out | apply pw_below_drewN))⟩
  rw [if_neg c11] at H
  have c11b0 : (a1_0 == 2) = false := beq_eq_false_iff_ne.mpr c11
  have c11b1 : (a1_0 != 2) = true := bne_iff_ne.mpr c11
  have HC19 := Aside0.mk H
  clear H
  go_enter Tryd.func20, Tryd.ntmps20
  go_upto_if 34 with (first | ((with_reducible refine gate_dst (N := 2) rfl ?_); refine box_event ?hg (N := 2) ?hd (cs := #[.slice A0_0 l0_0.length c0_0, .slice A0_1 l0_1.length c0_1, .slice A0_2 l0_2.length c0_2, .slice A0_3 l0_3.length c0_3]) (t := 30) ?hr ?_; (case hd => rfl); (case hg => rfl); (case hr => ((go_simp; done))); intro gb142 hg w20 hbox hb; have n0_ := Aside0.mk (below_step (by repeat ((with_reducible exact HB.out))) hb); have n1_ := Aside0.mk (hbox); have n2_ := Aside0.mk ((by rw [hg]; exact (below_size (by repeat ((with_reducible exact HB.out)))) : w.heap.size ≤ gb142)); have n3_ := Aside0.mk ((by rw [hg]; exact (below_size (by repeat ((with_reducible exact HB.out)))) : w.heap.size ≤ gb142)); clear HB; have HB := n0_; have BK142 := n1_; have GW142 := n2_; have GE142 := n3_; clear n0_ n1_ n2_ n3_; clear hb hbox hg) | ((with_reducible refine gate_dst (N := 3) rfl ?_); refine box_event ?hg (N := 3) ?hd (cs := #[.int .u8 a1_0, .int .i64 a1_1]) (t := 32) ?hr ?_; (case hd => rfl); (case hg => rfl); (case hr => ((go_simp; done))); intro gb143 hg w21 hbox hb; have n0_ := Aside0.mk (blk_below (g := gb142) (o := .cells #[.slice A0_0 l0_0.length c0_0, .slice A0_1 l0_1.length c0_1, .slice A0_2 l0_2.length c0_2, .slice A0_3 l0_3.length c0_3] 30 (0, 0)) (by (with_reducible repeat (fail)); exact BK142.out) hb); have n1_ := Aside0.mk (below_step (by repeat ((with_reducible exact HB.out))) hb); have n2_ := Aside0.mk (hbox); have n3_ := Aside0.mk ((by rw [hg]; exact (below_size (by repeat ((with_reducible exact HB.out)))) : w.heap.size ≤ gb143)); have n4_ := Aside0.mk ((by rw [hg]; exact (below_size (by repeat ((with_reducible exact HB.out)))) : w.heap.size ≤ gb143)); have n5_ := Aside0.mk ((by rw [hg]; exact Nat.ne_of_lt (blk_lt (g := gb142) (o := .cells #[.slice A0_0 l0_0.length c0_0, .slice A0_1 l0_1.length c0_1, .slice A0_2 l0_2.length c0_2, .slice A0_3 l0_3.length c0_3] 30 (0, 0)) (by (with_reducible repeat (fail)); exact BK142.out)) : gb142 ≠ gb143)); have n6_ := Aside0.mk ((by rw [hg]; exact Nat.ne_of_gt (blk_lt (g := gb142) (o := .cells #[.slice A0_0 l0_0.length c0_0, .slice A0_1 l0_1.length c0_1, .slice A0_2 l0_2.length c0_2, .slice A0_3 l0_3.length c0_3] 30 (0, 0)) (by (with_reducible repeat (fail)); exact BK142.out)) : gb143 ≠ gb142)); clear BK142; clear HB; have BK142 := n0_; have HB := n1_; have BK143 := n2_; have GW143 := n3_; have GE143 := n4_; have NB142_143 := n5_; have NB143_142 := n6_; clear n0_ n1_ n2_ n3_ n4_ n5_ n6_; clear hb hbox hg; have hnb22 := NB143_142.out; have hnc22 := NB142_143.out; have hcz23_0 : w21.cell? ⟨gb143, 0, none⟩ = some (.int .u8 a1_0) := (blk_cell BK143.out 0).trans rfl; have hcz23_1 : w21.cell? ⟨gb143, 1, none⟩ = some (.int .i64 a1_1) := (blk_cell BK143.out 1).trans rfl; have hfz23_0 := blk_frozen BK143.out 0; have hfz23_1 := blk_frozen BK143.out 1))
  repeat (go_quiet (fail); go_upto_if 34 with (fail))
  go_cut [34] (fun v34 wc => ∃ (kq : Nat) (x34_18 : Bool), v34 = .bool x34_18 ∧ Aside0 (code_Effect.j0 kq a1_0 x34_18 l0_0 l0_1 l0_2 l0_3 a1_0 a1_1 = some (r1, r2, r3)) ∧ Aside0 (kq ≤ k) ∧ Aside0 (wc.heap[gb142]? = some (.cells #[(.slice A0_0 l0_0.length c0_0), (.slice A0_1 l0_1.length c0_1), (.slice A0_2 l0_2.length c0_2), (.slice A0_3 l0_3.length c0_3)] 30 (0, 0))) ∧ Aside0 (wc.heap[gb143]? = some (.cells #[.int .u8 a1_0, .int .i64 a1_1] 32 (0, 0))) ∧ Aside0 (Below w.heap.size w wc))
  case first =>
    have H := HC19.out
    clear HC19
    by_cases c24 : a1_0 = 3
    · rw [if_pos c24] at H
      have c24b0 : (a1_0 == 3) = true := beq_iff_eq.mpr c24
      have c24b1 : (a1_0 != 3) = false := bne_eq_false_iff_eq.mpr c24
      clear c24
      (rw [c24b0])
      have H' := Aside0.mk H
      clear H
      go_wp2
      repeat (go_quiet (fail))
      go_meet
      case rel => exact ⟨_, ((a1_0 == 3)), (by ((simp [*]; done))), H', ⟨by omega⟩, ⟨by (with_reducible repeat (fail)); exact BK142.out⟩, ⟨by (with_reducible repeat (fail)); exact BK143.out⟩, ⟨by repeat ((with_reducible exact HB.out))⟩⟩
    rw [if_neg c24] at H
    have c24b0 : (a1_0 == 3) = false := beq_eq_false_iff_ne.mpr c24
    have c24b1 : (a1_0 != 3) = true := bne_iff_ne.mpr c24
    (rw [c24b0])
    by_cases c25 : a1_0 = 4
    · rw [if_pos c25] at H
      have c25b0 : (a1_0 == 4) = true := beq_iff_eq.mpr c25
      have c25b1 : (a1_0 != 4) = false := bne_eq_false_iff_eq.mpr c25
      clear c25
      have H' := Aside0.mk H
      clear H
      go_wp2
      repeat (go_quiet (fail))
      go_meet
      case rel => exact ⟨_, ((a1_0 == 4)), (by ((simp [*]; done))), H', ⟨by omega⟩, ⟨by (with_reducible repeat (fail)); exact BK142.out⟩, ⟨by (with_reducible repeat (fail)); exact BK143.out⟩, ⟨by repeat ((with_reducible exact HB.out))⟩⟩
    rw [if_neg c25] at H
    have c25b0 : (a1_0 == 4) = false := beq_eq_false_iff_ne.mpr c25
    have c25b1 : (a1_0 != 4) = true := bne_iff_ne.mpr c25
    by_cases c26 : a1_0 = 5
    · rw [if_pos c26] at H
      have c26b0 : (a1_0 == 5) = true := beq_iff_eq.mpr c26
      have c26b1 : (a1_0 != 5) = false := bne_eq_false_iff_eq.mpr c26
      clear c26
      have H' := Aside0.mk H
      clear H
      go_wp2
      repeat (go_quiet (fail))
      go_meet
      case rel => exact ⟨_, ((a1_0 == 5)), (by ((simp [*]; done))), H', ⟨by omega⟩, ⟨by (with_reducible repeat (fail)); exact BK142.out⟩, ⟨by (with_reducible repeat (fail)); exact BK143.out⟩, ⟨by repeat ((with_reducible exact HB.out))⟩⟩
    rw [if_neg c26] at H
    have c26b0 : (a1_0 == 5) = false := beq_eq_false_iff_ne.mpr c26
    have c26b1 : (a1_0 != 5) = true := bne_iff_ne.mpr c26
    by_cases c27 : a1_0 = 6
    · rw [if_pos c27] at H
      have c27b0 : (a1_0 == 6) = true := beq_iff_eq.mpr c27
      have c27b1 : (a1_0 != 6) = false := bne_eq_false_iff_eq.mpr c27
      clear c27
      have H' := Aside0.mk H
      clear H
      go_wp2
      repeat (go_quiet (fail))
      go_meet
      case rel => exact ⟨_, ((a1_0 == 6)), (by ((simp [*]; done))), H', ⟨by omega⟩, ⟨by (with_reducible repeat (fail)); exact BK142.out⟩, ⟨by (with_reducible repeat (fail)); exact BK143.out⟩, ⟨by repeat ((with_reducible exact HB.out))⟩⟩
    rw [if_neg c27] at H
    have c27b0 : (a1_0 == 6) = false := beq_eq_false_iff_ne.mpr c27
    have c27b1 : (a1_0 != 6) = true := bne_iff_ne.mpr c27
    have H' := Aside0.mk H
    clear H
    go_wp2
    repeat (go_quiet (fail))
    go_meet
    case rel => exact ⟨_, ((a1_0 == 8)), (by rfl), H', ⟨by omega⟩, ⟨by (with_reducible repeat (fail)); exact BK142.out⟩, ⟨by (with_reducible repeat (fail)); exact BK143.out⟩, ⟨by repeat ((with_reducible exact HB.out))⟩⟩
  case rest =>
    clear HC19 c3 c3b0 c3b1 c11 c11b0 c11b1 hcz23_0 hcz23_1 hfz23_0 hfz23_1
    obtain ⟨kq, x34_18, rfl, HA, HJ18, BK142, BK143, HB⟩ := hcut
    cases kq with
    | zero => exact absurd HA.out (by simp [code_Effect.j0])
    | succ kj18 =>
      have H := HA.out
      clear HA
      simp only [code_Effect.j0] at H
      by_cases c28 : x34_18 = true
      · subst c28
        have H1 : (some (0, 1, true)) = some (r1, r2, r3) := by rw [if_pos rfl] at H; exact H
        clear H
        have H := H1
        clear H1
        simp only [Option.some.injEq, Prod.mk.injEq] at H
        obtain ⟨rfl, rfl, rfl⟩ := H
        go_wp2
        repeat (go_quiet (fail))
        go_ret3
        exact ⟨by rfl, by repeat ((with_reducible exact HB.out))⟩
      replace c28 := Bool.eq_false_iff.mpr c28
      subst c28
      have H1 : (if a1_0 = 7 then (code_Effect.j1 kj18 a1_0 (a1_0 == 7) l0_0 l0_1 l0_2 l0_3 a1_0 a1_1) else (if a1_0 = 14 then (code_Effect.j1 kj18 a1_0 (a1_0 == 14) l0_0 l0_1 l0_2 l0_3 a1_0 a1_1) else (code_Effect.j1 kj18 a1_0 (a1_0 == 15) l0_0 l0_1 l0_2 l0_3 a1_0 a1_1))) = some (r1, r2, r3) := by rw [if_neg (show ¬ (false = true) by decide)] at H; exact H
      clear H
      have H := H1
      clear H1
      have HC29 := Aside0.mk H
      clear H
      go_upto_if 40 with (fail)
      repeat (go_quiet (fail); go_upto_if 40 with (fail))
      go_cut [40] (fun v40 wc => ∃ (kq : Nat) (x40_28 : Bool), v40 = .bool x40_28 ∧ Aside0 (code_Effect.j1 kq a1_0 x40_28 l0_0 l0_1 l0_2 l0_3 a1_0 a1_1 = some (r1, r2, r3)) ∧ Aside0 (kq ≤ kj18) ∧ Aside0 (wc.heap[gb142]? = some (.cells #[(.slice A0_0 l0_0.length c0_0), (.slice A0_1 l0_1.length c0_1), (.slice A0_2 l0_2.length c0_2), (.slice A0_3 l0_3.length c0_3)] 30 (0, 0))) ∧ Aside0 (wc.heap[gb143]? = some (.cells #[.int .u8 a1_0, .int .i64 a1_1] 32 (0, 0))) ∧ Aside0 (Below w.heap.size w wc))
      case first =>
        have H := HC29.out
        clear HC29
        by_cases c30 : a1_0 = 7
        · rw [if_pos c30] at H
          have c30b0 : (a1_0 == 7) = true := beq_iff_eq.mpr c30
          have c30b1 : (a1_0 != 7) = false := bne_eq_false_iff_eq.mpr c30
          clear c30
          (rw [c30b0])
          have H' := Aside0.mk H
          clear H
          go_wp2
          repeat (go_quiet (fail))
          go_meet
          case rel => exact ⟨_, ((a1_0 == 7)), (by ((simp [*]; done))), H', ⟨by have := HJ18.out; omega⟩, ⟨by (with_reducible repeat (fail)); exact BK142.out⟩, ⟨by (with_reducible repeat (fail)); exact BK143.out⟩, ⟨by repeat ((with_reducible exact HB.out))⟩⟩
        rw [if_neg c30] at H
        have c30b0 : (a1_0 == 7) = false := beq_eq_false_iff_ne.mpr c30
        have c30b1 : (a1_0 != 7) = true := bne_iff_ne.mpr c30
        (rw [c30b0])
        by_cases c31 : a1_0 = 14
        · rw [if_pos c31] at H
          have c31b0 : (a1_0 == 14) = true := beq_iff_eq.mpr c31
          have c31b1 : (a1_0 != 14) = false := bne_eq_false_iff_eq.mpr c31
          clear c31
          have H' := Aside0.mk H
          clear H
          go_wp2
          repeat (go_quiet (fail))
          go_meet
          case rel => exact ⟨_, ((a1_0 == 14)), (by ((simp [*]; done))), H', ⟨by have := HJ18.out; omega⟩, ⟨by (with_reducible repeat (fail)); exact BK142.out⟩, ⟨by (with_reducible repeat (fail)); exact BK143.out⟩, ⟨by repeat ((with_reducible exact HB.out))⟩⟩
        rw [if_neg c31] at H
        have c31b0 : (a1_0 == 14) = false := beq_eq_false_iff_ne.mpr c31
        have c31b1 : (a1_0 != 14) = true := bne_iff_ne.mpr c31
        have H' := Aside0.mk H
        clear H
        go_wp2
        repeat (go_quiet (fail))
        go_meet
        case rel => exact ⟨_, ((a1_0 == 15)), (by rfl), H', ⟨by have := HJ18.out; omega⟩, ⟨by (with_reducible repeat (fail)); exact BK142.out⟩, ⟨by (with_reducible repeat (fail)); exact BK143.out⟩, ⟨by repeat ((with_reducible exact HB.out))⟩⟩
      case rest =>
        clear HC29
        obtain ⟨kq, x40_28, rfl, HA, HJ28, BK142, BK143, HB⟩ := hcut
        cases kq with
        | zero => exact absurd HA.out (by simp [code_Effect.j1])
        | succ kj28 =>
          have H := HA.out
          clear HA
          simp only [code_Effect.j1] at H
          by_cases c32 : x40_28 = true
          · subst c32
            have H1 : (some (1, 0, true)) = some (r1, r2, r3) := by rw [if_pos rfl] at H; exact H
            clear H
            have H := H1
            clear H1
            simp only [Option.some.injEq, Prod.mk.injEq] at H
            obtain ⟨rfl, rfl, rfl⟩ := H
            go_wp2
            repeat (go_quiet (fail))
            go_ret3
            exact ⟨by rfl, by repeat ((with_reducible exact HB.out))⟩
          replace c32 := Bool.eq_false_iff.mpr c32
          subst c32
          have H1 : (if a1_0 = 9 then ((code_in.f a1_1 (l0_2.length : Int)).bind fun t152 => (if t152 = true then (if 0 ≤ a1_1 then (if a1_1 < (l0_2.length : Int) then ((code_effect.f ((rd_T44 l0_2 a1_1).f2) 1 (decide (((rd_T44 l0_2 a1_1).f2) ≥ 0))).bind fun bt155 => (some (bt155.1, bt155.2.1, bt155.2.2))) else (none)) else (none)) else (some (0, 0, false)))) else (if a1_0 = 10 then ((code_in.f a1_1 201).bind fun t158 => ((code_effect.f (wrap64 (a1_1 + 1)) 1 t158).bind fun bt159 => (some (bt159.1, bt159.2.1, bt159.2.2)))) else (if a1_0 = 11 then ((code_in.f a1_1 201).bind fun t162 => ((code_effect.f (wrap64 (a1_1 + 1)) 0 t162).bind fun bt163 => (some (bt163.1, bt163.2.1, bt163.2.2)))) else (if a1_0 = 12 then (some (1, 0, true)) else (if a1_0 = 13 then (some (0, 0, true)) else (if a1_0 = 16 then ((code_Words.f).bind fun t166 => ((code_in.f a1_1 (t166.length : Int)).bind fun t169 => (if t169 = true then (if 0 ≤ a1_1 then (if a1_1 < (t166.length : Int) then ((tree_Takes.f (rdOf ByteArray.empty t166 a1_1)).bind fun t171 => (some (t171, 1, true))) else (none)) else (none)) else (some (0, 0, false))))) else (if a1_0 = 17 then ((code_in.f a1_1 (l0_1.length : Int)).bind fun t172 => ((code_effect.f 1 1 t172).bind fun bt173 => (some (bt173.1, bt173.2.1, bt173.2.2)))) else (if a1_0 = 18 then ((code_in.f a1_1 (l0_3.length : Int)).bind fun t176 => (if t176 = true then (if 0 ≤ a1_1 then (if a1_1 < (l0_3.length : Int) then ((code_handle.f kj28 ((rd_T41 l0_3 a1_1).f0) ((rd_T41 l0_3 a1_1).f1) ((rd_T41 l0_3 a1_1).f2)).bind fun t178 => (some (t178, 1, true))) else (none)) else (none)) else (some (0, 0, false)))) else (if a1_0 = 19 then (code_Effect.j2 kj28 a1_0 (a1_0 == 19)) else (code_Effect.j2 kj28 a1_0 (a1_0 == 20))))))))))) = some (r1, r2, r3) := by rw [if_neg (show ¬ (false = true) by decide)] at H; exact H
          clear H
          have H := H1
          clear H1
          by_cases c33 : a1_0 = 9
          · rw [if_pos c33] at H
            have c33b0 : (a1_0 == 9) = true := beq_iff_eq.mpr c33
            have c33b1 : (a1_0 != 9) = false := bne_eq_false_iff_eq.mpr c33
            clear c33
            replace H := Option.bind_eq_some_iff.mp H
            obtain ⟨t152, A340, H⟩ := H
            have A34 := Aside0.mk A340
            clear A340
            by_cases c35 : t152 = true
            · subst c35
              have H1 : (if 0 ≤ a1_1 then (if a1_1 < (l0_2.length : Int) then ((code_effect.f ((rd_T44 l0_2 a1_1).f2) 1 (decide (((rd_T44 l0_2 a1_1).f2) ≥ 0))).bind fun bt155 => (some (bt155.1, bt155.2.1, bt155.2.2))) else (none)) else (none)) = some (r1, r2, r3) := by rw [if_pos rfl] at H; exact H
              clear H
              have H := H1
              clear H1
              by_cases c36 : 0 ≤ a1_1
              · rw [if_pos c36] at H
                have c36b0 : decide (0 ≤ a1_1) = true := decide_eq_true c36
                clear c36
                by_cases c37 : a1_1 < (l0_2.length : Int)
                · rw [if_pos c37] at H
                  have c37b0 : decide (a1_1 < (l0_2.length : Int)) = true := decide_eq_true c37
                  clear c37
                  replace H := Option.bind_eq_some_iff.mp H
                  obtain ⟨⟨t155, t156, t157⟩, A380, H⟩ := H
                  replace H : (some (t155, t156, t157)) = some (r1, r2, r3) := H
                  have A38 := Aside0.mk A380
                  clear A380
                  simp only [Option.some.injEq, Prod.mk.injEq] at H
                  obtain ⟨rfl, rfl, rfl⟩ := H
                  have hnb39 := NB143_142.out
                  have hnc39 := NB142_143.out
                  have hcz40_0 : wc.cell? ⟨gb143, 0, none⟩ = some (.int .u8 a1_0) := (blk_cell BK143.out 0).trans rfl
                  have hcz40_1 : wc.cell? ⟨gb143, 1, none⟩ = some (.int .i64 a1_1) := (blk_cell BK143.out 1).trans rfl
                  have hfz40_0 := blk_frozen BK143.out 0
                  have hfz40_1 := blk_frozen BK143.out 1
                  have hcz41_0 : wc.cell? ⟨gb142, 0, none⟩ = some (.slice A0_0 l0_0.length c0_0) := (blk_cell BK142.out 0).trans rfl
                  have hcz41_1 : wc.cell? ⟨gb142, 1, none⟩ = some (.slice A0_1 l0_1.length c0_1) := (blk_cell BK142.out 1).trans rfl
                  have hcz41_2 : wc.cell? ⟨gb142, 2, none⟩ = some (.slice A0_2 l0_2.length c0_2) := (blk_cell BK142.out 2).trans rfl
                  have hcz41_3 : wc.cell? ⟨gb142, 3, none⟩ = some (.slice A0_3 l0_3.length c0_3) := (blk_cell BK142.out 3).trans rfl
                  have hfz41_0 := blk_frozen BK142.out 0
                  have hfz41_1 := blk_frozen BK142.out 1
                  have hfz41_2 := blk_frozen BK142.out 2
                  have hfz41_3 := blk_frozen BK142.out 3
                  go_wp2_with ((go_at_call 43; (with_reducible refine (code_in.calls a1_1 (l0_2.length : Int) true _ A34.out).mono ?_); rintro e w' ⟨rfl, ⟨nd, rfl⟩⟩; have p153 : 0 ≤ (a1_1 : Int) := of_decide_eq_true (by (with_reducible assumption)); have q153 : a1_1 < (l0_2.length : Int) := of_decide_eq_true (by (with_reducible assumption)); obtain ⟨ad153, A153_3, c153_3, e153, hx153_0, hx153_1, hx153_2, hx153_3, hl153_3, hi153_3⟩ := at_T44 HR0_2.out a1_1 p153 q153; cases e153; replace hx153_0 := (HB.out.cell (World.block_lt_of_cell? w _ hx153_0)).trans hx153_0; replace hx153_1 := (HB.out.cell (World.block_lt_of_cell? w _ hx153_1)).trans hx153_1; replace hx153_2 := (HB.out.cell (World.block_lt_of_cell? w _ hx153_2)).trans hx153_2; replace hx153_3 := (HB.out.cell (World.block_lt_of_cell? w _ hx153_3)).trans hx153_3; have HR153_3 := Aside0.mk hi153_3; have HC153_3 := Aside0.mk hl153_3; clear hi153_3 hl153_3; replace p153 := eq_true p153; replace q153 := eq_true q153; have p154 : 0 ≤ (a1_1 : Int) := of_decide_eq_true (by (with_reducible assumption)); have q154 : a1_1 < (l0_2.length : Int) := of_decide_eq_true (by (with_reducible assumption)); obtain ⟨ad154, A154_3, c154_3, e154, hx154_0, hx154_1, hx154_2, hx154_3, hl154_3, hi154_3⟩ := at_T44 HR0_2.out a1_1 p154 q154; obtain rfl : ad153 = ad154 := (by injection e154); replace hx154_0 := (HB.out.cell (World.block_lt_of_cell? w _ hx154_0)).trans hx154_0; replace hx154_1 := (HB.out.cell (World.block_lt_of_cell? w _ hx154_1)).trans hx154_1; replace hx154_2 := (HB.out.cell (World.block_lt_of_cell? w _ hx154_2)).trans hx154_2; replace hx154_3 := (HB.out.cell (World.block_lt_of_cell? w _ hx154_3)).trans hx154_3; have HR154_3 := Aside0.mk hi154_3; have HC154_3 := Aside0.mk hl154_3; clear hi154_3 hl154_3; replace p154 := eq_true p154; replace q154 := eq_true q154; have ea_ := Option.some.inj (hx153_3.symm.trans hx154_3); injection ea_ with ea_ en_ ec_; subst ea_; subst ec_; clear en_))
                  repeat (go_quiet ((go_at_call 42; (with_reducible refine (code_effect.calls ((rd_T44 l0_2 a1_1).f2) 1 (decide (((rd_T44 l0_2 a1_1).f2) ≥ 0)) t155 t156 t157 _ A38.out).mono ?_); rintro e w' ⟨rfl, ⟨nd, rfl⟩⟩; (try exact ⟨rfl, _, Eq.trans (World.drewN_drewN _ _ _) (congrArg (World.drewN _) (Nat.add_assoc _ _ _))⟩))); try go_wp2_with (fail))
                  go_ret3
                  exact ⟨by rfl, by repeat ((with_reducible first | exact HB.out | apply pw_below_drewN))⟩
                rw [if_neg c37] at H
                exact absurd H (by simp)
              rw [if_neg c36] at H
              exact absurd H (by simp)
            replace c35 := Bool.eq_false_iff.mpr c35
            subst c35
            have H1 : (some (0, 0, false)) = some (r1, r2, r3) := by rw [if_neg (show ¬ (false = true) by decide)] at H; exact H
            clear H
            have H := H1
            clear H1
            simp only [Option.some.injEq, Prod.mk.injEq] at H
            obtain ⟨rfl, rfl, rfl⟩ := H
            have hnb42 := NB143_142.out
            have hnc42 := NB142_143.out
            have hcz43_0 : wc.cell? ⟨gb143, 0, none⟩ = some (.int .u8 a1_0) := (blk_cell BK143.out 0).trans rfl
            have hcz43_1 : wc.cell? ⟨gb143, 1, none⟩ = some (.int .i64 a1_1) := (blk_cell BK143.out 1).trans rfl
            have hfz43_0 := blk_frozen BK143.out 0
            have hfz43_1 := blk_frozen BK143.out 1
            have hcz44_0 : wc.cell? ⟨gb142, 0, none⟩ = some (.slice A0_0 l0_0.length c0_0) := (blk_cell BK142.out 0).trans rfl
            have hcz44_1 : wc.cell? ⟨gb142, 1, none⟩ = some (.slice A0_1 l0_1.length c0_1) := (blk_cell BK142.out 1).trans rfl
            have hcz44_2 : wc.cell? ⟨gb142, 2, none⟩ = some (.slice A0_2 l0_2.length c0_2) := (blk_cell BK142.out 2).trans rfl
            have hcz44_3 : wc.cell? ⟨gb142, 3, none⟩ = some (.slice A0_3 l0_3.length c0_3) := (blk_cell BK142.out 3).trans rfl
            have hfz44_0 := blk_frozen BK142.out 0
            have hfz44_1 := blk_frozen BK142.out 1
            have hfz44_2 := blk_frozen BK142.out 2
            have hfz44_3 := blk_frozen BK142.out 3
            go_wp2_with ((go_at_call 43; (with_reducible refine (code_in.calls a1_1 (l0_2.length : Int) false _ A34.out).mono ?_); rintro e w' ⟨rfl, ⟨nd, rfl⟩⟩))
            repeat (go_quiet (fail))
            go_ret3
            exact ⟨by rfl, by repeat ((with_reducible first | exact HB.out | apply pw_below_drewN))⟩
          rw [if_neg c33] at H
          have c33b0 : (a1_0 == 9) = false := beq_eq_false_iff_ne.mpr c33
          have c33b1 : (a1_0 != 9) = true := bne_iff_ne.mpr c33
          by_cases c45 : a1_0 = 10
          · rw [if_pos c45] at H
            have c45b0 : (a1_0 == 10) = true := beq_iff_eq.mpr c45
            have c45b1 : (a1_0 != 10) = false := bne_eq_false_iff_eq.mpr c45
            clear c45
            replace H := Option.bind_eq_some_iff.mp H
            obtain ⟨t158, A460, H⟩ := H
            replace H : ((code_effect.f (wrap64 (a1_1 + 1)) 1 t158).bind fun bt159 => (some (bt159.1, bt159.2.1, bt159.2.2))) = some (r1, r2, r3) := H
            have A46 := Aside0.mk A460
            clear A460
            replace H := Option.bind_eq_some_iff.mp H
            obtain ⟨⟨t159, t160, t161⟩, A470, H⟩ := H
            replace H : (some (t159, t160, t161)) = some (r1, r2, r3) := H
            have A47 := Aside0.mk A470
            clear A470
            simp only [Option.some.injEq, Prod.mk.injEq] at H
            obtain ⟨rfl, rfl, rfl⟩ := H
            have hnb48 := NB143_142.out
            have hnc48 := NB142_143.out
            have hcz49_0 : wc.cell? ⟨gb143, 0, none⟩ = some (.int .u8 a1_0) := (blk_cell BK143.out 0).trans rfl
            have hcz49_1 : wc.cell? ⟨gb143, 1, none⟩ = some (.int .i64 a1_1) := (blk_cell BK143.out 1).trans rfl
            have hfz49_0 := blk_frozen BK143.out 0
            have hfz49_1 := blk_frozen BK143.out 1
            go_wp2_with (first | (go_at_call 43; (with_reducible refine (code_in.calls a1_1 201 t158 _ A46.out).mono ?_); rintro e w' ⟨rfl, ⟨nd, rfl⟩⟩; (try first | exact ⟨rfl, _, World.drewN_drewN _ _ _⟩ | exact ⟨rfl, _, Eq.trans (World.drewN_drewN _ _ _) (congrArg (World.drewN _) (Nat.add_assoc _ _ _))⟩)) | (go_at_call 42; (with_reducible refine (code_effect.calls (wrap64 (a1_1 + 1)) 1 t158 t159 t160 t161 _ A47.out).mono ?_); rintro e w' ⟨rfl, ⟨nd, rfl⟩⟩; (try first | exact ⟨rfl, _, World.drewN_drewN _ _ _⟩ | exact ⟨rfl, _, Eq.trans (World.drewN_drewN _ _ _) (congrArg (World.drewN _) (Nat.add_assoc _ _ _))⟩)))
            repeat (go_quiet (first | (go_at_call 43; (with_reducible refine (code_in.calls a1_1 201 t158 _ A46.out).mono ?_); rintro e w' ⟨rfl, ⟨nd, rfl⟩⟩; (try first | exact ⟨rfl, _, World.drewN_drewN _ _ _⟩ | exact ⟨rfl, _, Eq.trans (World.drewN_drewN _ _ _) (congrArg (World.drewN _) (Nat.add_assoc _ _ _))⟩)) | (go_at_call 42; (with_reducible refine (code_effect.calls (wrap64 (a1_1 + 1)) 1 t158 t159 t160 t161 _ A47.out).mono ?_); rintro e w' ⟨rfl, ⟨nd, rfl⟩⟩; (try first | exact ⟨rfl, _, World.drewN_drewN _ _ _⟩ | exact ⟨rfl, _, Eq.trans (World.drewN_drewN _ _ _) (congrArg (World.drewN _) (Nat.add_assoc _ _ _))⟩))); try go_wp2_with (first | (go_at_call 43; (with_reducible refine (code_in.calls a1_1 201 t158 _ A46.out).mono ?_); rintro e w' ⟨rfl, ⟨nd, rfl⟩⟩; (try first | exact ⟨rfl, _, World.drewN_drewN _ _ _⟩ | exact ⟨rfl, _, Eq.trans (World.drewN_drewN _ _ _) (congrArg (World.drewN _) (Nat.add_assoc _ _ _))⟩)) | (go_at_call 42; (with_reducible refine (code_effect.calls (wrap64 (a1_1 + 1)) 1 t158 t159 t160 t161 _ A47.out).mono ?_); rintro e w' ⟨rfl, ⟨nd, rfl⟩⟩; (try first | exact ⟨rfl, _, World.drewN_drewN _ _ _⟩ | exact ⟨rfl, _, Eq.trans (World.drewN_drewN _ _ _) (congrArg (World.drewN _) (Nat.add_assoc _ _ _))⟩))))
            go_ret3
            exact ⟨by first | rfl | (simp [errW_none, errW_some] <;> rfl) | (simp [*, errW_none, errW_some] <;> rfl), by repeat (first | (with_reducible first | exact HB.out | apply below_alloc | apply pw_below_drewN | apply below_drew1 | refine below_set ?_ GE142.out | refine below_set ?_ GE143.out) | exact HB.out)⟩
          rw [if_neg c45] at H
          have c45b0 : (a1_0 == 10) = false := beq_eq_false_iff_ne.mpr c45
          have c45b1 : (a1_0 != 10) = true := bne_iff_ne.mpr c45
          by_cases c50 : a1_0 = 11
          · rw [if_pos c50] at H
            have c50b0 : (a1_0 == 11) = true := beq_iff_eq.mpr c50
            have c50b1 : (a1_0 != 11) = false := bne_eq_false_iff_eq.mpr c50
            clear c50
            replace H := Option.bind_eq_some_iff.mp H
            obtain ⟨t162, A510, H⟩ := H
            replace H : ((code_effect.f (wrap64 (a1_1 + 1)) 0 t162).bind fun bt163 => (some (bt163.1, bt163.2.1, bt163.2.2))) = some (r1, r2, r3) := H
            have A51 := Aside0.mk A510
            clear A510
            replace H := Option.bind_eq_some_iff.mp H
            obtain ⟨⟨t163, t164, t165⟩, A520, H⟩ := H
            replace H : (some (t163, t164, t165)) = some (r1, r2, r3) := H
            have A52 := Aside0.mk A520
            clear A520
            simp only [Option.some.injEq, Prod.mk.injEq] at H
            obtain ⟨rfl, rfl, rfl⟩ := H
            have hnb53 := NB143_142.out
            have hnc53 := NB142_143.out
            have hcz54_0 : wc.cell? ⟨gb143, 0, none⟩ = some (.int .u8 a1_0) := (blk_cell BK143.out 0).trans rfl
            have hcz54_1 : wc.cell? ⟨gb143, 1, none⟩ = some (.int .i64 a1_1) := (blk_cell BK143.out 1).trans rfl
            have hfz54_0 := blk_frozen BK143.out 0
            have hfz54_1 := blk_frozen BK143.out 1
            go_wp2_with (first | (go_at_call 43; (with_reducible refine (code_in.calls a1_1 201 t162 _ A51.out).mono ?_); rintro e w' ⟨rfl, ⟨nd, rfl⟩⟩; (try first | exact ⟨rfl, _, World.drewN_drewN _ _ _⟩ | exact ⟨rfl, _, Eq.trans (World.drewN_drewN _ _ _) (congrArg (World.drewN _) (Nat.add_assoc _ _ _))⟩)) | (go_at_call 42; (with_reducible refine (code_effect.calls (wrap64 (a1_1 + 1)) 0 t162 t163 t164 t165 _ A52.out).mono ?_); rintro e w' ⟨rfl, ⟨nd, rfl⟩⟩; (try first | exact ⟨rfl, _, World.drewN_drewN _ _ _⟩ | exact ⟨rfl, _, Eq.trans (World.drewN_drewN _ _ _) (congrArg (World.drewN _) (Nat.add_assoc _ _ _))⟩)))
            repeat (go_quiet (first | (go_at_call 43; (with_reducible refine (code_in.calls a1_1 201 t162 _ A51.out).mono ?_); rintro e w' ⟨rfl, ⟨nd, rfl⟩⟩; (try first | exact ⟨rfl, _, World.drewN_drewN _ _ _⟩ | exact ⟨rfl, _, Eq.trans (World.drewN_drewN _ _ _) (congrArg (World.drewN _) (Nat.add_assoc _ _ _))⟩)) | (go_at_call 42; (with_reducible refine (code_effect.calls (wrap64 (a1_1 + 1)) 0 t162 t163 t164 t165 _ A52.out).mono ?_); rintro e w' ⟨rfl, ⟨nd, rfl⟩⟩; (try first | exact ⟨rfl, _, World.drewN_drewN _ _ _⟩ | exact ⟨rfl, _, Eq.trans (World.drewN_drewN _ _ _) (congrArg (World.drewN _) (Nat.add_assoc _ _ _))⟩))); try go_wp2_with (first | (go_at_call 43; (with_reducible refine (code_in.calls a1_1 201 t162 _ A51.out).mono ?_); rintro e w' ⟨rfl, ⟨nd, rfl⟩⟩; (try first | exact ⟨rfl, _, World.drewN_drewN _ _ _⟩ | exact ⟨rfl, _, Eq.trans (World.drewN_drewN _ _ _) (congrArg (World.drewN _) (Nat.add_assoc _ _ _))⟩)) | (go_at_call 42; (with_reducible refine (code_effect.calls (wrap64 (a1_1 + 1)) 0 t162 t163 t164 t165 _ A52.out).mono ?_); rintro e w' ⟨rfl, ⟨nd, rfl⟩⟩; (try first | exact ⟨rfl, _, World.drewN_drewN _ _ _⟩ | exact ⟨rfl, _, Eq.trans (World.drewN_drewN _ _ _) (congrArg (World.drewN _) (Nat.add_assoc _ _ _))⟩))))
            go_ret3
            exact ⟨by first | rfl | (simp [errW_none, errW_some] <;> rfl) | (simp [*, errW_none, errW_some] <;> rfl), by repeat (first | (with_reducible first | exact HB.out | apply below_alloc | apply pw_below_drewN | apply below_drew1 | refine below_set ?_ GE142.out | refine below_set ?_ GE143.out) | exact HB.out)⟩
          rw [if_neg c50] at H
          have c50b0 : (a1_0 == 11) = false := beq_eq_false_iff_ne.mpr c50
          have c50b1 : (a1_0 != 11) = true := bne_iff_ne.mpr c50
          by_cases c55 : a1_0 = 12
          · rw [if_pos c55] at H
            have c55b0 : (a1_0 == 12) = true := beq_iff_eq.mpr c55
            have c55b1 : (a1_0 != 12) = false := bne_eq_false_iff_eq.mpr c55
            clear c55
            simp only [Option.some.injEq, Prod.mk.injEq] at H
            obtain ⟨rfl, rfl, rfl⟩ := H
            go_wp2
            repeat (go_quiet (fail))
            go_ret3
            exact ⟨by rfl, by repeat ((with_reducible exact HB.out))⟩
          rw [if_neg c55] at H
          have c55b0 : (a1_0 == 12) = false := beq_eq_false_iff_ne.mpr c55
          have c55b1 : (a1_0 != 12) = true := bne_iff_ne.mpr c55
          by_cases c56 : a1_0 = 13
          · rw [if_pos c56] at H
            have c56b0 : (a1_0 == 13) = true := beq_iff_eq.mpr c56
            have c56b1 : (a1_0 != 13) = false := bne_eq_false_iff_eq.mpr c56
            clear c56
            simp only [Option.some.injEq, Prod.mk.injEq] at H
            obtain ⟨rfl, rfl, rfl⟩ := H
            go_wp2
            repeat (go_quiet (fail))
            go_ret3
            exact ⟨by rfl, by repeat ((with_reducible exact HB.out))⟩
          rw [if_neg c56] at H
          have c56b0 : (a1_0 == 13) = false := beq_eq_false_iff_ne.mpr c56
          have c56b1 : (a1_0 != 13) = true := bne_iff_ne.mpr c56
          by_cases c57 : a1_0 = 16
          · rw [if_pos c57] at H
            have c57b0 : (a1_0 == 16) = true := beq_iff_eq.mpr c57
            have c57b1 : (a1_0 != 16) = false := bne_eq_false_iff_eq.mpr c57
            clear c57
            replace H := Option.bind_eq_some_iff.mp H
            obtain ⟨t166, A580, H⟩ := H
            have A58 := Aside0.mk A580
            clear A580
            replace H := Option.bind_eq_some_iff.mp H
            obtain ⟨t169, A590, H⟩ := H
            have A59 := Aside0.mk A590
            clear A590
            by_cases c60 : t169 = true
            · subst c60
              have H1 : (if 0 ≤ a1_1 then (if a1_1 < (t166.length : Int) then ((tree_Takes.f (rdOf ByteArray.empty t166 a1_1)).bind fun t171 => (some (t171, 1, true))) else (none)) else (none)) = some (r1, r2, r3) := by rw [if_pos rfl] at H; exact H
              clear H
              have H := H1
              clear H1
              by_cases c61 : 0 ≤ a1_1
              · rw [if_pos c61] at H
                have c61b0 : decide (0 ≤ a1_1) = true := decide_eq_true c61
                clear c61
                by_cases c62 : a1_1 < (t166.length : Int)
                · rw [if_pos c62] at H
                  have c62b0 : decide (a1_1 < (t166.length : Int)) = true := decide_eq_true c62
                  clear c62
                  replace H := Option.bind_eq_some_iff.mp H
                  obtain ⟨t171, A630, H⟩ := H
                  replace H : (some (t171, 1, true)) = some (r1, r2, r3) := H
                  have A63 := Aside0.mk A630
                  clear A630
                  simp only [Option.some.injEq, Prod.mk.injEq] at H
                  obtain ⟨rfl, rfl, rfl⟩ := H
                  go_wp2_with (first | (go_at_call 16; (with_reducible refine (code_Words.calls  t166 _ ?side1 A58.out).mono ?_); (case side1 => exact NW.MaxOk.below HMX.out (by repeat ((with_reducible exact HB.out)))); rintro e w64 ⟨v167, rfl, ho0, hb⟩; have n0_ := Aside0.mk (Kd.R_lower ho0 (below_size (by repeat ((with_reducible exact HB.out))))); have n1_ := Aside0.mk (blk_below (g := gb142) (o := .cells #[.slice A0_0 l0_0.length c0_0, .slice A0_1 l0_1.length c0_1, .slice A0_2 l0_2.length c0_2, .slice A0_3 l0_3.length c0_3] 30 (0, 0)) (by (with_reducible repeat (fail)); exact BK142.out) hb); have n2_ := Aside0.mk (blk_below (g := gb143) (o := .cells #[.int .u8 a1_0, .int .i64 a1_1] 32 (0, 0)) (by (with_reducible repeat (fail)); exact BK143.out) hb); have n3_ := Aside0.mk (below_step (by repeat ((with_reducible exact HB.out))) hb); clear BK142; clear BK143; clear HB; have HO168 := n0_; have BK142 := n1_; have BK143 := n2_; have HB := n3_; clear n0_ n1_ n2_ n3_; (try clear hb); (try clear ho0); have hnb65 := NB143_142.out; have hnc65 := NB142_143.out; have hcz66_0 : w64.cell? ⟨gb143, 0, none⟩ = some (.int .u8 a1_0) := (blk_cell BK143.out 0).trans rfl; have hcz66_1 : w64.cell? ⟨gb143, 1, none⟩ = some (.int .i64 a1_1) := (blk_cell BK143.out 1).trans rfl; have hfz66_0 := blk_frozen BK143.out 0; have hfz66_1 := blk_frozen BK143.out 1; obtain ⟨Ao67, co67, eo67⟩ := Kd.R_slice HO168.out; subst eo67) | (go_at_call 43; (with_reducible refine (code_in.calls a1_1 (t166.length : Int) true _ A59.out).mono ?_); rintro e w' ⟨rfl, ⟨nd, rfl⟩⟩; have p170 : 0 ≤ (a1_1 : Int) := of_decide_eq_true (by (with_reducible assumption)); have q170 : a1_1 < (t166.length : Int) := of_decide_eq_true (by (with_reducible assumption)); obtain ⟨ad170, e170, hx170_0⟩ := Kd.at_string (Kd.R_reads' HO168.out).2.2 a1_1 p170 q170; cases e170; replace p170 := eq_true p170; replace q170 := eq_true q170) | (go_at_call 44; (with_reducible refine (tree_Takes.calls (rdOf ByteArray.empty t166 a1_1) t171 _ ?side1 A63.out).mono ?_); (case side1 => exact NW.MaxOk.below HMX.out (by repeat ((with_reducible first | exact HB.out | apply pw_below_drewN)))); rintro e w68 ⟨rfl, hb⟩; have n0_ := Aside0.mk (Kd.R_below (by (with_reducible repeat (apply Kd.R_drewN)); exact HO168.out) hb); have n1_ := Aside0.mk (blk_below (g := gb142) (o := .cells #[.slice A0_0 l0_0.length c0_0, .slice A0_1 l0_1.length c0_1, .slice A0_2 l0_2.length c0_2, .slice A0_3 l0_3.length c0_3] 30 (0, 0)) (by (with_reducible repeat (refine blk_drewN ?_ _)); exact BK142.out) hb); have n2_ := Aside0.mk (blk_below (g := gb143) (o := .cells #[.int .u8 a1_0, .int .i64 a1_1] 32 (0, 0)) (by (with_reducible repeat (refine blk_drewN ?_ _)); exact BK143.out) hb); have n3_ := Aside0.mk (below_step (by repeat ((with_reducible first | exact HB.out | apply pw_below_drewN))) hb); clear HO168; clear BK142; clear BK143; clear HB; have HO168 := n0_; have BK142 := n1_; have BK143 := n2_; have HB := n3_; clear n0_ n1_ n2_ n3_; (try clear hb)))
                  repeat (go_quiet (fail))
                  go_ret3
                  exact ⟨by rfl, by repeat ((with_reducible exact HB.out))⟩
                rw [if_neg c62] at H
                exact absurd H (by simp)
              rw [if_neg c61] at H
              exact absurd H (by simp)
            replace c60 := Bool.eq_false_iff.mpr c60
            subst c60
            have H1 : (some (0, 0, false)) = some (r1, r2, r3) := by rw [if_neg (show ¬ (false = true) by decide)] at H; exact H
            clear H
            have H := H1
            clear H1
            simp only [Option.some.injEq, Prod.mk.injEq] at H
            obtain ⟨rfl, rfl, rfl⟩ := H
            go_wp2_with (first | (go_at_call 16; (with_reducible refine (code_Words.calls  t166 _ ?side1 A58.out).mono ?_); (case side1 => exact NW.MaxOk.below HMX.out (by repeat ((with_reducible exact HB.out)))); rintro e w69 ⟨v167, rfl, ho0, hb⟩; have n0_ := Aside0.mk (Kd.R_lower ho0 (below_size (by repeat ((with_reducible exact HB.out))))); have n1_ := Aside0.mk (blk_below (g := gb142) (o := .cells #[.slice A0_0 l0_0.length c0_0, .slice A0_1 l0_1.length c0_1, .slice A0_2 l0_2.length c0_2, .slice A0_3 l0_3.length c0_3] 30 (0, 0)) (by (with_reducible repeat (fail)); exact BK142.out) hb); have n2_ := Aside0.mk (blk_below (g := gb143) (o := .cells #[.int .u8 a1_0, .int .i64 a1_1] 32 (0, 0)) (by (with_reducible repeat (fail)); exact BK143.out) hb); have n3_ := Aside0.mk (below_step (by repeat ((with_reducible exact HB.out))) hb); clear BK142; clear BK143; clear HB; have HO168 := n0_; have BK142 := n1_; have BK143 := n2_; have HB := n3_; clear n0_ n1_ n2_ n3_; (try clear hb); (try clear ho0); have hnb70 := NB143_142.out; have hnc70 := NB142_143.out; have hcz71_0 : w69.cell? ⟨gb143, 0, none⟩ = some (.int .u8 a1_0) := (blk_cell BK143.out 0).trans rfl; have hcz71_1 : w69.cell? ⟨gb143, 1, none⟩ = some (.int .i64 a1_1) := (blk_cell BK143.out 1).trans rfl; have hfz71_0 := blk_frozen BK143.out 0; have hfz71_1 := blk_frozen BK143.out 1; obtain ⟨Ao72, co72, eo72⟩ := Kd.R_slice HO168.out; subst eo72) | (go_at_call 43; (with_reducible refine (code_in.calls a1_1 (t166.length : Int) false _ A59.out).mono ?_); rintro e w' ⟨rfl, ⟨nd, rfl⟩⟩))
            repeat (go_quiet (fail))
            go_ret3
            exact ⟨by rfl, by repeat ((with_reducible first | exact HB.out | apply pw_below_drewN))⟩
          rw [if_neg c57] at H
          have c57b0 : (a1_0 == 16) = false := beq_eq_false_iff_ne.mpr c57
          have c57b1 : (a1_0 != 16) = true := bne_iff_ne.mpr c57
          by_cases c73 : a1_0 = 17
          · rw [if_pos c73] at H
            have c73b0 : (a1_0 == 17) = true := beq_iff_eq.mpr c73
            have c73b1 : (a1_0 != 17) = false := bne_eq_false_iff_eq.mpr c73
            clear c73
            replace H := Option.bind_eq_some_iff.mp H
            obtain ⟨t172, A740, H⟩ := H
            replace H : ((code_effect.f 1 1 t172).bind fun bt173 => (some (bt173.1, bt173.2.1, bt173.2.2))) = some (r1, r2, r3) := H
            have A74 := Aside0.mk A740
            clear A740
            replace H := Option.bind_eq_some_iff.mp H
            obtain ⟨⟨t173, t174, t175⟩, A750, H⟩ := H
            replace H : (some (t173, t174, t175)) = some (r1, r2, r3) := H
            have A75 := Aside0.mk A750
            clear A750
            simp only [Option.some.injEq, Prod.mk.injEq] at H
            obtain ⟨rfl, rfl, rfl⟩ := H
            have hnb76 := NB143_142.out
            have hnc76 := NB142_143.out
            have hcz77_0 : wc.cell? ⟨gb143, 0, none⟩ = some (.int .u8 a1_0) := (blk_cell BK143.out 0).trans rfl
            have hcz77_1 : wc.cell? ⟨gb143, 1, none⟩ = some (.int .i64 a1_1) := (blk_cell BK143.out 1).trans rfl
            have hfz77_0 := blk_frozen BK143.out 0
            have hfz77_1 := blk_frozen BK143.out 1
            have hcz78_0 : wc.cell? ⟨gb142, 0, none⟩ = some (.slice A0_0 l0_0.length c0_0) := (blk_cell BK142.out 0).trans rfl
            have hcz78_1 : wc.cell? ⟨gb142, 1, none⟩ = some (.slice A0_1 l0_1.length c0_1) := (blk_cell BK142.out 1).trans rfl
            have hcz78_2 : wc.cell? ⟨gb142, 2, none⟩ = some (.slice A0_2 l0_2.length c0_2) := (blk_cell BK142.out 2).trans rfl
            have hcz78_3 : wc.cell? ⟨gb142, 3, none⟩ = some (.slice A0_3 l0_3.length c0_3) := (blk_cell BK142.out 3).trans rfl
            have hfz78_0 := blk_frozen BK142.out 0
            have hfz78_1 := blk_frozen BK142.out 1
            have hfz78_2 := blk_frozen BK142.out 2
            have hfz78_3 := blk_frozen BK142.out 3
            go_wp2_with (first | (go_at_call 43; (with_reducible refine (code_in.calls a1_1 (l0_1.length : Int) t172 _ A74.out).mono ?_); rintro e w' ⟨rfl, ⟨nd, rfl⟩⟩) | (go_at_call 42; (with_reducible refine (code_effect.calls 1 1 t172 t173 t174 t175 _ A75.out).mono ?_); rintro e w' ⟨rfl, ⟨nd, rfl⟩⟩))
            repeat (go_quiet (fail))
            go_ret3
            exact ⟨by rfl, by repeat ((with_reducible first | exact HB.out | apply pw_below_drewN))⟩
          rw [if_neg c73] at H
          have c73b0 : (a1_0 == 17) = false := beq_eq_false_iff_ne.mpr c73
          have c73b1 : (a1_0 != 17) = true := bne_iff_ne.mpr c73
          by_cases c79 : a1_0 = 18
          · rw [if_pos c79] at H
            have c79b0 : (a1_0 == 18) = true := beq_iff_eq.mpr c79
            have c79b1 : (a1_0 != 18) = false := bne_eq_false_iff_eq.mpr c79
            clear c79
            replace H := Option.bind_eq_some_iff.mp H
            obtain ⟨t176, A800, H⟩ := H
            have A80 := Aside0.mk A800
            clear A800
            by_cases c81 : t176 = true
            · subst c81
              have H1 : (if 0 ≤ a1_1 then (if a1_1 < (l0_3.length : Int) then ((code_handle.f kj28 ((rd_T41 l0_3 a1_1).f0) ((rd_T41 l0_3 a1_1).f1) ((rd_T41 l0_3 a1_1).f2)).bind fun t178 => (some (t178, 1, true))) else (none)) else (none)) = some (r1, r2, r3) := by rw [if_pos rfl] at H; exact H
              clear H
              have H := H1
              clear H1
              by_cases c82 : 0 ≤ a1_1
              · rw [if_pos c82] at H
                have c82b0 : decide (0 ≤ a1_1) = true := decide_eq_true c82
                clear c82
                by_cases c83 : a1_1 < (l0_3.length : Int)
                · rw [if_pos c83] at H
                  have c83b0 : decide (a1_1 < (l0_3.length : Int)) = true := decide_eq_true c83
                  clear c83
                  replace H := Option.bind_eq_some_iff.mp H
                  obtain ⟨t178, A840, H⟩ := H
                  replace H : (some (t178, 1, true)) = some (r1, r2, r3) := H
                  have A84 := Aside0.mk A840
                  clear A840
                  simp only [Option.some.injEq, Prod.mk.injEq] at H
                  obtain ⟨rfl, rfl, rfl⟩ := H
                  have hnb85 := NB143_142.out
                  have hnc85 := NB142_143.out
                  have hcz86_0 : wc.cell? ⟨gb143, 0, none⟩ = some (.int .u8 a1_0) := (blk_cell BK143.out 0).trans rfl
                  have hcz86_1 : wc.cell? ⟨gb143, 1, none⟩ = some (.int .i64 a1_1) := (blk_cell BK143.out 1).trans rfl
                  have hfz86_0 := blk_frozen BK143.out 0
                  have hfz86_1 := blk_frozen BK143.out 1
                  have hcz87_0 : wc.cell? ⟨gb142, 0, none⟩ = some (.slice A0_0 l0_0.length c0_0) := (blk_cell BK142.out 0).trans rfl
                  have hcz87_1 : wc.cell? ⟨gb142, 1, none⟩ = some (.slice A0_1 l0_1.length c0_1) := (blk_cell BK142.out 1).trans rfl
                  have hcz87_2 : wc.cell? ⟨gb142, 2, none⟩ = some (.slice A0_2 l0_2.length c0_2) := (blk_cell BK142.out 2).trans rfl
                  have hcz87_3 : wc.cell? ⟨gb142, 3, none⟩ = some (.slice A0_3 l0_3.length c0_3) := (blk_cell BK142.out 3).trans rfl
                  have hfz87_0 := blk_frozen BK142.out 0
                  have hfz87_1 := blk_frozen BK142.out 1
                  have hfz87_2 := blk_frozen BK142.out 2
                  have hfz87_3 := blk_frozen BK142.out 3
                  go_wp2_with (first | (go_at_call 43; (with_reducible refine (code_in.calls a1_1 (l0_3.length : Int) true _ A80.out).mono ?_); rintro e w' ⟨rfl, ⟨nd, rfl⟩⟩; have p177 : 0 ≤ (a1_1 : Int) := of_decide_eq_true (by (with_reducible assumption)); have q177 : a1_1 < (l0_3.length : Int) := of_decide_eq_true (by (with_reducible assumption)); obtain ⟨ad177, A177_0, c177_0, e177, hx177_0, hx177_1, hx177_2, hl177_0, hi177_0⟩ := at_T41 HR0_3.out a1_1 p177 q177; cases e177; replace hx177_0 := (HB.out.cell (World.block_lt_of_cell? w _ hx177_0)).trans hx177_0; replace hx177_1 := (HB.out.cell (World.block_lt_of_cell? w _ hx177_1)).trans hx177_1; replace hx177_2 := (HB.out.cell (World.block_lt_of_cell? w _ hx177_2)).trans hx177_2; have HR177_0 := Aside0.mk hi177_0; have HC177_0 := Aside0.mk hl177_0; clear hi177_0 hl177_0; replace p177 := eq_true p177; replace q177 := eq_true q177) | (go_at_call 45; (with_reducible refine (code_handle.calls kj28 _ _ ((rd_T41 l0_3 a1_1).f0) ((rd_T41 l0_3 a1_1).f1) ((rd_T41 l0_3 a1_1).f2) t178 _ ?side1 ?side2 A84.out).mono ?_); (case side1 => repeat (exact (Kd.C_below HR177_0.out (by repeat ((with_reducible first | exact HB.out | apply pw_below_drewN)))))); (case side2 => exact HC177_0.out); rintro e w88 ⟨rfl, hb⟩; have n0_ := Aside0.mk (blk_below (g := gb142) (o := .cells #[.slice A0_0 l0_0.length c0_0, .slice A0_1 l0_1.length c0_1, .slice A0_2 l0_2.length c0_2, .slice (some ad177) l0_3.length c0_3] 30 (0, 0)) (by (with_reducible repeat (refine blk_drewN ?_ _)); exact BK142.out) hb); have n1_ := Aside0.mk (blk_below (g := gb143) (o := .cells #[.int .u8 a1_0, .int .i64 a1_1] 32 (0, 0)) (by (with_reducible repeat (refine blk_drewN ?_ _)); exact BK143.out) hb); have n2_ := Aside0.mk (below_step (by repeat ((with_reducible first | exact HB.out | apply pw_below_drewN))) hb); clear BK142; clear BK143; clear HB; have BK142 := n0_; have BK143 := n1_; have HB := n2_; clear n0_ n1_ n2_; (try clear hb)))
                  repeat (go_quiet (fail))
                  go_ret3
                  exact ⟨by rfl, by repeat ((with_reducible exact HB.out))⟩
                rw [if_neg c83] at H
                exact absurd H (by simp)
              rw [if_neg c82] at H
              exact absurd H (by simp)
            replace c81 := Bool.eq_false_iff.mpr c81
            subst c81
            have H1 : (some (0, 0, false)) = some (r1, r2, r3) := by rw [if_neg (show ¬ (false = true) by decide)] at H; exact H
            clear H
            have H := H1
            clear H1
            simp only [Option.some.injEq, Prod.mk.injEq] at H
            obtain ⟨rfl, rfl, rfl⟩ := H
            have hnb89 := NB143_142.out
            have hnc89 := NB142_143.out
            have hcz90_0 : wc.cell? ⟨gb143, 0, none⟩ = some (.int .u8 a1_0) := (blk_cell BK143.out 0).trans rfl
            have hcz90_1 : wc.cell? ⟨gb143, 1, none⟩ = some (.int .i64 a1_1) := (blk_cell BK143.out 1).trans rfl
            have hfz90_0 := blk_frozen BK143.out 0
            have hfz90_1 := blk_frozen BK143.out 1
            have hcz91_0 : wc.cell? ⟨gb142, 0, none⟩ = some (.slice A0_0 l0_0.length c0_0) := (blk_cell BK142.out 0).trans rfl
            have hcz91_1 : wc.cell? ⟨gb142, 1, none⟩ = some (.slice A0_1 l0_1.length c0_1) := (blk_cell BK142.out 1).trans rfl
            have hcz91_2 : wc.cell? ⟨gb142, 2, none⟩ = some (.slice A0_2 l0_2.length c0_2) := (blk_cell BK142.out 2).trans rfl
            have hcz91_3 : wc.cell? ⟨gb142, 3, none⟩ = some (.slice A0_3 l0_3.length c0_3) := (blk_cell BK142.out 3).trans rfl
            have hfz91_0 := blk_frozen BK142.out 0
            have hfz91_1 := blk_frozen BK142.out 1
            have hfz91_2 := blk_frozen BK142.out 2
            have hfz91_3 := blk_frozen BK142.out 3
            go_wp2_with ((go_at_call 43; (with_reducible refine (code_in.calls a1_1 (l0_3.length : Int) false _ A80.out).mono ?_); rintro e w' ⟨rfl, ⟨nd, rfl⟩⟩))
            repeat (go_quiet (fail))
            go_ret3
            exact ⟨by rfl, by repeat ((with_reducible first | exact HB.out | apply pw_below_drewN))⟩
          rw [if_neg c79] at H
          have c79b0 : (a1_0 == 18) = false := beq_eq_false_iff_ne.mpr c79
          have c79b1 : (a1_0 != 18) = true := bne_iff_ne.mpr c79
          have HC92 := Aside0.mk H
          clear H
          go_upto_if 143 with (fail)
          repeat (go_quiet (fail); go_upto_if 143 with (fail))
          go_cut [143] (fun v143 wc => ∃ (kq : Nat) (x143_91 : Bool), v143 = .bool x143_91 ∧ Aside0 (code_Effect.j2 kq a1_0 x143_91 = some (r1, r2, r3)) ∧ Aside0 (kq ≤ kj28) ∧ Aside0 (wc.heap[gb142]? = some (.cells #[(.slice A0_0 l0_0.length c0_0), (.slice A0_1 l0_1.length c0_1), (.slice A0_2 l0_2.length c0_2), (.slice A0_3 l0_3.length c0_3)] 30 (0, 0))) ∧ Aside0 (wc.heap[gb143]? = some (.cells #[.int .u8 a1_0, .int .i64 a1_1] 32 (0, 0))) ∧ Aside0 (Below w.heap.size w wc))
          case first =>
            have H := HC92.out
            clear HC92
            by_cases c93 : a1_0 = 19
            · rw [if_pos c93] at H
              have c93b0 : (a1_0 == 19) = true := beq_iff_eq.mpr c93
              have c93b1 : (a1_0 != 19) = false := bne_eq_false_iff_eq.mpr c93
              clear c93
              (rw [c93b0])
              have H' := Aside0.mk H
              clear H
              go_wp2
              repeat (go_quiet (fail))
              go_meet
              case rel => exact ⟨_, ((a1_0 == 19)), (by ((simp [*]; done))), H', ⟨by have := HJ18.out; have := HJ28.out; omega⟩, ⟨by (with_reducible repeat (fail)); exact BK142.out⟩, ⟨by (with_reducible repeat (fail)); exact BK143.out⟩, ⟨by repeat ((with_reducible exact HB.out))⟩⟩
            rw [if_neg c93] at H
            have c93b0 : (a1_0 == 19) = false := beq_eq_false_iff_ne.mpr c93
            have c93b1 : (a1_0 != 19) = true := bne_iff_ne.mpr c93
            (rw [c93b0])
            have H' := Aside0.mk H
            clear H
            go_wp2
            repeat (go_quiet (fail))
            go_meet
            case rel => exact ⟨_, ((a1_0 == 20)), (by rfl), H', ⟨by have := HJ18.out; have := HJ28.out; omega⟩, ⟨by (with_reducible repeat (fail)); exact BK142.out⟩, ⟨by (with_reducible repeat (fail)); exact BK143.out⟩, ⟨by repeat ((with_reducible exact HB.out))⟩⟩
          case rest =>
            clear HC92 c33 c33b0 c33b1 c45 c45b0 c45b1 c50 c50b0 c50b1 c55 c55b0 c55b1 c56 c56b0 c56b1 c57 c57b0 c57b1 c73 c73b0 c73b1 c79 c79b0 c79b1
            obtain ⟨kq, x143_91, rfl, HA, HJ91, BK142, BK143, HB⟩ := hcut
            cases kq with
            | zero => exact absurd HA.out (by simp [code_Effect.j2])
            | succ kj91 =>
              have H := HA.out
              clear HA
              simp only [code_Effect.j2] at H
              by_cases c94 : x143_91 = true
              · subst c94
                have H1 : (some (2, 1, true)) = some (r1, r2, r3) := by rw [if_pos rfl] at H; exact H
                clear H
                have H := H1
                clear H1
                simp only [Option.some.injEq, Prod.mk.injEq] at H
                obtain ⟨rfl, rfl, rfl⟩ := H
                go_wp2
                repeat (go_quiet (fail))
                go_ret3
                exact ⟨by rfl, by repeat ((with_reducible exact HB.out))⟩
              replace c94 := Bool.eq_false_iff.mpr c94
              subst c94
              have H1 : (if a1_0 = 22 then (some (2, 0, true)) else (if a1_0 = 21 then (some (3, 1, true)) else (some (0, 0, false)))) = some (r1, r2, r3) := by rw [if_neg (show ¬ (false = true) by decide)] at H; exact H
              clear H
              have H := H1
              clear H1
              by_cases c95 : a1_0 = 22
              · rw [if_pos c95] at H
                have c95b0 : (a1_0 == 22) = true := beq_iff_eq.mpr c95
                have c95b1 : (a1_0 != 22) = false := bne_eq_false_iff_eq.mpr c95
                clear c95
                simp only [Option.some.injEq, Prod.mk.injEq] at H
                obtain ⟨rfl, rfl, rfl⟩ := H
                go_wp2
                repeat (go_quiet (fail))
                go_ret3
                exact ⟨by rfl, by repeat ((with_reducible exact HB.out))⟩
              rw [if_neg c95] at H
              have c95b0 : (a1_0 == 22) = false := beq_eq_false_iff_ne.mpr c95
              have c95b1 : (a1_0 != 22) = true := bne_iff_ne.mpr c95
              by_cases c96 : a1_0 = 21
              · rw [if_pos c96] at H
                have c96b0 : (a1_0 == 21) = true := beq_iff_eq.mpr c96
                have c96b1 : (a1_0 != 21) = false := bne_eq_false_iff_eq.mpr c96
                clear c96
                simp only [Option.some.injEq, Prod.mk.injEq] at H
                obtain ⟨rfl, rfl, rfl⟩ := H
                go_wp2
                repeat (go_quiet (fail))
                go_ret3
                exact ⟨by rfl, by repeat ((with_reducible exact HB.out))⟩
              rw [if_neg c96] at H
              have c96b0 : (a1_0 == 21) = false := beq_eq_false_iff_ne.mpr c96
              have c96b1 : (a1_0 != 21) = true := bne_iff_ne.mpr c96
              simp only [Option.some.injEq, Prod.mk.injEq] at H
              obtain ⟨rfl, rfl, rfl⟩ := H
              go_wp2
              repeat (go_quiet (fail))
              go_ret3
              exact ⟨by rfl, by repeat ((with_reducible exact HB.out))⟩

end Go.Proofs.YtfncoldcjhkhiaaDoor.PC
