-- Own text: printed by this session's variant of the printer (wip/mkpp.py, adopt3.py); Lean checks it.
import Derived.Test.YtfncoldcjhkhiaaDoorTa
import Derived.Test.YtfncoldcjhkhiaaDoorPCd1
import Derived.Test.YtfncoldcjhkhiaaDoorPCd2
import Derived.Test.YtfncoldcjhkhiaaDoorPCd3
import Derived.Test.YtfncoldcjhkhiaaDoorPCx0
import Derived.Test.YtfncoldcjhkhiaaDoorPCx14
namespace Go.Proofs.YtfncoldcjhkhiaaDoor.PC
open Go.RowKit Go.Proofs.YtfncoldcjhkhiaaDoorW.PrintWords Go.Proofs.YtfncoldcjhkhiaaDoorW.PrintLast Go.Proofs.YtfncoldcjhkhiaaDoorW.PrintMore Go.Proofs.YtfncoldcjhkhiaaDoorW.Own
attribute [local go_sem high] own_gtr own_leq own_geq
attribute [local go_sem] max2_int min2_int max_two min_two max_three min_three max_four min_four   -- for this text's walks alone
set_option linter.unusedVariables false
set_option linter.unusedSimpArgs false

/-! ### sacristanlaw11_VerifyChecks: function 7 -/
mutual
noncomputable def sacristanlaw11_VerifyChecks.j0 : Nat → Int → Bool → List Int → List ByteArray → List (S44) → List (S41) → Option (Bool)
  | 0, _, _, _, _, _, _ => none
  | k + 1, x1, x42, x440000, x440001, x440002, x440003 => if x42 = true then (some false) else ((verify_Depths.f x440000 x440001 x440002 x440003 x1).bind fun t446 => ((sacristanref09_May.f k x440000 x440001 x440002 x440003).bind fun t449 => (if t449 = true then (if x1 < 0 then (sacristanlaw11_VerifyChecks.j1 k x1 t446 true x440000 x440001 x440002 x440003) else (sacristanlaw11_VerifyChecks.j1 k x1 t446 (decide (x1 ≥ (x440002.length : Int))) x440000 x440001 x440002 x440003)) else (sacristanlaw11_VerifyChecks.j1 k x1 t446 true x440000 x440001 x440002 x440003))))
noncomputable def sacristanlaw11_VerifyChecks.j1 : Nat → Int → List Int → Bool → List Int → List ByteArray → List (S44) → List (S41) → Option (Bool)
  | 0, _, _, _, _, _, _, _ => none
  | k + 1, x1, x9, x59, x440000, x440001, x440002, x440003 => if x59 = true then (if (x9.length : Int) = 0 then ((sacristanlaw11_awake.f).bind fun t450 => (some t450)) else (some false)) else ((sacristanref11_Depths.f k x440000 x440001 x440002 x440003 x1).bind fun bt451 => (if bt451.2 = true then (if (x9.length : Int) = (bt451.1.length : Int) then (sacristanlaw11_VerifyChecks.l0 k x9 bt451.1 0) else (some false)) else (if (x9.length : Int) = 0 then ((sacristanlaw11_awake.f).bind fun t455 => (some t455)) else (some false))))
noncomputable def sacristanlaw11_VerifyChecks.l0 : Nat → List Int → List Int → Int → Option (Bool)
  | 0, _, _, _ => none
  | k + 1, x9, x10, x12 => if x12 < (x10.length : Int) then (if 0 ≤ x12 then (if x12 < (x9.length : Int) then (if (rd x9 x12) = (rd x10 x12) then (sacristanlaw11_VerifyChecks.l0 k x9 x10 (wrap64 (x12 + 1))) else (some false)) else (none)) else (none)) else ((sacristanlaw11_awake.f).bind fun t456 => (some t456))
end
noncomputable def sacristanlaw11_VerifyChecks.f (k : Nat) (l0_0 : List Int) (l0_1 : List ByteArray) (l0_2 : List (S44)) (l0_3 : List (S41)) (a1 : Int) : Option (Bool) := (sacristanlaw11_great.f k l0_0 l0_1 l0_2 l0_3).bind fun t440 => (if t440 = true then ((sacristanlaw11_awake.f).bind fun t441 => (some t441)) else ((verify_Check.f l0_0 l0_1 l0_2 l0_3).bind fun bt442 => ((sacristanref11_Check.f k l0_0 l0_1 l0_2 l0_3).bind fun bt444 => (if bt442.1 = bt444.1 then (if ((bt442.2 == 0) != bt444.2) = true then (sacristanlaw11_VerifyChecks.j0 k a1 true l0_0 l0_1 l0_2 l0_3) else (if bt444.2 = true then (sacristanlaw11_VerifyChecks.j0 k a1 false l0_0 l0_1 l0_2 l0_3) else (sacristanlaw11_VerifyChecks.j0 k a1 (bt442.2 != 18) l0_0 l0_1 l0_2 l0_3))) else (sacristanlaw11_VerifyChecks.j0 k a1 true l0_0 l0_1 l0_2 l0_3)))))
theorem sacristanlaw11_VerifyChecks.mono_l : ∀ k, (∀ y0 y1 y2 y3 y4 y5, LeO (sacristanlaw11_VerifyChecks.j0 k y0 y1 y2 y3 y4 y5) (sacristanlaw11_VerifyChecks.j0 (k + 1) y0 y1 y2 y3 y4 y5)) ∧ (∀ y0 y1 y2 y3 y4 y5 y6, LeO (sacristanlaw11_VerifyChecks.j1 k y0 y1 y2 y3 y4 y5 y6) (sacristanlaw11_VerifyChecks.j1 (k + 1) y0 y1 y2 y3 y4 y5 y6)) ∧ (∀ y0 y1 y2, LeO (sacristanlaw11_VerifyChecks.l0 k y0 y1 y2) (sacristanlaw11_VerifyChecks.l0 (k + 1) y0 y1 y2))
  | 0 => ⟨fun _ _ _ _ _ _ r h => by simp [sacristanlaw11_VerifyChecks.j0] at h, fun _ _ _ _ _ _ _ r h => by simp [sacristanlaw11_VerifyChecks.j1] at h, fun _ _ _ r h => by simp [sacristanlaw11_VerifyChecks.l0] at h⟩
  | k + 1 => by
    obtain ⟨ih0, ih1, ih2⟩ := sacristanlaw11_VerifyChecks.mono_l k
    refine ⟨?_, ?_, ?_⟩
    · intro y0 y1 y2 y3 y4 y5
      unfold sacristanlaw11_VerifyChecks.j0
      repeat' first | (with_reducible exact ih1 _ _ _ _ _ _ _) | (with_reducible exact sacristanref09_May.mono _ _ _ _ _) | (with_reducible exact LeO.refl _) | (with_reducible refine LeO.ite ?_ ?_) | (with_reducible refine LeO.bind ?_ (fun _ => ?_))
    · intro y0 y1 y2 y3 y4 y5 y6
      unfold sacristanlaw11_VerifyChecks.j1
      repeat' first | (with_reducible exact ih2 _ _ _) | (with_reducible exact sacristanref11_Depths.mono _ _ _ _ _ _) | (with_reducible exact LeO.refl _) | (with_reducible refine LeO.ite ?_ ?_) | (with_reducible refine LeO.bind ?_ (fun _ => ?_))
    · intro y0 y1 y2
      unfold sacristanlaw11_VerifyChecks.l0
      repeat' first | (with_reducible exact ih2 _ _ _) | (with_reducible exact LeO.refl _) | (with_reducible refine LeO.ite ?_ ?_)
theorem sacristanlaw11_VerifyChecks.mono : ∀ a0 a1 a2 a3 a4 k, LeO (sacristanlaw11_VerifyChecks.f k a0 a1 a2 a3 a4) (sacristanlaw11_VerifyChecks.f (k + 1) a0 a1 a2 a3 a4) := by
  intro a0 a1 a2 a3 a4 k
  obtain ⟨ih0, ih1, ih2⟩ := sacristanlaw11_VerifyChecks.mono_l k
  unfold sacristanlaw11_VerifyChecks.f
  repeat' first | (with_reducible exact ih0 _ _ _ _ _ _) | (with_reducible exact sacristanlaw11_great.mono _ _ _ _ _) | (with_reducible exact sacristanref11_Check.mono _ _ _ _ _) | (with_reducible exact LeO.refl _) | (with_reducible refine LeO.ite ?_ ?_) | (with_reducible refine LeO.bind ?_ (fun _ => ?_))
set_option maxHeartbeats 8000000 in
set_option maxRecDepth 100000 in
theorem sacristanlaw11_VerifyChecks.calls (k : Nat) (A0_0 : Option Addr) (c0_0 : Nat) (l0_0 : List Int) (A0_1 : Option Addr) (c0_1 : Nat) (l0_1 : List ByteArray) (A0_2 : Option Addr) (c0_2 : Nat) (l0_2 : List (S44)) (A0_3 : Option Addr) (c0_3 : Nat) (l0_3 : List (S41)) (a1 : Int) (r : Bool) (w : World) (hr0_0 : Kd.C (Kd.int .i64) w A0_0 l0_0.length l0_0) (hc0_0 : l0_0.length ≤ c0_0) (hr0_1 : Kd.C Kd.string w A0_1 l0_1.length l0_1) (hc0_1 : l0_1.length ≤ c0_1) (hr0_2 : Kd.C k44 w A0_2 l0_2.length l0_2) (hc0_2 : l0_2.length ≤ c0_2) (hr0_3 : Kd.C k41 w A0_3 l0_3.length l0_3) (hc0_3 : l0_3.length ≤ c0_3) (hM : NW.MaxOk w) (h : sacristanlaw11_VerifyChecks.f k l0_0 l0_1 l0_2 l0_3 a1 = some r) :
    Calls Tryd.prog 7 #[.agg #[.slice A0_0 l0_0.length c0_0, .slice A0_1 l0_1.length c0_1, .slice A0_2 l0_2.length c0_2, .slice A0_3 l0_3.length c0_3], .int .i64 a1] w fun e w' => e = .returned (.bool r) ∧ Below w.heap.size w w' := by
  have hu30 := Tryd.underlying30
  have HR0_0 := Aside0.mk hr0_0
  have HC0_0 := Aside0.mk hc0_0
  clear hr0_0 hc0_0
  have HR0_1 := Aside0.mk hr0_1
  have HC0_1 := Aside0.mk hc0_1
  clear hr0_1 hc0_1
  have HR0_2 := Aside0.mk hr0_2
  have HC0_2 := Aside0.mk hc0_2
  clear hr0_2 hc0_2
  have HR0_3 := Aside0.mk hr0_3
  have HC0_3 := Aside0.mk hc0_3
  clear hr0_3 hc0_3
  have HB := Aside0.mk (Below.refl w.heap.size w)
  have HMX := Aside0.mk hM
  clear hM
  have H : ((sacristanlaw11_great.f k l0_0 l0_1 l0_2 l0_3).bind fun t440 => (if t440 = true then ((sacristanlaw11_awake.f).bind fun t441 => (some t441)) else ((verify_Check.f l0_0 l0_1 l0_2 l0_3).bind fun bt442 => ((sacristanref11_Check.f k l0_0 l0_1 l0_2 l0_3).bind fun bt444 => (if bt442.1 = bt444.1 then (if ((bt442.2 == 0) != bt444.2) = true then (sacristanlaw11_VerifyChecks.j0 k a1 true l0_0 l0_1 l0_2 l0_3) else (if bt444.2 = true then (sacristanlaw11_VerifyChecks.j0 k a1 false l0_0 l0_1 l0_2 l0_3) else (sacristanlaw11_VerifyChecks.j0 k a1 (bt442.2 != 18) l0_0 l0_1 l0_2 l0_3))) else (sacristanlaw11_VerifyChecks.j0 k a1 true l0_0 l0_1 l0_2 l0_3)))))) = some r := h
  clear h
  replace H := Option.bind_eq_some_iff.mp H
  obtain ⟨t440, A30, H⟩ := H
  have A3 := Aside0.mk A30
  clear A30
  by_cases c4 : t440 = true
  · subst c4
    have H1 : ((sacristanlaw11_awake.f).bind fun t441 => (some t441)) = some r := by rw [if_pos rfl] at H; exact H
    clear H
    have H := H1
    clear H1
    replace H := Option.bind_eq_some_iff.mp H
    obtain ⟨t441, A50, H⟩ := H
    replace H : (some t441) = some r := H
    have A5 := Aside0.mk A50
    clear A50
    obtain rfl := Option.some.inj H
    go_enter Tryd.func7, Tryd.ntmps7
    go_wp2_with (first | ((with_reducible refine gate_dst (N := 2) rfl ?_); (try (refine gate_guard (by rfl) ?_; dsimp only)); refine box_event ?hg (N := 2) ?hd (cs := #[.slice A0_0 l0_0.length c0_0, .slice A0_1 l0_1.length c0_1, .slice A0_2 l0_2.length c0_2, .slice A0_3 l0_3.length c0_3]) (t := 30) ?hr ?_; (case hd => rfl); (case hg => rfl); (case hr => ((go_simp; done))); intro gb439 hg w6 hbox hb; have n0_ := Aside0.mk (below_step (by repeat ((with_reducible exact HB.out))) hb); have n1_ := Aside0.mk (hbox); have n2_ := Aside0.mk ((by rw [hg]; exact (below_size (by repeat ((with_reducible exact HB.out)))) : w.heap.size ≤ gb439)); have n3_ := Aside0.mk ((by rw [hg]; exact (below_size (by repeat ((with_reducible exact HB.out)))) : w.heap.size ≤ gb439)); clear HB; have HB := n0_; have BK439 := n1_; have GW439 := n2_; have GE439 := n3_; clear n0_ n1_ n2_ n3_; clear hb hbox hg; have hcz7_0 : w6.cell? ⟨gb439, 0, none⟩ = some (.slice A0_0 l0_0.length c0_0) := (blk_cell BK439.out 0).trans rfl; have hcz7_1 : w6.cell? ⟨gb439, 1, none⟩ = some (.slice A0_1 l0_1.length c0_1) := (blk_cell BK439.out 1).trans rfl; have hcz7_2 : w6.cell? ⟨gb439, 2, none⟩ = some (.slice A0_2 l0_2.length c0_2) := (blk_cell BK439.out 2).trans rfl; have hcz7_3 : w6.cell? ⟨gb439, 3, none⟩ = some (.slice A0_3 l0_3.length c0_3) := (blk_cell BK439.out 3).trans rfl; have hfz7_0 := blk_frozen BK439.out 0; have hfz7_1 := blk_frozen BK439.out 1; have hfz7_2 := blk_frozen BK439.out 2; have hfz7_3 := blk_frozen BK439.out 3) | (go_at_call 28; (with_reducible refine (sacristanlaw11_great.calls k _ _ l0_0 _ _ l0_1 _ _ l0_2 _ _ l0_3 true _ ?side1 ?side2 ?side3 ?side4 ?side5 ?side6 ?side7 ?side8 A3.out).mono ?_); (case side1 => repeat (exact (Kd.C_below HR0_0.out HB.out))); (case side2 => exact HC0_0.out); (case side3 => repeat (exact (Kd.C_below HR0_1.out HB.out))); (case side4 => exact HC0_1.out); (case side5 => repeat (exact (Kd.C_below HR0_2.out HB.out))); (case side6 => exact HC0_2.out); (case side7 => repeat (exact (Kd.C_below HR0_3.out HB.out))); (case side8 => exact HC0_3.out); rintro e w8 ⟨rfl, hb⟩; have n0_ := Aside0.mk (blk_below (g := gb439) (o := .cells #[.slice A0_0 l0_0.length c0_0, .slice A0_1 l0_1.length c0_1, .slice A0_2 l0_2.length c0_2, .slice A0_3 l0_3.length c0_3] 30 (0, 0)) (by (with_reducible repeat (fail)); exact BK439.out) hb); have n1_ := Aside0.mk (below_step (by repeat ((with_reducible exact HB.out))) hb); clear BK439; clear HB; have BK439 := n0_; have HB := n1_; clear n0_ n1_; (try clear hb)) | (go_at_call 29; (with_reducible refine (sacristanlaw11_awake.calls  t441 _ ?side1 A5.out).mono ?_); (case side1 => exact NW.MaxOk.below HMX.out (by repeat ((with_reducible exact HB.out)))); rintro e w9 ⟨rfl, hb⟩; have n0_ := Aside0.mk (blk_below (g := gb439) (o := .cells #[.slice A0_0 l0_0.length c0_0, .slice A0_1 l0_1.length c0_1, .slice A0_2 l0_2.length c0_2, .slice A0_3 l0_3.length c0_3] 30 (0, 0)) (by (with_reducible repeat (fail)); exact BK439.out) hb); have n1_ := Aside0.mk (below_step (by repeat ((with_reducible exact HB.out))) hb); clear BK439; clear HB; have BK439 := n0_; have HB := n1_; clear n0_ n1_; (try clear hb)))
    repeat (go_quiet (fail))
    go_ret
    exact ⟨by rfl, by repeat ((with_reducible exact HB.out))⟩
  replace c4 := Bool.eq_false_iff.mpr c4
  subst c4
  have H1 : ((verify_Check.f l0_0 l0_1 l0_2 l0_3).bind fun bt442 => ((sacristanref11_Check.f k l0_0 l0_1 l0_2 l0_3).bind fun bt444 => (if bt442.1 = bt444.1 then (if ((bt442.2 == 0) != bt444.2) = true then (sacristanlaw11_VerifyChecks.j0 k a1 true l0_0 l0_1 l0_2 l0_3) else (if bt444.2 = true then (sacristanlaw11_VerifyChecks.j0 k a1 false l0_0 l0_1 l0_2 l0_3) else (sacristanlaw11_VerifyChecks.j0 k a1 (bt442.2 != 18) l0_0 l0_1 l0_2 l0_3))) else (sacristanlaw11_VerifyChecks.j0 k a1 true l0_0 l0_1 l0_2 l0_3)))) = some r := by rw [if_neg (show ¬ (false = true) by decide)] at H; exact H
  clear H
  have H := H1
  clear H1
  replace H := Option.bind_eq_some_iff.mp H
  obtain ⟨⟨t442, t443⟩, A100, H⟩ := H
  (try dsimp only at H)
  have A10 := Aside0.mk A100
  clear A100
  replace H := Option.bind_eq_some_iff.mp H
  obtain ⟨⟨t444, t445⟩, A110, H⟩ := H
  (try dsimp only at H)
  have A11 := Aside0.mk A110
  clear A110
  have HC12 := Aside0.mk H
  clear H
  go_enter Tryd.func7, Tryd.ntmps7
  go_upto_region 5 with (first | ((with_reducible refine gate_dst (N := 2) rfl ?_); (try (refine gate_guard (by rfl) ?_; dsimp only)); refine box_event ?hg (N := 2) ?hd (cs := #[.slice A0_0 l0_0.length c0_0, .slice A0_1 l0_1.length c0_1, .slice A0_2 l0_2.length c0_2, .slice A0_3 l0_3.length c0_3]) (t := 30) ?hr ?_; (case hd => rfl); (case hg => rfl); (case hr => ((go_simp; done))); intro gb439 hg w13 hbox hb; have n0_ := Aside0.mk (below_step (by repeat ((with_reducible exact HB.out))) hb); have n1_ := Aside0.mk (hbox); have n2_ := Aside0.mk ((by rw [hg]; exact (below_size (by repeat ((with_reducible exact HB.out)))) : w.heap.size ≤ gb439)); have n3_ := Aside0.mk ((by rw [hg]; exact (below_size (by repeat ((with_reducible exact HB.out)))) : w.heap.size ≤ gb439)); clear HB; have HB := n0_; have BK439 := n1_; have GW439 := n2_; have GE439 := n3_; clear n0_ n1_ n2_ n3_; clear hb hbox hg; have hcz14_0 : w13.cell? ⟨gb439, 0, none⟩ = some (.slice A0_0 l0_0.length c0_0) := (blk_cell BK439.out 0).trans rfl; have hcz14_1 : w13.cell? ⟨gb439, 1, none⟩ = some (.slice A0_1 l0_1.length c0_1) := (blk_cell BK439.out 1).trans rfl; have hcz14_2 : w13.cell? ⟨gb439, 2, none⟩ = some (.slice A0_2 l0_2.length c0_2) := (blk_cell BK439.out 2).trans rfl; have hcz14_3 : w13.cell? ⟨gb439, 3, none⟩ = some (.slice A0_3 l0_3.length c0_3) := (blk_cell BK439.out 3).trans rfl; have hfz14_0 := blk_frozen BK439.out 0; have hfz14_1 := blk_frozen BK439.out 1; have hfz14_2 := blk_frozen BK439.out 2; have hfz14_3 := blk_frozen BK439.out 3) | (go_at_call 28; (with_reducible refine (sacristanlaw11_great.calls k _ _ l0_0 _ _ l0_1 _ _ l0_2 _ _ l0_3 false _ ?side1 ?side2 ?side3 ?side4 ?side5 ?side6 ?side7 ?side8 A3.out).mono ?_); (case side1 => repeat (exact (Kd.C_below HR0_0.out HB.out))); (case side2 => exact HC0_0.out); (case side3 => repeat (exact (Kd.C_below HR0_1.out HB.out))); (case side4 => exact HC0_1.out); (case side5 => repeat (exact (Kd.C_below HR0_2.out HB.out))); (case side6 => exact HC0_2.out); (case side7 => repeat (exact (Kd.C_below HR0_3.out HB.out))); (case side8 => exact HC0_3.out); rintro e w15 ⟨rfl, hb⟩; have n0_ := Aside0.mk (blk_below (g := gb439) (o := .cells #[.slice A0_0 l0_0.length c0_0, .slice A0_1 l0_1.length c0_1, .slice A0_2 l0_2.length c0_2, .slice A0_3 l0_3.length c0_3] 30 (0, 0)) (by (with_reducible repeat (fail)); exact BK439.out) hb); have n1_ := Aside0.mk (below_step (by repeat ((with_reducible exact HB.out))) hb); clear BK439; clear HB; have BK439 := n0_; have HB := n1_; clear n0_ n1_; (try clear hb); have hcz16_0 : w15.cell? ⟨gb439, 0, none⟩ = some (.slice A0_0 l0_0.length c0_0) := (blk_cell BK439.out 0).trans rfl; have hcz16_1 : w15.cell? ⟨gb439, 1, none⟩ = some (.slice A0_1 l0_1.length c0_1) := (blk_cell BK439.out 1).trans rfl; have hcz16_2 : w15.cell? ⟨gb439, 2, none⟩ = some (.slice A0_2 l0_2.length c0_2) := (blk_cell BK439.out 2).trans rfl; have hcz16_3 : w15.cell? ⟨gb439, 3, none⟩ = some (.slice A0_3 l0_3.length c0_3) := (blk_cell BK439.out 3).trans rfl; have hfz16_0 := blk_frozen BK439.out 0; have hfz16_1 := blk_frozen BK439.out 1; have hfz16_2 := blk_frozen BK439.out 2; have hfz16_3 := blk_frozen BK439.out 3) | (go_at_call 30; (with_reducible refine (verify_Check.calls _ _ l0_0 _ _ l0_1 _ _ l0_2 _ _ l0_3 t442 t443 _ ?side1 ?side2 ?side3 ?side4 ?side5 ?side6 ?side7 ?side8 ?side9 A10.out).mono ?_); (case side1 => repeat (exact (Kd.C_below HR0_0.out HB.out))); (case side2 => exact HC0_0.out); (case side3 => repeat (exact (Kd.C_below HR0_1.out HB.out))); (case side4 => exact HC0_1.out); (case side5 => repeat (exact (Kd.C_below HR0_2.out HB.out))); (case side6 => exact HC0_2.out); (case side7 => repeat (exact (Kd.C_below HR0_3.out HB.out))); (case side8 => exact HC0_3.out); (case side9 => exact NW.MaxOk.below HMX.out (by repeat ((with_reducible exact HB.out)))); rintro e w17 ⟨rfl, hb⟩; have n0_ := Aside0.mk (blk_below (g := gb439) (o := .cells #[.slice A0_0 l0_0.length c0_0, .slice A0_1 l0_1.length c0_1, .slice A0_2 l0_2.length c0_2, .slice A0_3 l0_3.length c0_3] 30 (0, 0)) (by (with_reducible repeat (fail)); exact BK439.out) hb); have n1_ := Aside0.mk (below_step (by repeat ((with_reducible exact HB.out))) hb); clear BK439; clear HB; have BK439 := n0_; have HB := n1_; clear n0_ n1_; (try clear hb); have hcz18_0 : w17.cell? ⟨gb439, 0, none⟩ = some (.slice A0_0 l0_0.length c0_0) := (blk_cell BK439.out 0).trans rfl; have hcz18_1 : w17.cell? ⟨gb439, 1, none⟩ = some (.slice A0_1 l0_1.length c0_1) := (blk_cell BK439.out 1).trans rfl; have hcz18_2 : w17.cell? ⟨gb439, 2, none⟩ = some (.slice A0_2 l0_2.length c0_2) := (blk_cell BK439.out 2).trans rfl; have hcz18_3 : w17.cell? ⟨gb439, 3, none⟩ = some (.slice A0_3 l0_3.length c0_3) := (blk_cell BK439.out 3).trans rfl; have hfz18_0 := blk_frozen BK439.out 0; have hfz18_1 := blk_frozen BK439.out 1; have hfz18_2 := blk_frozen BK439.out 2; have hfz18_3 := blk_frozen BK439.out 3) | (go_at_call 31; (with_reducible refine (sacristanref11_Check.calls k _ _ l0_0 _ _ l0_1 _ _ l0_2 _ _ l0_3 t444 t445 _ ?side1 ?side2 ?side3 ?side4 ?side5 ?side6 ?side7 ?side8 A11.out).mono ?_); (case side1 => repeat (exact (Kd.C_below HR0_0.out HB.out))); (case side2 => exact HC0_0.out); (case side3 => repeat (exact (Kd.C_below HR0_1.out HB.out))); (case side4 => exact HC0_1.out); (case side5 => repeat (exact (Kd.C_below HR0_2.out HB.out))); (case side6 => exact HC0_2.out); (case side7 => repeat (exact (Kd.C_below HR0_3.out HB.out))); (case side8 => exact HC0_3.out); rintro e w19 ⟨rfl, hb⟩; have n0_ := Aside0.mk (blk_below (g := gb439) (o := .cells #[.slice A0_0 l0_0.length c0_0, .slice A0_1 l0_1.length c0_1, .slice A0_2 l0_2.length c0_2, .slice A0_3 l0_3.length c0_3] 30 (0, 0)) (by (with_reducible repeat (fail)); exact BK439.out) hb); have n1_ := Aside0.mk (below_step (by repeat ((with_reducible exact HB.out))) hb); clear BK439; clear HB; have BK439 := n0_; have HB := n1_; clear n0_ n1_; (try clear hb)))
  repeat (go_quiet (fail); go_upto_region 5 with (fail))
  go_cut [42] (fun v42 wc => ∃ (kq : Nat) (x42_11 : Bool), v42 = .bool x42_11 ∧ Aside0 (sacristanlaw11_VerifyChecks.j0 kq a1 x42_11 l0_0 l0_1 l0_2 l0_3 = some r) ∧ Aside0 (kq ≤ k) ∧ Aside0 (wc.heap[gb439]? = some (.cells #[(.slice A0_0 l0_0.length c0_0), (.slice A0_1 l0_1.length c0_1), (.slice A0_2 l0_2.length c0_2), (.slice A0_3 l0_3.length c0_3)] 30 (0, 0))) ∧ Aside0 (Below w.heap.size w wc))
  case first =>
    have H := HC12.out
    clear HC12
    by_cases c20 : t442 = t444
    · rw [if_pos c20] at H
      have c20b0 : (t442 == t444) = true := beq_iff_eq.mpr c20
      have c20b1 : (t442 != t444) = false := bne_eq_false_iff_eq.mpr c20
      clear c20
      (skip)
      by_cases c21 : ((t443 == 0) != t445) = true
      · rw [if_pos c21] at H
        have c21b0 : ((t443 == 0) != t445) = true := c21
        (try (have c21b1 : decide ((t443 == 0) = t445) = false := by simpa using c21))
        (try (have c21b2 : ((t443 == 0) == t445) = false := by simpa using c21))
        (try (have c21b3 : ¬ ((t443 == 0) = t445) := by simpa using c21))
        clear c21
        have H' := Aside0.mk H
        clear H
        go_wp2
        repeat (go_quiet (fail))
        go_meet
        case rel => exact ⟨_, (true), (by rfl), H', ⟨by omega⟩, ⟨by (with_reducible repeat (fail)); exact BK439.out⟩, ⟨by repeat ((with_reducible exact HB.out))⟩⟩
      rw [if_neg c21] at H
      have c21b0 : ((t443 == 0) != t445) = false := by simpa using c21
      (try (have c21b1 : decide ((t443 == 0) = t445) = true := by simpa using c21))
      (try (have c21b2 : ((t443 == 0) == t445) = true := by simpa using c21))
      clear c21
      by_cases c22 : t445 = true
      · subst c22
        have H1 : (sacristanlaw11_VerifyChecks.j0 k a1 false l0_0 l0_1 l0_2 l0_3) = some r := by rw [if_pos rfl] at H; exact H
        clear H
        have H := H1
        clear H1
        have H' := Aside0.mk H
        clear H
        go_wp2
        repeat (go_quiet (fail))
        go_meet
        case rel => exact ⟨_, (false), (by rfl), H', ⟨by omega⟩, ⟨by (with_reducible repeat (fail)); exact BK439.out⟩, ⟨by repeat ((with_reducible exact HB.out))⟩⟩
      replace c22 := Bool.eq_false_iff.mpr c22
      subst c22
      have H1 : (sacristanlaw11_VerifyChecks.j0 k a1 (t443 != 18) l0_0 l0_1 l0_2 l0_3) = some r := by rw [if_neg (show ¬ (false = true) by decide)] at H; exact H
      clear H
      have H := H1
      clear H1
      have H' := Aside0.mk H
      clear H
      go_wp2
      repeat (go_quiet (fail))
      go_meet
      case rel => exact ⟨_, ((t443 != 18)), (by rfl), H', ⟨by omega⟩, ⟨by (with_reducible repeat (fail)); exact BK439.out⟩, ⟨by repeat ((with_reducible exact HB.out))⟩⟩
    rw [if_neg c20] at H
    have c20b0 : (t442 == t444) = false := beq_eq_false_iff_ne.mpr c20
    have c20b1 : (t442 != t444) = true := bne_iff_ne.mpr c20
    (skip)
    have H' := Aside0.mk H
    clear H
    go_wp2
    repeat (go_quiet (fail))
    go_meet
    case rel => exact ⟨_, (true), (by rfl), H', ⟨by omega⟩, ⟨by (with_reducible repeat (fail)); exact BK439.out⟩, ⟨by repeat ((with_reducible exact HB.out))⟩⟩
  case rest =>
    clear HC12 hcz14_0 hcz14_1 hcz14_2 hcz14_3 hcz16_0 hcz16_1 hcz16_2 hcz16_3 hcz18_0 hcz18_1 hcz18_2 hcz18_3 hfz14_0 hfz14_1 hfz14_2 hfz14_3 hfz16_0 hfz16_1 hfz16_2 hfz16_3 hfz18_0 hfz18_1 hfz18_2 hfz18_3
    obtain ⟨kq, x42_11, rfl, HA, HJ11, BK439, HB⟩ := hcut
    cases kq with
    | zero => exact absurd HA.out (by simp [sacristanlaw11_VerifyChecks.j0])
    | succ kj11 =>
      have H := HA.out
      clear HA
      simp only [sacristanlaw11_VerifyChecks.j0] at H
      by_cases c23 : x42_11 = true
      · subst c23
        have H1 : (some false) = some r := by rw [if_pos rfl] at H; exact H
        clear H
        have H := H1
        clear H1
        obtain rfl := Option.some.inj H
        go_wp2
        repeat (go_quiet (fail))
        go_ret
        exact ⟨by rfl, by repeat ((with_reducible exact HB.out))⟩
      replace c23 := Bool.eq_false_iff.mpr c23
      subst c23
      have H1 : ((verify_Depths.f l0_0 l0_1 l0_2 l0_3 a1).bind fun t446 => ((sacristanref09_May.f kj11 l0_0 l0_1 l0_2 l0_3).bind fun t449 => (if t449 = true then (if a1 < 0 then (sacristanlaw11_VerifyChecks.j1 kj11 a1 t446 true l0_0 l0_1 l0_2 l0_3) else (sacristanlaw11_VerifyChecks.j1 kj11 a1 t446 (decide (a1 ≥ (l0_2.length : Int))) l0_0 l0_1 l0_2 l0_3)) else (sacristanlaw11_VerifyChecks.j1 kj11 a1 t446 true l0_0 l0_1 l0_2 l0_3)))) = some r := by rw [if_neg (show ¬ (false = true) by decide)] at H; exact H
      clear H
      have H := H1
      clear H1
      replace H := Option.bind_eq_some_iff.mp H
      obtain ⟨t446, A240, H⟩ := H
      have A24 := Aside0.mk A240
      clear A240
      have HC25 := Aside0.mk H
      clear H
      have hcz26_0 : wc.cell? ⟨gb439, 0, none⟩ = some (.slice A0_0 l0_0.length c0_0) := (blk_cell BK439.out 0).trans rfl
      have hcz26_1 : wc.cell? ⟨gb439, 1, none⟩ = some (.slice A0_1 l0_1.length c0_1) := (blk_cell BK439.out 1).trans rfl
      have hcz26_2 : wc.cell? ⟨gb439, 2, none⟩ = some (.slice A0_2 l0_2.length c0_2) := (blk_cell BK439.out 2).trans rfl
      have hcz26_3 : wc.cell? ⟨gb439, 3, none⟩ = some (.slice A0_3 l0_3.length c0_3) := (blk_cell BK439.out 3).trans rfl
      have hfz26_0 := blk_frozen BK439.out 0
      have hfz26_1 := blk_frozen BK439.out 1
      have hfz26_2 := blk_frozen BK439.out 2
      have hfz26_3 := blk_frozen BK439.out 3
      go_upto_region 8 with ((go_at_call 32; (with_reducible refine (verify_Depths.calls _ _ l0_0 _ _ l0_1 _ _ l0_2 _ _ l0_3 a1 t446 _ ?side1 ?side2 ?side3 ?side4 ?side5 ?side6 ?side7 ?side8 ?side9 A24.out).mono ?_); (case side1 => repeat (exact (Kd.C_below HR0_0.out HB.out))); (case side2 => exact HC0_0.out); (case side3 => repeat (exact (Kd.C_below HR0_1.out HB.out))); (case side4 => exact HC0_1.out); (case side5 => repeat (exact (Kd.C_below HR0_2.out HB.out))); (case side6 => exact HC0_2.out); (case side7 => repeat (exact (Kd.C_below HR0_3.out HB.out))); (case side8 => exact HC0_3.out); (case side9 => exact NW.MaxOk.below HMX.out (by repeat ((with_reducible exact HB.out)))); rintro e w27 ⟨v447, rfl, ho0, hb⟩; have n0_ := Aside0.mk (Kd.R_lower ho0 (below_size (by repeat ((with_reducible exact HB.out))))); have n1_ := Aside0.mk (blk_below (g := gb439) (o := .cells #[.slice A0_0 l0_0.length c0_0, .slice A0_1 l0_1.length c0_1, .slice A0_2 l0_2.length c0_2, .slice A0_3 l0_3.length c0_3] 30 (0, 0)) (by (with_reducible repeat (fail)); exact BK439.out) hb); have n2_ := Aside0.mk (below_step (by repeat ((with_reducible exact HB.out))) hb); clear BK439; clear HB; have HO448 := n0_; have BK439 := n1_; have HB := n2_; clear n0_ n1_ n2_; (try clear hb); (try clear ho0)))
      repeat (go_quiet (fail); go_upto_region 8 with (fail))
      go_cut [59] (fun v59 wc => ∃ (kq : Nat) (x59_24 : Bool), v59 = .bool x59_24 ∧ Aside0 (sacristanlaw11_VerifyChecks.j1 kq a1 t446 x59_24 l0_0 l0_1 l0_2 l0_3 = some r) ∧ Aside0 (kq ≤ kj11) ∧ Aside0 (Kd.R (Kd.int .i64) 3 wc w.heap.size (fun _ => True) v447 t446) ∧ Aside0 (wc.heap[gb439]? = some (.cells #[(.slice A0_0 l0_0.length c0_0), (.slice A0_1 l0_1.length c0_1), (.slice A0_2 l0_2.length c0_2), (.slice A0_3 l0_3.length c0_3)] 30 (0, 0))) ∧ Aside0 (Below w.heap.size w wc))
      case first =>
        have H := HC25.out
        clear HC25
        replace H := Option.bind_eq_some_iff.mp H
        obtain ⟨t449, A280, H⟩ := H
        have A28 := Aside0.mk A280
        clear A280
        by_cases c29 : t449 = true
        · subst c29
          have H1 : (if a1 < 0 then (sacristanlaw11_VerifyChecks.j1 kj11 a1 t446 true l0_0 l0_1 l0_2 l0_3) else (sacristanlaw11_VerifyChecks.j1 kj11 a1 t446 (decide (a1 ≥ (l0_2.length : Int))) l0_0 l0_1 l0_2 l0_3)) = some r := by rw [if_pos rfl] at H; exact H
          clear H
          have H := H1
          clear H1
          by_cases c30 : a1 < 0
          · rw [if_pos c30] at H
            have c30b0 : decide (a1 < 0) = true := decide_eq_true c30
            clear c30
            (skip)
            have H' := Aside0.mk H
            clear H
            have hcz31_0 : w27.cell? ⟨gb439, 0, none⟩ = some (.slice A0_0 l0_0.length c0_0) := (blk_cell BK439.out 0).trans rfl
            have hcz31_1 : w27.cell? ⟨gb439, 1, none⟩ = some (.slice A0_1 l0_1.length c0_1) := (blk_cell BK439.out 1).trans rfl
            have hcz31_2 : w27.cell? ⟨gb439, 2, none⟩ = some (.slice A0_2 l0_2.length c0_2) := (blk_cell BK439.out 2).trans rfl
            have hcz31_3 : w27.cell? ⟨gb439, 3, none⟩ = some (.slice A0_3 l0_3.length c0_3) := (blk_cell BK439.out 3).trans rfl
            have hfz31_0 := blk_frozen BK439.out 0
            have hfz31_1 := blk_frozen BK439.out 1
            have hfz31_2 := blk_frozen BK439.out 2
            have hfz31_3 := blk_frozen BK439.out 3
            go_wp2_with ((go_at_call 25; (with_reducible refine (sacristanref09_May.calls kj11 _ _ l0_0 _ _ l0_1 _ _ l0_2 _ _ l0_3 true _ ?side1 ?side2 ?side3 ?side4 ?side5 ?side6 ?side7 ?side8 A28.out).mono ?_); (case side1 => repeat (exact (Kd.C_below HR0_0.out HB.out))); (case side2 => exact HC0_0.out); (case side3 => repeat (exact (Kd.C_below HR0_1.out HB.out))); (case side4 => exact HC0_1.out); (case side5 => repeat (exact (Kd.C_below HR0_2.out HB.out))); (case side6 => exact HC0_2.out); (case side7 => repeat (exact (Kd.C_below HR0_3.out HB.out))); (case side8 => exact HC0_3.out); rintro e w32 ⟨rfl, hb⟩; have n0_ := Aside0.mk (Kd.R_below (by (with_reducible repeat (fail)); exact HO448.out) hb); have n1_ := Aside0.mk (blk_below (g := gb439) (o := .cells #[.slice A0_0 l0_0.length c0_0, .slice A0_1 l0_1.length c0_1, .slice A0_2 l0_2.length c0_2, .slice A0_3 l0_3.length c0_3] 30 (0, 0)) (by (with_reducible repeat (fail)); exact BK439.out) hb); have n2_ := Aside0.mk (below_step (by repeat ((with_reducible exact HB.out))) hb); clear HO448; clear BK439; clear HB; have HO448 := n0_; have BK439 := n1_; have HB := n2_; clear n0_ n1_ n2_; (try clear hb)))
            repeat (go_quiet (fail))
            go_meet
            case rel => exact ⟨_, (true), (by rfl), H', ⟨by have := HJ11.out; omega⟩, ⟨by (with_reducible repeat (fail)); exact HO448.out⟩, ⟨by (with_reducible repeat (fail)); exact BK439.out⟩, ⟨by repeat ((with_reducible exact HB.out))⟩⟩
          rw [if_neg c30] at H
          have c30b0 : decide (a1 < 0) = false := decide_eq_false c30
          clear c30
          (skip)
          have H' := Aside0.mk H
          clear H
          have hcz33_0 : w27.cell? ⟨gb439, 0, none⟩ = some (.slice A0_0 l0_0.length c0_0) := (blk_cell BK439.out 0).trans rfl
          have hcz33_1 : w27.cell? ⟨gb439, 1, none⟩ = some (.slice A0_1 l0_1.length c0_1) := (blk_cell BK439.out 1).trans rfl
          have hcz33_2 : w27.cell? ⟨gb439, 2, none⟩ = some (.slice A0_2 l0_2.length c0_2) := (blk_cell BK439.out 2).trans rfl
          have hcz33_3 : w27.cell? ⟨gb439, 3, none⟩ = some (.slice A0_3 l0_3.length c0_3) := (blk_cell BK439.out 3).trans rfl
          have hfz33_0 := blk_frozen BK439.out 0
          have hfz33_1 := blk_frozen BK439.out 1
          have hfz33_2 := blk_frozen BK439.out 2
          have hfz33_3 := blk_frozen BK439.out 3
          go_wp2_with ((go_at_call 25; (with_reducible refine (sacristanref09_May.calls kj11 _ _ l0_0 _ _ l0_1 _ _ l0_2 _ _ l0_3 true _ ?side1 ?side2 ?side3 ?side4 ?side5 ?side6 ?side7 ?side8 A28.out).mono ?_); (case side1 => repeat (exact (Kd.C_below HR0_0.out HB.out))); (case side2 => exact HC0_0.out); (case side3 => repeat (exact (Kd.C_below HR0_1.out HB.out))); (case side4 => exact HC0_1.out); (case side5 => repeat (exact (Kd.C_below HR0_2.out HB.out))); (case side6 => exact HC0_2.out); (case side7 => repeat (exact (Kd.C_below HR0_3.out HB.out))); (case side8 => exact HC0_3.out); rintro e w34 ⟨rfl, hb⟩; have n0_ := Aside0.mk (Kd.R_below (by (with_reducible repeat (fail)); exact HO448.out) hb); have n1_ := Aside0.mk (blk_below (g := gb439) (o := .cells #[.slice A0_0 l0_0.length c0_0, .slice A0_1 l0_1.length c0_1, .slice A0_2 l0_2.length c0_2, .slice A0_3 l0_3.length c0_3] 30 (0, 0)) (by (with_reducible repeat (fail)); exact BK439.out) hb); have n2_ := Aside0.mk (below_step (by repeat ((with_reducible exact HB.out))) hb); clear HO448; clear BK439; clear HB; have HO448 := n0_; have BK439 := n1_; have HB := n2_; clear n0_ n1_ n2_; (try clear hb); have hcz35_0 : w34.cell? ⟨gb439, 0, none⟩ = some (.slice A0_0 l0_0.length c0_0) := (blk_cell BK439.out 0).trans rfl; have hcz35_1 : w34.cell? ⟨gb439, 1, none⟩ = some (.slice A0_1 l0_1.length c0_1) := (blk_cell BK439.out 1).trans rfl; have hcz35_2 : w34.cell? ⟨gb439, 2, none⟩ = some (.slice A0_2 l0_2.length c0_2) := (blk_cell BK439.out 2).trans rfl; have hcz35_3 : w34.cell? ⟨gb439, 3, none⟩ = some (.slice A0_3 l0_3.length c0_3) := (blk_cell BK439.out 3).trans rfl; have hfz35_0 := blk_frozen BK439.out 0; have hfz35_1 := blk_frozen BK439.out 1; have hfz35_2 := blk_frozen BK439.out 2; have hfz35_3 := blk_frozen BK439.out 3))
          repeat (go_quiet (fail))
          go_meet
          case rel => exact ⟨_, (decide (a1 ≥ (l0_2.length : Int))), (by rfl), H', ⟨by have := HJ11.out; omega⟩, ⟨by (with_reducible repeat (fail)); exact HO448.out⟩, ⟨by (with_reducible repeat (fail)); exact BK439.out⟩, ⟨by repeat ((with_reducible exact HB.out))⟩⟩
        replace c29 := Bool.eq_false_iff.mpr c29
        subst c29
        have H1 : (sacristanlaw11_VerifyChecks.j1 kj11 a1 t446 true l0_0 l0_1 l0_2 l0_3) = some r := by rw [if_neg (show ¬ (false = true) by decide)] at H; exact H
        clear H
        have H := H1
        clear H1
        have H' := Aside0.mk H
        clear H
        have hcz36_0 : w27.cell? ⟨gb439, 0, none⟩ = some (.slice A0_0 l0_0.length c0_0) := (blk_cell BK439.out 0).trans rfl
        have hcz36_1 : w27.cell? ⟨gb439, 1, none⟩ = some (.slice A0_1 l0_1.length c0_1) := (blk_cell BK439.out 1).trans rfl
        have hcz36_2 : w27.cell? ⟨gb439, 2, none⟩ = some (.slice A0_2 l0_2.length c0_2) := (blk_cell BK439.out 2).trans rfl
        have hcz36_3 : w27.cell? ⟨gb439, 3, none⟩ = some (.slice A0_3 l0_3.length c0_3) := (blk_cell BK439.out 3).trans rfl
        have hfz36_0 := blk_frozen BK439.out 0
        have hfz36_1 := blk_frozen BK439.out 1
        have hfz36_2 := blk_frozen BK439.out 2
        have hfz36_3 := blk_frozen BK439.out 3
        go_wp2_with ((go_at_call 25; (with_reducible refine (sacristanref09_May.calls kj11 _ _ l0_0 _ _ l0_1 _ _ l0_2 _ _ l0_3 false _ ?side1 ?side2 ?side3 ?side4 ?side5 ?side6 ?side7 ?side8 A28.out).mono ?_); (case side1 => repeat (exact (Kd.C_below HR0_0.out HB.out))); (case side2 => exact HC0_0.out); (case side3 => repeat (exact (Kd.C_below HR0_1.out HB.out))); (case side4 => exact HC0_1.out); (case side5 => repeat (exact (Kd.C_below HR0_2.out HB.out))); (case side6 => exact HC0_2.out); (case side7 => repeat (exact (Kd.C_below HR0_3.out HB.out))); (case side8 => exact HC0_3.out); rintro e w37 ⟨rfl, hb⟩; have n0_ := Aside0.mk (Kd.R_below (by (with_reducible repeat (fail)); exact HO448.out) hb); have n1_ := Aside0.mk (blk_below (g := gb439) (o := .cells #[.slice A0_0 l0_0.length c0_0, .slice A0_1 l0_1.length c0_1, .slice A0_2 l0_2.length c0_2, .slice A0_3 l0_3.length c0_3] 30 (0, 0)) (by (with_reducible repeat (fail)); exact BK439.out) hb); have n2_ := Aside0.mk (below_step (by repeat ((with_reducible exact HB.out))) hb); clear HO448; clear BK439; clear HB; have HO448 := n0_; have BK439 := n1_; have HB := n2_; clear n0_ n1_ n2_; (try clear hb)))
        repeat (go_quiet (fail))
        go_meet
        case rel => exact ⟨_, (true), (by rfl), H', ⟨by have := HJ11.out; omega⟩, ⟨by (with_reducible repeat (fail)); exact HO448.out⟩, ⟨by (with_reducible repeat (fail)); exact BK439.out⟩, ⟨by repeat ((with_reducible exact HB.out))⟩⟩
      case rest =>
        clear HC25 hcz26_0 hcz26_1 hcz26_2 hcz26_3 hfz26_0 hfz26_1 hfz26_2 hfz26_3
        obtain ⟨kq, x59_24, rfl, HA, HJ24, HO_9, BK439, HB⟩ := hcut
        cases kq with
        | zero => exact absurd HA.out (by simp [sacristanlaw11_VerifyChecks.j1])
        | succ kj24 =>
          have H := HA.out
          clear HA
          simp only [sacristanlaw11_VerifyChecks.j1] at H
          by_cases c38 : x59_24 = true
          · subst c38
            have H1 : (if (t446.length : Int) = 0 then ((sacristanlaw11_awake.f).bind fun t450 => (some t450)) else (some false)) = some r := by rw [if_pos rfl] at H; exact H
            clear H
            have H := H1
            clear H1
            by_cases c39 : (t446.length : Int) = 0
            · rw [if_pos c39] at H
              have c39b0 : ((t446.length : Int) == 0) = true := beq_iff_eq.mpr c39
              have c39b1 : ((t446.length : Int) != 0) = false := bne_eq_false_iff_eq.mpr c39
              clear c39
              replace H := Option.bind_eq_some_iff.mp H
              obtain ⟨t450, A400, H⟩ := H
              replace H : (some t450) = some r := H
              have A40 := Aside0.mk A400
              clear A400
              obtain rfl := Option.some.inj H
              obtain ⟨Ao41, co41, eo41⟩ := Kd.R_slice HO_9.out
              subst eo41
              go_wp2_with ((go_at_call 29; (with_reducible refine (sacristanlaw11_awake.calls  t450 _ ?side1 A40.out).mono ?_); (case side1 => exact NW.MaxOk.below HMX.out (by repeat ((with_reducible exact HB.out)))); rintro e w42 ⟨rfl, hb⟩; have n0_ := Aside0.mk (Kd.R_below (by (with_reducible repeat (fail)); exact HO_9.out) hb); have n1_ := Aside0.mk (blk_below (g := gb439) (o := .cells #[.slice A0_0 l0_0.length c0_0, .slice A0_1 l0_1.length c0_1, .slice A0_2 l0_2.length c0_2, .slice A0_3 l0_3.length c0_3] 30 (0, 0)) (by (with_reducible repeat (fail)); exact BK439.out) hb); have n2_ := Aside0.mk (below_step (by repeat ((with_reducible exact HB.out))) hb); clear HO_9; clear BK439; clear HB; have HO_9 := n0_; have BK439 := n1_; have HB := n2_; clear n0_ n1_ n2_; (try clear hb)))
              repeat (go_quiet (fail))
              go_ret
              exact ⟨by rfl, by repeat ((with_reducible exact HB.out))⟩
            rw [if_neg c39] at H
            have c39b0 : ((t446.length : Int) == 0) = false := beq_eq_false_iff_ne.mpr c39
            have c39b1 : ((t446.length : Int) != 0) = true := bne_iff_ne.mpr c39
            have c39b2 : ¬ (t446 = []) := fun h_ => c39 (by rw [h_]; rfl)
            obtain rfl := Option.some.inj H
            obtain ⟨Ao43, co43, eo43⟩ := Kd.R_slice HO_9.out
            subst eo43
            go_wp2
            repeat (go_quiet (fail))
            go_ret
            exact ⟨by rfl, by repeat ((with_reducible exact HB.out))⟩
          replace c38 := Bool.eq_false_iff.mpr c38
          subst c38
          have H1 : ((sacristanref11_Depths.f kj24 l0_0 l0_1 l0_2 l0_3 a1).bind fun bt451 => (if bt451.2 = true then (if (t446.length : Int) = (bt451.1.length : Int) then (sacristanlaw11_VerifyChecks.l0 kj24 t446 bt451.1 0) else (some false)) else (if (t446.length : Int) = 0 then ((sacristanlaw11_awake.f).bind fun t455 => (some t455)) else (some false)))) = some r := by rw [if_neg (show ¬ (false = true) by decide)] at H; exact H
          clear H
          have H := H1
          clear H1
          replace H := Option.bind_eq_some_iff.mp H
          obtain ⟨⟨t451, t454⟩, A440, H⟩ := H
          (try dsimp only at H)
          have A44 := Aside0.mk A440
          clear A440
          by_cases c45 : t454 = true
          · subst c45
            have H1 : (if (t446.length : Int) = (t451.length : Int) then (sacristanlaw11_VerifyChecks.l0 kj24 t446 t451 0) else (some false)) = some r := by rw [if_pos rfl] at H; exact H
            clear H
            have H := H1
            clear H1
            by_cases c46 : (t446.length : Int) = (t451.length : Int)
            · rw [if_pos c46] at H
              have c46b0 : ((t446.length : Int) == (t451.length : Int)) = true := beq_iff_eq.mpr c46
              have c46b1 : ((t446.length : Int) != (t451.length : Int)) = false := bne_eq_false_iff_eq.mpr c46
              have c46b2 : (t446.length == t451.length) = true := by ((simp at c46 ⊢; omega))
              clear c46
              have H' := Aside0.mk H
              clear H
              have hcz47_0 : wc.cell? ⟨gb439, 0, none⟩ = some (.slice A0_0 l0_0.length c0_0) := (blk_cell BK439.out 0).trans rfl
              have hcz47_1 : wc.cell? ⟨gb439, 1, none⟩ = some (.slice A0_1 l0_1.length c0_1) := (blk_cell BK439.out 1).trans rfl
              have hcz47_2 : wc.cell? ⟨gb439, 2, none⟩ = some (.slice A0_2 l0_2.length c0_2) := (blk_cell BK439.out 2).trans rfl
              have hcz47_3 : wc.cell? ⟨gb439, 3, none⟩ = some (.slice A0_3 l0_3.length c0_3) := (blk_cell BK439.out 3).trans rfl
              have hfz47_0 := blk_frozen BK439.out 0
              have hfz47_1 := blk_frozen BK439.out 1
              have hfz47_2 := blk_frozen BK439.out 2
              have hfz47_3 := blk_frozen BK439.out 3
              go_wp2_with ((go_at_call 33; (with_reducible refine (sacristanref11_Depths.calls kj24 _ _ l0_0 _ _ l0_1 _ _ l0_2 _ _ l0_3 a1 t451 true _ ?side1 ?side2 ?side3 ?side4 ?side5 ?side6 ?side7 ?side8 A44.out).mono ?_); (case side1 => repeat (exact (Kd.C_below HR0_0.out HB.out))); (case side2 => exact HC0_0.out); (case side3 => repeat (exact (Kd.C_below HR0_1.out HB.out))); (case side4 => exact HC0_1.out); (case side5 => repeat (exact (Kd.C_below HR0_2.out HB.out))); (case side6 => exact HC0_2.out); (case side7 => repeat (exact (Kd.C_below HR0_3.out HB.out))); (case side8 => exact HC0_3.out); rintro e w48 ⟨v452, rfl, ho0, hb⟩; have n0_ := Aside0.mk (Kd.R_elder' (by (with_reducible repeat (fail)); exact HO_9.out) (Kd.R_base ho0) hb); have n1_ := Aside0.mk (Kd.R_lower (Kd.R_new' ho0 (Kd.R_lt (by (with_reducible repeat (fail)); exact HO_9.out))) (below_size (by repeat ((with_reducible exact HB.out))))); have n2_ := Aside0.mk (blk_below (g := gb439) (o := .cells #[.slice A0_0 l0_0.length c0_0, .slice A0_1 l0_1.length c0_1, .slice A0_2 l0_2.length c0_2, .slice A0_3 l0_3.length c0_3] 30 (0, 0)) (by (with_reducible repeat (fail)); exact BK439.out) hb); have n3_ := Aside0.mk (below_step (by repeat ((with_reducible exact HB.out))) hb); clear HO_9; clear BK439; clear HB; have HO_9 := n0_; have HO453 := n1_; have BK439 := n2_; have HB := n3_; clear n0_ n1_ n2_ n3_; (try clear hb); (try clear ho0); obtain ⟨Ao49, co49, eo49⟩ := Kd.R_slice HO_9.out; subst eo49; obtain ⟨Ao50, co50, eo50⟩ := Kd.R_slice HO453.out; subst eo50))
              repeat (go_quiet (fail))
              go_loopg [12] kj24 (fun kq v12 w' => ∃ (x12_3 : Int), v12 = .int .i64 x12_3 ∧ Aside0 (sacristanlaw11_VerifyChecks.l0 kq t446 t451 x12_3 = some r) ∧ Aside0 (kq ≤ kj24) ∧ Aside0 (Kd.R (Kd.int .i64) 3 w' w.heap.size (fun k_ => some k_ ≠ ((.slice Ao50 t451.length co50) : Value).ownBlock) (.slice Ao49 t446.length co49) t446) ∧ Aside0 (Kd.R (Kd.int .i64) 3 w' w.heap.size (fun k_ => some k_ ≠ ((.slice Ao49 t446.length co49) : Value).ownBlock) (.slice Ao50 t451.length co50) t451) ∧ Aside0 (w'.heap[gb439]? = some (.cells #[(.slice A0_0 l0_0.length c0_0), (.slice A0_1 l0_1.length c0_1), (.slice A0_2 l0_2.length c0_2), (.slice A0_3 l0_3.length c0_3)] 30 (0, 0))) ∧ Aside0 (Below w.heap.size w w'))
              case atStart => exact ⟨(0), (by rfl), H', ⟨Nat.le_refl _⟩, ⟨by (with_reducible repeat (fail)); exact Kd.R_mono HO_9.out (fun _ hk => hk.2)⟩, ⟨by (with_reducible repeat (fail)); exact Kd.R_mono HO453.out (fun _ hk => hk.2)⟩, ⟨by (with_reducible repeat (fail)); exact BK439.out⟩, ⟨by repeat ((with_reducible exact HB.out))⟩⟩
              case round =>
                clear H' c46b0 c46b1 c46b2 hcz47_0 hcz47_1 hcz47_2 hcz47_3 hfz47_0 hfz47_1 hfz47_2 hfz47_3
                obtain ⟨x12_3, rfl, HA, HK3, HO_9, HO_10, BK439, HB⟩ := hrel
                cases gk with
                | zero => exact absurd HA.out (by simp [sacristanlaw11_VerifyChecks.l0])
                | succ k3 =>
                  have H := HA.out
                  clear HA
                  simp only [sacristanlaw11_VerifyChecks.l0] at H
                  by_cases c51 : x12_3 < (t451.length : Int)
                  · rw [if_pos c51] at H
                    have c51b0 : decide (x12_3 < (t451.length : Int)) = true := decide_eq_true c51
                    clear c51
                    by_cases c52 : 0 ≤ x12_3
                    · rw [if_pos c52] at H
                      have c52b0 : decide (0 ≤ x12_3) = true := decide_eq_true c52
                      clear c52
                      by_cases c53 : x12_3 < (t446.length : Int)
                      · rw [if_pos c53] at H
                        have c53b0 : decide (x12_3 < (t446.length : Int)) = true := decide_eq_true c53
                        clear c53
                        by_cases c54 : (rd t446 x12_3) = (rd t451 x12_3)
                        · rw [if_pos c54] at H
                          have c54b0 : ((rd t446 x12_3) == (rd t451 x12_3)) = true := beq_iff_eq.mpr c54
                          have c54b1 : ((rd t446 x12_3) != (rd t451 x12_3)) = false := bne_eq_false_iff_eq.mpr c54
                          clear c54
                          have H' := Aside0.mk H
                          clear H
                          have p457 : 0 ≤ (x12_3 : Int) := of_decide_eq_true (by (with_reducible assumption))
                          have q457 : x12_3 < (t446.length : Int) := of_decide_eq_true (by (with_reducible assumption))
                          obtain ⟨ad457, e457, hx457_0⟩ := Kd.at_int (Kd.R_reads' HO_9.out).2.2 x12_3 p457 q457
                          cases e457
                          replace p457 := eq_true p457
                          replace q457 := eq_true q457
                          have p458 : 0 ≤ (x12_3 : Int) := of_decide_eq_true (by (with_reducible assumption))
                          have q458 : x12_3 < (t451.length : Int) := of_decide_eq_true (by (with_reducible assumption))
                          obtain ⟨ad458, e458, hx458_0⟩ := Kd.at_int (Kd.R_reads' HO_10.out).2.2 x12_3 p458 q458
                          cases e458
                          replace p458 := eq_true p458
                          replace q458 := eq_true q458
                          go_wp2
                          repeat (go_quiet (fail); try go_wp2)
                          go_roundg k3
                          case measure => have := HJ11.out; have := HJ24.out; have := HK3.out; omega
                          case rel => exact ⟨(wrap64 (x12_3 + 1)), (by rfl), H', ⟨by have := HJ11.out; have := HJ24.out; have := HK3.out; omega⟩, ⟨by (with_reducible repeat (apply Kd.R_drewN)); exact HO_9.out⟩, ⟨by (with_reducible repeat (apply Kd.R_drewN)); exact HO_10.out⟩, ⟨by (with_reducible repeat (refine blk_drewN ?_ _)); exact BK439.out⟩, ⟨by repeat ((with_reducible first | exact HB.out | apply pw_below_drewN))⟩⟩
                        rw [if_neg c54] at H
                        have c54b0 : ((rd t446 x12_3) == (rd t451 x12_3)) = false := beq_eq_false_iff_ne.mpr c54
                        have c54b1 : ((rd t446 x12_3) != (rd t451 x12_3)) = true := bne_iff_ne.mpr c54
                        obtain rfl := Option.some.inj H
                        have p457 : 0 ≤ (x12_3 : Int) := of_decide_eq_true (by (with_reducible assumption))
                        have q457 : x12_3 < (t446.length : Int) := of_decide_eq_true (by (with_reducible assumption))
                        obtain ⟨ad457, e457, hx457_0⟩ := Kd.at_int (Kd.R_reads' HO_9.out).2.2 x12_3 p457 q457
                        cases e457
                        replace p457 := eq_true p457
                        replace q457 := eq_true q457
                        have p458 : 0 ≤ (x12_3 : Int) := of_decide_eq_true (by (with_reducible assumption))
                        have q458 : x12_3 < (t451.length : Int) := of_decide_eq_true (by (with_reducible assumption))
                        obtain ⟨ad458, e458, hx458_0⟩ := Kd.at_int (Kd.R_reads' HO_10.out).2.2 x12_3 p458 q458
                        cases e458
                        replace p458 := eq_true p458
                        replace q458 := eq_true q458
                        go_wp2
                        repeat (go_quiet (fail); try go_wp2)
                        go_ret
                        exact ⟨by rfl, by repeat ((with_reducible first | exact HB.out | apply pw_below_drewN))⟩
                      rw [if_neg c53] at H
                      exact absurd H (by simp)
                    rw [if_neg c52] at H
                    exact absurd H (by simp)
                  rw [if_neg c51] at H
                  have c51b0 : decide (x12_3 < (t451.length : Int)) = false := decide_eq_false c51
                  clear c51
                  replace H := Option.bind_eq_some_iff.mp H
                  obtain ⟨t456, A550, H⟩ := H
                  replace H : (some t456) = some r := H
                  have A55 := Aside0.mk A550
                  clear A550
                  obtain rfl := Option.some.inj H
                  go_wp2_with ((go_at_call 29; (with_reducible refine (sacristanlaw11_awake.calls  t456 _ ?side1 A55.out).mono ?_); (case side1 => exact NW.MaxOk.below HMX.out (by repeat ((with_reducible exact HB.out)))); rintro e w56 ⟨rfl, hb⟩; have n0_ := Aside0.mk (Kd.R_below (by (with_reducible repeat (fail)); exact HO_9.out) hb); have n1_ := Aside0.mk (Kd.R_below (by (with_reducible repeat (fail)); exact HO_10.out) hb); have n2_ := Aside0.mk (blk_below (g := gb439) (o := .cells #[.slice A0_0 l0_0.length c0_0, .slice A0_1 l0_1.length c0_1, .slice A0_2 l0_2.length c0_2, .slice A0_3 l0_3.length c0_3] 30 (0, 0)) (by (with_reducible repeat (fail)); exact BK439.out) hb); have n3_ := Aside0.mk (below_step (by repeat ((with_reducible exact HB.out))) hb); clear HO_9; clear HO_10; clear BK439; clear HB; have HO_9 := n0_; have HO_10 := n1_; have BK439 := n2_; have HB := n3_; clear n0_ n1_ n2_ n3_; (try clear hb)))
                  repeat (go_quiet (fail))
                  go_ret
                  exact ⟨by rfl, by repeat ((with_reducible exact HB.out))⟩
            rw [if_neg c46] at H
            have c46b0 : ((t446.length : Int) == (t451.length : Int)) = false := beq_eq_false_iff_ne.mpr c46
            have c46b1 : ((t446.length : Int) != (t451.length : Int)) = true := bne_iff_ne.mpr c46
            have c46b2 : (t446.length == t451.length) = false := by ((simp at c46 ⊢; omega))
            obtain rfl := Option.some.inj H
            have hcz57_0 : wc.cell? ⟨gb439, 0, none⟩ = some (.slice A0_0 l0_0.length c0_0) := (blk_cell BK439.out 0).trans rfl
            have hcz57_1 : wc.cell? ⟨gb439, 1, none⟩ = some (.slice A0_1 l0_1.length c0_1) := (blk_cell BK439.out 1).trans rfl
            have hcz57_2 : wc.cell? ⟨gb439, 2, none⟩ = some (.slice A0_2 l0_2.length c0_2) := (blk_cell BK439.out 2).trans rfl
            have hcz57_3 : wc.cell? ⟨gb439, 3, none⟩ = some (.slice A0_3 l0_3.length c0_3) := (blk_cell BK439.out 3).trans rfl
            have hfz57_0 := blk_frozen BK439.out 0
            have hfz57_1 := blk_frozen BK439.out 1
            have hfz57_2 := blk_frozen BK439.out 2
            have hfz57_3 := blk_frozen BK439.out 3
            go_wp2_with ((go_at_call 33; (with_reducible refine (sacristanref11_Depths.calls kj24 _ _ l0_0 _ _ l0_1 _ _ l0_2 _ _ l0_3 a1 t451 true _ ?side1 ?side2 ?side3 ?side4 ?side5 ?side6 ?side7 ?side8 A44.out).mono ?_); (case side1 => repeat (exact (Kd.C_below HR0_0.out HB.out))); (case side2 => exact HC0_0.out); (case side3 => repeat (exact (Kd.C_below HR0_1.out HB.out))); (case side4 => exact HC0_1.out); (case side5 => repeat (exact (Kd.C_below HR0_2.out HB.out))); (case side6 => exact HC0_2.out); (case side7 => repeat (exact (Kd.C_below HR0_3.out HB.out))); (case side8 => exact HC0_3.out); rintro e w58 ⟨v452, rfl, ho0, hb⟩; have n0_ := Aside0.mk (Kd.R_elder' (by (with_reducible repeat (fail)); exact HO_9.out) (Kd.R_base ho0) hb); have n1_ := Aside0.mk (Kd.R_lower (Kd.R_new' ho0 (Kd.R_lt (by (with_reducible repeat (fail)); exact HO_9.out))) (below_size (by repeat ((with_reducible exact HB.out))))); have n2_ := Aside0.mk (blk_below (g := gb439) (o := .cells #[.slice A0_0 l0_0.length c0_0, .slice A0_1 l0_1.length c0_1, .slice A0_2 l0_2.length c0_2, .slice A0_3 l0_3.length c0_3] 30 (0, 0)) (by (with_reducible repeat (fail)); exact BK439.out) hb); have n3_ := Aside0.mk (below_step (by repeat ((with_reducible exact HB.out))) hb); clear HO_9; clear BK439; clear HB; have HO_9 := n0_; have HO453 := n1_; have BK439 := n2_; have HB := n3_; clear n0_ n1_ n2_ n3_; (try clear hb); (try clear ho0); obtain ⟨Ao59, co59, eo59⟩ := Kd.R_slice HO_9.out; subst eo59; obtain ⟨Ao60, co60, eo60⟩ := Kd.R_slice HO453.out; subst eo60))
            repeat (go_quiet (fail))
            go_ret
            exact ⟨by rfl, by repeat ((with_reducible exact HB.out))⟩
          replace c45 := Bool.eq_false_iff.mpr c45
          subst c45
          have H1 : (if (t446.length : Int) = 0 then ((sacristanlaw11_awake.f).bind fun t455 => (some t455)) else (some false)) = some r := by rw [if_neg (show ¬ (false = true) by decide)] at H; exact H
          clear H
          have H := H1
          clear H1
          by_cases c61 : (t446.length : Int) = 0
          · rw [if_pos c61] at H
            have c61b0 : ((t446.length : Int) == 0) = true := beq_iff_eq.mpr c61
            have c61b1 : ((t446.length : Int) != 0) = false := bne_eq_false_iff_eq.mpr c61
            clear c61
            replace H := Option.bind_eq_some_iff.mp H
            obtain ⟨t455, A620, H⟩ := H
            replace H : (some t455) = some r := H
            have A62 := Aside0.mk A620
            clear A620
            obtain rfl := Option.some.inj H
            have hcz63_0 : wc.cell? ⟨gb439, 0, none⟩ = some (.slice A0_0 l0_0.length c0_0) := (blk_cell BK439.out 0).trans rfl
            have hcz63_1 : wc.cell? ⟨gb439, 1, none⟩ = some (.slice A0_1 l0_1.length c0_1) := (blk_cell BK439.out 1).trans rfl
            have hcz63_2 : wc.cell? ⟨gb439, 2, none⟩ = some (.slice A0_2 l0_2.length c0_2) := (blk_cell BK439.out 2).trans rfl
            have hcz63_3 : wc.cell? ⟨gb439, 3, none⟩ = some (.slice A0_3 l0_3.length c0_3) := (blk_cell BK439.out 3).trans rfl
            have hfz63_0 := blk_frozen BK439.out 0
            have hfz63_1 := blk_frozen BK439.out 1
            have hfz63_2 := blk_frozen BK439.out 2
            have hfz63_3 := blk_frozen BK439.out 3
            go_wp2_with (first | (go_at_call 33; (with_reducible refine (sacristanref11_Depths.calls kj24 _ _ l0_0 _ _ l0_1 _ _ l0_2 _ _ l0_3 a1 t451 false _ ?side1 ?side2 ?side3 ?side4 ?side5 ?side6 ?side7 ?side8 A44.out).mono ?_); (case side1 => repeat (exact (Kd.C_below HR0_0.out HB.out))); (case side2 => exact HC0_0.out); (case side3 => repeat (exact (Kd.C_below HR0_1.out HB.out))); (case side4 => exact HC0_1.out); (case side5 => repeat (exact (Kd.C_below HR0_2.out HB.out))); (case side6 => exact HC0_2.out); (case side7 => repeat (exact (Kd.C_below HR0_3.out HB.out))); (case side8 => exact HC0_3.out); rintro e w64 ⟨v452, rfl, ho0, hb⟩; have n0_ := Aside0.mk (Kd.R_elder' (by (with_reducible repeat (fail)); exact HO_9.out) (Kd.R_base ho0) hb); have n1_ := Aside0.mk (Kd.R_lower (Kd.R_new' ho0 (Kd.R_lt (by (with_reducible repeat (fail)); exact HO_9.out))) (below_size (by repeat ((with_reducible exact HB.out))))); have n2_ := Aside0.mk (blk_below (g := gb439) (o := .cells #[.slice A0_0 l0_0.length c0_0, .slice A0_1 l0_1.length c0_1, .slice A0_2 l0_2.length c0_2, .slice A0_3 l0_3.length c0_3] 30 (0, 0)) (by (with_reducible repeat (fail)); exact BK439.out) hb); have n3_ := Aside0.mk (below_step (by repeat ((with_reducible exact HB.out))) hb); clear HO_9; clear BK439; clear HB; have HO_9 := n0_; have HO453 := n1_; have BK439 := n2_; have HB := n3_; clear n0_ n1_ n2_ n3_; (try clear hb); (try clear ho0); obtain ⟨Ao65, co65, eo65⟩ := Kd.R_slice HO_9.out; subst eo65) | (go_at_call 29; (with_reducible refine (sacristanlaw11_awake.calls  t455 _ ?side1 A62.out).mono ?_); (case side1 => exact NW.MaxOk.below HMX.out (by repeat ((with_reducible exact HB.out)))); rintro e w66 ⟨rfl, hb⟩; have n0_ := Aside0.mk (Kd.R_below (by (with_reducible repeat (fail)); exact HO_9.out) hb); have n1_ := Aside0.mk (Kd.R_below (by (with_reducible repeat (fail)); exact HO453.out) hb); have n2_ := Aside0.mk (blk_below (g := gb439) (o := .cells #[.slice A0_0 l0_0.length c0_0, .slice A0_1 l0_1.length c0_1, .slice A0_2 l0_2.length c0_2, .slice A0_3 l0_3.length c0_3] 30 (0, 0)) (by (with_reducible repeat (fail)); exact BK439.out) hb); have n3_ := Aside0.mk (below_step (by repeat ((with_reducible exact HB.out))) hb); clear HO_9; clear HO453; clear BK439; clear HB; have HO_9 := n0_; have HO453 := n1_; have BK439 := n2_; have HB := n3_; clear n0_ n1_ n2_ n3_; (try clear hb)))
            repeat (go_quiet (fail))
            go_ret
            exact ⟨by rfl, by repeat ((with_reducible exact HB.out))⟩
          rw [if_neg c61] at H
          have c61b0 : ((t446.length : Int) == 0) = false := beq_eq_false_iff_ne.mpr c61
          have c61b1 : ((t446.length : Int) != 0) = true := bne_iff_ne.mpr c61
          have c61b2 : ¬ (t446 = []) := fun h_ => c61 (by rw [h_]; rfl)
          obtain rfl := Option.some.inj H
          have hcz67_0 : wc.cell? ⟨gb439, 0, none⟩ = some (.slice A0_0 l0_0.length c0_0) := (blk_cell BK439.out 0).trans rfl
          have hcz67_1 : wc.cell? ⟨gb439, 1, none⟩ = some (.slice A0_1 l0_1.length c0_1) := (blk_cell BK439.out 1).trans rfl
          have hcz67_2 : wc.cell? ⟨gb439, 2, none⟩ = some (.slice A0_2 l0_2.length c0_2) := (blk_cell BK439.out 2).trans rfl
          have hcz67_3 : wc.cell? ⟨gb439, 3, none⟩ = some (.slice A0_3 l0_3.length c0_3) := (blk_cell BK439.out 3).trans rfl
          have hfz67_0 := blk_frozen BK439.out 0
          have hfz67_1 := blk_frozen BK439.out 1
          have hfz67_2 := blk_frozen BK439.out 2
          have hfz67_3 := blk_frozen BK439.out 3
          go_wp2_with ((go_at_call 33; (with_reducible refine (sacristanref11_Depths.calls kj24 _ _ l0_0 _ _ l0_1 _ _ l0_2 _ _ l0_3 a1 t451 false _ ?side1 ?side2 ?side3 ?side4 ?side5 ?side6 ?side7 ?side8 A44.out).mono ?_); (case side1 => repeat (exact (Kd.C_below HR0_0.out HB.out))); (case side2 => exact HC0_0.out); (case side3 => repeat (exact (Kd.C_below HR0_1.out HB.out))); (case side4 => exact HC0_1.out); (case side5 => repeat (exact (Kd.C_below HR0_2.out HB.out))); (case side6 => exact HC0_2.out); (case side7 => repeat (exact (Kd.C_below HR0_3.out HB.out))); (case side8 => exact HC0_3.out); rintro e w68 ⟨v452, rfl, ho0, hb⟩; have n0_ := Aside0.mk (Kd.R_elder' (by (with_reducible repeat (fail)); exact HO_9.out) (Kd.R_base ho0) hb); have n1_ := Aside0.mk (Kd.R_lower (Kd.R_new' ho0 (Kd.R_lt (by (with_reducible repeat (fail)); exact HO_9.out))) (below_size (by repeat ((with_reducible exact HB.out))))); have n2_ := Aside0.mk (blk_below (g := gb439) (o := .cells #[.slice A0_0 l0_0.length c0_0, .slice A0_1 l0_1.length c0_1, .slice A0_2 l0_2.length c0_2, .slice A0_3 l0_3.length c0_3] 30 (0, 0)) (by (with_reducible repeat (fail)); exact BK439.out) hb); have n3_ := Aside0.mk (below_step (by repeat ((with_reducible exact HB.out))) hb); clear HO_9; clear BK439; clear HB; have HO_9 := n0_; have HO453 := n1_; have BK439 := n2_; have HB := n3_; clear n0_ n1_ n2_ n3_; (try clear hb); (try clear ho0); obtain ⟨Ao69, co69, eo69⟩ := Kd.R_slice HO_9.out; subst eo69))
          repeat (go_quiet (fail))
          go_ret
          exact ⟨by rfl, by repeat ((with_reducible exact HB.out))⟩
end Go.Proofs.YtfncoldcjhkhiaaDoor.PC
