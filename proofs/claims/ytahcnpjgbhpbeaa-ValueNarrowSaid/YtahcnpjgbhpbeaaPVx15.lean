-- Own text: made by this session's variant of the printer (wip/mkpp.py); Lean checks it.
import Derived.Test.YtahcnpjgbhpbeaaPVx0
import Derived.Test.YtahcnpjgbhpbeaaPVx1
import Derived.Test.YtahcnpjgbhpbeaaPVx2
import Derived.Test.YtahcnpjgbhpbeaaPVx5
import Derived.Test.YtahcnpjgbhpbeaaPVx14
namespace Go.Proofs.Ytahcnpjgbhpbeaa.PV
open Go.RowKit Go.Proofs.YtahcnpjgbhpbeaaW.PrintWords Go.Proofs.YtahcnpjgbhpbeaaW.PrintLast Go.Proofs.YtahcnpjgbhpbeaaW.PrintMore Go.Proofs.YtahcnpjgbhpbeaaW.Own
attribute [local go_sem high] own_gtr own_leq own_geq
attribute [local go_sem] max2_int min2_int max_two min_two max_three min_three max_four min_four   -- for this text's walks alone
set_option linter.unusedVariables false
set_option linter.unusedSimpArgs false

attribute [local go_sem high] eqA26
/-! ### sacristanlaw01_ValueNarrow: function 12 -/
mutual
def sacristanlaw01_ValueNarrow.j0 : Nat → ByteArray → Bool → Int → Int → ByteArray → Int → Int → ByteArray → Option (Bool)
  | 0, _, _, _, _, _, _, _, _ => none
  | k + 1, x6, x46, x592000, x592001, x592002, x600000, x600001, x600002 => if x46 = true then (some false) else (if 1 + x6.size ≤ 9223372036854775807 then ((value_One.f k ((⟨#[105]⟩ : ByteArray) ++ x6) x592000 x592001 x592002).bind fun bt600 => ((value_One.f k ((⟨#[117]⟩ : ByteArray) ++ x6) x600000 x600001 x600002).bind fun bt605 => ((value_One.f k ((⟨#[117]⟩ : ByteArray) ++ x6) x592000 x592001 x592002).bind fun bt610 => ((value_One.f k ((⟨#[105]⟩ : ByteArray) ++ x6) x600000 x600001 x600002).bind fun bt615 => (if (bt600.1 == x592000 && (bt600.2.1 == x592001 && (bt600.2.2.1.toList == x592002.toList))) = true then (if (bt605.1 == x600000 && (bt605.2.1 == x600001 && (bt605.2.2.1.toList == x600002.toList))) = true then (if (bt610.1 == x600000 && (bt610.2.1 == x600001 && (bt610.2.2.1.toList == x600002.toList))) = true then (if (bt615.1 == x592000 && (bt615.2.1 == x592001 && (bt615.2.2.1.toList == x592002.toList))) = true then (if x600001 ≥ 0 then ((sacristanlaw01_awake.f k).bind fun t620 => (sacristanlaw01_ValueNarrow.j1 k t620)) else (sacristanlaw01_ValueNarrow.j1 k false)) else (sacristanlaw01_ValueNarrow.j1 k false)) else (sacristanlaw01_ValueNarrow.j1 k false)) else (sacristanlaw01_ValueNarrow.j1 k false)) else (sacristanlaw01_ValueNarrow.j1 k false)))))) else (none))
def sacristanlaw01_ValueNarrow.j1 : Nat → Bool → Option (Bool)
  | 0, _ => none
  | k + 1, x4 => some x4
end
def sacristanlaw01_ValueNarrow.f (k : Nat) (a0 : Int) (a1 : Int) : Option (Bool) := (some (([(⟨#[56]⟩ : ByteArray), (⟨#[49, 54]⟩ : ByteArray), (⟨#[51, 50]⟩ : ByteArray)] : List ByteArray) : List ByteArray)).bind fun y580 => (if 0 ≤ (Int.tmod a0 3) then (if (Int.tmod a0 3) < (y580.length : Int) then (if 1 + (rdOf ByteArray.empty y580 (Int.tmod a0 3)).size ≤ 9223372036854775807 then ((value_Of.f a1).bind fun bt584 => ((value_One.f k ((⟨#[105]⟩ : ByteArray) ++ (rdOf ByteArray.empty y580 (Int.tmod a0 3))) bt584.1 bt584.2.1 bt584.2.2).bind fun bt587 => ((value_Of.f a1).bind fun bt592 => ((value_One.f k ((⟨#[117]⟩ : ByteArray) ++ (rdOf ByteArray.empty y580 (Int.tmod a0 3))) bt592.1 bt592.2.1 bt592.2.2).bind fun bt595 => (if bt587.2.2.2 = 0 then (sacristanlaw01_ValueNarrow.j0 k (rdOf ByteArray.empty y580 (Int.tmod a0 3)) (bt595.2.2.2 != 0) bt587.1 bt587.2.1 bt587.2.2.1 bt595.1 bt595.2.1 bt595.2.2.1) else (sacristanlaw01_ValueNarrow.j0 k (rdOf ByteArray.empty y580 (Int.tmod a0 3)) true bt587.1 bt587.2.1 bt587.2.2.1 bt595.1 bt595.2.1 bt595.2.2.1)))))) else (none)) else (none)) else (none))
theorem sacristanlaw01_ValueNarrow.mono_l : ∀ k, (∀ y0 y1 y2 y3 y4 y5 y6 y7, LeO (sacristanlaw01_ValueNarrow.j0 k y0 y1 y2 y3 y4 y5 y6 y7) (sacristanlaw01_ValueNarrow.j0 (k + 1) y0 y1 y2 y3 y4 y5 y6 y7)) ∧ (∀ y0, LeO (sacristanlaw01_ValueNarrow.j1 k y0) (sacristanlaw01_ValueNarrow.j1 (k + 1) y0))
  | 0 => ⟨fun _ _ _ _ _ _ _ _ r h => by simp [sacristanlaw01_ValueNarrow.j0] at h, fun _ r h => by simp [sacristanlaw01_ValueNarrow.j1] at h⟩
  | k + 1 => by
    obtain ⟨ih0, ih1⟩ := sacristanlaw01_ValueNarrow.mono_l k
    refine ⟨?_, ?_⟩
    · intro y0 y1 y2 y3 y4 y5 y6 y7
      unfold sacristanlaw01_ValueNarrow.j0
      repeat' first
      | (with_reducible exact ih0 _ _ _ _ _ _ _ _)
      | (with_reducible exact ih1 _)
      | (with_reducible exact sacristanlaw01_awake.mono _)
      | (with_reducible exact value_One.mono _ _ _ _ _)
      | (with_reducible exact LeO.refl _)
      | (with_reducible exact LeO.none _)
      | (with_reducible refine LeO.ite ?_ ?_)
      | (with_reducible refine LeO.bind ?_ (fun _ => ?_))
      | exact ih0 _ _ _ _ _ _ _ _
      | exact ih1 _
      | exact sacristanlaw01_awake.mono _
      | exact value_One.mono _ _ _ _ _
      | exact LeO.none _
      | refine LeO.ite ?_ ?_
      | refine LeO.bind ?_ (fun _ => ?_)
    · intro y0
      unfold sacristanlaw01_ValueNarrow.j1
      repeat' first
      | (with_reducible exact ih0 _ _ _ _ _ _ _ _)
      | (with_reducible exact ih1 _)
      | (with_reducible exact sacristanlaw01_awake.mono _)
      | (with_reducible exact value_One.mono _ _ _ _ _)
      | (with_reducible exact LeO.refl _)
      | (with_reducible exact LeO.none _)
      | (with_reducible refine LeO.ite ?_ ?_)
      | (with_reducible refine LeO.bind ?_ (fun _ => ?_))
      | exact ih0 _ _ _ _ _ _ _ _
      | exact ih1 _
      | exact sacristanlaw01_awake.mono _
      | exact value_One.mono _ _ _ _ _
      | exact LeO.none _
      | refine LeO.ite ?_ ?_
      | refine LeO.bind ?_ (fun _ => ?_)
theorem sacristanlaw01_ValueNarrow.mono : ∀ a0 a1 k, LeO (sacristanlaw01_ValueNarrow.f k a0 a1) (sacristanlaw01_ValueNarrow.f (k + 1) a0 a1) := by
  intro a0 a1 k
  obtain ⟨ih0, ih1⟩ := sacristanlaw01_ValueNarrow.mono_l k
  unfold sacristanlaw01_ValueNarrow.f
  repeat' first
      | (with_reducible exact ih0 _ _ _ _ _ _ _ _)
      | (with_reducible exact ih1 _)
      | (with_reducible exact sacristanlaw01_awake.mono _)
      | (with_reducible exact value_One.mono _ _ _ _ _)
      | (with_reducible exact LeO.refl _)
      | (with_reducible exact LeO.none _)
      | (with_reducible refine LeO.ite ?_ ?_)
      | (with_reducible refine LeO.bind ?_ (fun _ => ?_))
      | exact ih0 _ _ _ _ _ _ _ _
      | exact ih1 _
      | exact sacristanlaw01_awake.mono _
      | exact value_One.mono _ _ _ _ _
      | exact LeO.none _
      | refine LeO.ite ?_ ?_
      | refine LeO.bind ?_ (fun _ => ?_)
set_option maxHeartbeats 8000000 in
set_option maxRecDepth 100000 in
theorem sacristanlaw01_ValueNarrow.calls (k : Nat) (a0 : Int) (a1 : Int) (r : Bool) (w : World) (h : sacristanlaw01_ValueNarrow.f k a0 a1 = some r) :
    Calls Try.prog 12 #[.int .u8 a0, .int .i64 a1] w fun e w' => e = .returned (.bool r) ∧ Below w.heap.size w w' := by
  have hu26 := Try.underlying26
  have HB := Aside0.mk (Below.refl w.heap.size w)
  have H : ((some (([(⟨#[56]⟩ : ByteArray), (⟨#[49, 54]⟩ : ByteArray), (⟨#[51, 50]⟩ : ByteArray)] : List ByteArray) : List ByteArray)).bind fun y580 => (if 0 ≤ (Int.tmod a0 3) then (if (Int.tmod a0 3) < (y580.length : Int) then (if 1 + (rdOf ByteArray.empty y580 (Int.tmod a0 3)).size ≤ 9223372036854775807 then ((value_Of.f a1).bind fun bt584 => ((value_One.f k ((⟨#[105]⟩ : ByteArray) ++ (rdOf ByteArray.empty y580 (Int.tmod a0 3))) bt584.1 bt584.2.1 bt584.2.2).bind fun bt587 => ((value_Of.f a1).bind fun bt592 => ((value_One.f k ((⟨#[117]⟩ : ByteArray) ++ (rdOf ByteArray.empty y580 (Int.tmod a0 3))) bt592.1 bt592.2.1 bt592.2.2).bind fun bt595 => (if bt587.2.2.2 = 0 then (sacristanlaw01_ValueNarrow.j0 k (rdOf ByteArray.empty y580 (Int.tmod a0 3)) (bt595.2.2.2 != 0) bt587.1 bt587.2.1 bt587.2.2.1 bt595.1 bt595.2.1 bt595.2.2.1) else (sacristanlaw01_ValueNarrow.j0 k (rdOf ByteArray.empty y580 (Int.tmod a0 3)) true bt587.1 bt587.2.1 bt587.2.2.1 bt595.1 bt595.2.1 bt595.2.2.1)))))) else (none)) else (none)) else (none))) = some r := h
  clear h
  obtain ⟨y580, hy580⟩ : ∃ y_ : List ByteArray, y_ = (([(⟨#[56]⟩ : ByteArray), (⟨#[49, 54]⟩ : ByteArray), (⟨#[51, 50]⟩ : ByteArray)] : List ByteArray)) := ⟨_, rfl⟩
  replace H : (if 0 ≤ (Int.tmod a0 3) then (if (Int.tmod a0 3) < (y580.length : Int) then (if 1 + (rdOf ByteArray.empty y580 (Int.tmod a0 3)).size ≤ 9223372036854775807 then ((value_Of.f a1).bind fun bt584 => ((value_One.f k ((⟨#[105]⟩ : ByteArray) ++ (rdOf ByteArray.empty y580 (Int.tmod a0 3))) bt584.1 bt584.2.1 bt584.2.2).bind fun bt587 => ((value_Of.f a1).bind fun bt592 => ((value_One.f k ((⟨#[117]⟩ : ByteArray) ++ (rdOf ByteArray.empty y580 (Int.tmod a0 3))) bt592.1 bt592.2.1 bt592.2.2).bind fun bt595 => (if bt587.2.2.2 = 0 then (sacristanlaw01_ValueNarrow.j0 k (rdOf ByteArray.empty y580 (Int.tmod a0 3)) (bt595.2.2.2 != 0) bt587.1 bt587.2.1 bt587.2.2.1 bt595.1 bt595.2.1 bt595.2.2.1) else (sacristanlaw01_ValueNarrow.j0 k (rdOf ByteArray.empty y580 (Int.tmod a0 3)) true bt587.1 bt587.2.1 bt587.2.2.1 bt595.1 bt595.2.1 bt595.2.2.1)))))) else (none)) else (none)) else (none)) = some r := by first | (rw [hy580]; with_reducible exact H) | (have H2_ := (Option.bind_some _ _).symm.trans H; rw [hy580]; with_reducible exact H2_) | (have H2_ := (Option.bind_some _ _).symm.trans H; with_reducible exact H2_) | with_reducible exact H | (rw [hy580]; exact H) | exact H
  have Ny580 := Aside0.mk hy580
  clear hy580
  obtain ⟨ji3, hji3⟩ : ∃ j_ : Int, (Int.tmod a0 3) = j_ := ⟨_, rfl⟩
  replace H : (if 0 ≤ (ji3) then (if (ji3) < (y580.length : Int) then (if 1 + (rdOf ByteArray.empty y580 (ji3)).size ≤ 9223372036854775807 then ((value_Of.f a1).bind fun bt584 => ((value_One.f k ((⟨#[105]⟩ : ByteArray) ++ (rdOf ByteArray.empty y580 (ji3))) bt584.1 bt584.2.1 bt584.2.2).bind fun bt587 => ((value_Of.f a1).bind fun bt592 => ((value_One.f k ((⟨#[117]⟩ : ByteArray) ++ (rdOf ByteArray.empty y580 (ji3))) bt592.1 bt592.2.1 bt592.2.2).bind fun bt595 => (if bt587.2.2.2 = 0 then (sacristanlaw01_ValueNarrow.j0 k (rdOf ByteArray.empty y580 (ji3)) (bt595.2.2.2 != 0) bt587.1 bt587.2.1 bt587.2.2.1 bt595.1 bt595.2.1 bt595.2.2.1) else (sacristanlaw01_ValueNarrow.j0 k (rdOf ByteArray.empty y580 (ji3)) true bt587.1 bt587.2.1 bt587.2.2.1 bt595.1 bt595.2.1 bt595.2.2.1)))))) else (none)) else (none)) else (none)) = some r := by first | (rw [hji3] at H; exact H) | (simp only [hji3] at H ⊢; exact H)
  by_cases c4 : 0 ≤ (ji3)
  · rw [if_pos c4] at H
    have c4b0 : decide (0 ≤ (ji3)) = true := decide_eq_true c4
    clear c4
    by_cases c5 : (ji3) < (y580.length : Int)
    · rw [if_pos c5] at H
      have c5b0 : decide ((ji3) < (y580.length : Int)) = true := decide_eq_true c5
      clear c5
      by_cases c6 : 1 + (rdOf ByteArray.empty y580 (ji3)).size ≤ 9223372036854775807
      · rw [if_pos c6] at H
        have c6b0 := eq_true c6
        have c6b1 : decide (1 + (rdOf ByteArray.empty y580 (ji3)).size ≤ 9223372036854775807) = true := decide_eq_true c6
        try have c6b2 : (9223372036854775807 < 1 + (rdOf ByteArray.empty y580 (ji3)).size) = False := eq_false (Nat.not_lt.2 c6)
        replace H := Option.bind_eq_some_iff.mp H
        obtain ⟨⟨t584, t585, t586⟩, A70, H⟩ := H
        (try dsimp only at H)
        have A7 := Aside0.mk A70
        clear A70
        replace H := Option.bind_eq_some_iff.mp H
        obtain ⟨⟨t587, t588, t589, t590⟩, A80, H⟩ := H
        (try dsimp only at H)
        have A8 := Aside0.mk A80
        clear A80
        replace H := Option.bind_eq_some_iff.mp H
        obtain ⟨⟨t592, t593, t594⟩, A90, H⟩ := H
        (try dsimp only at H)
        have A9 := Aside0.mk A90
        clear A90
        replace H := Option.bind_eq_some_iff.mp H
        obtain ⟨⟨t595, t596, t597, t598⟩, A100, H⟩ := H
        (try dsimp only at H)
        have A10 := Aside0.mk A100
        clear A100
        have HC11 := Aside0.mk H
        clear H
        go_enter Try.func12, Try.ntmps12
        go_upto_region 5 with (first | ((with_reducible refine gate_dst (N := 19) rfl ?_); refine Kd.R_lit Kd.string _ 9 ?hg (N := 19) ?hd (xs := ([(⟨#[56]⟩ : ByteArray), (⟨#[49, 54]⟩ : ByteArray), (⟨#[51, 50]⟩ : ByteArray)] : List ByteArray)) (inner := [.string (⟨#[56]⟩ : ByteArray), .string (⟨#[49, 54]⟩ : ByteArray), .string (⟨#[51, 50]⟩ : ByteArray)]) (ok := fun _ => True) (okp := fun _ => True) ?hr ?hp (fun _ hk => hk) trivial (Below.refl _ _) (Nat.le_refl _) (by simp) ?_; (case hd => rfl); (case hg => rfl); (case hr => first | (go_simp; done) | (go_simp; rfl)); (case hp => exact (Reps.one (show Kd.M Kd.string _ _ _ (⟨#[56]⟩ : ByteArray) [.string (⟨#[56]⟩ : ByteArray)] from rfl) (Reps.one (show Kd.M Kd.string _ _ _ (⟨#[49, 54]⟩ : ByteArray) [.string (⟨#[49, 54]⟩ : ByteArray)] from rfl) (Reps.one (show Kd.M Kd.string _ _ _ (⟨#[51, 50]⟩ : ByteArray) [.string (⟨#[51, 50]⟩ : ByteArray)] from rfl) (Reps.none _ _))))); intro v581 w12 ho13 hb hg_ hnew_; clear hg_ hnew_; (first | rw [← Ny580.out] at ho13 | (simp only [Int.reduceToNat] at ho13; rw [← Ny580.out] at ho13)); have n0_ := Aside0.mk (Kd.R_lower ho13 (below_size (by repeat (first | (with_reducible first | exact HB.out | apply below_alloc | apply pw_below_drewN | apply below_drew1) | exact HB.out)))); have n1_ := Aside0.mk (below_step (by repeat (first | (with_reducible first | exact HB.out | apply below_alloc | apply pw_below_drewN | apply below_drew1) | exact HB.out)) hb); clear HB; have HO582 := n0_; have HB := n1_; clear n0_ n1_; clear hb ho13; obtain ⟨Ao14, co14, eo14⟩ := Kd.R_slice HO582.out; subst eo14; have p583 : 0 ≤ ((ji3) : Int) := of_decide_eq_true (by first | (with_reducible assumption) | assumption); have q583 : (ji3) < (y580.length : Int) := of_decide_eq_true (by first | (with_reducible assumption) | assumption); obtain ⟨ad583, e583, hx583_0⟩ := Kd.at_string (Kd.R_reads' HO582.out).2.2 (ji3) p583 q583; cases e583; replace p583 := eq_true p583; replace q583 := eq_true q583) | ((with_reducible refine gate_callee (f := 33) rfl ?_); refine goesL_ (some 29) rfl rfl Try.func33 (by kernel_rfl) rfl #[.int .i64 a1] rfl (by (try simp only [List.map_toArray, List.map_cons, List.map_nil]); first | done | rfl | (simp only [List.length_drop, List.length_take]; rfl)) ?_; (with_reducible refine (value_Of.calls a1 t584 t585 t586 _ A7.out).mono ?_); rintro e w15 ⟨rfl, hb⟩; refine ⟨_, rfl, ?_⟩; have n0_ := Aside0.mk (Kd.R_below (by (with_reducible repeat (first | apply Kd.R_alloc | apply Kd.R_drewN | apply Kd.R_drew)); exact HO582.out) hb); have n1_ := Aside0.mk (below_step (by repeat (first | (with_reducible first | exact HB.out | apply below_alloc | apply pw_below_drewN | apply below_drew1) | exact HB.out)) hb); clear HO582; clear HB; have HO582 := n0_; have HB := n1_; clear n0_ n1_; (try clear hb); (try clear hb2); (try clear hk); (try clear hi)) | ((with_reducible refine gate_callee (f := 38) rfl ?_); refine goesL_ (some 30) rfl rfl Try.func38 (by kernel_rfl) rfl #[.string ((⟨#[105]⟩ : ByteArray) ++ (rdOf ByteArray.empty y580 (ji3))), .agg #[.int .u8 t584, .int .i64 t585, .string t586]] rfl (by (try simp only [List.map_toArray, List.map_cons, List.map_nil]); first | done | (simp only [hji3]; rfl) | rfl | (simp only [List.length_drop, List.length_take]; rfl)) ?_; (with_reducible refine (value_One.calls k ((⟨#[105]⟩ : ByteArray) ++ (rdOf ByteArray.empty y580 (ji3))) t584 t585 t586 t587 t588 t589 t590 _ A8.out).mono ?_); rintro e w16 ⟨rfl, hb⟩; refine ⟨_, rfl, ?_⟩; have n0_ := Aside0.mk (Kd.R_below (by (with_reducible repeat (first | apply Kd.R_alloc | apply Kd.R_drewN | apply Kd.R_drew)); exact HO582.out) hb); have n1_ := Aside0.mk (below_step (by repeat (first | (with_reducible first | exact HB.out | apply below_alloc | apply pw_below_drewN | apply below_drew1) | exact HB.out)) hb); clear HO582; clear HB; have HO582 := n0_; have HB := n1_; clear n0_ n1_; (try clear hb); (try clear hb2); (try clear hk); (try clear hi)) | ((with_reducible refine gate_dst (N := 7) rfl ?_); refine box_event ?hg (N := 7) ?hd (cs := #[.int .u8 0, .int .i64 0, .string (⟨#[]⟩ : ByteArray)]) (t := 26) ?hr ?_; (case hd => rfl); (case hg => rfl); (case hr => first | (go_simp; done) | (go_simp; rfl)); intro gb591 hg w17 hbox hb; have n0_ := Aside0.mk (Kd.R_below (by (with_reducible repeat (first | apply Kd.R_alloc | apply Kd.R_drewN | apply Kd.R_drew)); exact HO582.out) hb); have n1_ := Aside0.mk (below_step (by repeat (first | (with_reducible first | exact HB.out | apply below_alloc | apply pw_below_drewN | apply below_drew1) | exact HB.out)) hb); have n2_ := Aside0.mk (hbox); have n3_ := Aside0.mk ((by rw [hg]; exact (below_size (by repeat (first | (with_reducible first | exact HB.out | apply below_alloc | apply pw_below_drewN | apply below_drew1) | exact HB.out))) : w.heap.size ≤ gb591)); have n4_ := Aside0.mk ((by rw [hg]; exact (below_size (by repeat (first | (with_reducible first | exact HB.out | apply below_alloc | apply pw_below_drewN | apply below_drew1) | exact HB.out))) : w.heap.size ≤ gb591)); clear HO582; clear HB; have HO582 := n0_; have HB := n1_; have BK591 := n2_; have GW591 := n3_; have GE591 := n4_; clear n0_ n1_ n2_ n3_ n4_; clear hb hbox hg; have hcz18_0 : w17.cell? ⟨gb591, 0, none⟩ = some (.int .u8 0) := (blk_cell BK591.out 0).trans rfl; have hcz18_1 : w17.cell? ⟨gb591, 1, none⟩ = some (.int .i64 0) := (blk_cell BK591.out 1).trans rfl; have hcz18_2 : w17.cell? ⟨gb591, 2, none⟩ = some (.string (⟨#[]⟩ : ByteArray)) := (blk_cell BK591.out 2).trans rfl; have hfz18_0 := blk_frozen BK591.out 0; have hfz18_1 := blk_frozen BK591.out 1; have hfz18_2 := blk_frozen BK591.out 2) | ((with_reducible refine gate_callee (f := 33) rfl ?_); refine goesL_ (some 37) rfl rfl Try.func33 (by kernel_rfl) rfl #[.int .i64 a1] rfl (by (try simp only [List.map_toArray, List.map_cons, List.map_nil]); first | done | rfl | (simp only [List.length_drop, List.length_take]; rfl)) ?_; (with_reducible refine (value_Of.calls a1 t592 t593 t594 _ A9.out).mono ?_); rintro e w19 ⟨rfl, hb⟩; refine ⟨_, rfl, ?_⟩; have n0_ := Aside0.mk (Kd.R_below (by (with_reducible repeat (first | apply Kd.R_alloc | apply Kd.R_drewN | apply Kd.R_drew)); exact (Kd.R_mono (Kd.R_far (p := ⟨gb591, 2, none⟩) (Kd.R_far (p := ⟨gb591, 1, none⟩) (Kd.R_far (p := ⟨gb591, 0, none⟩) (Kd.R_types HO582.out BK591.out (by decide)) (fun _ hk => hk.2) (.int .u8 t587)) (fun _ hk => hk.2) (.int .i64 t588)) (fun _ hk => hk.2) (.string t589)) (fun _ h_ => h_.1))) hb); have n1_ := Aside0.mk (blk_below (g := gb591) (o := .cells #[.int .u8 t587, .int .i64 t588, .string t589] 26 (0, 0)) (by (with_reducible repeat (first | refine blk_drewN ?_ _ | refine blk_drew ?_ | refine blk_alloc ?_ _)); refine blk_put (cs := #[.int .u8 t587, .int .i64 t588, .string (⟨#[]⟩ : ByteArray)]) ?_ 2 _ rfl; (with_reducible repeat (first | refine blk_drewN ?_ _ | refine blk_drew ?_ | refine blk_alloc ?_ _)); refine blk_put (cs := #[.int .u8 t587, .int .i64 0, .string (⟨#[]⟩ : ByteArray)]) ?_ 1 _ rfl; (with_reducible repeat (first | refine blk_drewN ?_ _ | refine blk_drew ?_ | refine blk_alloc ?_ _)); refine blk_put (cs := #[.int .u8 0, .int .i64 0, .string (⟨#[]⟩ : ByteArray)]) ?_ 0 _ rfl; (with_reducible repeat (first | refine blk_drewN ?_ _ | refine blk_drew ?_ | refine blk_alloc ?_ _)); exact BK591.out) hb); have n2_ := Aside0.mk (below_step (by repeat (first | (with_reducible first | exact HB.out | apply below_alloc | apply pw_below_drewN | apply below_drew1 | refine below_set ?_ GE591.out) | exact HB.out)) hb); clear HO582; clear BK591; clear HB; have HO582 := n0_; have BK591 := n1_; have HB := n2_; clear n0_ n1_ n2_; (try clear hb); (try clear hb2); (try clear hk); (try clear hi)) | ((with_reducible refine gate_callee (f := 38) rfl ?_); refine goesL_ (some 38) rfl rfl Try.func38 (by kernel_rfl) rfl #[.string ((⟨#[117]⟩ : ByteArray) ++ (rdOf ByteArray.empty y580 (ji3))), .agg #[.int .u8 t592, .int .i64 t593, .string t594]] rfl (by (try simp only [List.map_toArray, List.map_cons, List.map_nil]); first | done | (simp only [hji3]; rfl) | rfl | (simp only [List.length_drop, List.length_take]; rfl)) ?_; (with_reducible refine (value_One.calls k ((⟨#[117]⟩ : ByteArray) ++ (rdOf ByteArray.empty y580 (ji3))) t592 t593 t594 t595 t596 t597 t598 _ A10.out).mono ?_); rintro e w20 ⟨rfl, hb⟩; refine ⟨_, rfl, ?_⟩; have n0_ := Aside0.mk (Kd.R_below (by (with_reducible repeat (first | apply Kd.R_alloc | apply Kd.R_drewN | apply Kd.R_drew)); exact HO582.out) hb); have n1_ := Aside0.mk (blk_below (g := gb591) (o := .cells #[.int .u8 t587, .int .i64 t588, .string t589] 26 (0, 0)) (by (with_reducible repeat (first | refine blk_drewN ?_ _ | refine blk_drew ?_ | refine blk_alloc ?_ _)); exact BK591.out) hb); have n2_ := Aside0.mk (below_step (by repeat (first | (with_reducible first | exact HB.out | apply below_alloc | apply pw_below_drewN | apply below_drew1 | refine below_set ?_ GE591.out) | exact HB.out)) hb); clear HO582; clear BK591; clear HB; have HO582 := n0_; have BK591 := n1_; have HB := n2_; clear n0_ n1_ n2_; (try clear hb); (try clear hb2); (try clear hk); (try clear hi)) | ((with_reducible refine gate_dst (N := 9) rfl ?_); refine box_event ?hg (N := 9) ?hd (cs := #[.int .u8 0, .int .i64 0, .string (⟨#[]⟩ : ByteArray)]) (t := 26) ?hr ?_; (case hd => rfl); (case hg => rfl); (case hr => first | (go_simp; done) | (go_simp; rfl)); intro gb599 hg w21 hbox hb; have n0_ := Aside0.mk (Kd.R_below (by (with_reducible repeat (first | apply Kd.R_alloc | apply Kd.R_drewN | apply Kd.R_drew)); exact HO582.out) hb); have n1_ := Aside0.mk (blk_below (g := gb591) (o := .cells #[.int .u8 t587, .int .i64 t588, .string t589] 26 (0, 0)) (by (with_reducible repeat (first | refine blk_drewN ?_ _ | refine blk_drew ?_ | refine blk_alloc ?_ _)); exact BK591.out) hb); have n2_ := Aside0.mk (below_step (by repeat (first | (with_reducible first | exact HB.out | apply below_alloc | apply pw_below_drewN | apply below_drew1 | refine below_set ?_ GE591.out) | exact HB.out)) hb); have n3_ := Aside0.mk (hbox); have n4_ := Aside0.mk ((by rw [hg]; exact (below_size (by repeat (first | (with_reducible first | exact HB.out | apply below_alloc | apply pw_below_drewN | apply below_drew1 | refine below_set ?_ GE591.out) | exact HB.out))) : w.heap.size ≤ gb599)); have n5_ := Aside0.mk ((by rw [hg]; exact (below_size (by repeat (first | (with_reducible first | exact HB.out | apply below_alloc | apply pw_below_drewN | apply below_drew1 | refine below_set ?_ GE591.out) | exact HB.out))) : w.heap.size ≤ gb599)); have n6_ := Aside0.mk ((by rw [hg]; exact Nat.ne_of_lt (blk_lt (g := gb591) (o := .cells #[.int .u8 t587, .int .i64 t588, .string t589] 26 (0, 0)) (by (with_reducible repeat (first | refine blk_drewN ?_ _ | refine blk_drew ?_ | refine blk_alloc ?_ _)); exact BK591.out)) : gb591 ≠ gb599)); have n7_ := Aside0.mk ((by rw [hg]; exact Nat.ne_of_gt (blk_lt (g := gb591) (o := .cells #[.int .u8 t587, .int .i64 t588, .string t589] 26 (0, 0)) (by (with_reducible repeat (first | refine blk_drewN ?_ _ | refine blk_drew ?_ | refine blk_alloc ?_ _)); exact BK591.out)) : gb599 ≠ gb591)); clear HO582; clear BK591; clear HB; have HO582 := n0_; have BK591 := n1_; have HB := n2_; have BK599 := n3_; have GW599 := n4_; have GE599 := n5_; have NB591_599 := n6_; have NB599_591 := n7_; clear n0_ n1_ n2_ n3_ n4_ n5_ n6_ n7_; clear hb hbox hg; have hnb22 := NB599_591.out; have hnc22 := NB591_599.out; have hcz23_0 : w21.cell? ⟨gb599, 0, none⟩ = some (.int .u8 0) := (blk_cell BK599.out 0).trans rfl; have hcz23_1 : w21.cell? ⟨gb599, 1, none⟩ = some (.int .i64 0) := (blk_cell BK599.out 1).trans rfl; have hcz23_2 : w21.cell? ⟨gb599, 2, none⟩ = some (.string (⟨#[]⟩ : ByteArray)) := (blk_cell BK599.out 2).trans rfl; have hfz23_0 := blk_frozen BK599.out 0; have hfz23_1 := blk_frozen BK599.out 1; have hfz23_2 := blk_frozen BK599.out 2))
        (try simp only [Act.put, List.setIfInBounds_toArray, List.set_cons_zero, List.set_cons_succ])
        go_cut [46] (fun v46 wc => ∃ (kq : Nat) (x46_10 : Bool), v46 = .bool x46_10 ∧ Aside0 (sacristanlaw01_ValueNarrow.j0 kq (rdOf ByteArray.empty y580 (ji3)) x46_10 t587 t588 t589 t595 t596 t597 = some r) ∧ Aside0 (kq ≤ k) ∧ Aside0 (wc.heap[gb591]? = some (.cells #[.int .u8 t587, .int .i64 t588, .string t589] 26 (0, 0))) ∧ Aside0 (wc.heap[gb599]? = some (.cells #[.int .u8 t595, .int .i64 t596, .string t597] 26 (0, 0))) ∧ Aside0 (Below w.heap.size w wc))
        case first =>
          have H := HC11.out
          clear HC11
          by_cases c24 : t590 = 0
          · rw [if_pos c24] at H
            have c24b0 : (t590 == 0) = true := beq_iff_eq.mpr c24
            have c24b1 : (t590 != 0) = false := bne_eq_false_iff_eq.mpr c24
            clear c24
            (first | rw [c24b0] | (simp only [i64_w, i32_w]; rw [c24b0]) | skip)
            have H' := Aside0.mk H
            clear H
            go_wp2
            go_meet
            case rel => exact ⟨_, ((t598 != 0)), (by first | rfl | (simp; done) | (simp [*]; done)), H', ⟨by first | omega | exact Nat.le_refl _⟩, ⟨by (with_reducible repeat (first | refine blk_drewN ?_ _ | refine blk_drew ?_ | refine blk_alloc ?_ _)); refine blk_far ?_ NB591_599.out _; (with_reducible repeat (first | refine blk_drewN ?_ _ | refine blk_drew ?_ | refine blk_alloc ?_ _)); refine blk_far ?_ NB591_599.out _; (with_reducible repeat (first | refine blk_drewN ?_ _ | refine blk_drew ?_ | refine blk_alloc ?_ _)); refine blk_far ?_ NB591_599.out _; (with_reducible repeat (first | refine blk_drewN ?_ _ | refine blk_drew ?_ | refine blk_alloc ?_ _)); exact BK591.out⟩, ⟨by (with_reducible repeat (first | refine blk_drewN ?_ _ | refine blk_drew ?_ | refine blk_alloc ?_ _)); refine blk_put (cs := #[.int .u8 t595, .int .i64 t596, .string (⟨#[]⟩ : ByteArray)]) ?_ 2 _ rfl; (with_reducible repeat (first | refine blk_drewN ?_ _ | refine blk_drew ?_ | refine blk_alloc ?_ _)); refine blk_put (cs := #[.int .u8 t595, .int .i64 0, .string (⟨#[]⟩ : ByteArray)]) ?_ 1 _ rfl; (with_reducible repeat (first | refine blk_drewN ?_ _ | refine blk_drew ?_ | refine blk_alloc ?_ _)); refine blk_put (cs := #[.int .u8 0, .int .i64 0, .string (⟨#[]⟩ : ByteArray)]) ?_ 0 _ rfl; (with_reducible repeat (first | refine blk_drewN ?_ _ | refine blk_drew ?_ | refine blk_alloc ?_ _)); exact BK599.out⟩, ⟨by repeat (first | (with_reducible first | exact HB.out | apply below_alloc | apply pw_below_drewN | apply below_drew1 | refine below_set ?_ GE591.out | refine below_set ?_ GE599.out) | exact HB.out)⟩⟩
          · rw [if_neg c24] at H
            have c24b0 : (t590 == 0) = false := beq_eq_false_iff_ne.mpr c24
            have c24b1 : (t590 != 0) = true := bne_iff_ne.mpr c24
            (first | rw [c24b0] | (simp only [i64_w, i32_w]; rw [c24b0]) | skip)
            have H' := Aside0.mk H
            clear H
            go_wp2
            go_meet
            case rel => exact ⟨_, (true), (by first | rfl | (simp; done) | (simp [*]; done)), H', ⟨by first | omega | exact Nat.le_refl _⟩, ⟨by (with_reducible repeat (first | refine blk_drewN ?_ _ | refine blk_drew ?_ | refine blk_alloc ?_ _)); refine blk_far ?_ NB591_599.out _; (with_reducible repeat (first | refine blk_drewN ?_ _ | refine blk_drew ?_ | refine blk_alloc ?_ _)); refine blk_far ?_ NB591_599.out _; (with_reducible repeat (first | refine blk_drewN ?_ _ | refine blk_drew ?_ | refine blk_alloc ?_ _)); refine blk_far ?_ NB591_599.out _; (with_reducible repeat (first | refine blk_drewN ?_ _ | refine blk_drew ?_ | refine blk_alloc ?_ _)); exact BK591.out⟩, ⟨by (with_reducible repeat (first | refine blk_drewN ?_ _ | refine blk_drew ?_ | refine blk_alloc ?_ _)); refine blk_put (cs := #[.int .u8 t595, .int .i64 t596, .string (⟨#[]⟩ : ByteArray)]) ?_ 2 _ rfl; (with_reducible repeat (first | refine blk_drewN ?_ _ | refine blk_drew ?_ | refine blk_alloc ?_ _)); refine blk_put (cs := #[.int .u8 t595, .int .i64 0, .string (⟨#[]⟩ : ByteArray)]) ?_ 1 _ rfl; (with_reducible repeat (first | refine blk_drewN ?_ _ | refine blk_drew ?_ | refine blk_alloc ?_ _)); refine blk_put (cs := #[.int .u8 0, .int .i64 0, .string (⟨#[]⟩ : ByteArray)]) ?_ 0 _ rfl; (with_reducible repeat (first | refine blk_drewN ?_ _ | refine blk_drew ?_ | refine blk_alloc ?_ _)); exact BK599.out⟩, ⟨by repeat (first | (with_reducible first | exact HB.out | apply below_alloc | apply pw_below_drewN | apply below_drew1 | refine below_set ?_ GE591.out | refine below_set ?_ GE599.out) | exact HB.out)⟩⟩
        case rest =>
          clear HC11
          try clear c1
          try clear c2
          try clear p2
          try clear c3
          try clear c4
          try clear c4b0
          try clear c5
          try clear c5b0
          try clear p5
          try clear q5
          try clear hx5
          try clear c6
          try clear c6b0
          try clear c6b1
          try clear c6b2
          try clear c12
          try clear c22
          try clear c24
          try clear c24b0
          try clear c24b1
          try clear hcz18_0
          try clear hcz18_1
          try clear hcz18_2
          try clear hcz23_0
          try clear hcz23_1
          try clear hcz23_2
          try clear hfz18_0
          try clear hfz18_1
          try clear hfz18_2
          try clear hfz23_0
          try clear hfz23_1
          try clear hfz23_2
          try clear hx583_0
          try clear p583
          try clear q583
          obtain ⟨kq, x46_10, rfl, HA, HJ10, BK591, BK599, HB⟩ := hcut
          cases kq with
          | zero => exact absurd HA.out (by simp [sacristanlaw01_ValueNarrow.j0])
          | succ kj10 =>
            have H := HA.out
            clear HA
            simp only [sacristanlaw01_ValueNarrow.j0] at H
            by_cases c25 : x46_10 = true
            · subst c25
              have H1 : (some false) = some r := by rw [if_pos rfl] at H; exact H
              clear H
              have H := H1
              clear H1
              obtain rfl := Option.some.inj H
              go_wp2
              go_ret
              exact ⟨by first | rfl | (simp [errW_none, errW_some] <;> rfl) | (simp only [← hji3]; first | rfl | (simp [errW_none, errW_some] <;> rfl)) | (simp [*, errW_none, errW_some] <;> rfl), by repeat (first | (with_reducible first | exact HB.out | apply below_alloc | apply pw_below_drewN | apply below_drew1 | refine below_set ?_ GE591.out | refine below_set ?_ GE599.out) | exact HB.out)⟩
            · replace c25 := Bool.eq_false_iff.mpr c25
              subst c25
              have H1 : (if 1 + (rdOf ByteArray.empty y580 (ji3)).size ≤ 9223372036854775807 then ((value_One.f kj10 ((⟨#[105]⟩ : ByteArray) ++ (rdOf ByteArray.empty y580 (ji3))) t587 t588 t589).bind fun bt600 => ((value_One.f kj10 ((⟨#[117]⟩ : ByteArray) ++ (rdOf ByteArray.empty y580 (ji3))) t595 t596 t597).bind fun bt605 => ((value_One.f kj10 ((⟨#[117]⟩ : ByteArray) ++ (rdOf ByteArray.empty y580 (ji3))) t587 t588 t589).bind fun bt610 => ((value_One.f kj10 ((⟨#[105]⟩ : ByteArray) ++ (rdOf ByteArray.empty y580 (ji3))) t595 t596 t597).bind fun bt615 => (if (bt600.1 == t587 && (bt600.2.1 == t588 && (bt600.2.2.1.toList == t589.toList))) = true then (if (bt605.1 == t595 && (bt605.2.1 == t596 && (bt605.2.2.1.toList == t597.toList))) = true then (if (bt610.1 == t595 && (bt610.2.1 == t596 && (bt610.2.2.1.toList == t597.toList))) = true then (if (bt615.1 == t587 && (bt615.2.1 == t588 && (bt615.2.2.1.toList == t589.toList))) = true then (if t596 ≥ 0 then ((sacristanlaw01_awake.f kj10).bind fun t620 => (sacristanlaw01_ValueNarrow.j1 kj10 t620)) else (sacristanlaw01_ValueNarrow.j1 kj10 false)) else (sacristanlaw01_ValueNarrow.j1 kj10 false)) else (sacristanlaw01_ValueNarrow.j1 kj10 false)) else (sacristanlaw01_ValueNarrow.j1 kj10 false)) else (sacristanlaw01_ValueNarrow.j1 kj10 false)))))) else (none)) = some r := by rw [if_neg (show ¬ (false = true) by decide)] at H; exact H
              clear H
              have H := H1
              clear H1
              by_cases c26 : 1 + (rdOf ByteArray.empty y580 (ji3)).size ≤ 9223372036854775807
              · rw [if_pos c26] at H
                have c26b0 := eq_true c26
                have c26b1 : decide (1 + (rdOf ByteArray.empty y580 (ji3)).size ≤ 9223372036854775807) = true := decide_eq_true c26
                try have c26b2 : (9223372036854775807 < 1 + (rdOf ByteArray.empty y580 (ji3)).size) = False := eq_false (Nat.not_lt.2 c26)
                replace H := Option.bind_eq_some_iff.mp H
                obtain ⟨⟨t600, t601, t602, t603⟩, A270, H⟩ := H
                (try dsimp only at H)
                have A27 := Aside0.mk A270
                clear A270
                replace H := Option.bind_eq_some_iff.mp H
                obtain ⟨⟨t605, t606, t607, t608⟩, A280, H⟩ := H
                (try dsimp only at H)
                have A28 := Aside0.mk A280
                clear A280
                replace H := Option.bind_eq_some_iff.mp H
                obtain ⟨⟨t610, t611, t612, t613⟩, A290, H⟩ := H
                (try dsimp only at H)
                have A29 := Aside0.mk A290
                clear A290
                replace H := Option.bind_eq_some_iff.mp H
                obtain ⟨⟨t615, t616, t617, t618⟩, A300, H⟩ := H
                (try dsimp only at H)
                have A30 := Aside0.mk A300
                clear A300
                have HC31 := Aside0.mk H
                clear H
                have hnb32 := NB591_599.out
                have hnc32 := NB599_591.out
                have hcz33_0 : wc.cell? ⟨gb591, 0, none⟩ = some (.int .u8 t587) := (blk_cell BK591.out 0).trans rfl
                have hcz33_1 : wc.cell? ⟨gb591, 1, none⟩ = some (.int .i64 t588) := (blk_cell BK591.out 1).trans rfl
                have hcz33_2 : wc.cell? ⟨gb591, 2, none⟩ = some (.string t589) := (blk_cell BK591.out 2).trans rfl
                have hfz33_0 := blk_frozen BK591.out 0
                have hfz33_1 := blk_frozen BK591.out 1
                have hfz33_2 := blk_frozen BK591.out 2
                go_upto_region 11 with (first | ((with_reducible refine gate_callee (f := 38) rfl ?_); refine goesL_ (some 51) rfl rfl Try.func38 (by kernel_rfl) rfl #[.string ((⟨#[105]⟩ : ByteArray) ++ (rdOf ByteArray.empty y580 (ji3))), .agg #[.int .u8 t587, .int .i64 t588, .string t589]] rfl (by (try simp only [List.map_toArray, List.map_cons, List.map_nil]); first | done | (simp only [hji3]; rfl) | rfl | (simp only [List.length_drop, List.length_take]; rfl)) ?_; (with_reducible refine (value_One.calls kj10 ((⟨#[105]⟩ : ByteArray) ++ (rdOf ByteArray.empty y580 (ji3))) t587 t588 t589 t600 t601 t602 t603 _ A27.out).mono ?_); rintro e w34 ⟨rfl, hb⟩; refine ⟨_, rfl, ?_⟩; have n0_ := Aside0.mk (blk_below (g := gb591) (o := .cells #[.int .u8 t587, .int .i64 t588, .string t589] 26 (0, 0)) (by (with_reducible repeat (first | refine blk_drewN ?_ _ | refine blk_drew ?_ | refine blk_alloc ?_ _)); exact BK591.out) hb); have n1_ := Aside0.mk (blk_below (g := gb599) (o := .cells #[.int .u8 t595, .int .i64 t596, .string t597] 26 (0, 0)) (by (with_reducible repeat (first | refine blk_drewN ?_ _ | refine blk_drew ?_ | refine blk_alloc ?_ _)); exact BK599.out) hb); have n2_ := Aside0.mk (below_step (by repeat (first | (with_reducible first | exact HB.out | apply below_alloc | apply pw_below_drewN | apply below_drew1 | refine below_set ?_ GE591.out | refine below_set ?_ GE599.out) | exact HB.out)) hb); clear BK591; clear BK599; clear HB; have BK591 := n0_; have BK599 := n1_; have HB := n2_; clear n0_ n1_ n2_; (try clear hb); (try clear hb2); (try clear hk); (try clear hi)) | ((with_reducible refine gate_dst (N := 11) rfl ?_); refine box_event ?hg (N := 11) ?hd (cs := #[.int .u8 0, .int .i64 0, .string (⟨#[]⟩ : ByteArray)]) (t := 26) ?hr ?_; (case hd => rfl); (case hg => rfl); (case hr => first | (go_simp; done) | (go_simp; rfl)); intro gb604 hg w35 hbox hb; have n0_ := Aside0.mk (blk_below (g := gb591) (o := .cells #[.int .u8 t587, .int .i64 t588, .string t589] 26 (0, 0)) (by (with_reducible repeat (first | refine blk_drewN ?_ _ | refine blk_drew ?_ | refine blk_alloc ?_ _)); exact BK591.out) hb); have n1_ := Aside0.mk (blk_below (g := gb599) (o := .cells #[.int .u8 t595, .int .i64 t596, .string t597] 26 (0, 0)) (by (with_reducible repeat (first | refine blk_drewN ?_ _ | refine blk_drew ?_ | refine blk_alloc ?_ _)); exact BK599.out) hb); have n2_ := Aside0.mk (below_step (by repeat (first | (with_reducible first | exact HB.out | apply below_alloc | apply pw_below_drewN | apply below_drew1 | refine below_set ?_ GE591.out | refine below_set ?_ GE599.out) | exact HB.out)) hb); have n3_ := Aside0.mk (hbox); have n4_ := Aside0.mk ((by rw [hg]; exact (below_size (by repeat (first | (with_reducible first | exact HB.out | apply below_alloc | apply pw_below_drewN | apply below_drew1 | refine below_set ?_ GE591.out | refine below_set ?_ GE599.out) | exact HB.out))) : w.heap.size ≤ gb604)); have n5_ := Aside0.mk ((by rw [hg]; exact (below_size (by repeat (first | (with_reducible first | exact HB.out | apply below_alloc | apply pw_below_drewN | apply below_drew1 | refine below_set ?_ GE591.out | refine below_set ?_ GE599.out) | exact HB.out))) : w.heap.size ≤ gb604)); have n6_ := Aside0.mk ((by rw [hg]; exact Nat.ne_of_lt (blk_lt (g := gb591) (o := .cells #[.int .u8 t587, .int .i64 t588, .string t589] 26 (0, 0)) (by (with_reducible repeat (first | refine blk_drewN ?_ _ | refine blk_drew ?_ | refine blk_alloc ?_ _)); exact BK591.out)) : gb591 ≠ gb604)); have n7_ := Aside0.mk ((by rw [hg]; exact Nat.ne_of_gt (blk_lt (g := gb591) (o := .cells #[.int .u8 t587, .int .i64 t588, .string t589] 26 (0, 0)) (by (with_reducible repeat (first | refine blk_drewN ?_ _ | refine blk_drew ?_ | refine blk_alloc ?_ _)); exact BK591.out)) : gb604 ≠ gb591)); have n8_ := Aside0.mk ((by rw [hg]; exact Nat.ne_of_lt (blk_lt (g := gb599) (o := .cells #[.int .u8 t595, .int .i64 t596, .string t597] 26 (0, 0)) (by (with_reducible repeat (first | refine blk_drewN ?_ _ | refine blk_drew ?_ | refine blk_alloc ?_ _)); exact BK599.out)) : gb599 ≠ gb604)); have n9_ := Aside0.mk ((by rw [hg]; exact Nat.ne_of_gt (blk_lt (g := gb599) (o := .cells #[.int .u8 t595, .int .i64 t596, .string t597] 26 (0, 0)) (by (with_reducible repeat (first | refine blk_drewN ?_ _ | refine blk_drew ?_ | refine blk_alloc ?_ _)); exact BK599.out)) : gb604 ≠ gb599)); clear BK591; clear BK599; clear HB; have BK591 := n0_; have BK599 := n1_; have HB := n2_; have BK604 := n3_; have GW604 := n4_; have GE604 := n5_; have NB591_604 := n6_; have NB604_591 := n7_; have NB599_604 := n8_; have NB604_599 := n9_; clear n0_ n1_ n2_ n3_ n4_ n5_ n6_ n7_ n8_ n9_; clear hb hbox hg; have hnb36 := NB604_591.out; have hnc36 := NB591_604.out; have hnb37 := NB604_599.out; have hnc37 := NB599_604.out; have hcz38_0 : w35.cell? ⟨gb604, 0, none⟩ = some (.int .u8 0) := (blk_cell BK604.out 0).trans rfl; have hcz38_1 : w35.cell? ⟨gb604, 1, none⟩ = some (.int .i64 0) := (blk_cell BK604.out 1).trans rfl; have hcz38_2 : w35.cell? ⟨gb604, 2, none⟩ = some (.string (⟨#[]⟩ : ByteArray)) := (blk_cell BK604.out 2).trans rfl; have hfz38_0 := blk_frozen BK604.out 0; have hfz38_1 := blk_frozen BK604.out 1; have hfz38_2 := blk_frozen BK604.out 2; have hcz39_0 : w35.cell? ⟨gb599, 0, none⟩ = some (.int .u8 t595) := (blk_cell BK599.out 0).trans rfl; have hcz39_1 : w35.cell? ⟨gb599, 1, none⟩ = some (.int .i64 t596) := (blk_cell BK599.out 1).trans rfl; have hcz39_2 : w35.cell? ⟨gb599, 2, none⟩ = some (.string t597) := (blk_cell BK599.out 2).trans rfl; have hfz39_0 := blk_frozen BK599.out 0; have hfz39_1 := blk_frozen BK599.out 1; have hfz39_2 := blk_frozen BK599.out 2) | ((with_reducible refine gate_callee (f := 38) rfl ?_); refine goesL_ (some 58) rfl rfl Try.func38 (by kernel_rfl) rfl #[.string ((⟨#[117]⟩ : ByteArray) ++ (rdOf ByteArray.empty y580 (ji3))), .agg #[.int .u8 t595, .int .i64 t596, .string t597]] rfl (by (try simp only [List.map_toArray, List.map_cons, List.map_nil]); first | done | (simp only [hji3]; rfl) | rfl | (simp only [List.length_drop, List.length_take]; rfl)) ?_; (with_reducible refine (value_One.calls kj10 ((⟨#[117]⟩ : ByteArray) ++ (rdOf ByteArray.empty y580 (ji3))) t595 t596 t597 t605 t606 t607 t608 _ A28.out).mono ?_); rintro e w40 ⟨rfl, hb⟩; refine ⟨_, rfl, ?_⟩; have n0_ := Aside0.mk (blk_below (g := gb591) (o := .cells #[.int .u8 t587, .int .i64 t588, .string t589] 26 (0, 0)) (by (with_reducible repeat (first | refine blk_drewN ?_ _ | refine blk_drew ?_ | refine blk_alloc ?_ _)); refine blk_far ?_ NB591_604.out _; (with_reducible repeat (first | refine blk_drewN ?_ _ | refine blk_drew ?_ | refine blk_alloc ?_ _)); refine blk_far ?_ NB591_604.out _; (with_reducible repeat (first | refine blk_drewN ?_ _ | refine blk_drew ?_ | refine blk_alloc ?_ _)); refine blk_far ?_ NB591_604.out _; (with_reducible repeat (first | refine blk_drewN ?_ _ | refine blk_drew ?_ | refine blk_alloc ?_ _)); exact BK591.out) hb); have n1_ := Aside0.mk (blk_below (g := gb599) (o := .cells #[.int .u8 t595, .int .i64 t596, .string t597] 26 (0, 0)) (by (with_reducible repeat (first | refine blk_drewN ?_ _ | refine blk_drew ?_ | refine blk_alloc ?_ _)); refine blk_far ?_ NB599_604.out _; (with_reducible repeat (first | refine blk_drewN ?_ _ | refine blk_drew ?_ | refine blk_alloc ?_ _)); refine blk_far ?_ NB599_604.out _; (with_reducible repeat (first | refine blk_drewN ?_ _ | refine blk_drew ?_ | refine blk_alloc ?_ _)); refine blk_far ?_ NB599_604.out _; (with_reducible repeat (first | refine blk_drewN ?_ _ | refine blk_drew ?_ | refine blk_alloc ?_ _)); exact BK599.out) hb); have n2_ := Aside0.mk (blk_below (g := gb604) (o := .cells #[.int .u8 t600, .int .i64 t601, .string t602] 26 (0, 0)) (by (with_reducible repeat (first | refine blk_drewN ?_ _ | refine blk_drew ?_ | refine blk_alloc ?_ _)); refine blk_put (cs := #[.int .u8 t600, .int .i64 t601, .string (⟨#[]⟩ : ByteArray)]) ?_ 2 _ rfl; (with_reducible repeat (first | refine blk_drewN ?_ _ | refine blk_drew ?_ | refine blk_alloc ?_ _)); refine blk_put (cs := #[.int .u8 t600, .int .i64 0, .string (⟨#[]⟩ : ByteArray)]) ?_ 1 _ rfl; (with_reducible repeat (first | refine blk_drewN ?_ _ | refine blk_drew ?_ | refine blk_alloc ?_ _)); refine blk_put (cs := #[.int .u8 0, .int .i64 0, .string (⟨#[]⟩ : ByteArray)]) ?_ 0 _ rfl; (with_reducible repeat (first | refine blk_drewN ?_ _ | refine blk_drew ?_ | refine blk_alloc ?_ _)); exact BK604.out) hb); have n3_ := Aside0.mk (below_step (by repeat (first | (with_reducible first | exact HB.out | apply below_alloc | apply pw_below_drewN | apply below_drew1 | refine below_set ?_ GE591.out | refine below_set ?_ GE599.out | refine below_set ?_ GE604.out) | exact HB.out)) hb); clear BK591; clear BK599; clear BK604; clear HB; have BK591 := n0_; have BK599 := n1_; have BK604 := n2_; have HB := n3_; clear n0_ n1_ n2_ n3_; (try clear hb); (try clear hb2); (try clear hk); (try clear hi)) | ((with_reducible refine gate_dst (N := 13) rfl ?_); refine box_event ?hg (N := 13) ?hd (cs := #[.int .u8 0, .int .i64 0, .string (⟨#[]⟩ : ByteArray)]) (t := 26) ?hr ?_; (case hd => rfl); (case hg => rfl); (case hr => first | (go_simp; done) | (go_simp; rfl)); intro gb609 hg w41 hbox hb; have n0_ := Aside0.mk (blk_below (g := gb591) (o := .cells #[.int .u8 t587, .int .i64 t588, .string t589] 26 (0, 0)) (by (with_reducible repeat (first | refine blk_drewN ?_ _ | refine blk_drew ?_ | refine blk_alloc ?_ _)); exact BK591.out) hb); have n1_ := Aside0.mk (blk_below (g := gb599) (o := .cells #[.int .u8 t595, .int .i64 t596, .string t597] 26 (0, 0)) (by (with_reducible repeat (first | refine blk_drewN ?_ _ | refine blk_drew ?_ | refine blk_alloc ?_ _)); exact BK599.out) hb); have n2_ := Aside0.mk (blk_below (g := gb604) (o := .cells #[.int .u8 t600, .int .i64 t601, .string t602] 26 (0, 0)) (by (with_reducible repeat (first | refine blk_drewN ?_ _ | refine blk_drew ?_ | refine blk_alloc ?_ _)); exact BK604.out) hb); have n3_ := Aside0.mk (below_step (by repeat (first | (with_reducible first | exact HB.out | apply below_alloc | apply pw_below_drewN | apply below_drew1 | refine below_set ?_ GE591.out | refine below_set ?_ GE599.out | refine below_set ?_ GE604.out) | exact HB.out)) hb); have n4_ := Aside0.mk (hbox); have n5_ := Aside0.mk ((by rw [hg]; exact (below_size (by repeat (first | (with_reducible first | exact HB.out | apply below_alloc | apply pw_below_drewN | apply below_drew1 | refine below_set ?_ GE591.out | refine below_set ?_ GE599.out | refine below_set ?_ GE604.out) | exact HB.out))) : w.heap.size ≤ gb609)); have n6_ := Aside0.mk ((by rw [hg]; exact (below_size (by repeat (first | (with_reducible first | exact HB.out | apply below_alloc | apply pw_below_drewN | apply below_drew1 | refine below_set ?_ GE591.out | refine below_set ?_ GE599.out | refine below_set ?_ GE604.out) | exact HB.out))) : w.heap.size ≤ gb609)); have n7_ := Aside0.mk ((by rw [hg]; exact Nat.ne_of_lt (blk_lt (g := gb591) (o := .cells #[.int .u8 t587, .int .i64 t588, .string t589] 26 (0, 0)) (by (with_reducible repeat (first | refine blk_drewN ?_ _ | refine blk_drew ?_ | refine blk_alloc ?_ _)); exact BK591.out)) : gb591 ≠ gb609)); have n8_ := Aside0.mk ((by rw [hg]; exact Nat.ne_of_gt (blk_lt (g := gb591) (o := .cells #[.int .u8 t587, .int .i64 t588, .string t589] 26 (0, 0)) (by (with_reducible repeat (first | refine blk_drewN ?_ _ | refine blk_drew ?_ | refine blk_alloc ?_ _)); exact BK591.out)) : gb609 ≠ gb591)); have n9_ := Aside0.mk ((by rw [hg]; exact Nat.ne_of_lt (blk_lt (g := gb599) (o := .cells #[.int .u8 t595, .int .i64 t596, .string t597] 26 (0, 0)) (by (with_reducible repeat (first | refine blk_drewN ?_ _ | refine blk_drew ?_ | refine blk_alloc ?_ _)); exact BK599.out)) : gb599 ≠ gb609)); have n10_ := Aside0.mk ((by rw [hg]; exact Nat.ne_of_gt (blk_lt (g := gb599) (o := .cells #[.int .u8 t595, .int .i64 t596, .string t597] 26 (0, 0)) (by (with_reducible repeat (first | refine blk_drewN ?_ _ | refine blk_drew ?_ | refine blk_alloc ?_ _)); exact BK599.out)) : gb609 ≠ gb599)); have n11_ := Aside0.mk ((by rw [hg]; exact Nat.ne_of_lt (blk_lt (g := gb604) (o := .cells #[.int .u8 t600, .int .i64 t601, .string t602] 26 (0, 0)) (by (with_reducible repeat (first | refine blk_drewN ?_ _ | refine blk_drew ?_ | refine blk_alloc ?_ _)); exact BK604.out)) : gb604 ≠ gb609)); have n12_ := Aside0.mk ((by rw [hg]; exact Nat.ne_of_gt (blk_lt (g := gb604) (o := .cells #[.int .u8 t600, .int .i64 t601, .string t602] 26 (0, 0)) (by (with_reducible repeat (first | refine blk_drewN ?_ _ | refine blk_drew ?_ | refine blk_alloc ?_ _)); exact BK604.out)) : gb609 ≠ gb604)); clear BK591; clear BK599; clear BK604; clear HB; have BK591 := n0_; have BK599 := n1_; have BK604 := n2_; have HB := n3_; have BK609 := n4_; have GW609 := n5_; have GE609 := n6_; have NB591_609 := n7_; have NB609_591 := n8_; have NB599_609 := n9_; have NB609_599 := n10_; have NB604_609 := n11_; have NB609_604 := n12_; clear n0_ n1_ n2_ n3_ n4_ n5_ n6_ n7_ n8_ n9_ n10_ n11_ n12_; clear hb hbox hg; have hnb42 := NB609_591.out; have hnc42 := NB591_609.out; have hnb43 := NB609_599.out; have hnc43 := NB599_609.out; have hnb44 := NB609_604.out; have hnc44 := NB604_609.out; have hcz45_0 : w41.cell? ⟨gb609, 0, none⟩ = some (.int .u8 0) := (blk_cell BK609.out 0).trans rfl; have hcz45_1 : w41.cell? ⟨gb609, 1, none⟩ = some (.int .i64 0) := (blk_cell BK609.out 1).trans rfl; have hcz45_2 : w41.cell? ⟨gb609, 2, none⟩ = some (.string (⟨#[]⟩ : ByteArray)) := (blk_cell BK609.out 2).trans rfl; have hfz45_0 := blk_frozen BK609.out 0; have hfz45_1 := blk_frozen BK609.out 1; have hfz45_2 := blk_frozen BK609.out 2; have hcz46_0 : w41.cell? ⟨gb591, 0, none⟩ = some (.int .u8 t587) := (blk_cell BK591.out 0).trans rfl; have hcz46_1 : w41.cell? ⟨gb591, 1, none⟩ = some (.int .i64 t588) := (blk_cell BK591.out 1).trans rfl; have hcz46_2 : w41.cell? ⟨gb591, 2, none⟩ = some (.string t589) := (blk_cell BK591.out 2).trans rfl; have hfz46_0 := blk_frozen BK591.out 0; have hfz46_1 := blk_frozen BK591.out 1; have hfz46_2 := blk_frozen BK591.out 2) | ((with_reducible refine gate_callee (f := 38) rfl ?_); refine goesL_ (some 65) rfl rfl Try.func38 (by kernel_rfl) rfl #[.string ((⟨#[117]⟩ : ByteArray) ++ (rdOf ByteArray.empty y580 (ji3))), .agg #[.int .u8 t587, .int .i64 t588, .string t589]] rfl (by (try simp only [List.map_toArray, List.map_cons, List.map_nil]); first | done | (simp only [hji3]; rfl) | rfl | (simp only [List.length_drop, List.length_take]; rfl)) ?_; (with_reducible refine (value_One.calls kj10 ((⟨#[117]⟩ : ByteArray) ++ (rdOf ByteArray.empty y580 (ji3))) t587 t588 t589 t610 t611 t612 t613 _ A29.out).mono ?_); rintro e w47 ⟨rfl, hb⟩; refine ⟨_, rfl, ?_⟩; have n0_ := Aside0.mk (blk_below (g := gb591) (o := .cells #[.int .u8 t587, .int .i64 t588, .string t589] 26 (0, 0)) (by (with_reducible repeat (first | refine blk_drewN ?_ _ | refine blk_drew ?_ | refine blk_alloc ?_ _)); refine blk_far ?_ NB591_609.out _; (with_reducible repeat (first | refine blk_drewN ?_ _ | refine blk_drew ?_ | refine blk_alloc ?_ _)); refine blk_far ?_ NB591_609.out _; (with_reducible repeat (first | refine blk_drewN ?_ _ | refine blk_drew ?_ | refine blk_alloc ?_ _)); refine blk_far ?_ NB591_609.out _; (with_reducible repeat (first | refine blk_drewN ?_ _ | refine blk_drew ?_ | refine blk_alloc ?_ _)); exact BK591.out) hb); have n1_ := Aside0.mk (blk_below (g := gb599) (o := .cells #[.int .u8 t595, .int .i64 t596, .string t597] 26 (0, 0)) (by (with_reducible repeat (first | refine blk_drewN ?_ _ | refine blk_drew ?_ | refine blk_alloc ?_ _)); refine blk_far ?_ NB599_609.out _; (with_reducible repeat (first | refine blk_drewN ?_ _ | refine blk_drew ?_ | refine blk_alloc ?_ _)); refine blk_far ?_ NB599_609.out _; (with_reducible repeat (first | refine blk_drewN ?_ _ | refine blk_drew ?_ | refine blk_alloc ?_ _)); refine blk_far ?_ NB599_609.out _; (with_reducible repeat (first | refine blk_drewN ?_ _ | refine blk_drew ?_ | refine blk_alloc ?_ _)); exact BK599.out) hb); have n2_ := Aside0.mk (blk_below (g := gb604) (o := .cells #[.int .u8 t600, .int .i64 t601, .string t602] 26 (0, 0)) (by (with_reducible repeat (first | refine blk_drewN ?_ _ | refine blk_drew ?_ | refine blk_alloc ?_ _)); refine blk_far ?_ NB604_609.out _; (with_reducible repeat (first | refine blk_drewN ?_ _ | refine blk_drew ?_ | refine blk_alloc ?_ _)); refine blk_far ?_ NB604_609.out _; (with_reducible repeat (first | refine blk_drewN ?_ _ | refine blk_drew ?_ | refine blk_alloc ?_ _)); refine blk_far ?_ NB604_609.out _; (with_reducible repeat (first | refine blk_drewN ?_ _ | refine blk_drew ?_ | refine blk_alloc ?_ _)); exact BK604.out) hb); have n3_ := Aside0.mk (blk_below (g := gb609) (o := .cells #[.int .u8 t605, .int .i64 t606, .string t607] 26 (0, 0)) (by (with_reducible repeat (first | refine blk_drewN ?_ _ | refine blk_drew ?_ | refine blk_alloc ?_ _)); refine blk_put (cs := #[.int .u8 t605, .int .i64 t606, .string (⟨#[]⟩ : ByteArray)]) ?_ 2 _ rfl; (with_reducible repeat (first | refine blk_drewN ?_ _ | refine blk_drew ?_ | refine blk_alloc ?_ _)); refine blk_put (cs := #[.int .u8 t605, .int .i64 0, .string (⟨#[]⟩ : ByteArray)]) ?_ 1 _ rfl; (with_reducible repeat (first | refine blk_drewN ?_ _ | refine blk_drew ?_ | refine blk_alloc ?_ _)); refine blk_put (cs := #[.int .u8 0, .int .i64 0, .string (⟨#[]⟩ : ByteArray)]) ?_ 0 _ rfl; (with_reducible repeat (first | refine blk_drewN ?_ _ | refine blk_drew ?_ | refine blk_alloc ?_ _)); exact BK609.out) hb); have n4_ := Aside0.mk (below_step (by repeat (first | (with_reducible first | exact HB.out | apply below_alloc | apply pw_below_drewN | apply below_drew1 | refine below_set ?_ GE591.out | refine below_set ?_ GE599.out | refine below_set ?_ GE604.out | refine below_set ?_ GE609.out) | exact HB.out)) hb); clear BK591; clear BK599; clear BK604; clear BK609; clear HB; have BK591 := n0_; have BK599 := n1_; have BK604 := n2_; have BK609 := n3_; have HB := n4_; clear n0_ n1_ n2_ n3_ n4_; (try clear hb); (try clear hb2); (try clear hk); (try clear hi)) | ((with_reducible refine gate_dst (N := 15) rfl ?_); refine box_event ?hg (N := 15) ?hd (cs := #[.int .u8 0, .int .i64 0, .string (⟨#[]⟩ : ByteArray)]) (t := 26) ?hr ?_; (case hd => rfl); (case hg => rfl); (case hr => first | (go_simp; done) | (go_simp; rfl)); intro gb614 hg w48 hbox hb; have n0_ := Aside0.mk (blk_below (g := gb591) (o := .cells #[.int .u8 t587, .int .i64 t588, .string t589] 26 (0, 0)) (by (with_reducible repeat (first | refine blk_drewN ?_ _ | refine blk_drew ?_ | refine blk_alloc ?_ _)); exact BK591.out) hb); have n1_ := Aside0.mk (blk_below (g := gb599) (o := .cells #[.int .u8 t595, .int .i64 t596, .string t597] 26 (0, 0)) (by (with_reducible repeat (first | refine blk_drewN ?_ _ | refine blk_drew ?_ | refine blk_alloc ?_ _)); exact BK599.out) hb); have n2_ := Aside0.mk (blk_below (g := gb604) (o := .cells #[.int .u8 t600, .int .i64 t601, .string t602] 26 (0, 0)) (by (with_reducible repeat (first | refine blk_drewN ?_ _ | refine blk_drew ?_ | refine blk_alloc ?_ _)); exact BK604.out) hb); have n3_ := Aside0.mk (blk_below (g := gb609) (o := .cells #[.int .u8 t605, .int .i64 t606, .string t607] 26 (0, 0)) (by (with_reducible repeat (first | refine blk_drewN ?_ _ | refine blk_drew ?_ | refine blk_alloc ?_ _)); exact BK609.out) hb); have n4_ := Aside0.mk (below_step (by repeat (first | (with_reducible first | exact HB.out | apply below_alloc | apply pw_below_drewN | apply below_drew1 | refine below_set ?_ GE591.out | refine below_set ?_ GE599.out | refine below_set ?_ GE604.out | refine below_set ?_ GE609.out) | exact HB.out)) hb); have n5_ := Aside0.mk (hbox); have n6_ := Aside0.mk ((by rw [hg]; exact (below_size (by repeat (first | (with_reducible first | exact HB.out | apply below_alloc | apply pw_below_drewN | apply below_drew1 | refine below_set ?_ GE591.out | refine below_set ?_ GE599.out | refine below_set ?_ GE604.out | refine below_set ?_ GE609.out) | exact HB.out))) : w.heap.size ≤ gb614)); have n7_ := Aside0.mk ((by rw [hg]; exact (below_size (by repeat (first | (with_reducible first | exact HB.out | apply below_alloc | apply pw_below_drewN | apply below_drew1 | refine below_set ?_ GE591.out | refine below_set ?_ GE599.out | refine below_set ?_ GE604.out | refine below_set ?_ GE609.out) | exact HB.out))) : w.heap.size ≤ gb614)); have n8_ := Aside0.mk ((by rw [hg]; exact Nat.ne_of_lt (blk_lt (g := gb591) (o := .cells #[.int .u8 t587, .int .i64 t588, .string t589] 26 (0, 0)) (by (with_reducible repeat (first | refine blk_drewN ?_ _ | refine blk_drew ?_ | refine blk_alloc ?_ _)); exact BK591.out)) : gb591 ≠ gb614)); have n9_ := Aside0.mk ((by rw [hg]; exact Nat.ne_of_gt (blk_lt (g := gb591) (o := .cells #[.int .u8 t587, .int .i64 t588, .string t589] 26 (0, 0)) (by (with_reducible repeat (first | refine blk_drewN ?_ _ | refine blk_drew ?_ | refine blk_alloc ?_ _)); exact BK591.out)) : gb614 ≠ gb591)); have n10_ := Aside0.mk ((by rw [hg]; exact Nat.ne_of_lt (blk_lt (g := gb599) (o := .cells #[.int .u8 t595, .int .i64 t596, .string t597] 26 (0, 0)) (by (with_reducible repeat (first | refine blk_drewN ?_ _ | refine blk_drew ?_ | refine blk_alloc ?_ _)); exact BK599.out)) : gb599 ≠ gb614)); have n11_ := Aside0.mk ((by rw [hg]; exact Nat.ne_of_gt (blk_lt (g := gb599) (o := .cells #[.int .u8 t595, .int .i64 t596, .string t597] 26 (0, 0)) (by (with_reducible repeat (first | refine blk_drewN ?_ _ | refine blk_drew ?_ | refine blk_alloc ?_ _)); exact BK599.out)) : gb614 ≠ gb599)); have n12_ := Aside0.mk ((by rw [hg]; exact Nat.ne_of_lt (blk_lt (g := gb604) (o := .cells #[.int .u8 t600, .int .i64 t601, .string t602] 26 (0, 0)) (by (with_reducible repeat (first | refine blk_drewN ?_ _ | refine blk_drew ?_ | refine blk_alloc ?_ _)); exact BK604.out)) : gb604 ≠ gb614)); have n13_ := Aside0.mk ((by rw [hg]; exact Nat.ne_of_gt (blk_lt (g := gb604) (o := .cells #[.int .u8 t600, .int .i64 t601, .string t602] 26 (0, 0)) (by (with_reducible repeat (first | refine blk_drewN ?_ _ | refine blk_drew ?_ | refine blk_alloc ?_ _)); exact BK604.out)) : gb614 ≠ gb604)); have n14_ := Aside0.mk ((by rw [hg]; exact Nat.ne_of_lt (blk_lt (g := gb609) (o := .cells #[.int .u8 t605, .int .i64 t606, .string t607] 26 (0, 0)) (by (with_reducible repeat (first | refine blk_drewN ?_ _ | refine blk_drew ?_ | refine blk_alloc ?_ _)); exact BK609.out)) : gb609 ≠ gb614)); have n15_ := Aside0.mk ((by rw [hg]; exact Nat.ne_of_gt (blk_lt (g := gb609) (o := .cells #[.int .u8 t605, .int .i64 t606, .string t607] 26 (0, 0)) (by (with_reducible repeat (first | refine blk_drewN ?_ _ | refine blk_drew ?_ | refine blk_alloc ?_ _)); exact BK609.out)) : gb614 ≠ gb609)); clear BK591; clear BK599; clear BK604; clear BK609; clear HB; have BK591 := n0_; have BK599 := n1_; have BK604 := n2_; have BK609 := n3_; have HB := n4_; have BK614 := n5_; have GW614 := n6_; have GE614 := n7_; have NB591_614 := n8_; have NB614_591 := n9_; have NB599_614 := n10_; have NB614_599 := n11_; have NB604_614 := n12_; have NB614_604 := n13_; have NB609_614 := n14_; have NB614_609 := n15_; clear n0_ n1_ n2_ n3_ n4_ n5_ n6_ n7_ n8_ n9_ n10_ n11_ n12_ n13_ n14_ n15_; clear hb hbox hg; have hnb49 := NB614_591.out; have hnc49 := NB591_614.out; have hnb50 := NB614_599.out; have hnc50 := NB599_614.out; have hnb51 := NB614_604.out; have hnc51 := NB604_614.out; have hnb52 := NB614_609.out; have hnc52 := NB609_614.out; have hcz53_0 : w48.cell? ⟨gb614, 0, none⟩ = some (.int .u8 0) := (blk_cell BK614.out 0).trans rfl; have hcz53_1 : w48.cell? ⟨gb614, 1, none⟩ = some (.int .i64 0) := (blk_cell BK614.out 1).trans rfl; have hcz53_2 : w48.cell? ⟨gb614, 2, none⟩ = some (.string (⟨#[]⟩ : ByteArray)) := (blk_cell BK614.out 2).trans rfl; have hfz53_0 := blk_frozen BK614.out 0; have hfz53_1 := blk_frozen BK614.out 1; have hfz53_2 := blk_frozen BK614.out 2; have hcz54_0 : w48.cell? ⟨gb599, 0, none⟩ = some (.int .u8 t595) := (blk_cell BK599.out 0).trans rfl; have hcz54_1 : w48.cell? ⟨gb599, 1, none⟩ = some (.int .i64 t596) := (blk_cell BK599.out 1).trans rfl; have hcz54_2 : w48.cell? ⟨gb599, 2, none⟩ = some (.string t597) := (blk_cell BK599.out 2).trans rfl; have hfz54_0 := blk_frozen BK599.out 0; have hfz54_1 := blk_frozen BK599.out 1; have hfz54_2 := blk_frozen BK599.out 2) | ((with_reducible refine gate_callee (f := 38) rfl ?_); refine goesL_ (some 72) rfl rfl Try.func38 (by kernel_rfl) rfl #[.string ((⟨#[105]⟩ : ByteArray) ++ (rdOf ByteArray.empty y580 (ji3))), .agg #[.int .u8 t595, .int .i64 t596, .string t597]] rfl (by (try simp only [List.map_toArray, List.map_cons, List.map_nil]); first | done | (simp only [hji3]; rfl) | rfl | (simp only [List.length_drop, List.length_take]; rfl)) ?_; (with_reducible refine (value_One.calls kj10 ((⟨#[105]⟩ : ByteArray) ++ (rdOf ByteArray.empty y580 (ji3))) t595 t596 t597 t615 t616 t617 t618 _ A30.out).mono ?_); rintro e w55 ⟨rfl, hb⟩; refine ⟨_, rfl, ?_⟩; have n0_ := Aside0.mk (blk_below (g := gb591) (o := .cells #[.int .u8 t587, .int .i64 t588, .string t589] 26 (0, 0)) (by (with_reducible repeat (first | refine blk_drewN ?_ _ | refine blk_drew ?_ | refine blk_alloc ?_ _)); refine blk_far ?_ NB591_614.out _; (with_reducible repeat (first | refine blk_drewN ?_ _ | refine blk_drew ?_ | refine blk_alloc ?_ _)); refine blk_far ?_ NB591_614.out _; (with_reducible repeat (first | refine blk_drewN ?_ _ | refine blk_drew ?_ | refine blk_alloc ?_ _)); refine blk_far ?_ NB591_614.out _; (with_reducible repeat (first | refine blk_drewN ?_ _ | refine blk_drew ?_ | refine blk_alloc ?_ _)); exact BK591.out) hb); have n1_ := Aside0.mk (blk_below (g := gb599) (o := .cells #[.int .u8 t595, .int .i64 t596, .string t597] 26 (0, 0)) (by (with_reducible repeat (first | refine blk_drewN ?_ _ | refine blk_drew ?_ | refine blk_alloc ?_ _)); refine blk_far ?_ NB599_614.out _; (with_reducible repeat (first | refine blk_drewN ?_ _ | refine blk_drew ?_ | refine blk_alloc ?_ _)); refine blk_far ?_ NB599_614.out _; (with_reducible repeat (first | refine blk_drewN ?_ _ | refine blk_drew ?_ | refine blk_alloc ?_ _)); refine blk_far ?_ NB599_614.out _; (with_reducible repeat (first | refine blk_drewN ?_ _ | refine blk_drew ?_ | refine blk_alloc ?_ _)); exact BK599.out) hb); have n2_ := Aside0.mk (blk_below (g := gb604) (o := .cells #[.int .u8 t600, .int .i64 t601, .string t602] 26 (0, 0)) (by (with_reducible repeat (first | refine blk_drewN ?_ _ | refine blk_drew ?_ | refine blk_alloc ?_ _)); refine blk_far ?_ NB604_614.out _; (with_reducible repeat (first | refine blk_drewN ?_ _ | refine blk_drew ?_ | refine blk_alloc ?_ _)); refine blk_far ?_ NB604_614.out _; (with_reducible repeat (first | refine blk_drewN ?_ _ | refine blk_drew ?_ | refine blk_alloc ?_ _)); refine blk_far ?_ NB604_614.out _; (with_reducible repeat (first | refine blk_drewN ?_ _ | refine blk_drew ?_ | refine blk_alloc ?_ _)); exact BK604.out) hb); have n3_ := Aside0.mk (blk_below (g := gb609) (o := .cells #[.int .u8 t605, .int .i64 t606, .string t607] 26 (0, 0)) (by (with_reducible repeat (first | refine blk_drewN ?_ _ | refine blk_drew ?_ | refine blk_alloc ?_ _)); refine blk_far ?_ NB609_614.out _; (with_reducible repeat (first | refine blk_drewN ?_ _ | refine blk_drew ?_ | refine blk_alloc ?_ _)); refine blk_far ?_ NB609_614.out _; (with_reducible repeat (first | refine blk_drewN ?_ _ | refine blk_drew ?_ | refine blk_alloc ?_ _)); refine blk_far ?_ NB609_614.out _; (with_reducible repeat (first | refine blk_drewN ?_ _ | refine blk_drew ?_ | refine blk_alloc ?_ _)); exact BK609.out) hb); have n4_ := Aside0.mk (blk_below (g := gb614) (o := .cells #[.int .u8 t610, .int .i64 t611, .string t612] 26 (0, 0)) (by (with_reducible repeat (first | refine blk_drewN ?_ _ | refine blk_drew ?_ | refine blk_alloc ?_ _)); refine blk_put (cs := #[.int .u8 t610, .int .i64 t611, .string (⟨#[]⟩ : ByteArray)]) ?_ 2 _ rfl; (with_reducible repeat (first | refine blk_drewN ?_ _ | refine blk_drew ?_ | refine blk_alloc ?_ _)); refine blk_put (cs := #[.int .u8 t610, .int .i64 0, .string (⟨#[]⟩ : ByteArray)]) ?_ 1 _ rfl; (with_reducible repeat (first | refine blk_drewN ?_ _ | refine blk_drew ?_ | refine blk_alloc ?_ _)); refine blk_put (cs := #[.int .u8 0, .int .i64 0, .string (⟨#[]⟩ : ByteArray)]) ?_ 0 _ rfl; (with_reducible repeat (first | refine blk_drewN ?_ _ | refine blk_drew ?_ | refine blk_alloc ?_ _)); exact BK614.out) hb); have n5_ := Aside0.mk (below_step (by repeat (first | (with_reducible first | exact HB.out | apply below_alloc | apply pw_below_drewN | apply below_drew1 | refine below_set ?_ GE591.out | refine below_set ?_ GE599.out | refine below_set ?_ GE604.out | refine below_set ?_ GE609.out | refine below_set ?_ GE614.out) | exact HB.out)) hb); clear BK591; clear BK599; clear BK604; clear BK609; clear BK614; clear HB; have BK591 := n0_; have BK599 := n1_; have BK604 := n2_; have BK609 := n3_; have BK614 := n4_; have HB := n5_; clear n0_ n1_ n2_ n3_ n4_ n5_; (try clear hb); (try clear hb2); (try clear hk); (try clear hi)) | ((with_reducible refine gate_dst (N := 17) rfl ?_); refine box_event ?hg (N := 17) ?hd (cs := #[.int .u8 0, .int .i64 0, .string (⟨#[]⟩ : ByteArray)]) (t := 26) ?hr ?_; (case hd => rfl); (case hg => rfl); (case hr => first | (go_simp; done) | (go_simp; rfl)); intro gb619 hg w56 hbox hb; have n0_ := Aside0.mk (blk_below (g := gb591) (o := .cells #[.int .u8 t587, .int .i64 t588, .string t589] 26 (0, 0)) (by (with_reducible repeat (first | refine blk_drewN ?_ _ | refine blk_drew ?_ | refine blk_alloc ?_ _)); exact BK591.out) hb); have n1_ := Aside0.mk (blk_below (g := gb599) (o := .cells #[.int .u8 t595, .int .i64 t596, .string t597] 26 (0, 0)) (by (with_reducible repeat (first | refine blk_drewN ?_ _ | refine blk_drew ?_ | refine blk_alloc ?_ _)); exact BK599.out) hb); have n2_ := Aside0.mk (blk_below (g := gb604) (o := .cells #[.int .u8 t600, .int .i64 t601, .string t602] 26 (0, 0)) (by (with_reducible repeat (first | refine blk_drewN ?_ _ | refine blk_drew ?_ | refine blk_alloc ?_ _)); exact BK604.out) hb); have n3_ := Aside0.mk (blk_below (g := gb609) (o := .cells #[.int .u8 t605, .int .i64 t606, .string t607] 26 (0, 0)) (by (with_reducible repeat (first | refine blk_drewN ?_ _ | refine blk_drew ?_ | refine blk_alloc ?_ _)); exact BK609.out) hb); have n4_ := Aside0.mk (blk_below (g := gb614) (o := .cells #[.int .u8 t610, .int .i64 t611, .string t612] 26 (0, 0)) (by (with_reducible repeat (first | refine blk_drewN ?_ _ | refine blk_drew ?_ | refine blk_alloc ?_ _)); exact BK614.out) hb); have n5_ := Aside0.mk (below_step (by repeat (first | (with_reducible first | exact HB.out | apply below_alloc | apply pw_below_drewN | apply below_drew1 | refine below_set ?_ GE591.out | refine below_set ?_ GE599.out | refine below_set ?_ GE604.out | refine below_set ?_ GE609.out | refine below_set ?_ GE614.out) | exact HB.out)) hb); have n6_ := Aside0.mk (hbox); have n7_ := Aside0.mk ((by rw [hg]; exact (below_size (by repeat (first | (with_reducible first | exact HB.out | apply below_alloc | apply pw_below_drewN | apply below_drew1 | refine below_set ?_ GE591.out | refine below_set ?_ GE599.out | refine below_set ?_ GE604.out | refine below_set ?_ GE609.out | refine below_set ?_ GE614.out) | exact HB.out))) : w.heap.size ≤ gb619)); have n8_ := Aside0.mk ((by rw [hg]; exact (below_size (by repeat (first | (with_reducible first | exact HB.out | apply below_alloc | apply pw_below_drewN | apply below_drew1 | refine below_set ?_ GE591.out | refine below_set ?_ GE599.out | refine below_set ?_ GE604.out | refine below_set ?_ GE609.out | refine below_set ?_ GE614.out) | exact HB.out))) : w.heap.size ≤ gb619)); have n9_ := Aside0.mk ((by rw [hg]; exact Nat.ne_of_lt (blk_lt (g := gb591) (o := .cells #[.int .u8 t587, .int .i64 t588, .string t589] 26 (0, 0)) (by (with_reducible repeat (first | refine blk_drewN ?_ _ | refine blk_drew ?_ | refine blk_alloc ?_ _)); exact BK591.out)) : gb591 ≠ gb619)); have n10_ := Aside0.mk ((by rw [hg]; exact Nat.ne_of_gt (blk_lt (g := gb591) (o := .cells #[.int .u8 t587, .int .i64 t588, .string t589] 26 (0, 0)) (by (with_reducible repeat (first | refine blk_drewN ?_ _ | refine blk_drew ?_ | refine blk_alloc ?_ _)); exact BK591.out)) : gb619 ≠ gb591)); have n11_ := Aside0.mk ((by rw [hg]; exact Nat.ne_of_lt (blk_lt (g := gb599) (o := .cells #[.int .u8 t595, .int .i64 t596, .string t597] 26 (0, 0)) (by (with_reducible repeat (first | refine blk_drewN ?_ _ | refine blk_drew ?_ | refine blk_alloc ?_ _)); exact BK599.out)) : gb599 ≠ gb619)); have n12_ := Aside0.mk ((by rw [hg]; exact Nat.ne_of_gt (blk_lt (g := gb599) (o := .cells #[.int .u8 t595, .int .i64 t596, .string t597] 26 (0, 0)) (by (with_reducible repeat (first | refine blk_drewN ?_ _ | refine blk_drew ?_ | refine blk_alloc ?_ _)); exact BK599.out)) : gb619 ≠ gb599)); have n13_ := Aside0.mk ((by rw [hg]; exact Nat.ne_of_lt (blk_lt (g := gb604) (o := .cells #[.int .u8 t600, .int .i64 t601, .string t602] 26 (0, 0)) (by (with_reducible repeat (first | refine blk_drewN ?_ _ | refine blk_drew ?_ | refine blk_alloc ?_ _)); exact BK604.out)) : gb604 ≠ gb619)); have n14_ := Aside0.mk ((by rw [hg]; exact Nat.ne_of_gt (blk_lt (g := gb604) (o := .cells #[.int .u8 t600, .int .i64 t601, .string t602] 26 (0, 0)) (by (with_reducible repeat (first | refine blk_drewN ?_ _ | refine blk_drew ?_ | refine blk_alloc ?_ _)); exact BK604.out)) : gb619 ≠ gb604)); have n15_ := Aside0.mk ((by rw [hg]; exact Nat.ne_of_lt (blk_lt (g := gb609) (o := .cells #[.int .u8 t605, .int .i64 t606, .string t607] 26 (0, 0)) (by (with_reducible repeat (first | refine blk_drewN ?_ _ | refine blk_drew ?_ | refine blk_alloc ?_ _)); exact BK609.out)) : gb609 ≠ gb619)); have n16_ := Aside0.mk ((by rw [hg]; exact Nat.ne_of_gt (blk_lt (g := gb609) (o := .cells #[.int .u8 t605, .int .i64 t606, .string t607] 26 (0, 0)) (by (with_reducible repeat (first | refine blk_drewN ?_ _ | refine blk_drew ?_ | refine blk_alloc ?_ _)); exact BK609.out)) : gb619 ≠ gb609)); have n17_ := Aside0.mk ((by rw [hg]; exact Nat.ne_of_lt (blk_lt (g := gb614) (o := .cells #[.int .u8 t610, .int .i64 t611, .string t612] 26 (0, 0)) (by (with_reducible repeat (first | refine blk_drewN ?_ _ | refine blk_drew ?_ | refine blk_alloc ?_ _)); exact BK614.out)) : gb614 ≠ gb619)); have n18_ := Aside0.mk ((by rw [hg]; exact Nat.ne_of_gt (blk_lt (g := gb614) (o := .cells #[.int .u8 t610, .int .i64 t611, .string t612] 26 (0, 0)) (by (with_reducible repeat (first | refine blk_drewN ?_ _ | refine blk_drew ?_ | refine blk_alloc ?_ _)); exact BK614.out)) : gb619 ≠ gb614)); clear BK591; clear BK599; clear BK604; clear BK609; clear BK614; clear HB; have BK591 := n0_; have BK599 := n1_; have BK604 := n2_; have BK609 := n3_; have BK614 := n4_; have HB := n5_; have BK619 := n6_; have GW619 := n7_; have GE619 := n8_; have NB591_619 := n9_; have NB619_591 := n10_; have NB599_619 := n11_; have NB619_599 := n12_; have NB604_619 := n13_; have NB619_604 := n14_; have NB609_619 := n15_; have NB619_609 := n16_; have NB614_619 := n17_; have NB619_614 := n18_; clear n0_ n1_ n2_ n3_ n4_ n5_ n6_ n7_ n8_ n9_ n10_ n11_ n12_ n13_ n14_ n15_ n16_ n17_ n18_; clear hb hbox hg; have hnb57 := NB619_591.out; have hnc57 := NB591_619.out; have hnb58 := NB619_599.out; have hnc58 := NB599_619.out; have hnb59 := NB619_604.out; have hnc59 := NB604_619.out; have hnb60 := NB619_609.out; have hnc60 := NB609_619.out; have hnb61 := NB619_614.out; have hnc61 := NB614_619.out; have hcz62_0 : w56.cell? ⟨gb619, 0, none⟩ = some (.int .u8 0) := (blk_cell BK619.out 0).trans rfl; have hcz62_1 : w56.cell? ⟨gb619, 1, none⟩ = some (.int .i64 0) := (blk_cell BK619.out 1).trans rfl; have hcz62_2 : w56.cell? ⟨gb619, 2, none⟩ = some (.string (⟨#[]⟩ : ByteArray)) := (blk_cell BK619.out 2).trans rfl; have hfz62_0 := blk_frozen BK619.out 0; have hfz62_1 := blk_frozen BK619.out 1; have hfz62_2 := blk_frozen BK619.out 2))
                (try simp only [Act.put, List.setIfInBounds_toArray, List.set_cons_zero, List.set_cons_succ])
                go_cut [4] (fun v4 wc => ∃ (kq : Nat) (x4_30 : Bool), v4 = .bool x4_30 ∧ Aside0 (sacristanlaw01_ValueNarrow.j1 kq x4_30 = some r) ∧ Aside0 (kq ≤ kj10) ∧ Aside0 (wc.heap[gb591]? = some (.cells #[.int .u8 t587, .int .i64 t588, .string t589] 26 (0, 0))) ∧ Aside0 (wc.heap[gb599]? = some (.cells #[.int .u8 t595, .int .i64 t596, .string t597] 26 (0, 0))) ∧ Aside0 (wc.heap[gb604]? = some (.cells #[.int .u8 t600, .int .i64 t601, .string t602] 26 (0, 0))) ∧ Aside0 (wc.heap[gb609]? = some (.cells #[.int .u8 t605, .int .i64 t606, .string t607] 26 (0, 0))) ∧ Aside0 (wc.heap[gb614]? = some (.cells #[.int .u8 t610, .int .i64 t611, .string t612] 26 (0, 0))) ∧ Aside0 (wc.heap[gb619]? = some (.cells #[.int .u8 t615, .int .i64 t616, .string t617] 26 (0, 0))) ∧ Aside0 (Below w.heap.size w wc))
                case first =>
                  have H := HC31.out
                  clear HC31
                  by_cases c63 : (t600 == t587 && (t601 == t588 && (t602.toList == t589.toList))) = true
                  · rw [if_pos c63] at H
                    have c63b0 : (t600 == t587 && (t601 == t588 && (t602.toList == t589.toList))) = true := c63
                    (try (have c63b1 : decide (t600 = t587 && (t601 == t588 && (t602.toList == t589.toList))) = true := by simpa using c63))
                    (try (have c63b2 : (t600 == t587 && (t601 == t588 && (t602.toList == t589.toList))) = true := by simpa using c63))
                    clear c63
                    (first | rw [c63b0] | (simp only [i64_w, i32_w]; rw [c63b0]) | skip)
                    by_cases c64 : (t605 == t595 && (t606 == t596 && (t607.toList == t597.toList))) = true
                    · rw [if_pos c64] at H
                      have c64b0 : (t605 == t595 && (t606 == t596 && (t607.toList == t597.toList))) = true := c64
                      (try (have c64b1 : decide (t605 = t595 && (t606 == t596 && (t607.toList == t597.toList))) = true := by simpa using c64))
                      (try (have c64b2 : (t605 == t595 && (t606 == t596 && (t607.toList == t597.toList))) = true := by simpa using c64))
                      clear c64
                      by_cases c65 : (t610 == t595 && (t611 == t596 && (t612.toList == t597.toList))) = true
                      · rw [if_pos c65] at H
                        have c65b0 : (t610 == t595 && (t611 == t596 && (t612.toList == t597.toList))) = true := c65
                        (try (have c65b1 : decide (t610 = t595 && (t611 == t596 && (t612.toList == t597.toList))) = true := by simpa using c65))
                        (try (have c65b2 : (t610 == t595 && (t611 == t596 && (t612.toList == t597.toList))) = true := by simpa using c65))
                        clear c65
                        by_cases c66 : (t615 == t587 && (t616 == t588 && (t617.toList == t589.toList))) = true
                        · rw [if_pos c66] at H
                          have c66b0 : (t615 == t587 && (t616 == t588 && (t617.toList == t589.toList))) = true := c66
                          (try (have c66b1 : decide (t615 = t587 && (t616 == t588 && (t617.toList == t589.toList))) = true := by simpa using c66))
                          (try (have c66b2 : (t615 == t587 && (t616 == t588 && (t617.toList == t589.toList))) = true := by simpa using c66))
                          clear c66
                          by_cases c67 : t596 ≥ 0
                          · rw [if_pos c67] at H
                            have c67b0 : decide (0 ≤ t596) = true := decide_eq_true c67
                            clear c67
                            replace H := Option.bind_eq_some_iff.mp H
                            obtain ⟨t620, A680, H⟩ := H
                            replace H : (sacristanlaw01_ValueNarrow.j1 kj10 t620) = some r := H
                            have A68 := Aside0.mk A680
                            clear A680
                            have H' := Aside0.mk H
                            clear H
                            have hnb69 := NB604_591.out
                            have hnc69 := NB591_604.out
                            have hnb70 := NB604_599.out
                            have hnc70 := NB599_604.out
                            have hnb71 := NB604_609.out
                            have hnc71 := NB609_604.out
                            have hnb72 := NB604_614.out
                            have hnc72 := NB614_604.out
                            have hnb73 := NB604_619.out
                            have hnc73 := NB619_604.out
                            have hcz74_0 : w56.cell? ⟨gb604, 0, none⟩ = some (.int .u8 t600) := (blk_cell BK604.out 0).trans rfl
                            have hcz74_1 : w56.cell? ⟨gb604, 1, none⟩ = some (.int .i64 t601) := (blk_cell BK604.out 1).trans rfl
                            have hcz74_2 : w56.cell? ⟨gb604, 2, none⟩ = some (.string t602) := (blk_cell BK604.out 2).trans rfl
                            have hfz74_0 := blk_frozen BK604.out 0
                            have hfz74_1 := blk_frozen BK604.out 1
                            have hfz74_2 := blk_frozen BK604.out 2
                            have hnb75 := NB591_599.out
                            have hnc75 := NB599_591.out
                            have hnb76 := NB591_609.out
                            have hnc76 := NB609_591.out
                            have hnb77 := NB591_614.out
                            have hnc77 := NB614_591.out
                            have hnb78 := NB591_619.out
                            have hnc78 := NB619_591.out
                            have hcz79_0 : w56.cell? ⟨gb591, 0, none⟩ = some (.int .u8 t587) := (blk_cell BK591.out 0).trans rfl
                            have hcz79_1 : w56.cell? ⟨gb591, 1, none⟩ = some (.int .i64 t588) := (blk_cell BK591.out 1).trans rfl
                            have hcz79_2 : w56.cell? ⟨gb591, 2, none⟩ = some (.string t589) := (blk_cell BK591.out 2).trans rfl
                            have hfz79_0 := blk_frozen BK591.out 0
                            have hfz79_1 := blk_frozen BK591.out 1
                            have hfz79_2 := blk_frozen BK591.out 2
                            have hnb80 := NB609_599.out
                            have hnc80 := NB599_609.out
                            have hnb81 := NB609_614.out
                            have hnc81 := NB614_609.out
                            have hnb82 := NB609_619.out
                            have hnc82 := NB619_609.out
                            have hcz83_0 : w56.cell? ⟨gb609, 0, none⟩ = some (.int .u8 t605) := (blk_cell BK609.out 0).trans rfl
                            have hcz83_1 : w56.cell? ⟨gb609, 1, none⟩ = some (.int .i64 t606) := (blk_cell BK609.out 1).trans rfl
                            have hcz83_2 : w56.cell? ⟨gb609, 2, none⟩ = some (.string t607) := (blk_cell BK609.out 2).trans rfl
                            have hfz83_0 := blk_frozen BK609.out 0
                            have hfz83_1 := blk_frozen BK609.out 1
                            have hfz83_2 := blk_frozen BK609.out 2
                            have hnb84 := NB599_614.out
                            have hnc84 := NB614_599.out
                            have hnb85 := NB599_619.out
                            have hnc85 := NB619_599.out
                            have hcz86_0 : w56.cell? ⟨gb599, 0, none⟩ = some (.int .u8 t595) := (blk_cell BK599.out 0).trans rfl
                            have hcz86_1 : w56.cell? ⟨gb599, 1, none⟩ = some (.int .i64 t596) := (blk_cell BK599.out 1).trans rfl
                            have hcz86_2 : w56.cell? ⟨gb599, 2, none⟩ = some (.string t597) := (blk_cell BK599.out 2).trans rfl
                            have hfz86_0 := blk_frozen BK599.out 0
                            have hfz86_1 := blk_frozen BK599.out 1
                            have hfz86_2 := blk_frozen BK599.out 2
                            have hnb87 := NB614_619.out
                            have hnc87 := NB619_614.out
                            have hcz88_0 : w56.cell? ⟨gb614, 0, none⟩ = some (.int .u8 t610) := (blk_cell BK614.out 0).trans rfl
                            have hcz88_1 : w56.cell? ⟨gb614, 1, none⟩ = some (.int .i64 t611) := (blk_cell BK614.out 1).trans rfl
                            have hcz88_2 : w56.cell? ⟨gb614, 2, none⟩ = some (.string t612) := (blk_cell BK614.out 2).trans rfl
                            have hfz88_0 := blk_frozen BK614.out 0
                            have hfz88_1 := blk_frozen BK614.out 1
                            have hfz88_2 := blk_frozen BK614.out 2
                            have hcz89_0 : w56.cell? ⟨gb619, 0, none⟩ = some (.int .u8 0) := (blk_cell BK619.out 0).trans rfl
                            have hcz89_1 : w56.cell? ⟨gb619, 1, none⟩ = some (.int .i64 0) := (blk_cell BK619.out 1).trans rfl
                            have hcz89_2 : w56.cell? ⟨gb619, 2, none⟩ = some (.string (⟨#[]⟩ : ByteArray)) := (blk_cell BK619.out 2).trans rfl
                            have hfz89_0 := blk_frozen BK619.out 0
                            have hfz89_1 := blk_frozen BK619.out 1
                            have hfz89_2 := blk_frozen BK619.out 2
                            go_wp2_with (first | (go_at_call 28; (with_reducible refine (sacristanlaw01_awake.calls kj10  t620 _ A68.out).mono ?_); rintro e w90 ⟨rfl, hb⟩; have n0_ := Aside0.mk (blk_below (g := gb591) (o := .cells #[.int .u8 t587, .int .i64 t588, .string t589] 26 (0, 0)) (by (with_reducible repeat (first | refine blk_drewN ?_ _ | refine blk_drew ?_ | refine blk_alloc ?_ _)); refine blk_far ?_ NB591_619.out _; (with_reducible repeat (first | refine blk_drewN ?_ _ | refine blk_drew ?_ | refine blk_alloc ?_ _)); refine blk_far ?_ NB591_619.out _; (with_reducible repeat (first | refine blk_drewN ?_ _ | refine blk_drew ?_ | refine blk_alloc ?_ _)); refine blk_far ?_ NB591_619.out _; (with_reducible repeat (first | refine blk_drewN ?_ _ | refine blk_drew ?_ | refine blk_alloc ?_ _)); exact BK591.out) hb); have n1_ := Aside0.mk (blk_below (g := gb599) (o := .cells #[.int .u8 t595, .int .i64 t596, .string t597] 26 (0, 0)) (by (with_reducible repeat (first | refine blk_drewN ?_ _ | refine blk_drew ?_ | refine blk_alloc ?_ _)); refine blk_far ?_ NB599_619.out _; (with_reducible repeat (first | refine blk_drewN ?_ _ | refine blk_drew ?_ | refine blk_alloc ?_ _)); refine blk_far ?_ NB599_619.out _; (with_reducible repeat (first | refine blk_drewN ?_ _ | refine blk_drew ?_ | refine blk_alloc ?_ _)); refine blk_far ?_ NB599_619.out _; (with_reducible repeat (first | refine blk_drewN ?_ _ | refine blk_drew ?_ | refine blk_alloc ?_ _)); exact BK599.out) hb); have n2_ := Aside0.mk (blk_below (g := gb604) (o := .cells #[.int .u8 t600, .int .i64 t601, .string t602] 26 (0, 0)) (by (with_reducible repeat (first | refine blk_drewN ?_ _ | refine blk_drew ?_ | refine blk_alloc ?_ _)); refine blk_far ?_ NB604_619.out _; (with_reducible repeat (first | refine blk_drewN ?_ _ | refine blk_drew ?_ | refine blk_alloc ?_ _)); refine blk_far ?_ NB604_619.out _; (with_reducible repeat (first | refine blk_drewN ?_ _ | refine blk_drew ?_ | refine blk_alloc ?_ _)); refine blk_far ?_ NB604_619.out _; (with_reducible repeat (first | refine blk_drewN ?_ _ | refine blk_drew ?_ | refine blk_alloc ?_ _)); exact BK604.out) hb); have n3_ := Aside0.mk (blk_below (g := gb609) (o := .cells #[.int .u8 t605, .int .i64 t606, .string t607] 26 (0, 0)) (by (with_reducible repeat (first | refine blk_drewN ?_ _ | refine blk_drew ?_ | refine blk_alloc ?_ _)); refine blk_far ?_ NB609_619.out _; (with_reducible repeat (first | refine blk_drewN ?_ _ | refine blk_drew ?_ | refine blk_alloc ?_ _)); refine blk_far ?_ NB609_619.out _; (with_reducible repeat (first | refine blk_drewN ?_ _ | refine blk_drew ?_ | refine blk_alloc ?_ _)); refine blk_far ?_ NB609_619.out _; (with_reducible repeat (first | refine blk_drewN ?_ _ | refine blk_drew ?_ | refine blk_alloc ?_ _)); exact BK609.out) hb); have n4_ := Aside0.mk (blk_below (g := gb614) (o := .cells #[.int .u8 t610, .int .i64 t611, .string t612] 26 (0, 0)) (by (with_reducible repeat (first | refine blk_drewN ?_ _ | refine blk_drew ?_ | refine blk_alloc ?_ _)); refine blk_far ?_ NB614_619.out _; (with_reducible repeat (first | refine blk_drewN ?_ _ | refine blk_drew ?_ | refine blk_alloc ?_ _)); refine blk_far ?_ NB614_619.out _; (with_reducible repeat (first | refine blk_drewN ?_ _ | refine blk_drew ?_ | refine blk_alloc ?_ _)); refine blk_far ?_ NB614_619.out _; (with_reducible repeat (first | refine blk_drewN ?_ _ | refine blk_drew ?_ | refine blk_alloc ?_ _)); exact BK614.out) hb); have n5_ := Aside0.mk (blk_below (g := gb619) (o := .cells #[.int .u8 t615, .int .i64 t616, .string t617] 26 (0, 0)) (by (with_reducible repeat (first | refine blk_drewN ?_ _ | refine blk_drew ?_ | refine blk_alloc ?_ _)); refine blk_put (cs := #[.int .u8 t615, .int .i64 t616, .string (⟨#[]⟩ : ByteArray)]) ?_ 2 _ rfl; (with_reducible repeat (first | refine blk_drewN ?_ _ | refine blk_drew ?_ | refine blk_alloc ?_ _)); refine blk_put (cs := #[.int .u8 t615, .int .i64 0, .string (⟨#[]⟩ : ByteArray)]) ?_ 1 _ rfl; (with_reducible repeat (first | refine blk_drewN ?_ _ | refine blk_drew ?_ | refine blk_alloc ?_ _)); refine blk_put (cs := #[.int .u8 0, .int .i64 0, .string (⟨#[]⟩ : ByteArray)]) ?_ 0 _ rfl; (with_reducible repeat (first | refine blk_drewN ?_ _ | refine blk_drew ?_ | refine blk_alloc ?_ _)); exact BK619.out) hb); have n6_ := Aside0.mk (below_step (by repeat (first | (with_reducible first | exact HB.out | apply below_alloc | apply pw_below_drewN | apply below_drew1 | refine below_set ?_ GE591.out | refine below_set ?_ GE599.out | refine below_set ?_ GE604.out | refine below_set ?_ GE609.out | refine below_set ?_ GE614.out | refine below_set ?_ GE619.out) | exact HB.out)) hb); clear BK591; clear BK599; clear BK604; clear BK609; clear BK614; clear BK619; clear HB; have BK591 := n0_; have BK599 := n1_; have BK604 := n2_; have BK609 := n3_; have BK614 := n4_; have BK619 := n5_; have HB := n6_; clear n0_ n1_ n2_ n3_ n4_ n5_ n6_; (try clear hb); (try clear hb2); (try clear hk); (try clear hi)))
                            go_meet
                            case rel => exact ⟨_, (t620), (by first | rfl | (simp; done) | (simp [*]; done)), H', ⟨by have := HJ10.out; first | omega | exact Nat.le_refl _⟩, ⟨by (with_reducible repeat (first | refine blk_drewN ?_ _ | refine blk_drew ?_ | refine blk_alloc ?_ _)); exact BK591.out⟩, ⟨by (with_reducible repeat (first | refine blk_drewN ?_ _ | refine blk_drew ?_ | refine blk_alloc ?_ _)); exact BK599.out⟩, ⟨by (with_reducible repeat (first | refine blk_drewN ?_ _ | refine blk_drew ?_ | refine blk_alloc ?_ _)); exact BK604.out⟩, ⟨by (with_reducible repeat (first | refine blk_drewN ?_ _ | refine blk_drew ?_ | refine blk_alloc ?_ _)); exact BK609.out⟩, ⟨by (with_reducible repeat (first | refine blk_drewN ?_ _ | refine blk_drew ?_ | refine blk_alloc ?_ _)); exact BK614.out⟩, ⟨by (with_reducible repeat (first | refine blk_drewN ?_ _ | refine blk_drew ?_ | refine blk_alloc ?_ _)); exact BK619.out⟩, ⟨by repeat (first | (with_reducible first | exact HB.out | apply below_alloc | apply pw_below_drewN | apply below_drew1 | refine below_set ?_ GE591.out | refine below_set ?_ GE599.out | refine below_set ?_ GE604.out | refine below_set ?_ GE609.out | refine below_set ?_ GE614.out | refine below_set ?_ GE619.out) | exact HB.out)⟩⟩
                          · rw [if_neg c67] at H
                            have c67b0 : decide (0 ≤ t596) = false := decide_eq_false c67
                            clear c67
                            have H' := Aside0.mk H
                            clear H
                            have hnb91 := NB604_591.out
                            have hnc91 := NB591_604.out
                            have hnb92 := NB604_599.out
                            have hnc92 := NB599_604.out
                            have hnb93 := NB604_609.out
                            have hnc93 := NB609_604.out
                            have hnb94 := NB604_614.out
                            have hnc94 := NB614_604.out
                            have hnb95 := NB604_619.out
                            have hnc95 := NB619_604.out
                            have hcz96_0 : w56.cell? ⟨gb604, 0, none⟩ = some (.int .u8 t600) := (blk_cell BK604.out 0).trans rfl
                            have hcz96_1 : w56.cell? ⟨gb604, 1, none⟩ = some (.int .i64 t601) := (blk_cell BK604.out 1).trans rfl
                            have hcz96_2 : w56.cell? ⟨gb604, 2, none⟩ = some (.string t602) := (blk_cell BK604.out 2).trans rfl
                            have hfz96_0 := blk_frozen BK604.out 0
                            have hfz96_1 := blk_frozen BK604.out 1
                            have hfz96_2 := blk_frozen BK604.out 2
                            have hnb97 := NB591_599.out
                            have hnc97 := NB599_591.out
                            have hnb98 := NB591_609.out
                            have hnc98 := NB609_591.out
                            have hnb99 := NB591_614.out
                            have hnc99 := NB614_591.out
                            have hnb100 := NB591_619.out
                            have hnc100 := NB619_591.out
                            have hcz101_0 : w56.cell? ⟨gb591, 0, none⟩ = some (.int .u8 t587) := (blk_cell BK591.out 0).trans rfl
                            have hcz101_1 : w56.cell? ⟨gb591, 1, none⟩ = some (.int .i64 t588) := (blk_cell BK591.out 1).trans rfl
                            have hcz101_2 : w56.cell? ⟨gb591, 2, none⟩ = some (.string t589) := (blk_cell BK591.out 2).trans rfl
                            have hfz101_0 := blk_frozen BK591.out 0
                            have hfz101_1 := blk_frozen BK591.out 1
                            have hfz101_2 := blk_frozen BK591.out 2
                            have hnb102 := NB609_599.out
                            have hnc102 := NB599_609.out
                            have hnb103 := NB609_614.out
                            have hnc103 := NB614_609.out
                            have hnb104 := NB609_619.out
                            have hnc104 := NB619_609.out
                            have hcz105_0 : w56.cell? ⟨gb609, 0, none⟩ = some (.int .u8 t605) := (blk_cell BK609.out 0).trans rfl
                            have hcz105_1 : w56.cell? ⟨gb609, 1, none⟩ = some (.int .i64 t606) := (blk_cell BK609.out 1).trans rfl
                            have hcz105_2 : w56.cell? ⟨gb609, 2, none⟩ = some (.string t607) := (blk_cell BK609.out 2).trans rfl
                            have hfz105_0 := blk_frozen BK609.out 0
                            have hfz105_1 := blk_frozen BK609.out 1
                            have hfz105_2 := blk_frozen BK609.out 2
                            have hnb106 := NB599_614.out
                            have hnc106 := NB614_599.out
                            have hnb107 := NB599_619.out
                            have hnc107 := NB619_599.out
                            have hcz108_0 : w56.cell? ⟨gb599, 0, none⟩ = some (.int .u8 t595) := (blk_cell BK599.out 0).trans rfl
                            have hcz108_1 : w56.cell? ⟨gb599, 1, none⟩ = some (.int .i64 t596) := (blk_cell BK599.out 1).trans rfl
                            have hcz108_2 : w56.cell? ⟨gb599, 2, none⟩ = some (.string t597) := (blk_cell BK599.out 2).trans rfl
                            have hfz108_0 := blk_frozen BK599.out 0
                            have hfz108_1 := blk_frozen BK599.out 1
                            have hfz108_2 := blk_frozen BK599.out 2
                            have hnb109 := NB614_619.out
                            have hnc109 := NB619_614.out
                            have hcz110_0 : w56.cell? ⟨gb614, 0, none⟩ = some (.int .u8 t610) := (blk_cell BK614.out 0).trans rfl
                            have hcz110_1 : w56.cell? ⟨gb614, 1, none⟩ = some (.int .i64 t611) := (blk_cell BK614.out 1).trans rfl
                            have hcz110_2 : w56.cell? ⟨gb614, 2, none⟩ = some (.string t612) := (blk_cell BK614.out 2).trans rfl
                            have hfz110_0 := blk_frozen BK614.out 0
                            have hfz110_1 := blk_frozen BK614.out 1
                            have hfz110_2 := blk_frozen BK614.out 2
                            have hcz111_0 : w56.cell? ⟨gb619, 0, none⟩ = some (.int .u8 0) := (blk_cell BK619.out 0).trans rfl
                            have hcz111_1 : w56.cell? ⟨gb619, 1, none⟩ = some (.int .i64 0) := (blk_cell BK619.out 1).trans rfl
                            have hcz111_2 : w56.cell? ⟨gb619, 2, none⟩ = some (.string (⟨#[]⟩ : ByteArray)) := (blk_cell BK619.out 2).trans rfl
                            have hfz111_0 := blk_frozen BK619.out 0
                            have hfz111_1 := blk_frozen BK619.out 1
                            have hfz111_2 := blk_frozen BK619.out 2
                            go_wp2
                            go_meet
                            case rel => exact ⟨_, (false), (by first | rfl | (simp; done) | (simp [*]; done)), H', ⟨by have := HJ10.out; first | omega | exact Nat.le_refl _⟩, ⟨by (with_reducible repeat (first | refine blk_drewN ?_ _ | refine blk_drew ?_ | refine blk_alloc ?_ _)); refine blk_far ?_ NB591_619.out _; (with_reducible repeat (first | refine blk_drewN ?_ _ | refine blk_drew ?_ | refine blk_alloc ?_ _)); refine blk_far ?_ NB591_619.out _; (with_reducible repeat (first | refine blk_drewN ?_ _ | refine blk_drew ?_ | refine blk_alloc ?_ _)); refine blk_far ?_ NB591_619.out _; (with_reducible repeat (first | refine blk_drewN ?_ _ | refine blk_drew ?_ | refine blk_alloc ?_ _)); exact BK591.out⟩, ⟨by (with_reducible repeat (first | refine blk_drewN ?_ _ | refine blk_drew ?_ | refine blk_alloc ?_ _)); refine blk_far ?_ NB599_619.out _; (with_reducible repeat (first | refine blk_drewN ?_ _ | refine blk_drew ?_ | refine blk_alloc ?_ _)); refine blk_far ?_ NB599_619.out _; (with_reducible repeat (first | refine blk_drewN ?_ _ | refine blk_drew ?_ | refine blk_alloc ?_ _)); refine blk_far ?_ NB599_619.out _; (with_reducible repeat (first | refine blk_drewN ?_ _ | refine blk_drew ?_ | refine blk_alloc ?_ _)); exact BK599.out⟩, ⟨by (with_reducible repeat (first | refine blk_drewN ?_ _ | refine blk_drew ?_ | refine blk_alloc ?_ _)); refine blk_far ?_ NB604_619.out _; (with_reducible repeat (first | refine blk_drewN ?_ _ | refine blk_drew ?_ | refine blk_alloc ?_ _)); refine blk_far ?_ NB604_619.out _; (with_reducible repeat (first | refine blk_drewN ?_ _ | refine blk_drew ?_ | refine blk_alloc ?_ _)); refine blk_far ?_ NB604_619.out _; (with_reducible repeat (first | refine blk_drewN ?_ _ | refine blk_drew ?_ | refine blk_alloc ?_ _)); exact BK604.out⟩, ⟨by (with_reducible repeat (first | refine blk_drewN ?_ _ | refine blk_drew ?_ | refine blk_alloc ?_ _)); refine blk_far ?_ NB609_619.out _; (with_reducible repeat (first | refine blk_drewN ?_ _ | refine blk_drew ?_ | refine blk_alloc ?_ _)); refine blk_far ?_ NB609_619.out _; (with_reducible repeat (first | refine blk_drewN ?_ _ | refine blk_drew ?_ | refine blk_alloc ?_ _)); refine blk_far ?_ NB609_619.out _; (with_reducible repeat (first | refine blk_drewN ?_ _ | refine blk_drew ?_ | refine blk_alloc ?_ _)); exact BK609.out⟩, ⟨by (with_reducible repeat (first | refine blk_drewN ?_ _ | refine blk_drew ?_ | refine blk_alloc ?_ _)); refine blk_far ?_ NB614_619.out _; (with_reducible repeat (first | refine blk_drewN ?_ _ | refine blk_drew ?_ | refine blk_alloc ?_ _)); refine blk_far ?_ NB614_619.out _; (with_reducible repeat (first | refine blk_drewN ?_ _ | refine blk_drew ?_ | refine blk_alloc ?_ _)); refine blk_far ?_ NB614_619.out _; (with_reducible repeat (first | refine blk_drewN ?_ _ | refine blk_drew ?_ | refine blk_alloc ?_ _)); exact BK614.out⟩, ⟨by (with_reducible repeat (first | refine blk_drewN ?_ _ | refine blk_drew ?_ | refine blk_alloc ?_ _)); refine blk_put (cs := #[.int .u8 t615, .int .i64 t616, .string (⟨#[]⟩ : ByteArray)]) ?_ 2 _ rfl; (with_reducible repeat (first | refine blk_drewN ?_ _ | refine blk_drew ?_ | refine blk_alloc ?_ _)); refine blk_put (cs := #[.int .u8 t615, .int .i64 0, .string (⟨#[]⟩ : ByteArray)]) ?_ 1 _ rfl; (with_reducible repeat (first | refine blk_drewN ?_ _ | refine blk_drew ?_ | refine blk_alloc ?_ _)); refine blk_put (cs := #[.int .u8 0, .int .i64 0, .string (⟨#[]⟩ : ByteArray)]) ?_ 0 _ rfl; (with_reducible repeat (first | refine blk_drewN ?_ _ | refine blk_drew ?_ | refine blk_alloc ?_ _)); exact BK619.out⟩, ⟨by repeat (first | (with_reducible first | exact HB.out | apply below_alloc | apply pw_below_drewN | apply below_drew1 | refine below_set ?_ GE591.out | refine below_set ?_ GE599.out | refine below_set ?_ GE604.out | refine below_set ?_ GE609.out | refine below_set ?_ GE614.out | refine below_set ?_ GE619.out) | exact HB.out)⟩⟩
                        · rw [if_neg c66] at H
                          have c66b0 : (t615 == t587 && (t616 == t588 && (t617.toList == t589.toList))) = false := by simpa using c66
                          (try (have c66b1 : decide (t615 = t587 && (t616 == t588 && (t617.toList == t589.toList))) = false := by simpa using c66))
                          (try (have c66b2 : (t615 == t587 && (t616 == t588 && (t617.toList == t589.toList))) = false := by simpa using c66))
                          (try (have c66b3 : ¬ (t615 = t587 && (t616 == t588 && (t617.toList == t589.toList))) := by simpa using c66))
                          clear c66
                          have H' := Aside0.mk H
                          clear H
                          have hnb112 := NB604_591.out
                          have hnc112 := NB591_604.out
                          have hnb113 := NB604_599.out
                          have hnc113 := NB599_604.out
                          have hnb114 := NB604_609.out
                          have hnc114 := NB609_604.out
                          have hnb115 := NB604_614.out
                          have hnc115 := NB614_604.out
                          have hnb116 := NB604_619.out
                          have hnc116 := NB619_604.out
                          have hcz117_0 : w56.cell? ⟨gb604, 0, none⟩ = some (.int .u8 t600) := (blk_cell BK604.out 0).trans rfl
                          have hcz117_1 : w56.cell? ⟨gb604, 1, none⟩ = some (.int .i64 t601) := (blk_cell BK604.out 1).trans rfl
                          have hcz117_2 : w56.cell? ⟨gb604, 2, none⟩ = some (.string t602) := (blk_cell BK604.out 2).trans rfl
                          have hfz117_0 := blk_frozen BK604.out 0
                          have hfz117_1 := blk_frozen BK604.out 1
                          have hfz117_2 := blk_frozen BK604.out 2
                          have hnb118 := NB591_599.out
                          have hnc118 := NB599_591.out
                          have hnb119 := NB591_609.out
                          have hnc119 := NB609_591.out
                          have hnb120 := NB591_614.out
                          have hnc120 := NB614_591.out
                          have hnb121 := NB591_619.out
                          have hnc121 := NB619_591.out
                          have hcz122_0 : w56.cell? ⟨gb591, 0, none⟩ = some (.int .u8 t587) := (blk_cell BK591.out 0).trans rfl
                          have hcz122_1 : w56.cell? ⟨gb591, 1, none⟩ = some (.int .i64 t588) := (blk_cell BK591.out 1).trans rfl
                          have hcz122_2 : w56.cell? ⟨gb591, 2, none⟩ = some (.string t589) := (blk_cell BK591.out 2).trans rfl
                          have hfz122_0 := blk_frozen BK591.out 0
                          have hfz122_1 := blk_frozen BK591.out 1
                          have hfz122_2 := blk_frozen BK591.out 2
                          have hnb123 := NB609_599.out
                          have hnc123 := NB599_609.out
                          have hnb124 := NB609_614.out
                          have hnc124 := NB614_609.out
                          have hnb125 := NB609_619.out
                          have hnc125 := NB619_609.out
                          have hcz126_0 : w56.cell? ⟨gb609, 0, none⟩ = some (.int .u8 t605) := (blk_cell BK609.out 0).trans rfl
                          have hcz126_1 : w56.cell? ⟨gb609, 1, none⟩ = some (.int .i64 t606) := (blk_cell BK609.out 1).trans rfl
                          have hcz126_2 : w56.cell? ⟨gb609, 2, none⟩ = some (.string t607) := (blk_cell BK609.out 2).trans rfl
                          have hfz126_0 := blk_frozen BK609.out 0
                          have hfz126_1 := blk_frozen BK609.out 1
                          have hfz126_2 := blk_frozen BK609.out 2
                          have hnb127 := NB599_614.out
                          have hnc127 := NB614_599.out
                          have hnb128 := NB599_619.out
                          have hnc128 := NB619_599.out
                          have hcz129_0 : w56.cell? ⟨gb599, 0, none⟩ = some (.int .u8 t595) := (blk_cell BK599.out 0).trans rfl
                          have hcz129_1 : w56.cell? ⟨gb599, 1, none⟩ = some (.int .i64 t596) := (blk_cell BK599.out 1).trans rfl
                          have hcz129_2 : w56.cell? ⟨gb599, 2, none⟩ = some (.string t597) := (blk_cell BK599.out 2).trans rfl
                          have hfz129_0 := blk_frozen BK599.out 0
                          have hfz129_1 := blk_frozen BK599.out 1
                          have hfz129_2 := blk_frozen BK599.out 2
                          have hnb130 := NB614_619.out
                          have hnc130 := NB619_614.out
                          have hcz131_0 : w56.cell? ⟨gb614, 0, none⟩ = some (.int .u8 t610) := (blk_cell BK614.out 0).trans rfl
                          have hcz131_1 : w56.cell? ⟨gb614, 1, none⟩ = some (.int .i64 t611) := (blk_cell BK614.out 1).trans rfl
                          have hcz131_2 : w56.cell? ⟨gb614, 2, none⟩ = some (.string t612) := (blk_cell BK614.out 2).trans rfl
                          have hfz131_0 := blk_frozen BK614.out 0
                          have hfz131_1 := blk_frozen BK614.out 1
                          have hfz131_2 := blk_frozen BK614.out 2
                          have hcz132_0 : w56.cell? ⟨gb619, 0, none⟩ = some (.int .u8 0) := (blk_cell BK619.out 0).trans rfl
                          have hcz132_1 : w56.cell? ⟨gb619, 1, none⟩ = some (.int .i64 0) := (blk_cell BK619.out 1).trans rfl
                          have hcz132_2 : w56.cell? ⟨gb619, 2, none⟩ = some (.string (⟨#[]⟩ : ByteArray)) := (blk_cell BK619.out 2).trans rfl
                          have hfz132_0 := blk_frozen BK619.out 0
                          have hfz132_1 := blk_frozen BK619.out 1
                          have hfz132_2 := blk_frozen BK619.out 2
                          go_wp2
                          go_meet
                          case rel => exact ⟨_, (false), (by first | rfl | (simp; done) | (simp [*]; done)), H', ⟨by have := HJ10.out; first | omega | exact Nat.le_refl _⟩, ⟨by (with_reducible repeat (first | refine blk_drewN ?_ _ | refine blk_drew ?_ | refine blk_alloc ?_ _)); refine blk_far ?_ NB591_619.out _; (with_reducible repeat (first | refine blk_drewN ?_ _ | refine blk_drew ?_ | refine blk_alloc ?_ _)); refine blk_far ?_ NB591_619.out _; (with_reducible repeat (first | refine blk_drewN ?_ _ | refine blk_drew ?_ | refine blk_alloc ?_ _)); refine blk_far ?_ NB591_619.out _; (with_reducible repeat (first | refine blk_drewN ?_ _ | refine blk_drew ?_ | refine blk_alloc ?_ _)); exact BK591.out⟩, ⟨by (with_reducible repeat (first | refine blk_drewN ?_ _ | refine blk_drew ?_ | refine blk_alloc ?_ _)); refine blk_far ?_ NB599_619.out _; (with_reducible repeat (first | refine blk_drewN ?_ _ | refine blk_drew ?_ | refine blk_alloc ?_ _)); refine blk_far ?_ NB599_619.out _; (with_reducible repeat (first | refine blk_drewN ?_ _ | refine blk_drew ?_ | refine blk_alloc ?_ _)); refine blk_far ?_ NB599_619.out _; (with_reducible repeat (first | refine blk_drewN ?_ _ | refine blk_drew ?_ | refine blk_alloc ?_ _)); exact BK599.out⟩, ⟨by (with_reducible repeat (first | refine blk_drewN ?_ _ | refine blk_drew ?_ | refine blk_alloc ?_ _)); refine blk_far ?_ NB604_619.out _; (with_reducible repeat (first | refine blk_drewN ?_ _ | refine blk_drew ?_ | refine blk_alloc ?_ _)); refine blk_far ?_ NB604_619.out _; (with_reducible repeat (first | refine blk_drewN ?_ _ | refine blk_drew ?_ | refine blk_alloc ?_ _)); refine blk_far ?_ NB604_619.out _; (with_reducible repeat (first | refine blk_drewN ?_ _ | refine blk_drew ?_ | refine blk_alloc ?_ _)); exact BK604.out⟩, ⟨by (with_reducible repeat (first | refine blk_drewN ?_ _ | refine blk_drew ?_ | refine blk_alloc ?_ _)); refine blk_far ?_ NB609_619.out _; (with_reducible repeat (first | refine blk_drewN ?_ _ | refine blk_drew ?_ | refine blk_alloc ?_ _)); refine blk_far ?_ NB609_619.out _; (with_reducible repeat (first | refine blk_drewN ?_ _ | refine blk_drew ?_ | refine blk_alloc ?_ _)); refine blk_far ?_ NB609_619.out _; (with_reducible repeat (first | refine blk_drewN ?_ _ | refine blk_drew ?_ | refine blk_alloc ?_ _)); exact BK609.out⟩, ⟨by (with_reducible repeat (first | refine blk_drewN ?_ _ | refine blk_drew ?_ | refine blk_alloc ?_ _)); refine blk_far ?_ NB614_619.out _; (with_reducible repeat (first | refine blk_drewN ?_ _ | refine blk_drew ?_ | refine blk_alloc ?_ _)); refine blk_far ?_ NB614_619.out _; (with_reducible repeat (first | refine blk_drewN ?_ _ | refine blk_drew ?_ | refine blk_alloc ?_ _)); refine blk_far ?_ NB614_619.out _; (with_reducible repeat (first | refine blk_drewN ?_ _ | refine blk_drew ?_ | refine blk_alloc ?_ _)); exact BK614.out⟩, ⟨by (with_reducible repeat (first | refine blk_drewN ?_ _ | refine blk_drew ?_ | refine blk_alloc ?_ _)); refine blk_put (cs := #[.int .u8 t615, .int .i64 t616, .string (⟨#[]⟩ : ByteArray)]) ?_ 2 _ rfl; (with_reducible repeat (first | refine blk_drewN ?_ _ | refine blk_drew ?_ | refine blk_alloc ?_ _)); refine blk_put (cs := #[.int .u8 t615, .int .i64 0, .string (⟨#[]⟩ : ByteArray)]) ?_ 1 _ rfl; (with_reducible repeat (first | refine blk_drewN ?_ _ | refine blk_drew ?_ | refine blk_alloc ?_ _)); refine blk_put (cs := #[.int .u8 0, .int .i64 0, .string (⟨#[]⟩ : ByteArray)]) ?_ 0 _ rfl; (with_reducible repeat (first | refine blk_drewN ?_ _ | refine blk_drew ?_ | refine blk_alloc ?_ _)); exact BK619.out⟩, ⟨by repeat (first | (with_reducible first | exact HB.out | apply below_alloc | apply pw_below_drewN | apply below_drew1 | refine below_set ?_ GE591.out | refine below_set ?_ GE599.out | refine below_set ?_ GE604.out | refine below_set ?_ GE609.out | refine below_set ?_ GE614.out | refine below_set ?_ GE619.out) | exact HB.out)⟩⟩
                      · rw [if_neg c65] at H
                        have c65b0 : (t610 == t595 && (t611 == t596 && (t612.toList == t597.toList))) = false := by simpa using c65
                        (try (have c65b1 : decide (t610 = t595 && (t611 == t596 && (t612.toList == t597.toList))) = false := by simpa using c65))
                        (try (have c65b2 : (t610 == t595 && (t611 == t596 && (t612.toList == t597.toList))) = false := by simpa using c65))
                        (try (have c65b3 : ¬ (t610 = t595 && (t611 == t596 && (t612.toList == t597.toList))) := by simpa using c65))
                        clear c65
                        have H' := Aside0.mk H
                        clear H
                        have hnb133 := NB604_591.out
                        have hnc133 := NB591_604.out
                        have hnb134 := NB604_599.out
                        have hnc134 := NB599_604.out
                        have hnb135 := NB604_609.out
                        have hnc135 := NB609_604.out
                        have hnb136 := NB604_614.out
                        have hnc136 := NB614_604.out
                        have hnb137 := NB604_619.out
                        have hnc137 := NB619_604.out
                        have hcz138_0 : w56.cell? ⟨gb604, 0, none⟩ = some (.int .u8 t600) := (blk_cell BK604.out 0).trans rfl
                        have hcz138_1 : w56.cell? ⟨gb604, 1, none⟩ = some (.int .i64 t601) := (blk_cell BK604.out 1).trans rfl
                        have hcz138_2 : w56.cell? ⟨gb604, 2, none⟩ = some (.string t602) := (blk_cell BK604.out 2).trans rfl
                        have hfz138_0 := blk_frozen BK604.out 0
                        have hfz138_1 := blk_frozen BK604.out 1
                        have hfz138_2 := blk_frozen BK604.out 2
                        have hnb139 := NB591_599.out
                        have hnc139 := NB599_591.out
                        have hnb140 := NB591_609.out
                        have hnc140 := NB609_591.out
                        have hnb141 := NB591_614.out
                        have hnc141 := NB614_591.out
                        have hnb142 := NB591_619.out
                        have hnc142 := NB619_591.out
                        have hcz143_0 : w56.cell? ⟨gb591, 0, none⟩ = some (.int .u8 t587) := (blk_cell BK591.out 0).trans rfl
                        have hcz143_1 : w56.cell? ⟨gb591, 1, none⟩ = some (.int .i64 t588) := (blk_cell BK591.out 1).trans rfl
                        have hcz143_2 : w56.cell? ⟨gb591, 2, none⟩ = some (.string t589) := (blk_cell BK591.out 2).trans rfl
                        have hfz143_0 := blk_frozen BK591.out 0
                        have hfz143_1 := blk_frozen BK591.out 1
                        have hfz143_2 := blk_frozen BK591.out 2
                        have hnb144 := NB609_599.out
                        have hnc144 := NB599_609.out
                        have hnb145 := NB609_614.out
                        have hnc145 := NB614_609.out
                        have hnb146 := NB609_619.out
                        have hnc146 := NB619_609.out
                        have hcz147_0 : w56.cell? ⟨gb609, 0, none⟩ = some (.int .u8 t605) := (blk_cell BK609.out 0).trans rfl
                        have hcz147_1 : w56.cell? ⟨gb609, 1, none⟩ = some (.int .i64 t606) := (blk_cell BK609.out 1).trans rfl
                        have hcz147_2 : w56.cell? ⟨gb609, 2, none⟩ = some (.string t607) := (blk_cell BK609.out 2).trans rfl
                        have hfz147_0 := blk_frozen BK609.out 0
                        have hfz147_1 := blk_frozen BK609.out 1
                        have hfz147_2 := blk_frozen BK609.out 2
                        have hnb148 := NB599_614.out
                        have hnc148 := NB614_599.out
                        have hnb149 := NB599_619.out
                        have hnc149 := NB619_599.out
                        have hcz150_0 : w56.cell? ⟨gb599, 0, none⟩ = some (.int .u8 t595) := (blk_cell BK599.out 0).trans rfl
                        have hcz150_1 : w56.cell? ⟨gb599, 1, none⟩ = some (.int .i64 t596) := (blk_cell BK599.out 1).trans rfl
                        have hcz150_2 : w56.cell? ⟨gb599, 2, none⟩ = some (.string t597) := (blk_cell BK599.out 2).trans rfl
                        have hfz150_0 := blk_frozen BK599.out 0
                        have hfz150_1 := blk_frozen BK599.out 1
                        have hfz150_2 := blk_frozen BK599.out 2
                        have hnb151 := NB614_619.out
                        have hnc151 := NB619_614.out
                        have hcz152_0 : w56.cell? ⟨gb614, 0, none⟩ = some (.int .u8 t610) := (blk_cell BK614.out 0).trans rfl
                        have hcz152_1 : w56.cell? ⟨gb614, 1, none⟩ = some (.int .i64 t611) := (blk_cell BK614.out 1).trans rfl
                        have hcz152_2 : w56.cell? ⟨gb614, 2, none⟩ = some (.string t612) := (blk_cell BK614.out 2).trans rfl
                        have hfz152_0 := blk_frozen BK614.out 0
                        have hfz152_1 := blk_frozen BK614.out 1
                        have hfz152_2 := blk_frozen BK614.out 2
                        go_wp2
                        go_meet
                        case rel => exact ⟨_, (false), (by first | rfl | (simp; done) | (simp [*]; done)), H', ⟨by have := HJ10.out; first | omega | exact Nat.le_refl _⟩, ⟨by (with_reducible repeat (first | refine blk_drewN ?_ _ | refine blk_drew ?_ | refine blk_alloc ?_ _)); refine blk_far ?_ NB591_619.out _; (with_reducible repeat (first | refine blk_drewN ?_ _ | refine blk_drew ?_ | refine blk_alloc ?_ _)); refine blk_far ?_ NB591_619.out _; (with_reducible repeat (first | refine blk_drewN ?_ _ | refine blk_drew ?_ | refine blk_alloc ?_ _)); refine blk_far ?_ NB591_619.out _; (with_reducible repeat (first | refine blk_drewN ?_ _ | refine blk_drew ?_ | refine blk_alloc ?_ _)); exact BK591.out⟩, ⟨by (with_reducible repeat (first | refine blk_drewN ?_ _ | refine blk_drew ?_ | refine blk_alloc ?_ _)); refine blk_far ?_ NB599_619.out _; (with_reducible repeat (first | refine blk_drewN ?_ _ | refine blk_drew ?_ | refine blk_alloc ?_ _)); refine blk_far ?_ NB599_619.out _; (with_reducible repeat (first | refine blk_drewN ?_ _ | refine blk_drew ?_ | refine blk_alloc ?_ _)); refine blk_far ?_ NB599_619.out _; (with_reducible repeat (first | refine blk_drewN ?_ _ | refine blk_drew ?_ | refine blk_alloc ?_ _)); exact BK599.out⟩, ⟨by (with_reducible repeat (first | refine blk_drewN ?_ _ | refine blk_drew ?_ | refine blk_alloc ?_ _)); refine blk_far ?_ NB604_619.out _; (with_reducible repeat (first | refine blk_drewN ?_ _ | refine blk_drew ?_ | refine blk_alloc ?_ _)); refine blk_far ?_ NB604_619.out _; (with_reducible repeat (first | refine blk_drewN ?_ _ | refine blk_drew ?_ | refine blk_alloc ?_ _)); refine blk_far ?_ NB604_619.out _; (with_reducible repeat (first | refine blk_drewN ?_ _ | refine blk_drew ?_ | refine blk_alloc ?_ _)); exact BK604.out⟩, ⟨by (with_reducible repeat (first | refine blk_drewN ?_ _ | refine blk_drew ?_ | refine blk_alloc ?_ _)); refine blk_far ?_ NB609_619.out _; (with_reducible repeat (first | refine blk_drewN ?_ _ | refine blk_drew ?_ | refine blk_alloc ?_ _)); refine blk_far ?_ NB609_619.out _; (with_reducible repeat (first | refine blk_drewN ?_ _ | refine blk_drew ?_ | refine blk_alloc ?_ _)); refine blk_far ?_ NB609_619.out _; (with_reducible repeat (first | refine blk_drewN ?_ _ | refine blk_drew ?_ | refine blk_alloc ?_ _)); exact BK609.out⟩, ⟨by (with_reducible repeat (first | refine blk_drewN ?_ _ | refine blk_drew ?_ | refine blk_alloc ?_ _)); refine blk_far ?_ NB614_619.out _; (with_reducible repeat (first | refine blk_drewN ?_ _ | refine blk_drew ?_ | refine blk_alloc ?_ _)); refine blk_far ?_ NB614_619.out _; (with_reducible repeat (first | refine blk_drewN ?_ _ | refine blk_drew ?_ | refine blk_alloc ?_ _)); refine blk_far ?_ NB614_619.out _; (with_reducible repeat (first | refine blk_drewN ?_ _ | refine blk_drew ?_ | refine blk_alloc ?_ _)); exact BK614.out⟩, ⟨by (with_reducible repeat (first | refine blk_drewN ?_ _ | refine blk_drew ?_ | refine blk_alloc ?_ _)); refine blk_put (cs := #[.int .u8 t615, .int .i64 t616, .string (⟨#[]⟩ : ByteArray)]) ?_ 2 _ rfl; (with_reducible repeat (first | refine blk_drewN ?_ _ | refine blk_drew ?_ | refine blk_alloc ?_ _)); refine blk_put (cs := #[.int .u8 t615, .int .i64 0, .string (⟨#[]⟩ : ByteArray)]) ?_ 1 _ rfl; (with_reducible repeat (first | refine blk_drewN ?_ _ | refine blk_drew ?_ | refine blk_alloc ?_ _)); refine blk_put (cs := #[.int .u8 0, .int .i64 0, .string (⟨#[]⟩ : ByteArray)]) ?_ 0 _ rfl; (with_reducible repeat (first | refine blk_drewN ?_ _ | refine blk_drew ?_ | refine blk_alloc ?_ _)); exact BK619.out⟩, ⟨by repeat (first | (with_reducible first | exact HB.out | apply below_alloc | apply pw_below_drewN | apply below_drew1 | refine below_set ?_ GE591.out | refine below_set ?_ GE599.out | refine below_set ?_ GE604.out | refine below_set ?_ GE609.out | refine below_set ?_ GE614.out | refine below_set ?_ GE619.out) | exact HB.out)⟩⟩
                    · rw [if_neg c64] at H
                      have c64b0 : (t605 == t595 && (t606 == t596 && (t607.toList == t597.toList))) = false := by simpa using c64
                      (try (have c64b1 : decide (t605 = t595 && (t606 == t596 && (t607.toList == t597.toList))) = false := by simpa using c64))
                      (try (have c64b2 : (t605 == t595 && (t606 == t596 && (t607.toList == t597.toList))) = false := by simpa using c64))
                      (try (have c64b3 : ¬ (t605 = t595 && (t606 == t596 && (t607.toList == t597.toList))) := by simpa using c64))
                      clear c64
                      have H' := Aside0.mk H
                      clear H
                      have hnb153 := NB604_591.out
                      have hnc153 := NB591_604.out
                      have hnb154 := NB604_599.out
                      have hnc154 := NB599_604.out
                      have hnb155 := NB604_609.out
                      have hnc155 := NB609_604.out
                      have hnb156 := NB604_614.out
                      have hnc156 := NB614_604.out
                      have hnb157 := NB604_619.out
                      have hnc157 := NB619_604.out
                      have hcz158_0 : w56.cell? ⟨gb604, 0, none⟩ = some (.int .u8 t600) := (blk_cell BK604.out 0).trans rfl
                      have hcz158_1 : w56.cell? ⟨gb604, 1, none⟩ = some (.int .i64 t601) := (blk_cell BK604.out 1).trans rfl
                      have hcz158_2 : w56.cell? ⟨gb604, 2, none⟩ = some (.string t602) := (blk_cell BK604.out 2).trans rfl
                      have hfz158_0 := blk_frozen BK604.out 0
                      have hfz158_1 := blk_frozen BK604.out 1
                      have hfz158_2 := blk_frozen BK604.out 2
                      have hnb159 := NB591_599.out
                      have hnc159 := NB599_591.out
                      have hnb160 := NB591_609.out
                      have hnc160 := NB609_591.out
                      have hnb161 := NB591_614.out
                      have hnc161 := NB614_591.out
                      have hnb162 := NB591_619.out
                      have hnc162 := NB619_591.out
                      have hcz163_0 : w56.cell? ⟨gb591, 0, none⟩ = some (.int .u8 t587) := (blk_cell BK591.out 0).trans rfl
                      have hcz163_1 : w56.cell? ⟨gb591, 1, none⟩ = some (.int .i64 t588) := (blk_cell BK591.out 1).trans rfl
                      have hcz163_2 : w56.cell? ⟨gb591, 2, none⟩ = some (.string t589) := (blk_cell BK591.out 2).trans rfl
                      have hfz163_0 := blk_frozen BK591.out 0
                      have hfz163_1 := blk_frozen BK591.out 1
                      have hfz163_2 := blk_frozen BK591.out 2
                      have hnb164 := NB609_599.out
                      have hnc164 := NB599_609.out
                      have hnb165 := NB609_614.out
                      have hnc165 := NB614_609.out
                      have hnb166 := NB609_619.out
                      have hnc166 := NB619_609.out
                      have hcz167_0 : w56.cell? ⟨gb609, 0, none⟩ = some (.int .u8 t605) := (blk_cell BK609.out 0).trans rfl
                      have hcz167_1 : w56.cell? ⟨gb609, 1, none⟩ = some (.int .i64 t606) := (blk_cell BK609.out 1).trans rfl
                      have hcz167_2 : w56.cell? ⟨gb609, 2, none⟩ = some (.string t607) := (blk_cell BK609.out 2).trans rfl
                      have hfz167_0 := blk_frozen BK609.out 0
                      have hfz167_1 := blk_frozen BK609.out 1
                      have hfz167_2 := blk_frozen BK609.out 2
                      have hnb168 := NB599_614.out
                      have hnc168 := NB614_599.out
                      have hnb169 := NB599_619.out
                      have hnc169 := NB619_599.out
                      have hcz170_0 : w56.cell? ⟨gb599, 0, none⟩ = some (.int .u8 t595) := (blk_cell BK599.out 0).trans rfl
                      have hcz170_1 : w56.cell? ⟨gb599, 1, none⟩ = some (.int .i64 t596) := (blk_cell BK599.out 1).trans rfl
                      have hcz170_2 : w56.cell? ⟨gb599, 2, none⟩ = some (.string t597) := (blk_cell BK599.out 2).trans rfl
                      have hfz170_0 := blk_frozen BK599.out 0
                      have hfz170_1 := blk_frozen BK599.out 1
                      have hfz170_2 := blk_frozen BK599.out 2
                      go_wp2
                      go_meet
                      case rel => exact ⟨_, (false), (by first | rfl | (simp; done) | (simp [*]; done)), H', ⟨by have := HJ10.out; first | omega | exact Nat.le_refl _⟩, ⟨by (with_reducible repeat (first | refine blk_drewN ?_ _ | refine blk_drew ?_ | refine blk_alloc ?_ _)); refine blk_far ?_ NB591_619.out _; (with_reducible repeat (first | refine blk_drewN ?_ _ | refine blk_drew ?_ | refine blk_alloc ?_ _)); refine blk_far ?_ NB591_619.out _; (with_reducible repeat (first | refine blk_drewN ?_ _ | refine blk_drew ?_ | refine blk_alloc ?_ _)); refine blk_far ?_ NB591_619.out _; (with_reducible repeat (first | refine blk_drewN ?_ _ | refine blk_drew ?_ | refine blk_alloc ?_ _)); exact BK591.out⟩, ⟨by (with_reducible repeat (first | refine blk_drewN ?_ _ | refine blk_drew ?_ | refine blk_alloc ?_ _)); refine blk_far ?_ NB599_619.out _; (with_reducible repeat (first | refine blk_drewN ?_ _ | refine blk_drew ?_ | refine blk_alloc ?_ _)); refine blk_far ?_ NB599_619.out _; (with_reducible repeat (first | refine blk_drewN ?_ _ | refine blk_drew ?_ | refine blk_alloc ?_ _)); refine blk_far ?_ NB599_619.out _; (with_reducible repeat (first | refine blk_drewN ?_ _ | refine blk_drew ?_ | refine blk_alloc ?_ _)); exact BK599.out⟩, ⟨by (with_reducible repeat (first | refine blk_drewN ?_ _ | refine blk_drew ?_ | refine blk_alloc ?_ _)); refine blk_far ?_ NB604_619.out _; (with_reducible repeat (first | refine blk_drewN ?_ _ | refine blk_drew ?_ | refine blk_alloc ?_ _)); refine blk_far ?_ NB604_619.out _; (with_reducible repeat (first | refine blk_drewN ?_ _ | refine blk_drew ?_ | refine blk_alloc ?_ _)); refine blk_far ?_ NB604_619.out _; (with_reducible repeat (first | refine blk_drewN ?_ _ | refine blk_drew ?_ | refine blk_alloc ?_ _)); exact BK604.out⟩, ⟨by (with_reducible repeat (first | refine blk_drewN ?_ _ | refine blk_drew ?_ | refine blk_alloc ?_ _)); refine blk_far ?_ NB609_619.out _; (with_reducible repeat (first | refine blk_drewN ?_ _ | refine blk_drew ?_ | refine blk_alloc ?_ _)); refine blk_far ?_ NB609_619.out _; (with_reducible repeat (first | refine blk_drewN ?_ _ | refine blk_drew ?_ | refine blk_alloc ?_ _)); refine blk_far ?_ NB609_619.out _; (with_reducible repeat (first | refine blk_drewN ?_ _ | refine blk_drew ?_ | refine blk_alloc ?_ _)); exact BK609.out⟩, ⟨by (with_reducible repeat (first | refine blk_drewN ?_ _ | refine blk_drew ?_ | refine blk_alloc ?_ _)); refine blk_far ?_ NB614_619.out _; (with_reducible repeat (first | refine blk_drewN ?_ _ | refine blk_drew ?_ | refine blk_alloc ?_ _)); refine blk_far ?_ NB614_619.out _; (with_reducible repeat (first | refine blk_drewN ?_ _ | refine blk_drew ?_ | refine blk_alloc ?_ _)); refine blk_far ?_ NB614_619.out _; (with_reducible repeat (first | refine blk_drewN ?_ _ | refine blk_drew ?_ | refine blk_alloc ?_ _)); exact BK614.out⟩, ⟨by (with_reducible repeat (first | refine blk_drewN ?_ _ | refine blk_drew ?_ | refine blk_alloc ?_ _)); refine blk_put (cs := #[.int .u8 t615, .int .i64 t616, .string (⟨#[]⟩ : ByteArray)]) ?_ 2 _ rfl; (with_reducible repeat (first | refine blk_drewN ?_ _ | refine blk_drew ?_ | refine blk_alloc ?_ _)); refine blk_put (cs := #[.int .u8 t615, .int .i64 0, .string (⟨#[]⟩ : ByteArray)]) ?_ 1 _ rfl; (with_reducible repeat (first | refine blk_drewN ?_ _ | refine blk_drew ?_ | refine blk_alloc ?_ _)); refine blk_put (cs := #[.int .u8 0, .int .i64 0, .string (⟨#[]⟩ : ByteArray)]) ?_ 0 _ rfl; (with_reducible repeat (first | refine blk_drewN ?_ _ | refine blk_drew ?_ | refine blk_alloc ?_ _)); exact BK619.out⟩, ⟨by repeat (first | (with_reducible first | exact HB.out | apply below_alloc | apply pw_below_drewN | apply below_drew1 | refine below_set ?_ GE591.out | refine below_set ?_ GE599.out | refine below_set ?_ GE604.out | refine below_set ?_ GE609.out | refine below_set ?_ GE614.out | refine below_set ?_ GE619.out) | exact HB.out)⟩⟩
                  · rw [if_neg c63] at H
                    have c63b0 : (t600 == t587 && (t601 == t588 && (t602.toList == t589.toList))) = false := by simpa using c63
                    (try (have c63b1 : decide (t600 = t587 && (t601 == t588 && (t602.toList == t589.toList))) = false := by simpa using c63))
                    (try (have c63b2 : (t600 == t587 && (t601 == t588 && (t602.toList == t589.toList))) = false := by simpa using c63))
                    (try (have c63b3 : ¬ (t600 = t587 && (t601 == t588 && (t602.toList == t589.toList))) := by simpa using c63))
                    clear c63
                    (first | rw [c63b0] | (simp only [i64_w, i32_w]; rw [c63b0]) | skip)
                    have H' := Aside0.mk H
                    clear H
                    have hnb171 := NB604_591.out
                    have hnc171 := NB591_604.out
                    have hnb172 := NB604_599.out
                    have hnc172 := NB599_604.out
                    have hnb173 := NB604_609.out
                    have hnc173 := NB609_604.out
                    have hnb174 := NB604_614.out
                    have hnc174 := NB614_604.out
                    have hnb175 := NB604_619.out
                    have hnc175 := NB619_604.out
                    have hcz176_0 : w56.cell? ⟨gb604, 0, none⟩ = some (.int .u8 t600) := (blk_cell BK604.out 0).trans rfl
                    have hcz176_1 : w56.cell? ⟨gb604, 1, none⟩ = some (.int .i64 t601) := (blk_cell BK604.out 1).trans rfl
                    have hcz176_2 : w56.cell? ⟨gb604, 2, none⟩ = some (.string t602) := (blk_cell BK604.out 2).trans rfl
                    have hfz176_0 := blk_frozen BK604.out 0
                    have hfz176_1 := blk_frozen BK604.out 1
                    have hfz176_2 := blk_frozen BK604.out 2
                    have hnb177 := NB591_599.out
                    have hnc177 := NB599_591.out
                    have hnb178 := NB591_609.out
                    have hnc178 := NB609_591.out
                    have hnb179 := NB591_614.out
                    have hnc179 := NB614_591.out
                    have hnb180 := NB591_619.out
                    have hnc180 := NB619_591.out
                    have hcz181_0 : w56.cell? ⟨gb591, 0, none⟩ = some (.int .u8 t587) := (blk_cell BK591.out 0).trans rfl
                    have hcz181_1 : w56.cell? ⟨gb591, 1, none⟩ = some (.int .i64 t588) := (blk_cell BK591.out 1).trans rfl
                    have hcz181_2 : w56.cell? ⟨gb591, 2, none⟩ = some (.string t589) := (blk_cell BK591.out 2).trans rfl
                    have hfz181_0 := blk_frozen BK591.out 0
                    have hfz181_1 := blk_frozen BK591.out 1
                    have hfz181_2 := blk_frozen BK591.out 2
                    go_wp2
                    go_meet
                    case rel => exact ⟨_, (false), (by first | rfl | (simp; done) | (simp [*]; done)), H', ⟨by have := HJ10.out; first | omega | exact Nat.le_refl _⟩, ⟨by (with_reducible repeat (first | refine blk_drewN ?_ _ | refine blk_drew ?_ | refine blk_alloc ?_ _)); refine blk_far ?_ NB591_619.out _; (with_reducible repeat (first | refine blk_drewN ?_ _ | refine blk_drew ?_ | refine blk_alloc ?_ _)); refine blk_far ?_ NB591_619.out _; (with_reducible repeat (first | refine blk_drewN ?_ _ | refine blk_drew ?_ | refine blk_alloc ?_ _)); refine blk_far ?_ NB591_619.out _; (with_reducible repeat (first | refine blk_drewN ?_ _ | refine blk_drew ?_ | refine blk_alloc ?_ _)); exact BK591.out⟩, ⟨by (with_reducible repeat (first | refine blk_drewN ?_ _ | refine blk_drew ?_ | refine blk_alloc ?_ _)); refine blk_far ?_ NB599_619.out _; (with_reducible repeat (first | refine blk_drewN ?_ _ | refine blk_drew ?_ | refine blk_alloc ?_ _)); refine blk_far ?_ NB599_619.out _; (with_reducible repeat (first | refine blk_drewN ?_ _ | refine blk_drew ?_ | refine blk_alloc ?_ _)); refine blk_far ?_ NB599_619.out _; (with_reducible repeat (first | refine blk_drewN ?_ _ | refine blk_drew ?_ | refine blk_alloc ?_ _)); exact BK599.out⟩, ⟨by (with_reducible repeat (first | refine blk_drewN ?_ _ | refine blk_drew ?_ | refine blk_alloc ?_ _)); refine blk_far ?_ NB604_619.out _; (with_reducible repeat (first | refine blk_drewN ?_ _ | refine blk_drew ?_ | refine blk_alloc ?_ _)); refine blk_far ?_ NB604_619.out _; (with_reducible repeat (first | refine blk_drewN ?_ _ | refine blk_drew ?_ | refine blk_alloc ?_ _)); refine blk_far ?_ NB604_619.out _; (with_reducible repeat (first | refine blk_drewN ?_ _ | refine blk_drew ?_ | refine blk_alloc ?_ _)); exact BK604.out⟩, ⟨by (with_reducible repeat (first | refine blk_drewN ?_ _ | refine blk_drew ?_ | refine blk_alloc ?_ _)); refine blk_far ?_ NB609_619.out _; (with_reducible repeat (first | refine blk_drewN ?_ _ | refine blk_drew ?_ | refine blk_alloc ?_ _)); refine blk_far ?_ NB609_619.out _; (with_reducible repeat (first | refine blk_drewN ?_ _ | refine blk_drew ?_ | refine blk_alloc ?_ _)); refine blk_far ?_ NB609_619.out _; (with_reducible repeat (first | refine blk_drewN ?_ _ | refine blk_drew ?_ | refine blk_alloc ?_ _)); exact BK609.out⟩, ⟨by (with_reducible repeat (first | refine blk_drewN ?_ _ | refine blk_drew ?_ | refine blk_alloc ?_ _)); refine blk_far ?_ NB614_619.out _; (with_reducible repeat (first | refine blk_drewN ?_ _ | refine blk_drew ?_ | refine blk_alloc ?_ _)); refine blk_far ?_ NB614_619.out _; (with_reducible repeat (first | refine blk_drewN ?_ _ | refine blk_drew ?_ | refine blk_alloc ?_ _)); refine blk_far ?_ NB614_619.out _; (with_reducible repeat (first | refine blk_drewN ?_ _ | refine blk_drew ?_ | refine blk_alloc ?_ _)); exact BK614.out⟩, ⟨by (with_reducible repeat (first | refine blk_drewN ?_ _ | refine blk_drew ?_ | refine blk_alloc ?_ _)); refine blk_put (cs := #[.int .u8 t615, .int .i64 t616, .string (⟨#[]⟩ : ByteArray)]) ?_ 2 _ rfl; (with_reducible repeat (first | refine blk_drewN ?_ _ | refine blk_drew ?_ | refine blk_alloc ?_ _)); refine blk_put (cs := #[.int .u8 t615, .int .i64 0, .string (⟨#[]⟩ : ByteArray)]) ?_ 1 _ rfl; (with_reducible repeat (first | refine blk_drewN ?_ _ | refine blk_drew ?_ | refine blk_alloc ?_ _)); refine blk_put (cs := #[.int .u8 0, .int .i64 0, .string (⟨#[]⟩ : ByteArray)]) ?_ 0 _ rfl; (with_reducible repeat (first | refine blk_drewN ?_ _ | refine blk_drew ?_ | refine blk_alloc ?_ _)); exact BK619.out⟩, ⟨by repeat (first | (with_reducible first | exact HB.out | apply below_alloc | apply pw_below_drewN | apply below_drew1 | refine below_set ?_ GE591.out | refine below_set ?_ GE599.out | refine below_set ?_ GE604.out | refine below_set ?_ GE609.out | refine below_set ?_ GE614.out | refine below_set ?_ GE619.out) | exact HB.out)⟩⟩
                case rest =>
                  clear HC31
                  try clear c1
                  try clear c2
                  try clear p2
                  try clear c3
                  try clear c4
                  try clear c4b0
                  try clear c5
                  try clear c5b0
                  try clear p5
                  try clear q5
                  try clear hx5
                  try clear c6
                  try clear c6b0
                  try clear c6b1
                  try clear c6b2
                  try clear c7
                  try clear c8
                  try clear c9
                  try clear c10
                  try clear c11
                  try clear c12
                  try clear c13
                  try clear c14
                  try clear c15
                  try clear c16
                  try clear c17
                  try clear c18
                  try clear c22
                  try clear c24
                  try clear c24b0
                  try clear c24b1
                  try clear c25
                  try clear c26
                  try clear c26b0
                  try clear c26b1
                  try clear c26b2
                  try clear c32
                  try clear c33
                  try clear c36
                  try clear c37
                  try clear c38
                  try clear c42
                  try clear c43
                  try clear c44
                  try clear c49
                  try clear c50
                  try clear c51
                  try clear c52
                  try clear c57
                  try clear c58
                  try clear p58
                  try clear q58
                  try clear hx58
                  try clear c59
                  try clear c60
                  try clear c61
                  try clear c63
                  try clear c63b0
                  try clear c63b1
                  try clear c63b2
                  try clear c64
                  try clear c64b0
                  try clear c64b1
                  try clear c64b2
                  try clear c65
                  try clear c65b0
                  try clear c65b1
                  try clear c65b2
                  try clear c66
                  try clear c66b0
                  try clear c66b1
                  try clear c66b2
                  try clear c67
                  try clear c67b0
                  try clear c69
                  try clear c70
                  try clear c71
                  try clear c72
                  try clear c73
                  try clear c75
                  try clear c76
                  try clear c77
                  try clear c78
                  try clear c80
                  try clear c81
                  try clear c82
                  try clear c84
                  try clear c85
                  try clear c87
                  try clear c91
                  try clear c92
                  try clear c93
                  try clear c94
                  try clear c95
                  try clear c97
                  try clear c98
                  try clear c99
                  try clear c100
                  try clear c102
                  try clear c103
                  try clear c104
                  try clear c106
                  try clear c107
                  try clear c109
                  try clear c112
                  try clear c113
                  try clear c114
                  try clear c115
                  try clear c116
                  try clear c118
                  try clear c119
                  try clear c120
                  try clear c121
                  try clear c123
                  try clear c124
                  try clear c125
                  try clear c127
                  try clear c128
                  try clear c130
                  try clear c133
                  try clear c134
                  try clear c135
                  try clear c136
                  try clear c137
                  try clear c139
                  try clear c140
                  try clear c141
                  try clear c142
                  try clear c144
                  try clear c145
                  try clear c146
                  try clear c148
                  try clear c149
                  try clear c151
                  try clear c153
                  try clear c154
                  try clear c155
                  try clear c156
                  try clear c157
                  try clear c159
                  try clear c160
                  try clear c161
                  try clear c162
                  try clear c164
                  try clear c165
                  try clear c166
                  try clear c168
                  try clear c169
                  try clear c171
                  try clear c172
                  try clear c173
                  try clear c174
                  try clear c175
                  try clear c177
                  try clear c178
                  try clear c179
                  try clear c180
                  try clear hcz101_0
                  try clear hcz101_1
                  try clear hcz101_2
                  try clear hcz105_0
                  try clear hcz105_1
                  try clear hcz105_2
                  try clear hcz108_0
                  try clear hcz108_1
                  try clear hcz108_2
                  try clear hcz110_0
                  try clear hcz110_1
                  try clear hcz110_2
                  try clear hcz111_0
                  try clear hcz111_1
                  try clear hcz111_2
                  try clear hcz117_0
                  try clear hcz117_1
                  try clear hcz117_2
                  try clear hcz122_0
                  try clear hcz122_1
                  try clear hcz122_2
                  try clear hcz126_0
                  try clear hcz126_1
                  try clear hcz126_2
                  try clear hcz129_0
                  try clear hcz129_1
                  try clear hcz129_2
                  try clear hcz131_0
                  try clear hcz131_1
                  try clear hcz131_2
                  try clear hcz132_0
                  try clear hcz132_1
                  try clear hcz132_2
                  try clear hcz138_0
                  try clear hcz138_1
                  try clear hcz138_2
                  try clear hcz143_0
                  try clear hcz143_1
                  try clear hcz143_2
                  try clear hcz147_0
                  try clear hcz147_1
                  try clear hcz147_2
                  try clear hcz150_0
                  try clear hcz150_1
                  try clear hcz150_2
                  try clear hcz152_0
                  try clear hcz152_1
                  try clear hcz152_2
                  try clear hcz158_0
                  try clear hcz158_1
                  try clear hcz158_2
                  try clear hcz163_0
                  try clear hcz163_1
                  try clear hcz163_2
                  try clear hcz167_0
                  try clear hcz167_1
                  try clear hcz167_2
                  try clear hcz170_0
                  try clear hcz170_1
                  try clear hcz170_2
                  try clear hcz176_0
                  try clear hcz176_1
                  try clear hcz176_2
                  try clear hcz181_0
                  try clear hcz181_1
                  try clear hcz181_2
                  try clear hcz18_0
                  try clear hcz18_1
                  try clear hcz18_2
                  try clear hcz23_0
                  try clear hcz23_1
                  try clear hcz23_2
                  try clear hcz33_0
                  try clear hcz33_1
                  try clear hcz33_2
                  try clear hcz38_0
                  try clear hcz38_1
                  try clear hcz38_2
                  try clear hcz39_0
                  try clear hcz39_1
                  try clear hcz39_2
                  try clear hcz45_0
                  try clear hcz45_1
                  try clear hcz45_2
                  try clear hcz46_0
                  try clear hcz46_1
                  try clear hcz46_2
                  try clear hcz53_0
                  try clear hcz53_1
                  try clear hcz53_2
                  try clear hcz54_0
                  try clear hcz54_1
                  try clear hcz54_2
                  try clear hcz62_0
                  try clear hcz62_1
                  try clear hcz62_2
                  try clear hcz74_0
                  try clear hcz74_1
                  try clear hcz74_2
                  try clear hcz79_0
                  try clear hcz79_1
                  try clear hcz79_2
                  try clear hcz83_0
                  try clear hcz83_1
                  try clear hcz83_2
                  try clear hcz86_0
                  try clear hcz86_1
                  try clear hcz86_2
                  try clear hcz88_0
                  try clear hcz88_1
                  try clear hcz88_2
                  try clear hcz89_0
                  try clear hcz89_1
                  try clear hcz89_2
                  try clear hcz96_0
                  try clear hcz96_1
                  try clear hcz96_2
                  try clear hfz101_0
                  try clear hfz101_1
                  try clear hfz101_2
                  try clear hfz105_0
                  try clear hfz105_1
                  try clear hfz105_2
                  try clear hfz108_0
                  try clear hfz108_1
                  try clear hfz108_2
                  try clear hfz110_0
                  try clear hfz110_1
                  try clear hfz110_2
                  try clear hfz111_0
                  try clear hfz111_1
                  try clear hfz111_2
                  try clear hfz117_0
                  try clear hfz117_1
                  try clear hfz117_2
                  try clear hfz122_0
                  try clear hfz122_1
                  try clear hfz122_2
                  try clear hfz126_0
                  try clear hfz126_1
                  try clear hfz126_2
                  try clear hfz129_0
                  try clear hfz129_1
                  try clear hfz129_2
                  try clear hfz131_0
                  try clear hfz131_1
                  try clear hfz131_2
                  try clear hfz132_0
                  try clear hfz132_1
                  try clear hfz132_2
                  try clear hfz138_0
                  try clear hfz138_1
                  try clear hfz138_2
                  try clear hfz143_0
                  try clear hfz143_1
                  try clear hfz143_2
                  try clear hfz147_0
                  try clear hfz147_1
                  try clear hfz147_2
                  try clear hfz150_0
                  try clear hfz150_1
                  try clear hfz150_2
                  try clear hfz152_0
                  try clear hfz152_1
                  try clear hfz152_2
                  try clear hfz158_0
                  try clear hfz158_1
                  try clear hfz158_2
                  try clear hfz163_0
                  try clear hfz163_1
                  try clear hfz163_2
                  try clear hfz167_0
                  try clear hfz167_1
                  try clear hfz167_2
                  try clear hfz170_0
                  try clear hfz170_1
                  try clear hfz170_2
                  try clear hfz176_0
                  try clear hfz176_1
                  try clear hfz176_2
                  try clear hfz181_0
                  try clear hfz181_1
                  try clear hfz181_2
                  try clear hfz18_0
                  try clear hfz18_1
                  try clear hfz18_2
                  try clear hfz23_0
                  try clear hfz23_1
                  try clear hfz23_2
                  try clear hfz33_0
                  try clear hfz33_1
                  try clear hfz33_2
                  try clear hfz38_0
                  try clear hfz38_1
                  try clear hfz38_2
                  try clear hfz39_0
                  try clear hfz39_1
                  try clear hfz39_2
                  try clear hfz45_0
                  try clear hfz45_1
                  try clear hfz45_2
                  try clear hfz46_0
                  try clear hfz46_1
                  try clear hfz46_2
                  try clear hfz53_0
                  try clear hfz53_1
                  try clear hfz53_2
                  try clear hfz54_0
                  try clear hfz54_1
                  try clear hfz54_2
                  try clear hfz62_0
                  try clear hfz62_1
                  try clear hfz62_2
                  try clear hfz74_0
                  try clear hfz74_1
                  try clear hfz74_2
                  try clear hfz79_0
                  try clear hfz79_1
                  try clear hfz79_2
                  try clear hfz83_0
                  try clear hfz83_1
                  try clear hfz83_2
                  try clear hfz86_0
                  try clear hfz86_1
                  try clear hfz86_2
                  try clear hfz88_0
                  try clear hfz88_1
                  try clear hfz88_2
                  try clear hfz89_0
                  try clear hfz89_1
                  try clear hfz89_2
                  try clear hfz96_0
                  try clear hfz96_1
                  try clear hfz96_2
                  try clear hx583_0
                  try clear p2
                  try clear p5
                  try clear p583
                  try clear q5
                  try clear q583
                  obtain ⟨kq, x4_30, rfl, HA, HJ30, BK591, BK599, BK604, BK609, BK614, BK619, HB⟩ := hcut
                  cases kq with
                  | zero => exact absurd HA.out (by simp [sacristanlaw01_ValueNarrow.j1])
                  | succ kj30 =>
                    have H := HA.out
                    clear HA
                    simp only [sacristanlaw01_ValueNarrow.j1] at H
                    obtain rfl := Option.some.inj H
                    go_wp2
                    go_ret
                    exact ⟨by first | rfl | (simp [errW_none, errW_some] <;> rfl) | (simp only [← hji3]; first | rfl | (simp [errW_none, errW_some] <;> rfl)) | (simp [*, errW_none, errW_some] <;> rfl), by repeat (first | (with_reducible first | exact HB.out | apply below_alloc | apply pw_below_drewN | apply below_drew1 | refine below_set ?_ GE591.out | refine below_set ?_ GE599.out | refine below_set ?_ GE604.out | refine below_set ?_ GE609.out | refine below_set ?_ GE614.out | refine below_set ?_ GE619.out) | exact HB.out)⟩
              · rw [if_neg c26] at H
                exact absurd H (by simp)
      · rw [if_neg c6] at H
        exact absurd H (by simp)
    · rw [if_neg c5] at H
      exact absurd H (by simp)
  · rw [if_neg c4] at H
    exact absurd H (by simp)

/-- THE ONE PURE STATEMENT of sacristanlaw01_ValueNarrow: yours. -/
def sacristanlaw01_ValueNarrow.Pure : Prop := ∀ (a0 : Int) (a1 : Int), (Lit.int .u8 a0).wf = true → (Lit.int .i64 a1).wf = true → ∃ k, sacristanlaw01_ValueNarrow.f k a0 a1 = some true
theorem sacristanlaw01_ValueNarrow.walk (P : sacristanlaw01_ValueNarrow.Pure) (a0 : Int) (a1 : Int) (w : World) (w0 : (Lit.int .u8 a0).wf = true) (w1 : (Lit.int .i64 a1).wf = true) :
    Calls Try.prog 12 #[.int .u8 a0, .int .i64 a1] w fun e w' => e = .returned (.bool true) ∧ Below w.heap.size w w' := by
  obtain ⟨k, h⟩ := P a0 a1 w0 w1
  refine (sacristanlaw01_ValueNarrow.calls k a0 a1 true w h).mono ?_
  rintro e w' ⟨rfl, hd⟩
  exact ⟨rfl, hd⟩

end Go.Proofs.Ytahcnpjgbhpbeaa.PV
