-- Own text: made by this session's variant of the printer (wip/mkpp.py); Lean checks it.
import Derived.Test.YtjkjbfhhfdbnoaaPBx0
import Derived.Test.YtjkjbfhhfdbnoaaPBx4
namespace Go.Proofs.Ytjkjbfhhfdbnoaa.PB
open Go.RowKit Go.Proofs.YtjkjbfhhfdbnoaaW.PrintWords Go.Proofs.YtjkjbfhhfdbnoaaW.PrintLast Go.Proofs.YtjkjbfhhfdbnoaaW.PrintMore Go.Proofs.YtjkjbfhhfdbnoaaW.Own
attribute [local go_sem high] own_gtr own_leq own_geq
attribute [local go_sem] max2_int min2_int max_two min_two max_three min_three max_four min_four   -- for this text's walks alone
set_option linter.unusedVariables false
set_option linter.unusedSimpArgs false

/-! ### sacristanref15_Right: function 39 -/
def sacristanref15_Right.l0 : Nat → List (S37) → Int → Int → Option (Bool)
  | 0, _, _, _ => none
  | k + 1, x0, x5, x6 => if x6 < x5 then (if 0 ≤ x6 then (if x6 < (x0.length : Int) then ((sacristanref01_May.f k ((rd_T37 x0 x6).f0) ((rd_T37 x0 x6).f1) ((rd_T37 x0 x6).f2)).bind fun t107 => (if t107 = true then (if (((rd_T37 x0 x6).f2).size : Int) > 1000 then (some false) else (sacristanref15_Right.l0 k x0 x5 (wrap64 (x6 + 1)))) else (some false))) else (none)) else (none)) else (some true)
def sacristanref15_Right.f (k : Nat) (l0 : List (S37)) : Option (Bool) := sacristanref15_Right.l0 k l0 (l0.length : Int) 0
theorem sacristanref15_Right.mono_l : ∀ k, (∀ y0 y1 y2, LeO (sacristanref15_Right.l0 k y0 y1 y2) (sacristanref15_Right.l0 (k + 1) y0 y1 y2))
  | 0 => fun _ _ _ r h => by simp [sacristanref15_Right.l0] at h
  | k + 1 => by
    have ih0 := sacristanref15_Right.mono_l k
    · intro y0 y1 y2
      unfold sacristanref15_Right.l0
      repeat' first | (with_reducible exact ih0 _ _ _) | (with_reducible exact sacristanref01_May.mono _ _ _ _) | (with_reducible exact LeO.refl _) | (with_reducible refine LeO.ite ?_ ?_) | (with_reducible refine LeO.bind ?_ (fun _ => ?_))
theorem sacristanref15_Right.mono : ∀ a0 k, LeO (sacristanref15_Right.f k a0) (sacristanref15_Right.f (k + 1) a0) := by
  intro a0 k
  have ih0 := sacristanref15_Right.mono_l k
  unfold sacristanref15_Right.f
  repeat' (with_reducible exact ih0 _ _ _)
set_option maxHeartbeats 8000000 in
set_option maxRecDepth 100000 in
theorem sacristanref15_Right.calls (k : Nat) (A0 : Option Addr) (c0 : Nat) (l0 : List (S37)) (r : Bool) (w : World) (hr0 : Kd.C k37 w A0 l0.length l0) (hc0 : l0.length ≤ c0) (h : sacristanref15_Right.f k l0 = some r) :
    Calls Try.prog 39 #[.slice A0 l0.length c0] w fun e w' => e = .returned (.bool r) ∧ Below w.heap.size w w' := by
  have hu37 := Try.underlying37
  have HR0 := Aside0.mk hr0
  have HC0 := Aside0.mk hc0
  clear hr0 hc0
  have HB := Aside0.mk (Below.refl w.heap.size w)
  have H : (sacristanref15_Right.l0 k l0 (l0.length : Int) 0) = some r := h
  clear h
  have H' := Aside0.mk H
  clear H
  go_enter Try.func39, Try.ntmps39
  go_wp2
  go_loopg [6] k (fun kq v6 w' => ∃ (x6_1 : Int), v6 = .int .i64 x6_1 ∧ Aside0 (sacristanref15_Right.l0 kq l0 (l0.length : Int) x6_1 = some r) ∧ Aside0 (kq ≤ k) ∧ Aside0 (Below w.heap.size w w'))
  case atStart => exact ⟨(0), (by rfl), H', ⟨Nat.le_refl _⟩, ⟨by repeat ((with_reducible exact HB.out))⟩⟩
  case round =>
    clear H'
    obtain ⟨x6_1, rfl, HA, HK1, HB⟩ := hrel
    cases gk with
    | zero => exact absurd HA.out (by simp [sacristanref15_Right.l0])
    | succ k1 =>
      have H := HA.out
      clear HA
      simp only [sacristanref15_Right.l0] at H
      by_cases c2 : x6_1 < (l0.length : Int)
      · rw [if_pos c2] at H
        have c2b0 : decide (x6_1 < (l0.length : Int)) = true := decide_eq_true c2
        clear c2
        by_cases c3 : 0 ≤ x6_1
        · rw [if_pos c3] at H
          have c3b0 : decide (0 ≤ x6_1) = true := decide_eq_true c3
          clear c3
          by_cases c4 : x6_1 < (l0.length : Int)
          · rw [if_pos c4] at H
            have c4b0 : decide (x6_1 < (l0.length : Int)) = true := decide_eq_true c4
            clear c4
            replace H := Option.bind_eq_some_iff.mp H
            obtain ⟨t107, A50, H⟩ := H
            have A5 := Aside0.mk A50
            clear A50
            by_cases c6 : t107 = true
            · subst c6
              have H1 : (if (((rd_T37 l0 x6_1).f2).size : Int) > 1000 then (some false) else (sacristanref15_Right.l0 k1 l0 (l0.length : Int) (wrap64 (x6_1 + 1)))) = some r := by rw [if_pos rfl] at H; exact H
              clear H
              have H := H1
              clear H1
              by_cases c7 : (((rd_T37 l0 x6_1).f2).size : Int) > 1000
              · rw [if_pos c7] at H
                have c7b0 : decide (1000 < (((rd_T37 l0 x6_1).f2).size : Int)) = true := decide_eq_true c7
                have c7b1 : decide (1000 < ((rd_T37 l0 x6_1).f2).size) = true := decide_eq_true (by omega)
                clear c7
                obtain rfl := Option.some.inj H
                have p106 : 0 ≤ (x6_1 : Int) := of_decide_eq_true (by (with_reducible assumption))
                have q106 : x6_1 < (l0.length : Int) := of_decide_eq_true (by (with_reducible assumption))
                obtain ⟨ad106, e106, hx106_0, hx106_1, hx106_2⟩ := at_T37 HR0.out x6_1 p106 q106
                cases e106
                replace hx106_0 := (HB.out.cell (World.block_lt_of_cell? w _ hx106_0)).trans hx106_0
                replace hx106_1 := (HB.out.cell (World.block_lt_of_cell? w _ hx106_1)).trans hx106_1
                replace hx106_2 := (HB.out.cell (World.block_lt_of_cell? w _ hx106_2)).trans hx106_2
                replace p106 := eq_true p106
                replace q106 := eq_true q106
                go_wp2_with (((with_reducible refine gate_callee (f := 63) rfl ?_); refine goesL_ (some 13) rfl rfl Try.func63 (by kernel_rfl) rfl #[.agg #[.int .u8 ((rd_T37 l0 x6_1).f0), .int .i64 ((rd_T37 l0 x6_1).f1), .string ((rd_T37 l0 x6_1).f2)]] rfl (by (try simp only [List.map_toArray, List.map_cons, List.map_nil]); rfl) ?_; (with_reducible refine (sacristanref01_May.calls k1 ((rd_T37 l0 x6_1).f0) ((rd_T37 l0 x6_1).f1) ((rd_T37 l0 x6_1).f2) true _ A5.out).mono ?_); rintro e w8 ⟨rfl, hb⟩; refine ⟨_, rfl, ?_⟩; have n0_ := Aside0.mk (below_step (by repeat ((with_reducible exact HB.out))) hb); clear HB; have HB := n0_; clear n0_; (try clear hb); have p108 : 0 ≤ (x6_1 : Int) := of_decide_eq_true (by (with_reducible assumption)); have q108 : x6_1 < (l0.length : Int) := of_decide_eq_true (by (with_reducible assumption)); obtain ⟨ad108, e108, hx108_0, hx108_1, hx108_2⟩ := at_T37 HR0.out x6_1 p108 q108; obtain rfl : ad106 = ad108 := (by injection e108); replace hx108_0 := (HB.out.cell (World.block_lt_of_cell? w _ hx108_0)).trans hx108_0; replace hx108_1 := (HB.out.cell (World.block_lt_of_cell? w _ hx108_1)).trans hx108_1; replace hx108_2 := (HB.out.cell (World.block_lt_of_cell? w _ hx108_2)).trans hx108_2; replace p108 := eq_true p108; replace q108 := eq_true q108))
                go_ret
                exact ⟨by rfl, by repeat ((with_reducible exact HB.out))⟩
              rw [if_neg c7] at H
              have c7b0 : decide (1000 < (((rd_T37 l0 x6_1).f2).size : Int)) = false := decide_eq_false c7
              have c7b1 : decide (1000 < ((rd_T37 l0 x6_1).f2).size) = false := decide_eq_false (by omega)
              clear c7
              have H' := Aside0.mk H
              clear H
              have p106 : 0 ≤ (x6_1 : Int) := of_decide_eq_true (by (with_reducible assumption))
              have q106 : x6_1 < (l0.length : Int) := of_decide_eq_true (by (with_reducible assumption))
              obtain ⟨ad106, e106, hx106_0, hx106_1, hx106_2⟩ := at_T37 HR0.out x6_1 p106 q106
              cases e106
              replace hx106_0 := (HB.out.cell (World.block_lt_of_cell? w _ hx106_0)).trans hx106_0
              replace hx106_1 := (HB.out.cell (World.block_lt_of_cell? w _ hx106_1)).trans hx106_1
              replace hx106_2 := (HB.out.cell (World.block_lt_of_cell? w _ hx106_2)).trans hx106_2
              replace p106 := eq_true p106
              replace q106 := eq_true q106
              go_wp2_with (((with_reducible refine gate_callee (f := 63) rfl ?_); refine goesL_ (some 13) rfl rfl Try.func63 (by kernel_rfl) rfl #[.agg #[.int .u8 ((rd_T37 l0 x6_1).f0), .int .i64 ((rd_T37 l0 x6_1).f1), .string ((rd_T37 l0 x6_1).f2)]] rfl (by (try simp only [List.map_toArray, List.map_cons, List.map_nil]); rfl) ?_; (with_reducible refine (sacristanref01_May.calls k1 ((rd_T37 l0 x6_1).f0) ((rd_T37 l0 x6_1).f1) ((rd_T37 l0 x6_1).f2) true _ A5.out).mono ?_); rintro e w9 ⟨rfl, hb⟩; refine ⟨_, rfl, ?_⟩; have n0_ := Aside0.mk (below_step (by repeat ((with_reducible exact HB.out))) hb); clear HB; have HB := n0_; clear n0_; (try clear hb); have p108 : 0 ≤ (x6_1 : Int) := of_decide_eq_true (by (with_reducible assumption)); have q108 : x6_1 < (l0.length : Int) := of_decide_eq_true (by (with_reducible assumption)); obtain ⟨ad108, e108, hx108_0, hx108_1, hx108_2⟩ := at_T37 HR0.out x6_1 p108 q108; obtain rfl : ad106 = ad108 := (by injection e108); replace hx108_0 := (HB.out.cell (World.block_lt_of_cell? w _ hx108_0)).trans hx108_0; replace hx108_1 := (HB.out.cell (World.block_lt_of_cell? w _ hx108_1)).trans hx108_1; replace hx108_2 := (HB.out.cell (World.block_lt_of_cell? w _ hx108_2)).trans hx108_2; replace p108 := eq_true p108; replace q108 := eq_true q108))
              go_roundg k1
              case measure => have := HK1.out; omega
              case rel => exact ⟨(wrap64 (x6_1 + 1)), (by rfl), H', ⟨by have := HK1.out; omega⟩, ⟨by repeat ((with_reducible exact HB.out))⟩⟩
            replace c6 := Bool.eq_false_iff.mpr c6
            subst c6
            have H1 : (some false) = some r := by rw [if_neg (show ¬ (false = true) by decide)] at H; exact H
            clear H
            have H := H1
            clear H1
            obtain rfl := Option.some.inj H
            have p106 : 0 ≤ (x6_1 : Int) := of_decide_eq_true (by (with_reducible assumption))
            have q106 : x6_1 < (l0.length : Int) := of_decide_eq_true (by (with_reducible assumption))
            obtain ⟨ad106, e106, hx106_0, hx106_1, hx106_2⟩ := at_T37 HR0.out x6_1 p106 q106
            cases e106
            replace hx106_0 := (HB.out.cell (World.block_lt_of_cell? w _ hx106_0)).trans hx106_0
            replace hx106_1 := (HB.out.cell (World.block_lt_of_cell? w _ hx106_1)).trans hx106_1
            replace hx106_2 := (HB.out.cell (World.block_lt_of_cell? w _ hx106_2)).trans hx106_2
            replace p106 := eq_true p106
            replace q106 := eq_true q106
            go_wp2_with (((with_reducible refine gate_callee (f := 63) rfl ?_); refine goesL_ (some 13) rfl rfl Try.func63 (by kernel_rfl) rfl #[.agg #[.int .u8 ((rd_T37 l0 x6_1).f0), .int .i64 ((rd_T37 l0 x6_1).f1), .string ((rd_T37 l0 x6_1).f2)]] rfl (by (try simp only [List.map_toArray, List.map_cons, List.map_nil]); rfl) ?_; (with_reducible refine (sacristanref01_May.calls k1 ((rd_T37 l0 x6_1).f0) ((rd_T37 l0 x6_1).f1) ((rd_T37 l0 x6_1).f2) false _ A5.out).mono ?_); rintro e w10 ⟨rfl, hb⟩; refine ⟨_, rfl, ?_⟩; have n0_ := Aside0.mk (below_step (by repeat ((with_reducible exact HB.out))) hb); clear HB; have HB := n0_; clear n0_; (try clear hb)))
            go_ret
            exact ⟨by rfl, by repeat ((with_reducible exact HB.out))⟩
          rw [if_neg c4] at H
          exact absurd H (by simp)
        rw [if_neg c3] at H
        exact absurd H (by simp)
      rw [if_neg c2] at H
      have c2b0 : decide (x6_1 < (l0.length : Int)) = false := decide_eq_false c2
      clear c2
      obtain rfl := Option.some.inj H
      go_wp2
      go_ret
      exact ⟨by rfl, by repeat ((with_reducible exact HB.out))⟩

/-! ### sacristanlaw17_right: function 15 -/
def sacristanlaw17_right.l0 : Nat → List (S37) → List (S37) → Int → List (S37) → List (S54) → Option (Bool)
  | 0, _, _, _, _, _ => none
  | k + 1, x0, x1, x7, x110000, x110001 => if x7 < (x110001.length : Int) then (if 0 ≤ x7 then ((sacristanref15_Right.f k ((rd_T54 x110001 x7).f3)).bind fun t111 => (if t111 = true then (sacristanlaw17_right.l0 k x0 x1 (wrap64 (x7 + 1)) x110000 x110001) else (some false))) else (none)) else ((sacristanref15_Right.f k x0).bind fun t112 => (if t112 = true then ((sacristanref15_Right.f k x1).bind fun t113 => (if t113 = true then ((sacristanref15_Right.f k x110000).bind fun t114 => (some t114)) else (some false))) else (some false)))
def sacristanlaw17_right.f (k : Nat) (l0 : List (S37)) (l1 : List (S37)) (l2_0 : List (S37)) (l2_1 : List (S54)) : Option (Bool) := sacristanlaw17_right.l0 k l0 l1 0 l2_0 l2_1
theorem sacristanlaw17_right.mono_l : ∀ k, (∀ y0 y1 y2 y3 y4, LeO (sacristanlaw17_right.l0 k y0 y1 y2 y3 y4) (sacristanlaw17_right.l0 (k + 1) y0 y1 y2 y3 y4))
  | 0 => fun _ _ _ _ _ r h => by simp [sacristanlaw17_right.l0] at h
  | k + 1 => by
    have ih0 := sacristanlaw17_right.mono_l k
    · intro y0 y1 y2 y3 y4
      unfold sacristanlaw17_right.l0
      repeat' first | (with_reducible exact ih0 _ _ _ _ _) | (with_reducible exact sacristanref15_Right.mono _ _) | (with_reducible exact LeO.refl _) | (with_reducible refine LeO.ite ?_ ?_) | (with_reducible refine LeO.bind ?_ (fun _ => ?_))
theorem sacristanlaw17_right.mono : ∀ a0 a1 a2 a3 k, LeO (sacristanlaw17_right.f k a0 a1 a2 a3) (sacristanlaw17_right.f (k + 1) a0 a1 a2 a3) := by
  intro a0 a1 a2 a3 k
  have ih0 := sacristanlaw17_right.mono_l k
  unfold sacristanlaw17_right.f
  repeat' (with_reducible exact ih0 _ _ _ _ _)
set_option maxHeartbeats 8000000 in
set_option maxRecDepth 100000 in
theorem sacristanlaw17_right.calls (k : Nat) (A0 : Option Addr) (c0 : Nat) (l0 : List (S37)) (A1 : Option Addr) (c1 : Nat) (l1 : List (S37)) (A2_0 : Option Addr) (c2_0 : Nat) (l2_0 : List (S37)) (A2_1 : Option Addr) (c2_1 : Nat) (l2_1 : List (S54)) (r : Bool) (w : World) (hr0 : Kd.C k37 w A0 l0.length l0) (hc0 : l0.length ≤ c0) (hr1 : Kd.C k37 w A1 l1.length l1) (hc1 : l1.length ≤ c1) (hr2_0 : Kd.C k37 w A2_0 l2_0.length l2_0) (hc2_0 : l2_0.length ≤ c2_0) (hr2_1 : Kd.C k54 w A2_1 l2_1.length l2_1) (hc2_1 : l2_1.length ≤ c2_1) (h : sacristanlaw17_right.f k l0 l1 l2_0 l2_1 = some r) :
    Calls Try.prog 15 #[.slice A0 l0.length c0, .slice A1 l1.length c1, .agg #[.slice A2_0 l2_0.length c2_0, .slice A2_1 l2_1.length c2_1]] w fun e w' => e = .returned (.bool r) ∧ Below w.heap.size w w' := by
  have hu29 := Try.underlying29
  have HR0 := Aside0.mk hr0
  have HC0 := Aside0.mk hc0
  clear hr0 hc0
  have HR1 := Aside0.mk hr1
  have HC1 := Aside0.mk hc1
  clear hr1 hc1
  have HR2_0 := Aside0.mk hr2_0
  have HC2_0 := Aside0.mk hc2_0
  clear hr2_0 hc2_0
  have HR2_1 := Aside0.mk hr2_1
  have HC2_1 := Aside0.mk hc2_1
  clear hr2_1 hc2_1
  have HB := Aside0.mk (Below.refl w.heap.size w)
  have H : (sacristanlaw17_right.l0 k l0 l1 0 l2_0 l2_1) = some r := h
  clear h
  have H' := Aside0.mk H
  clear H
  go_enter Try.func15, Try.ntmps15
  go_wp2_with (((with_reducible refine gate_dst (N := 5) rfl ?_); refine box_event ?hg (N := 5) ?hd (cs := #[.slice A2_0 l2_0.length c2_0, .slice A2_1 l2_1.length c2_1]) (t := 29) ?hr ?_; (case hd => rfl); (case hg => rfl); (case hr => ((go_simp; done))); intro gb109 hg w4 hbox hb; have n0_ := Aside0.mk (below_step (by repeat ((with_reducible exact HB.out))) hb); have n1_ := Aside0.mk (hbox); have n2_ := Aside0.mk ((by rw [hg]; exact (below_size (by repeat ((with_reducible exact HB.out)))) : w.heap.size ≤ gb109)); have n3_ := Aside0.mk ((by rw [hg]; exact (below_size (by repeat ((with_reducible exact HB.out)))) : w.heap.size ≤ gb109)); clear HB; have HB := n0_; have BK109 := n1_; have GW109 := n2_; have GE109 := n3_; clear n0_ n1_ n2_ n3_; clear hb hbox hg))
  go_loopg [7] k (fun kq v7 w' => ∃ (x7_1 : Int), v7 = .int .i64 x7_1 ∧ Aside0 (sacristanlaw17_right.l0 kq l0 l1 x7_1 l2_0 l2_1 = some r) ∧ Aside0 (kq ≤ k) ∧ Aside0 (w'.heap[gb109]? = some (.cells #[(.slice A2_0 l2_0.length c2_0), (.slice A2_1 l2_1.length c2_1)] 29 (0, 0))) ∧ Aside0 (Below w.heap.size w w'))
  case atStart => exact ⟨(0), (by rfl), H', ⟨Nat.le_refl _⟩, ⟨by (with_reducible repeat (fail)); exact BK109.out⟩, ⟨by repeat ((with_reducible exact HB.out))⟩⟩
  case round =>
    clear H'
    obtain ⟨x7_1, rfl, HA, HK1, BK109, HB⟩ := hrel
    cases gk with
    | zero => exact absurd HA.out (by simp [sacristanlaw17_right.l0])
    | succ k1 =>
      have H := HA.out
      clear HA
      simp only [sacristanlaw17_right.l0] at H
      by_cases c5 : x7_1 < (l2_1.length : Int)
      · rw [if_pos c5] at H
        have c5b0 : decide (x7_1 < (l2_1.length : Int)) = true := decide_eq_true c5
        clear c5
        by_cases c6 : 0 ≤ x7_1
        · rw [if_pos c6] at H
          have c6b0 : decide (0 ≤ x7_1) = true := decide_eq_true c6
          clear c6
          replace H := Option.bind_eq_some_iff.mp H
          obtain ⟨t111, A70, H⟩ := H
          replace H : (if t111 = true then (sacristanlaw17_right.l0 k1 l0 l1 (wrap64 (x7_1 + 1)) l2_0 l2_1) else (some false)) = some r := H
          have A7 := Aside0.mk A70
          clear A70
          by_cases c8 : t111 = true
          · subst c8
            have H1 : (sacristanlaw17_right.l0 k1 l0 l1 (wrap64 (x7_1 + 1)) l2_0 l2_1) = some r := by rw [if_pos rfl] at H; exact H
            clear H
            have H := H1
            clear H1
            have H' := Aside0.mk H
            clear H
            have hcz9_0 : wr.cell? ⟨gb109, 0, none⟩ = some (.slice A2_0 l2_0.length c2_0) := (blk_cell BK109.out 0).trans rfl
            have hcz9_1 : wr.cell? ⟨gb109, 1, none⟩ = some (.slice A2_1 l2_1.length c2_1) := (blk_cell BK109.out 1).trans rfl
            have hfz9_0 := blk_frozen BK109.out 0
            have hfz9_1 := blk_frozen BK109.out 1
            have p110 : 0 ≤ (x7_1 : Int) := of_decide_eq_true (by (with_reducible assumption))
            have q110 : x7_1 < (l2_1.length : Int) := of_decide_eq_true (by (with_reducible assumption))
            obtain ⟨ad110, A110_3, c110_3, e110, hx110_0, hx110_1, hx110_2, hx110_3, hl110_3, hi110_3⟩ := at_T54 HR2_1.out x7_1 p110 q110
            cases e110
            replace hx110_0 := (HB.out.cell (World.block_lt_of_cell? w _ hx110_0)).trans hx110_0
            replace hx110_1 := (HB.out.cell (World.block_lt_of_cell? w _ hx110_1)).trans hx110_1
            replace hx110_2 := (HB.out.cell (World.block_lt_of_cell? w _ hx110_2)).trans hx110_2
            replace hx110_3 := (HB.out.cell (World.block_lt_of_cell? w _ hx110_3)).trans hx110_3
            have HR110_3 := Aside0.mk hi110_3
            have HC110_3 := Aside0.mk hl110_3
            clear hi110_3 hl110_3
            replace p110 := eq_true p110
            replace q110 := eq_true q110
            go_wp2_with (((with_reducible refine gate_callee (f := 39) rfl ?_); refine goesL_ (some 21) rfl rfl Try.func39 (by kernel_rfl) rfl #[.slice A110_3 ((rd_T54 l2_1 x7_1).f3).length c110_3] rfl (by (try simp only [List.map_toArray, List.map_cons, List.map_nil]); rfl) ?_; (with_reducible refine (sacristanref15_Right.calls k1 _ _ ((rd_T54 l2_1 x7_1).f3) true _ ?side1 ?side2 A7.out).mono ?_); (case side1 => repeat (exact (Kd.C_below HR110_3.out HB.out))); (case side2 => exact HC110_3.out); rintro e w10 ⟨rfl, hb⟩; refine ⟨_, rfl, ?_⟩; have n0_ := Aside0.mk (blk_below (g := gb109) (o := .cells #[.slice A2_0 l2_0.length c2_0, .slice (some ad110) l2_1.length c2_1] 29 (0, 0)) (by (with_reducible repeat (fail)); exact BK109.out) hb); have n1_ := Aside0.mk (below_step (by repeat ((with_reducible exact HB.out))) hb); clear BK109; clear HB; have BK109 := n0_; have HB := n1_; clear n0_ n1_; (try clear hb)))
            go_roundg k1
            case measure => have := HK1.out; omega
            case rel => exact ⟨(wrap64 (x7_1 + 1)), (by rfl), H', ⟨by have := HK1.out; omega⟩, ⟨by (with_reducible repeat (fail)); exact BK109.out⟩, ⟨by repeat ((with_reducible exact HB.out))⟩⟩
          replace c8 := Bool.eq_false_iff.mpr c8
          subst c8
          have H1 : (some false) = some r := by rw [if_neg (show ¬ (false = true) by decide)] at H; exact H
          clear H
          have H := H1
          clear H1
          obtain rfl := Option.some.inj H
          have hcz11_0 : wr.cell? ⟨gb109, 0, none⟩ = some (.slice A2_0 l2_0.length c2_0) := (blk_cell BK109.out 0).trans rfl
          have hcz11_1 : wr.cell? ⟨gb109, 1, none⟩ = some (.slice A2_1 l2_1.length c2_1) := (blk_cell BK109.out 1).trans rfl
          have hfz11_0 := blk_frozen BK109.out 0
          have hfz11_1 := blk_frozen BK109.out 1
          have p110 : 0 ≤ (x7_1 : Int) := of_decide_eq_true (by (with_reducible assumption))
          have q110 : x7_1 < (l2_1.length : Int) := of_decide_eq_true (by (with_reducible assumption))
          obtain ⟨ad110, A110_3, c110_3, e110, hx110_0, hx110_1, hx110_2, hx110_3, hl110_3, hi110_3⟩ := at_T54 HR2_1.out x7_1 p110 q110
          cases e110
          replace hx110_0 := (HB.out.cell (World.block_lt_of_cell? w _ hx110_0)).trans hx110_0
          replace hx110_1 := (HB.out.cell (World.block_lt_of_cell? w _ hx110_1)).trans hx110_1
          replace hx110_2 := (HB.out.cell (World.block_lt_of_cell? w _ hx110_2)).trans hx110_2
          replace hx110_3 := (HB.out.cell (World.block_lt_of_cell? w _ hx110_3)).trans hx110_3
          have HR110_3 := Aside0.mk hi110_3
          have HC110_3 := Aside0.mk hl110_3
          clear hi110_3 hl110_3
          replace p110 := eq_true p110
          replace q110 := eq_true q110
          go_wp2_with (((with_reducible refine gate_callee (f := 39) rfl ?_); refine goesL_ (some 21) rfl rfl Try.func39 (by kernel_rfl) rfl #[.slice A110_3 ((rd_T54 l2_1 x7_1).f3).length c110_3] rfl (by (try simp only [List.map_toArray, List.map_cons, List.map_nil]); rfl) ?_; (with_reducible refine (sacristanref15_Right.calls k1 _ _ ((rd_T54 l2_1 x7_1).f3) false _ ?side1 ?side2 A7.out).mono ?_); (case side1 => repeat (exact (Kd.C_below HR110_3.out HB.out))); (case side2 => exact HC110_3.out); rintro e w12 ⟨rfl, hb⟩; refine ⟨_, rfl, ?_⟩; have n0_ := Aside0.mk (blk_below (g := gb109) (o := .cells #[.slice A2_0 l2_0.length c2_0, .slice (some ad110) l2_1.length c2_1] 29 (0, 0)) (by (with_reducible repeat (fail)); exact BK109.out) hb); have n1_ := Aside0.mk (below_step (by repeat ((with_reducible exact HB.out))) hb); clear BK109; clear HB; have BK109 := n0_; have HB := n1_; clear n0_ n1_; (try clear hb)))
          go_ret
          exact ⟨by rfl, by repeat ((with_reducible exact HB.out))⟩
        rw [if_neg c6] at H
        exact absurd H (by simp)
      rw [if_neg c5] at H
      have c5b0 : decide (x7_1 < (l2_1.length : Int)) = false := decide_eq_false c5
      clear c5
      replace H := Option.bind_eq_some_iff.mp H
      obtain ⟨t112, A130, H⟩ := H
      have A13 := Aside0.mk A130
      clear A130
      by_cases c14 : t112 = true
      · subst c14
        have H1 : ((sacristanref15_Right.f k1 l1).bind fun t113 => (if t113 = true then ((sacristanref15_Right.f k1 l2_0).bind fun t114 => (some t114)) else (some false))) = some r := by rw [if_pos rfl] at H; exact H
        clear H
        have H := H1
        clear H1
        replace H := Option.bind_eq_some_iff.mp H
        obtain ⟨t113, A150, H⟩ := H
        replace H : (if t113 = true then ((sacristanref15_Right.f k1 l2_0).bind fun t114 => (some t114)) else (some false)) = some r := H
        have A15 := Aside0.mk A150
        clear A150
        by_cases c16 : t113 = true
        · subst c16
          have H1 : ((sacristanref15_Right.f k1 l2_0).bind fun t114 => (some t114)) = some r := by rw [if_pos rfl] at H; exact H
          clear H
          have H := H1
          clear H1
          replace H := Option.bind_eq_some_iff.mp H
          obtain ⟨t114, A170, H⟩ := H
          replace H : (some t114) = some r := H
          have A17 := Aside0.mk A170
          clear A170
          obtain rfl := Option.some.inj H
          have hcz18_0 : wr.cell? ⟨gb109, 0, none⟩ = some (.slice A2_0 l2_0.length c2_0) := (blk_cell BK109.out 0).trans rfl
          have hcz18_1 : wr.cell? ⟨gb109, 1, none⟩ = some (.slice A2_1 l2_1.length c2_1) := (blk_cell BK109.out 1).trans rfl
          have hfz18_0 := blk_frozen BK109.out 0
          have hfz18_1 := blk_frozen BK109.out 1
          go_wp2_with (first | ((with_reducible refine gate_callee (f := 39) rfl ?_); refine goesL_ (some 24) rfl rfl Try.func39 (by kernel_rfl) rfl #[.slice A0 l0.length c0] rfl (by (try simp only [List.map_toArray, List.map_cons, List.map_nil]); rfl) ?_; (with_reducible refine (sacristanref15_Right.calls k1 _ _ l0 true _ ?side1 ?side2 A13.out).mono ?_); (case side1 => repeat (exact (Kd.C_below HR0.out HB.out))); (case side2 => exact HC0.out); rintro e w19 ⟨rfl, hb⟩; refine ⟨_, rfl, ?_⟩; have n0_ := Aside0.mk (blk_below (g := gb109) (o := .cells #[.slice A2_0 l2_0.length c2_0, .slice A2_1 l2_1.length c2_1] 29 (0, 0)) (by (with_reducible repeat (fail)); exact BK109.out) hb); have n1_ := Aside0.mk (below_step (by repeat ((with_reducible exact HB.out))) hb); clear BK109; clear HB; have BK109 := n0_; have HB := n1_; clear n0_ n1_; (try clear hb)) | (go_at_call 39; (with_reducible refine (sacristanref15_Right.calls k1 _ _ l1 true _ ?side1 ?side2 A15.out).mono ?_); (case side1 => repeat (exact (Kd.C_below HR1.out HB.out))); (case side2 => exact HC1.out); rintro e w20 ⟨rfl, hb⟩; have n0_ := Aside0.mk (blk_below (g := gb109) (o := .cells #[.slice A2_0 l2_0.length c2_0, .slice A2_1 l2_1.length c2_1] 29 (0, 0)) (by (with_reducible repeat (fail)); exact BK109.out) hb); have n1_ := Aside0.mk (below_step (by repeat ((with_reducible exact HB.out))) hb); clear BK109; clear HB; have BK109 := n0_; have HB := n1_; clear n0_ n1_; (try clear hb); have hcz21_0 : w20.cell? ⟨gb109, 0, none⟩ = some (.slice A2_0 l2_0.length c2_0) := (blk_cell BK109.out 0).trans rfl; have hcz21_1 : w20.cell? ⟨gb109, 1, none⟩ = some (.slice A2_1 l2_1.length c2_1) := (blk_cell BK109.out 1).trans rfl; have hfz21_0 := blk_frozen BK109.out 0; have hfz21_1 := blk_frozen BK109.out 1) | (go_at_call 39; (with_reducible refine (sacristanref15_Right.calls k1 _ _ l2_0 t114 _ ?side1 ?side2 A17.out).mono ?_); (case side1 => repeat (exact (Kd.C_below HR2_0.out HB.out))); (case side2 => exact HC2_0.out); rintro e w22 ⟨rfl, hb⟩; have n0_ := Aside0.mk (blk_below (g := gb109) (o := .cells #[.slice A2_0 l2_0.length c2_0, .slice A2_1 l2_1.length c2_1] 29 (0, 0)) (by (with_reducible repeat (fail)); exact BK109.out) hb); have n1_ := Aside0.mk (below_step (by repeat ((with_reducible exact HB.out))) hb); clear BK109; clear HB; have BK109 := n0_; have HB := n1_; clear n0_ n1_; (try clear hb)))
          go_ret
          exact ⟨by rfl, by repeat ((with_reducible exact HB.out))⟩
        replace c16 := Bool.eq_false_iff.mpr c16
        subst c16
        have H1 : (some false) = some r := by rw [if_neg (show ¬ (false = true) by decide)] at H; exact H
        clear H
        have H := H1
        clear H1
        obtain rfl := Option.some.inj H
        have hcz23_0 : wr.cell? ⟨gb109, 0, none⟩ = some (.slice A2_0 l2_0.length c2_0) := (blk_cell BK109.out 0).trans rfl
        have hcz23_1 : wr.cell? ⟨gb109, 1, none⟩ = some (.slice A2_1 l2_1.length c2_1) := (blk_cell BK109.out 1).trans rfl
        have hfz23_0 := blk_frozen BK109.out 0
        have hfz23_1 := blk_frozen BK109.out 1
        go_wp2_with (first | ((with_reducible refine gate_callee (f := 39) rfl ?_); refine goesL_ (some 24) rfl rfl Try.func39 (by kernel_rfl) rfl #[.slice A0 l0.length c0] rfl (by (try simp only [List.map_toArray, List.map_cons, List.map_nil]); rfl) ?_; (with_reducible refine (sacristanref15_Right.calls k1 _ _ l0 true _ ?side1 ?side2 A13.out).mono ?_); (case side1 => repeat (exact (Kd.C_below HR0.out HB.out))); (case side2 => exact HC0.out); rintro e w24 ⟨rfl, hb⟩; refine ⟨_, rfl, ?_⟩; have n0_ := Aside0.mk (blk_below (g := gb109) (o := .cells #[.slice A2_0 l2_0.length c2_0, .slice A2_1 l2_1.length c2_1] 29 (0, 0)) (by (with_reducible repeat (fail)); exact BK109.out) hb); have n1_ := Aside0.mk (below_step (by repeat ((with_reducible exact HB.out))) hb); clear BK109; clear HB; have BK109 := n0_; have HB := n1_; clear n0_ n1_; (try clear hb)) | (go_at_call 39; (with_reducible refine (sacristanref15_Right.calls k1 _ _ l1 false _ ?side1 ?side2 A15.out).mono ?_); (case side1 => repeat (exact (Kd.C_below HR1.out HB.out))); (case side2 => exact HC1.out); rintro e w25 ⟨rfl, hb⟩; have n0_ := Aside0.mk (blk_below (g := gb109) (o := .cells #[.slice A2_0 l2_0.length c2_0, .slice A2_1 l2_1.length c2_1] 29 (0, 0)) (by (with_reducible repeat (fail)); exact BK109.out) hb); have n1_ := Aside0.mk (below_step (by repeat ((with_reducible exact HB.out))) hb); clear BK109; clear HB; have BK109 := n0_; have HB := n1_; clear n0_ n1_; (try clear hb)))
        go_ret
        exact ⟨by rfl, by repeat ((with_reducible exact HB.out))⟩
      replace c14 := Bool.eq_false_iff.mpr c14
      subst c14
      have H1 : (some false) = some r := by rw [if_neg (show ¬ (false = true) by decide)] at H; exact H
      clear H
      have H := H1
      clear H1
      obtain rfl := Option.some.inj H
      have hcz26_0 : wr.cell? ⟨gb109, 0, none⟩ = some (.slice A2_0 l2_0.length c2_0) := (blk_cell BK109.out 0).trans rfl
      have hcz26_1 : wr.cell? ⟨gb109, 1, none⟩ = some (.slice A2_1 l2_1.length c2_1) := (blk_cell BK109.out 1).trans rfl
      have hfz26_0 := blk_frozen BK109.out 0
      have hfz26_1 := blk_frozen BK109.out 1
      go_wp2_with (((with_reducible refine gate_callee (f := 39) rfl ?_); refine goesL_ (some 24) rfl rfl Try.func39 (by kernel_rfl) rfl #[.slice A0 l0.length c0] rfl (by (try simp only [List.map_toArray, List.map_cons, List.map_nil]); rfl) ?_; (with_reducible refine (sacristanref15_Right.calls k1 _ _ l0 false _ ?side1 ?side2 A13.out).mono ?_); (case side1 => repeat (exact (Kd.C_below HR0.out HB.out))); (case side2 => exact HC0.out); rintro e w27 ⟨rfl, hb⟩; refine ⟨_, rfl, ?_⟩; have n0_ := Aside0.mk (blk_below (g := gb109) (o := .cells #[.slice A2_0 l2_0.length c2_0, .slice A2_1 l2_1.length c2_1] 29 (0, 0)) (by (with_reducible repeat (fail)); exact BK109.out) hb); have n1_ := Aside0.mk (below_step (by repeat ((with_reducible exact HB.out))) hb); clear BK109; clear HB; have BK109 := n0_; have HB := n1_; clear n0_ n1_; (try clear hb)))
      go_ret
      exact ⟨by rfl, by repeat ((with_reducible exact HB.out))⟩

-- NOT PRINTED: function 40 (api_Inst_40)

-- NOT PRINTED: function 41 (slices_Clone_int_int)

-- NOT PRINTED: function 83 (ir_inst_1)

-- NOT PRINTED: function 84 (value_May)

-- NOT PRINTED: function 122 (bytealg_IndexByteString)

-- NOT PRINTED: function 118 (stringslite_IndexByte)

-- NOT PRINTED: function 119 (bytealg_IndexString)

-- NOT PRINTED: function 120 (bytealg_Cutover)

-- NOT PRINTED: function 123 (bytealg_hashStr_string)

-- NOT PRINTED: function 121 (bytealg_IndexRabinKarp_string)

-- NOT PRINTED: function 117 (stringslite_Index)

-- NOT PRINTED: function 116 (strings_Index)

-- NOT PRINTED: function 110 (strings_Contains)

-- NOT PRINTED: function 111 (tree_words)

-- NOT PRINTED: function 101 (tree_Takes)

-- NOT PRINTED: function 85 (ir_pure)

-- NOT PRINTED: function 64 (ir_inst)

-- NOT PRINTED: function 65 (ir_May_1)

-- NOT PRINTED: function 86 (slices_IndexFunc_int_int)

-- NOT PRINTED: function 66 (slices_ContainsFunc_int_int)

-- NOT PRINTED: function 42 (ir_May)

-- NOT PRINTED: function 44 (spread_copies_of)

-- NOT PRINTED: function 67 (spread_copies_put)

-- NOT PRINTED: function 43 (spread_copies_inst)
end Go.Proofs.Ytjkjbfhhfdbnoaa.PB
