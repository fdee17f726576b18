-- Own text: made by this session's variant of the printer (wip/mkpp.py); Lean checks it.
import Derived.Test.YtjkjbfhhfdbnoaaPBx0
import Derived.Test.YtjkjbfhhfdbnoaaPBx19
import Derived.Test.YtjkjbfhhfdbnoaaPBx20
namespace Go.Proofs.Ytjkjbfhhfdbnoaa.PB
open Go.RowKit Go.Proofs.YtjkjbfhhfdbnoaaW.PrintWords Go.Proofs.YtjkjbfhhfdbnoaaW.PrintLast Go.Proofs.YtjkjbfhhfdbnoaaW.PrintMore Go.Proofs.YtjkjbfhhfdbnoaaW.Own
attribute [local go_sem high] own_gtr own_leq own_geq
attribute [local go_sem] max2_int min2_int max_two min_two max_three min_three max_four min_four   -- for this text's walks alone
set_option linter.unusedVariables false
set_option linter.unusedSimpArgs false

/-! ### value_moved: function 106 -/
def value_moved.j0 : Nat → ByteArray → Int → Int → Bool → Option (Int × Int × ByteArray × Int)
  | 0, _, _, _, _ => none
  | k + 1, x0, x1, x2, x8 => if x8 = true then (some (0, 0, (⟨#[]⟩ : ByteArray), 5)) else (if x0.toList = ([115, 104, 108] : List UInt8) then (if 0 ≤ x2 then ((value_Of.f (wrap64 (shl .u64 (IntKind.u64.wrap (x1)) x2))).bind fun bt601 => (some (bt601.1, bt601.2.1, bt601.2.2, 0))) else (none)) else (if x0.toList = ([115, 104, 114] : List UInt8) then (if 0 ≤ x2 then ((value_Of.f (shr .i64 x1 x2)).bind fun bt604 => (some (bt604.1, bt604.2.1, bt604.2.2, 0))) else (none)) else (if 0 ≤ x2 then ((value_Of.f (wrap64 (shr .u64 (IntKind.u64.wrap (x1)) x2))).bind fun bt607 => (some (bt607.1, bt607.2.1, bt607.2.2, 0))) else (none))))
def value_moved.f (k : Nat) (a0 : ByteArray) (a1 : Int) (a2 : Int) : Option (Int × Int × ByteArray × Int) := if a2 < 0 then (value_moved.j0 k a0 a1 a2 true) else (value_moved.j0 k a0 a1 a2 (decide (a2 > 63)))
theorem value_moved.mono_l : ∀ k, (∀ y0 y1 y2 y3, LeO (value_moved.j0 k y0 y1 y2 y3) (value_moved.j0 (k + 1) y0 y1 y2 y3))
  | 0 => fun _ _ _ _ r h => by simp [value_moved.j0] at h
  | k + 1 => by
    have ih0 := value_moved.mono_l k
    · intro y0 y1 y2 y3
      unfold value_moved.j0
      repeat' (with_reducible exact LeO.refl _)
theorem value_moved.mono : ∀ a0 a1 a2 k, LeO (value_moved.f k a0 a1 a2) (value_moved.f (k + 1) a0 a1 a2) := by
  intro a0 a1 a2 k
  have ih0 := value_moved.mono_l k
  unfold value_moved.f
  repeat' first | (with_reducible exact ih0 _ _ _ _) | (with_reducible refine LeO.ite ?_ ?_)
set_option maxHeartbeats 8000000 in
set_option maxRecDepth 100000 in
theorem value_moved.calls (k : Nat) (a0 : ByteArray) (a1 : Int) (a2 : Int) (r1 : Int) (r2 : Int) (r3 : ByteArray) (r4 : Int) (w : World) (h : value_moved.f k a0 a1 a2 = some (r1, r2, r3, r4)) :
    Calls Try.prog 106 #[.string a0, .int .i64 a1, .int .i64 a2] w fun e w' => e = .returned (.tuple #[.agg #[.int .u8 r1, .int .i64 r2, .string r3], .int .i64 r4]) ∧ Below w.heap.size w w' := by
  have hu37 := Try.underlying37
  have HB := Aside0.mk (Below.refl w.heap.size w)
  have H : (if a2 < 0 then (value_moved.j0 k a0 a1 a2 true) else (value_moved.j0 k a0 a1 a2 (decide (a2 > 63)))) = some (r1, r2, r3, r4) := h
  clear h
  have HC4 := Aside0.mk H
  clear H
  go_enter Try.func106, Try.ntmps106
  go_upto_region 1 with (((with_reducible refine gate_dst (N := 6) rfl ?_); refine box_event ?hg (N := 6) ?hd (cs := #[.int .u8 0, .int .i64 0, .string (⟨#[]⟩ : ByteArray)]) (t := 37) ?hr ?_; (case hd => rfl); (case hg => rfl); (case hr => ((go_simp; done))); intro gb600 hg w5 hbox hb; have n0_ := Aside0.mk (below_step (by repeat ((with_reducible exact HB.out))) hb); have n1_ := Aside0.mk (hbox); have n2_ := Aside0.mk ((by rw [hg]; exact (below_size (by repeat ((with_reducible exact HB.out)))) : w.heap.size ≤ gb600)); have n3_ := Aside0.mk ((by rw [hg]; exact (below_size (by repeat ((with_reducible exact HB.out)))) : w.heap.size ≤ gb600)); clear HB; have HB := n0_; have BK600 := n1_; have GW600 := n2_; have GE600 := n3_; clear n0_ n1_ n2_ n3_; clear hb hbox hg))
  go_cut [8] (fun v8 wc => ∃ (kq : Nat) (x8_3 : Bool), v8 = .bool x8_3 ∧ Aside0 (value_moved.j0 kq a0 a1 a2 x8_3 = some (r1, r2, r3, r4)) ∧ Aside0 (kq ≤ k) ∧ Aside0 (wc.heap[gb600]? = some (.cells #[.int .u8 0, .int .i64 0, .string (⟨#[]⟩ : ByteArray)] 37 (0, 0))) ∧ Aside0 (Below w.heap.size w wc))
  case first =>
    have H := HC4.out
    clear HC4
    by_cases c6 : a2 < 0
    · rw [if_pos c6] at H
      have c6b0 : decide (a2 < 0) = true := decide_eq_true c6
      clear c6
      (skip)
      have H' := Aside0.mk H
      clear H
      go_wp2
      go_meet
      case rel => exact ⟨_, (true), (by rfl), H', ⟨by omega⟩, ⟨by (with_reducible repeat (fail)); exact BK600.out⟩, ⟨by repeat ((with_reducible exact HB.out))⟩⟩
    rw [if_neg c6] at H
    have c6b0 : decide (a2 < 0) = false := decide_eq_false c6
    clear c6
    (skip)
    have H' := Aside0.mk H
    clear H
    go_wp2
    go_meet
    case rel => exact ⟨_, (decide (a2 > 63)), (by rfl), H', ⟨by omega⟩, ⟨by (with_reducible repeat (fail)); exact BK600.out⟩, ⟨by repeat ((with_reducible exact HB.out))⟩⟩
  case rest =>
    clear HC4
    obtain ⟨kq, x8_3, rfl, HA, HJ3, BK600, HB⟩ := hcut
    cases kq with
    | zero => exact absurd HA.out (by simp [value_moved.j0])
    | succ kj3 =>
      have H := HA.out
      clear HA
      simp only [value_moved.j0] at H
      by_cases c7 : x8_3 = true
      · subst c7
        have H1 : (some (0, 0, (⟨#[]⟩ : ByteArray), 5)) = some (r1, r2, r3, r4) := by rw [if_pos rfl] at H; exact H
        clear H
        have H := H1
        clear H1
        simp only [Option.some.injEq, Prod.mk.injEq] at H
        obtain ⟨rfl, rfl, rfl, rfl⟩ := H
        have hcz8_0 : wc.cell? ⟨gb600, 0, none⟩ = some (.int .u8 0) := (blk_cell BK600.out 0).trans rfl
        have hcz8_1 : wc.cell? ⟨gb600, 1, none⟩ = some (.int .i64 0) := (blk_cell BK600.out 1).trans rfl
        have hcz8_2 : wc.cell? ⟨gb600, 2, none⟩ = some (.string (⟨#[]⟩ : ByteArray)) := (blk_cell BK600.out 2).trans rfl
        have hfz8_0 := blk_frozen BK600.out 0
        have hfz8_1 := blk_frozen BK600.out 1
        have hfz8_2 := blk_frozen BK600.out 2
        go_wp2
        refine bodyPost_ret (results_ct rfl _ _ gb600 37 #[.int .u8 0, .int .i64 0, .string (⟨#[]⟩ : ByteArray)] (0, 0) _ rfl (by (with_reducible repeat (fail)); refine blk_put (cs := #[.int .u8 0, .int .i64 0, .string (⟨#[]⟩ : ByteArray)]) ?_ 2 _ rfl; (with_reducible repeat (fail)); refine blk_put (cs := #[.int .u8 0, .int .i64 0, .string (⟨#[]⟩ : ByteArray)]) ?_ 1 _ rfl; (with_reducible repeat (fail)); refine blk_put (cs := #[.int .u8 0, .int .i64 0, .string (⟨#[]⟩ : ByteArray)]) ?_ 0 _ rfl; (with_reducible repeat (fail)); exact BK600.out) Try.underlying37 rfl (by kernel_rfl)) rfl ?_
        exact ⟨by rfl, by repeat ((with_reducible first | exact HB.out | refine below_set ?_ GE600.out))⟩
      replace c7 := Bool.eq_false_iff.mpr c7
      subst c7
      have H1 : (if a0.toList = ([115, 104, 108] : List UInt8) then (if 0 ≤ a2 then ((value_Of.f (wrap64 (shl .u64 (IntKind.u64.wrap (a1)) a2))).bind fun bt601 => (some (bt601.1, bt601.2.1, bt601.2.2, 0))) else (none)) else (if a0.toList = ([115, 104, 114] : List UInt8) then (if 0 ≤ a2 then ((value_Of.f (shr .i64 a1 a2)).bind fun bt604 => (some (bt604.1, bt604.2.1, bt604.2.2, 0))) else (none)) else (if 0 ≤ a2 then ((value_Of.f (wrap64 (shr .u64 (IntKind.u64.wrap (a1)) a2))).bind fun bt607 => (some (bt607.1, bt607.2.1, bt607.2.2, 0))) else (none)))) = some (r1, r2, r3, r4) := by rw [if_neg (show ¬ (false = true) by decide)] at H; exact H
      clear H
      have H := H1
      clear H1
      by_cases c9 : a0.toList = ([115, 104, 108] : List UInt8)
      · rw [if_pos c9] at H
        have c9b0 : (a0.toList == ([115, 104, 108] : List UInt8)) = true := beq_iff_eq.mpr c9
        have c9b1 : (a0.toList != ([115, 104, 108] : List UInt8)) = false := bne_eq_false_iff_eq.mpr c9
        clear c9
        by_cases c10 : 0 ≤ a2
        · rw [if_pos c10] at H
          have c10b0 := eq_true c10
          have c10b1 : decide (0 ≤ a2) = true := decide_eq_true c10
          clear c10
          obtain ⟨ji11, hji11⟩ : ∃ j_ : Int, (shl .u64 (IntKind.u64.wrap (a1)) a2) = j_ := ⟨_, rfl⟩
          replace H : ((value_Of.f (wrap64 (ji11))).bind fun bt601 => (some (bt601.1, bt601.2.1, bt601.2.2, 0))) = some (r1, r2, r3, r4) := by ((rw [hji11] at H; exact H))
          have hji11_ : (IntKind.u64.wrap ((IntKind.u64.wrap (a1)) * 2 ^ min a2.toNat 64)) = ji11 := hji11
          have hji11z : a2 ≤ 64 → (IntKind.u64.wrap ((IntKind.u64.wrap (a1)) * 2 ^ a2.toNat)) = ji11 := shl_small hji11
          replace H := Option.bind_eq_some_iff.mp H
          obtain ⟨⟨t601, t602, t603⟩, A120, H⟩ := H
          replace H : (some (t601, t602, t603, 0)) = some (r1, r2, r3, r4) := H
          have A12 := Aside0.mk A120
          clear A120
          simp only [Option.some.injEq, Prod.mk.injEq] at H
          obtain ⟨rfl, rfl, rfl, rfl⟩ := H
          go_wp2_with (((with_reducible refine gate_callee (f := 94) rfl ?_); refine goesL_ (some 24) rfl rfl Try.func94 (by kernel_rfl) rfl #[.int .i64 (wrap64 (ji11))] rfl (by (try simp only [List.map_toArray, List.map_cons, List.map_nil]); rfl) ?_; (with_reducible refine (value_Of.calls (wrap64 (ji11)) t601 t602 t603 _ A12.out).mono ?_); rintro e w13 ⟨rfl, hb⟩; refine ⟨_, rfl, ?_⟩; have n0_ := Aside0.mk (blk_below (g := gb600) (o := .cells #[.int .u8 0, .int .i64 0, .string (⟨#[]⟩ : ByteArray)] 37 (0, 0)) (by (with_reducible repeat (fail)); exact BK600.out) hb); have n1_ := Aside0.mk (below_step (by repeat ((with_reducible exact HB.out))) hb); clear BK600; clear HB; have BK600 := n0_; have HB := n1_; clear n0_ n1_; (try clear hb); have hcz14_0 : w13.cell? ⟨gb600, 0, none⟩ = some (.int .u8 0) := (blk_cell BK600.out 0).trans rfl; have hcz14_1 : w13.cell? ⟨gb600, 1, none⟩ = some (.int .i64 0) := (blk_cell BK600.out 1).trans rfl; have hcz14_2 : w13.cell? ⟨gb600, 2, none⟩ = some (.string (⟨#[]⟩ : ByteArray)) := (blk_cell BK600.out 2).trans rfl; have hfz14_0 := blk_frozen BK600.out 0; have hfz14_1 := blk_frozen BK600.out 1; have hfz14_2 := blk_frozen BK600.out 2))
          refine bodyPost_ret (results_ct rfl _ _ gb600 37 #[.int .u8 t601, .int .i64 t602, .string t603] (0, 0) _ rfl (by (with_reducible repeat (fail)); refine blk_put (cs := #[.int .u8 t601, .int .i64 t602, .string (⟨#[]⟩ : ByteArray)]) ?_ 2 _ rfl; (with_reducible repeat (fail)); refine blk_put (cs := #[.int .u8 t601, .int .i64 0, .string (⟨#[]⟩ : ByteArray)]) ?_ 1 _ rfl; (with_reducible repeat (fail)); refine blk_put (cs := #[.int .u8 0, .int .i64 0, .string (⟨#[]⟩ : ByteArray)]) ?_ 0 _ rfl; (with_reducible repeat (fail)); exact BK600.out) Try.underlying37 rfl (by kernel_rfl)) rfl ?_
          exact ⟨by rfl, by repeat ((with_reducible first | exact HB.out | refine below_set ?_ GE600.out))⟩
        rw [if_neg c10] at H
        exact absurd H (by simp)
      rw [if_neg c9] at H
      have c9b0 : (a0.toList == ([115, 104, 108] : List UInt8)) = false := beq_eq_false_iff_ne.mpr c9
      have c9b1 : (a0.toList != ([115, 104, 108] : List UInt8)) = true := bne_iff_ne.mpr c9
      by_cases c15 : a0.toList = ([115, 104, 114] : List UInt8)
      · rw [if_pos c15] at H
        have c15b0 : (a0.toList == ([115, 104, 114] : List UInt8)) = true := beq_iff_eq.mpr c15
        have c15b1 : (a0.toList != ([115, 104, 114] : List UInt8)) = false := bne_eq_false_iff_eq.mpr c15
        clear c15
        by_cases c16 : 0 ≤ a2
        · rw [if_pos c16] at H
          have c16b0 := eq_true c16
          have c16b1 : decide (0 ≤ a2) = true := decide_eq_true c16
          clear c16
          obtain ⟨ji17, hji17⟩ : ∃ j_ : Int, (shr .i64 a1 a2) = j_ := ⟨_, rfl⟩
          replace H : ((value_Of.f (ji17)).bind fun bt604 => (some (bt604.1, bt604.2.1, bt604.2.2, 0))) = some (r1, r2, r3, r4) := by ((rw [hji17] at H; exact H))
          have hji17_ : (a1 / 2 ^ min a2.toNat 64) = ji17 := hji17
          have hji17z : a2 ≤ 64 → (a1 / 2 ^ a2.toNat) = ji17 := shr_small hji17
          replace H := Option.bind_eq_some_iff.mp H
          obtain ⟨⟨t604, t605, t606⟩, A180, H⟩ := H
          replace H : (some (t604, t605, t606, 0)) = some (r1, r2, r3, r4) := H
          have A18 := Aside0.mk A180
          clear A180
          simp only [Option.some.injEq, Prod.mk.injEq] at H
          obtain ⟨rfl, rfl, rfl, rfl⟩ := H
          go_wp2_with (((with_reducible refine gate_callee (f := 94) rfl ?_); refine goesL_ (some 31) rfl rfl Try.func94 (by kernel_rfl) rfl #[.int .i64 ji17] rfl (by (try simp only [List.map_toArray, List.map_cons, List.map_nil]); rfl) ?_; (with_reducible refine (value_Of.calls ji17 t604 t605 t606 _ A18.out).mono ?_); rintro e w19 ⟨rfl, hb⟩; refine ⟨_, rfl, ?_⟩; have n0_ := Aside0.mk (blk_below (g := gb600) (o := .cells #[.int .u8 0, .int .i64 0, .string (⟨#[]⟩ : ByteArray)] 37 (0, 0)) (by (with_reducible repeat (fail)); exact BK600.out) hb); have n1_ := Aside0.mk (below_step (by repeat ((with_reducible exact HB.out))) hb); clear BK600; clear HB; have BK600 := n0_; have HB := n1_; clear n0_ n1_; (try clear hb); have hcz20_0 : w19.cell? ⟨gb600, 0, none⟩ = some (.int .u8 0) := (blk_cell BK600.out 0).trans rfl; have hcz20_1 : w19.cell? ⟨gb600, 1, none⟩ = some (.int .i64 0) := (blk_cell BK600.out 1).trans rfl; have hcz20_2 : w19.cell? ⟨gb600, 2, none⟩ = some (.string (⟨#[]⟩ : ByteArray)) := (blk_cell BK600.out 2).trans rfl; have hfz20_0 := blk_frozen BK600.out 0; have hfz20_1 := blk_frozen BK600.out 1; have hfz20_2 := blk_frozen BK600.out 2))
          refine bodyPost_ret (results_ct rfl _ _ gb600 37 #[.int .u8 t604, .int .i64 t605, .string t606] (0, 0) _ rfl (by (with_reducible repeat (fail)); refine blk_put (cs := #[.int .u8 t604, .int .i64 t605, .string (⟨#[]⟩ : ByteArray)]) ?_ 2 _ rfl; (with_reducible repeat (fail)); refine blk_put (cs := #[.int .u8 t604, .int .i64 0, .string (⟨#[]⟩ : ByteArray)]) ?_ 1 _ rfl; (with_reducible repeat (fail)); refine blk_put (cs := #[.int .u8 0, .int .i64 0, .string (⟨#[]⟩ : ByteArray)]) ?_ 0 _ rfl; (with_reducible repeat (fail)); exact BK600.out) Try.underlying37 rfl (by kernel_rfl)) rfl ?_
          exact ⟨by rfl, by repeat ((with_reducible first | exact HB.out | refine below_set ?_ GE600.out))⟩
        rw [if_neg c16] at H
        exact absurd H (by simp)
      rw [if_neg c15] at H
      have c15b0 : (a0.toList == ([115, 104, 114] : List UInt8)) = false := beq_eq_false_iff_ne.mpr c15
      have c15b1 : (a0.toList != ([115, 104, 114] : List UInt8)) = true := bne_iff_ne.mpr c15
      by_cases c21 : 0 ≤ a2
      · rw [if_pos c21] at H
        have c21b0 := eq_true c21
        have c21b1 : decide (0 ≤ a2) = true := decide_eq_true c21
        clear c21
        obtain ⟨ji22, hji22⟩ : ∃ j_ : Int, (shr .u64 (IntKind.u64.wrap (a1)) a2) = j_ := ⟨_, rfl⟩
        replace H : ((value_Of.f (wrap64 (ji22))).bind fun bt607 => (some (bt607.1, bt607.2.1, bt607.2.2, 0))) = some (r1, r2, r3, r4) := by ((rw [hji22] at H; exact H))
        have hji22_ : ((IntKind.u64.wrap (a1)) / 2 ^ min a2.toNat 64) = ji22 := hji22
        have hji22z : a2 ≤ 64 → ((IntKind.u64.wrap (a1)) / 2 ^ a2.toNat) = ji22 := shr_small hji22
        replace H := Option.bind_eq_some_iff.mp H
        obtain ⟨⟨t607, t608, t609⟩, A230, H⟩ := H
        replace H : (some (t607, t608, t609, 0)) = some (r1, r2, r3, r4) := H
        have A23 := Aside0.mk A230
        clear A230
        simp only [Option.some.injEq, Prod.mk.injEq] at H
        obtain ⟨rfl, rfl, rfl, rfl⟩ := H
        go_wp2_with (((with_reducible refine gate_callee (f := 94) rfl ?_); refine goesL_ (some 37) rfl rfl Try.func94 (by kernel_rfl) rfl #[.int .i64 (wrap64 (ji22))] rfl (by (try simp only [List.map_toArray, List.map_cons, List.map_nil]); rfl) ?_; (with_reducible refine (value_Of.calls (wrap64 (ji22)) t607 t608 t609 _ A23.out).mono ?_); rintro e w24 ⟨rfl, hb⟩; refine ⟨_, rfl, ?_⟩; have n0_ := Aside0.mk (blk_below (g := gb600) (o := .cells #[.int .u8 0, .int .i64 0, .string (⟨#[]⟩ : ByteArray)] 37 (0, 0)) (by (with_reducible repeat (fail)); exact BK600.out) hb); have n1_ := Aside0.mk (below_step (by repeat ((with_reducible exact HB.out))) hb); clear BK600; clear HB; have BK600 := n0_; have HB := n1_; clear n0_ n1_; (try clear hb); have hcz25_0 : w24.cell? ⟨gb600, 0, none⟩ = some (.int .u8 0) := (blk_cell BK600.out 0).trans rfl; have hcz25_1 : w24.cell? ⟨gb600, 1, none⟩ = some (.int .i64 0) := (blk_cell BK600.out 1).trans rfl; have hcz25_2 : w24.cell? ⟨gb600, 2, none⟩ = some (.string (⟨#[]⟩ : ByteArray)) := (blk_cell BK600.out 2).trans rfl; have hfz25_0 := blk_frozen BK600.out 0; have hfz25_1 := blk_frozen BK600.out 1; have hfz25_2 := blk_frozen BK600.out 2))
        refine bodyPost_ret (results_ct rfl _ _ gb600 37 #[.int .u8 t607, .int .i64 t608, .string t609] (0, 0) _ rfl (by (with_reducible repeat (fail)); refine blk_put (cs := #[.int .u8 t607, .int .i64 t608, .string (⟨#[]⟩ : ByteArray)]) ?_ 2 _ rfl; (with_reducible repeat (fail)); refine blk_put (cs := #[.int .u8 t607, .int .i64 0, .string (⟨#[]⟩ : ByteArray)]) ?_ 1 _ rfl; (with_reducible repeat (fail)); refine blk_put (cs := #[.int .u8 0, .int .i64 0, .string (⟨#[]⟩ : ByteArray)]) ?_ 0 _ rfl; (with_reducible repeat (fail)); exact BK600.out) Try.underlying37 rfl (by kernel_rfl)) rfl ?_
        exact ⟨by rfl, by repeat ((with_reducible first | exact HB.out | refine below_set ?_ GE600.out))⟩
      rw [if_neg c21] at H
      exact absurd H (by simp)

/-! ### value_ints: function 96 -/
def value_ints.j0 : Nat → ByteArray → Int → Int → ByteArray → Bool → Option (Int × Int × ByteArray × Int)
  | 0, _, _, _, _, _ => none
  | k + 1, x0, x1, x2, x8, x48 => if x48 = true then ((value_parts.f x0 x1 x2).bind fun bt623 => (some (bt623.1, bt623.2.1, bt623.2.2.1, bt623.2.2.2))) else (if x8.toList = ([97, 110, 100] : List UInt8) then ((value_Of.f (Go.bits .and .i64 x1 x2)).bind fun bt627 => (some (bt627.1, bt627.2.1, bt627.2.2, 0))) else (if x8.toList = ([111, 114] : List UInt8) then ((value_Of.f (Go.bits .or .i64 x1 x2)).bind fun bt630 => (some (bt630.1, bt630.2.1, bt630.2.2, 0))) else (if x8.toList = ([120, 111, 114] : List UInt8) then ((value_Of.f (Go.bits .xor .i64 x1 x2)).bind fun bt633 => (some (bt633.1, bt633.2.1, bt633.2.2, 0))) else ((value_moved.f k x0 x1 x2).bind fun bt636 => (some (bt636.1, bt636.2.1, bt636.2.2.1, bt636.2.2.2))))))
def value_ints.f (k : Nat) (a0 : ByteArray) (a1 : Int) (a2 : Int) : Option (Int × Int × ByteArray × Int) := if a0.toList = ([43] : List UInt8) then ((value_over.f (wrap64 (a1 + a2)) ((decide (a2 ≥ 0)) == (decide ((wrap64 (a1 + a2)) ≥ a1)))).bind fun bt611 => (some (bt611.1, bt611.2.1, bt611.2.2.1, bt611.2.2.2))) else (if a0.toList = ([45] : List UInt8) then ((value_over.f (wrap64 (a1 - a2)) ((decide (a2 ≤ 0)) == (decide ((wrap64 (a1 - a2)) ≥ a1)))).bind fun bt615 => (some (bt615.1, bt615.2.1, bt615.2.2.1, bt615.2.2.2))) else (if a0.toList = ([42] : List UInt8) then ((value_times.f a1 a2).bind fun bt619 => (some (bt619.1, bt619.2.1, bt619.2.2.1, bt619.2.2.2))) else (if a0.toList = ([47] : List UInt8) then (value_ints.j0 k a0 a1 a2 a0 (a0.toList == ([47] : List UInt8))) else (value_ints.j0 k a0 a1 a2 a0 (a0.toList == ([37] : List UInt8))))))
theorem value_ints.mono_l : ∀ k, (∀ y0 y1 y2 y3 y4, LeO (value_ints.j0 k y0 y1 y2 y3 y4) (value_ints.j0 (k + 1) y0 y1 y2 y3 y4))
  | 0 => fun _ _ _ _ _ r h => by simp [value_ints.j0] at h
  | k + 1 => by
    have ih0 := value_ints.mono_l k
    · intro y0 y1 y2 y3 y4
      unfold value_ints.j0
      repeat' first | (with_reducible exact value_moved.mono _ _ _ _) | (with_reducible exact LeO.refl _) | (with_reducible refine LeO.ite ?_ ?_) | (with_reducible refine LeO.bind ?_ (fun _ => ?_))
theorem value_ints.mono : ∀ a0 a1 a2 k, LeO (value_ints.f k a0 a1 a2) (value_ints.f (k + 1) a0 a1 a2) := by
  intro a0 a1 a2 k
  have ih0 := value_ints.mono_l k
  unfold value_ints.f
  repeat' first | (with_reducible exact ih0 _ _ _ _ _) | (with_reducible exact LeO.refl _) | (with_reducible refine LeO.ite ?_ ?_)
set_option maxHeartbeats 8000000 in
set_option maxRecDepth 100000 in
theorem value_ints.calls (k : Nat) (a0 : ByteArray) (a1 : Int) (a2 : Int) (r1 : Int) (r2 : Int) (r3 : ByteArray) (r4 : Int) (w : World) (h : value_ints.f k a0 a1 a2 = some (r1, r2, r3, r4)) :
    Calls Try.prog 96 #[.string a0, .int .i64 a1, .int .i64 a2] w fun e w' => e = .returned (.tuple #[.agg #[.int .u8 r1, .int .i64 r2, .string r3], .int .i64 r4]) ∧ Below w.heap.size w w' := by
  have hu37 := Try.underlying37
  have HB := Aside0.mk (Below.refl w.heap.size w)
  have H : (if a0.toList = ([43] : List UInt8) then ((value_over.f (wrap64 (a1 + a2)) ((decide (a2 ≥ 0)) == (decide ((wrap64 (a1 + a2)) ≥ a1)))).bind fun bt611 => (some (bt611.1, bt611.2.1, bt611.2.2.1, bt611.2.2.2))) else (if a0.toList = ([45] : List UInt8) then ((value_over.f (wrap64 (a1 - a2)) ((decide (a2 ≤ 0)) == (decide ((wrap64 (a1 - a2)) ≥ a1)))).bind fun bt615 => (some (bt615.1, bt615.2.1, bt615.2.2.1, bt615.2.2.2))) else (if a0.toList = ([42] : List UInt8) then ((value_times.f a1 a2).bind fun bt619 => (some (bt619.1, bt619.2.1, bt619.2.2.1, bt619.2.2.2))) else (if a0.toList = ([47] : List UInt8) then (value_ints.j0 k a0 a1 a2 a0 (a0.toList == ([47] : List UInt8))) else (value_ints.j0 k a0 a1 a2 a0 (a0.toList == ([37] : List UInt8))))))) = some (r1, r2, r3, r4) := h
  clear h
  by_cases c4 : a0.toList = ([43] : List UInt8)
  · rw [if_pos c4] at H
    have c4b0 : (a0.toList == ([43] : List UInt8)) = true := beq_iff_eq.mpr c4
    have c4b1 : (a0.toList != ([43] : List UInt8)) = false := bne_eq_false_iff_eq.mpr c4
    clear c4
    replace H := Option.bind_eq_some_iff.mp H
    obtain ⟨⟨t611, t612, t613, t614⟩, A50, H⟩ := H
    replace H : (some (t611, t612, t613, t614)) = some (r1, r2, r3, r4) := H
    have A5 := Aside0.mk A50
    clear A50
    simp only [Option.some.injEq, Prod.mk.injEq] at H
    obtain ⟨rfl, rfl, rfl, rfl⟩ := H
    go_enter Try.func96, Try.ntmps96
    go_wp2_with (first | ((with_reducible refine gate_dst (N := 6) rfl ?_); refine box_event ?hg (N := 6) ?hd (cs := #[.int .u8 0, .int .i64 0, .string (⟨#[]⟩ : ByteArray)]) (t := 37) ?hr ?_; (case hd => rfl); (case hg => rfl); (case hr => ((go_simp; done))); intro gb610 hg w6 hbox hb; have n0_ := Aside0.mk (below_step (by repeat ((with_reducible exact HB.out))) hb); have n1_ := Aside0.mk (hbox); have n2_ := Aside0.mk ((by rw [hg]; exact (below_size (by repeat ((with_reducible exact HB.out)))) : w.heap.size ≤ gb610)); have n3_ := Aside0.mk ((by rw [hg]; exact (below_size (by repeat ((with_reducible exact HB.out)))) : w.heap.size ≤ gb610)); clear HB; have HB := n0_; have BK610 := n1_; have GW610 := n2_; have GE610 := n3_; clear n0_ n1_ n2_ n3_; clear hb hbox hg) | ((with_reducible refine gate_callee (f := 103) rfl ?_); refine goesL_ (some 22) rfl rfl Try.func103 (by kernel_rfl) rfl #[.int .i64 (wrap64 (a1 + a2)), .bool ((decide (a2 ≥ 0)) == (decide ((wrap64 (a1 + a2)) ≥ a1)))] rfl (by (try simp only [List.map_toArray, List.map_cons, List.map_nil]); rfl) ?_; (with_reducible refine (value_over.calls (wrap64 (a1 + a2)) ((decide (a2 ≥ 0)) == (decide ((wrap64 (a1 + a2)) ≥ a1))) t611 t612 t613 t614 _ A5.out).mono ?_); rintro e w7 ⟨rfl, hb⟩; refine ⟨_, rfl, ?_⟩; have n0_ := Aside0.mk (blk_below (g := gb610) (o := .cells #[.int .u8 0, .int .i64 0, .string (⟨#[]⟩ : ByteArray)] 37 (0, 0)) (by (with_reducible repeat (fail)); exact BK610.out) hb); have n1_ := Aside0.mk (below_step (by repeat ((with_reducible exact HB.out))) hb); clear BK610; clear HB; have BK610 := n0_; have HB := n1_; clear n0_ n1_; (try clear hb); have hcz8_0 : w7.cell? ⟨gb610, 0, none⟩ = some (.int .u8 0) := (blk_cell BK610.out 0).trans rfl; have hcz8_1 : w7.cell? ⟨gb610, 1, none⟩ = some (.int .i64 0) := (blk_cell BK610.out 1).trans rfl; have hcz8_2 : w7.cell? ⟨gb610, 2, none⟩ = some (.string (⟨#[]⟩ : ByteArray)) := (blk_cell BK610.out 2).trans rfl; have hfz8_0 := blk_frozen BK610.out 0; have hfz8_1 := blk_frozen BK610.out 1; have hfz8_2 := blk_frozen BK610.out 2))
    refine bodyPost_ret (results_ct rfl _ _ gb610 37 #[.int .u8 t611, .int .i64 t612, .string t613] (0, 0) _ rfl (by (with_reducible repeat (fail)); refine blk_put (cs := #[.int .u8 t611, .int .i64 t612, .string (⟨#[]⟩ : ByteArray)]) ?_ 2 _ rfl; (with_reducible repeat (fail)); refine blk_put (cs := #[.int .u8 t611, .int .i64 0, .string (⟨#[]⟩ : ByteArray)]) ?_ 1 _ rfl; (with_reducible repeat (fail)); refine blk_put (cs := #[.int .u8 0, .int .i64 0, .string (⟨#[]⟩ : ByteArray)]) ?_ 0 _ rfl; (with_reducible repeat (fail)); exact BK610.out) Try.underlying37 rfl (by kernel_rfl)) rfl ?_
    exact ⟨by rfl, by repeat ((with_reducible first | exact HB.out | refine below_set ?_ GE610.out))⟩
  rw [if_neg c4] at H
  have c4b0 : (a0.toList == ([43] : List UInt8)) = false := beq_eq_false_iff_ne.mpr c4
  have c4b1 : (a0.toList != ([43] : List UInt8)) = true := bne_iff_ne.mpr c4
  by_cases c9 : a0.toList = ([45] : List UInt8)
  · rw [if_pos c9] at H
    have c9b0 : (a0.toList == ([45] : List UInt8)) = true := beq_iff_eq.mpr c9
    have c9b1 : (a0.toList != ([45] : List UInt8)) = false := bne_eq_false_iff_eq.mpr c9
    clear c9
    replace H := Option.bind_eq_some_iff.mp H
    obtain ⟨⟨t615, t616, t617, t618⟩, A100, H⟩ := H
    replace H : (some (t615, t616, t617, t618)) = some (r1, r2, r3, r4) := H
    have A10 := Aside0.mk A100
    clear A100
    simp only [Option.some.injEq, Prod.mk.injEq] at H
    obtain ⟨rfl, rfl, rfl, rfl⟩ := H
    go_enter Try.func96, Try.ntmps96
    go_wp2_with (first | ((with_reducible refine gate_dst (N := 6) rfl ?_); refine box_event ?hg (N := 6) ?hd (cs := #[.int .u8 0, .int .i64 0, .string (⟨#[]⟩ : ByteArray)]) (t := 37) ?hr ?_; (case hd => rfl); (case hg => rfl); (case hr => ((go_simp; done))); intro gb610 hg w11 hbox hb; have n0_ := Aside0.mk (below_step (by repeat ((with_reducible exact HB.out))) hb); have n1_ := Aside0.mk (hbox); have n2_ := Aside0.mk ((by rw [hg]; exact (below_size (by repeat ((with_reducible exact HB.out)))) : w.heap.size ≤ gb610)); have n3_ := Aside0.mk ((by rw [hg]; exact (below_size (by repeat ((with_reducible exact HB.out)))) : w.heap.size ≤ gb610)); clear HB; have HB := n0_; have BK610 := n1_; have GW610 := n2_; have GE610 := n3_; clear n0_ n1_ n2_ n3_; clear hb hbox hg) | ((with_reducible refine gate_callee (f := 103) rfl ?_); refine goesL_ (some 38) rfl rfl Try.func103 (by kernel_rfl) rfl #[.int .i64 (wrap64 (a1 - a2)), .bool ((decide (a2 ≤ 0)) == (decide ((wrap64 (a1 - a2)) ≥ a1)))] rfl (by (try simp only [List.map_toArray, List.map_cons, List.map_nil]); rfl) ?_; (with_reducible refine (value_over.calls (wrap64 (a1 - a2)) ((decide (a2 ≤ 0)) == (decide ((wrap64 (a1 - a2)) ≥ a1))) t615 t616 t617 t618 _ A10.out).mono ?_); rintro e w12 ⟨rfl, hb⟩; refine ⟨_, rfl, ?_⟩; have n0_ := Aside0.mk (blk_below (g := gb610) (o := .cells #[.int .u8 0, .int .i64 0, .string (⟨#[]⟩ : ByteArray)] 37 (0, 0)) (by (with_reducible repeat (fail)); exact BK610.out) hb); have n1_ := Aside0.mk (below_step (by repeat ((with_reducible exact HB.out))) hb); clear BK610; clear HB; have BK610 := n0_; have HB := n1_; clear n0_ n1_; (try clear hb); have hcz13_0 : w12.cell? ⟨gb610, 0, none⟩ = some (.int .u8 0) := (blk_cell BK610.out 0).trans rfl; have hcz13_1 : w12.cell? ⟨gb610, 1, none⟩ = some (.int .i64 0) := (blk_cell BK610.out 1).trans rfl; have hcz13_2 : w12.cell? ⟨gb610, 2, none⟩ = some (.string (⟨#[]⟩ : ByteArray)) := (blk_cell BK610.out 2).trans rfl; have hfz13_0 := blk_frozen BK610.out 0; have hfz13_1 := blk_frozen BK610.out 1; have hfz13_2 := blk_frozen BK610.out 2))
    refine bodyPost_ret (results_ct rfl _ _ gb610 37 #[.int .u8 t615, .int .i64 t616, .string t617] (0, 0) _ rfl (by (with_reducible repeat (fail)); refine blk_put (cs := #[.int .u8 t615, .int .i64 t616, .string (⟨#[]⟩ : ByteArray)]) ?_ 2 _ rfl; (with_reducible repeat (fail)); refine blk_put (cs := #[.int .u8 t615, .int .i64 0, .string (⟨#[]⟩ : ByteArray)]) ?_ 1 _ rfl; (with_reducible repeat (fail)); refine blk_put (cs := #[.int .u8 0, .int .i64 0, .string (⟨#[]⟩ : ByteArray)]) ?_ 0 _ rfl; (with_reducible repeat (fail)); exact BK610.out) Try.underlying37 rfl (by kernel_rfl)) rfl ?_
    exact ⟨by rfl, by repeat ((with_reducible first | exact HB.out | refine below_set ?_ GE610.out))⟩
  rw [if_neg c9] at H
  have c9b0 : (a0.toList == ([45] : List UInt8)) = false := beq_eq_false_iff_ne.mpr c9
  have c9b1 : (a0.toList != ([45] : List UInt8)) = true := bne_iff_ne.mpr c9
  by_cases c14 : a0.toList = ([42] : List UInt8)
  · rw [if_pos c14] at H
    have c14b0 : (a0.toList == ([42] : List UInt8)) = true := beq_iff_eq.mpr c14
    have c14b1 : (a0.toList != ([42] : List UInt8)) = false := bne_eq_false_iff_eq.mpr c14
    clear c14
    replace H := Option.bind_eq_some_iff.mp H
    obtain ⟨⟨t619, t620, t621, t622⟩, A150, H⟩ := H
    replace H : (some (t619, t620, t621, t622)) = some (r1, r2, r3, r4) := H
    have A15 := Aside0.mk A150
    clear A150
    simp only [Option.some.injEq, Prod.mk.injEq] at H
    obtain ⟨rfl, rfl, rfl, rfl⟩ := H
    go_enter Try.func96, Try.ntmps96
    go_wp2_with (first | ((with_reducible refine gate_dst (N := 6) rfl ?_); refine box_event ?hg (N := 6) ?hd (cs := #[.int .u8 0, .int .i64 0, .string (⟨#[]⟩ : ByteArray)]) (t := 37) ?hr ?_; (case hd => rfl); (case hg => rfl); (case hr => ((go_simp; done))); intro gb610 hg w16 hbox hb; have n0_ := Aside0.mk (below_step (by repeat ((with_reducible exact HB.out))) hb); have n1_ := Aside0.mk (hbox); have n2_ := Aside0.mk ((by rw [hg]; exact (below_size (by repeat ((with_reducible exact HB.out)))) : w.heap.size ≤ gb610)); have n3_ := Aside0.mk ((by rw [hg]; exact (below_size (by repeat ((with_reducible exact HB.out)))) : w.heap.size ≤ gb610)); clear HB; have HB := n0_; have BK610 := n1_; have GW610 := n2_; have GE610 := n3_; clear n0_ n1_ n2_ n3_; clear hb hbox hg) | ((with_reducible refine gate_callee (f := 104) rfl ?_); refine goesL_ (some 45) rfl rfl Try.func104 (by kernel_rfl) rfl #[.int .i64 a1, .int .i64 a2] rfl (by (try simp only [List.map_toArray, List.map_cons, List.map_nil]); rfl) ?_; (with_reducible refine (value_times.calls a1 a2 t619 t620 t621 t622 _ A15.out).mono ?_); rintro e w17 ⟨rfl, hb⟩; refine ⟨_, rfl, ?_⟩; have n0_ := Aside0.mk (blk_below (g := gb610) (o := .cells #[.int .u8 0, .int .i64 0, .string (⟨#[]⟩ : ByteArray)] 37 (0, 0)) (by (with_reducible repeat (fail)); exact BK610.out) hb); have n1_ := Aside0.mk (below_step (by repeat ((with_reducible exact HB.out))) hb); clear BK610; clear HB; have BK610 := n0_; have HB := n1_; clear n0_ n1_; (try clear hb); have hcz18_0 : w17.cell? ⟨gb610, 0, none⟩ = some (.int .u8 0) := (blk_cell BK610.out 0).trans rfl; have hcz18_1 : w17.cell? ⟨gb610, 1, none⟩ = some (.int .i64 0) := (blk_cell BK610.out 1).trans rfl; have hcz18_2 : w17.cell? ⟨gb610, 2, none⟩ = some (.string (⟨#[]⟩ : ByteArray)) := (blk_cell BK610.out 2).trans rfl; have hfz18_0 := blk_frozen BK610.out 0; have hfz18_1 := blk_frozen BK610.out 1; have hfz18_2 := blk_frozen BK610.out 2))
    refine bodyPost_ret (results_ct rfl _ _ gb610 37 #[.int .u8 t619, .int .i64 t620, .string t621] (0, 0) _ rfl (by (with_reducible repeat (fail)); refine blk_put (cs := #[.int .u8 t619, .int .i64 t620, .string (⟨#[]⟩ : ByteArray)]) ?_ 2 _ rfl; (with_reducible repeat (fail)); refine blk_put (cs := #[.int .u8 t619, .int .i64 0, .string (⟨#[]⟩ : ByteArray)]) ?_ 1 _ rfl; (with_reducible repeat (fail)); refine blk_put (cs := #[.int .u8 0, .int .i64 0, .string (⟨#[]⟩ : ByteArray)]) ?_ 0 _ rfl; (with_reducible repeat (fail)); exact BK610.out) Try.underlying37 rfl (by kernel_rfl)) rfl ?_
    exact ⟨by rfl, by repeat ((with_reducible first | exact HB.out | refine below_set ?_ GE610.out))⟩
  rw [if_neg c14] at H
  have c14b0 : (a0.toList == ([42] : List UInt8)) = false := beq_eq_false_iff_ne.mpr c14
  have c14b1 : (a0.toList != ([42] : List UInt8)) = true := bne_iff_ne.mpr c14
  have HC19 := Aside0.mk H
  clear H
  go_enter Try.func96, Try.ntmps96
  go_upto_if 48 with (((with_reducible refine gate_dst (N := 6) rfl ?_); refine box_event ?hg (N := 6) ?hd (cs := #[.int .u8 0, .int .i64 0, .string (⟨#[]⟩ : ByteArray)]) (t := 37) ?hr ?_; (case hd => rfl); (case hg => rfl); (case hr => ((go_simp; done))); intro gb610 hg w20 hbox hb; have n0_ := Aside0.mk (below_step (by repeat ((with_reducible exact HB.out))) hb); have n1_ := Aside0.mk (hbox); have n2_ := Aside0.mk ((by rw [hg]; exact (below_size (by repeat ((with_reducible exact HB.out)))) : w.heap.size ≤ gb610)); have n3_ := Aside0.mk ((by rw [hg]; exact (below_size (by repeat ((with_reducible exact HB.out)))) : w.heap.size ≤ gb610)); clear HB; have HB := n0_; have BK610 := n1_; have GW610 := n2_; have GE610 := n3_; clear n0_ n1_ n2_ n3_; clear hb hbox hg))
  go_cut [48] (fun v48 wc => ∃ (kq : Nat) (x48_18 : Bool), v48 = .bool x48_18 ∧ Aside0 (value_ints.j0 kq a0 a1 a2 a0 x48_18 = some (r1, r2, r3, r4)) ∧ Aside0 (kq ≤ k) ∧ Aside0 (wc.heap[gb610]? = some (.cells #[.int .u8 0, .int .i64 0, .string (⟨#[]⟩ : ByteArray)] 37 (0, 0))) ∧ Aside0 (Below w.heap.size w wc))
  case first =>
    have H := HC19.out
    clear HC19
    by_cases c21 : a0.toList = ([47] : List UInt8)
    · rw [if_pos c21] at H
      have c21b0 : (a0.toList == ([47] : List UInt8)) = true := beq_iff_eq.mpr c21
      have c21b1 : (a0.toList != ([47] : List UInt8)) = false := bne_eq_false_iff_eq.mpr c21
      clear c21
      (rw [c21b0])
      have H' := Aside0.mk H
      clear H
      go_wp2
      go_meet
      case rel => exact ⟨_, ((a0.toList == ([47] : List UInt8))), (by ((simp [*]; done))), H', ⟨by omega⟩, ⟨by (with_reducible repeat (fail)); exact BK610.out⟩, ⟨by repeat ((with_reducible exact HB.out))⟩⟩
    rw [if_neg c21] at H
    have c21b0 : (a0.toList == ([47] : List UInt8)) = false := beq_eq_false_iff_ne.mpr c21
    have c21b1 : (a0.toList != ([47] : List UInt8)) = true := bne_iff_ne.mpr c21
    (rw [c21b0])
    have H' := Aside0.mk H
    clear H
    go_wp2
    go_meet
    case rel => exact ⟨_, ((a0.toList == ([37] : List UInt8))), (by rfl), H', ⟨by omega⟩, ⟨by (with_reducible repeat (fail)); exact BK610.out⟩, ⟨by repeat ((with_reducible exact HB.out))⟩⟩
  case rest =>
    clear HC19 c4 c4b0 c4b1 c9 c9b0 c9b1 c14 c14b0 c14b1
    obtain ⟨kq, x48_18, rfl, HA, HJ18, BK610, HB⟩ := hcut
    cases kq with
    | zero => exact absurd HA.out (by simp [value_ints.j0])
    | succ kj18 =>
      have H := HA.out
      clear HA
      simp only [value_ints.j0] at H
      by_cases c22 : x48_18 = true
      · subst c22
        have H1 : ((value_parts.f a0 a1 a2).bind fun bt623 => (some (bt623.1, bt623.2.1, bt623.2.2.1, bt623.2.2.2))) = some (r1, r2, r3, r4) := by rw [if_pos rfl] at H; exact H
        clear H
        have H := H1
        clear H1
        replace H := Option.bind_eq_some_iff.mp H
        obtain ⟨⟨t623, t624, t625, t626⟩, A230, H⟩ := H
        replace H : (some (t623, t624, t625, t626)) = some (r1, r2, r3, r4) := H
        have A23 := Aside0.mk A230
        clear A230
        simp only [Option.some.injEq, Prod.mk.injEq] at H
        obtain ⟨rfl, rfl, rfl, rfl⟩ := H
        go_wp2_with (((with_reducible refine gate_callee (f := 105) rfl ?_); refine goesL_ (some 54) rfl rfl Try.func105 (by kernel_rfl) rfl #[.string a0, .int .i64 a1, .int .i64 a2] rfl (by (try simp only [List.map_toArray, List.map_cons, List.map_nil]); rfl) ?_; (with_reducible refine (value_parts.calls a0 a1 a2 t623 t624 t625 t626 _ A23.out).mono ?_); rintro e w24 ⟨rfl, hb⟩; refine ⟨_, rfl, ?_⟩; have n0_ := Aside0.mk (blk_below (g := gb610) (o := .cells #[.int .u8 0, .int .i64 0, .string (⟨#[]⟩ : ByteArray)] 37 (0, 0)) (by (with_reducible repeat (fail)); exact BK610.out) hb); have n1_ := Aside0.mk (below_step (by repeat ((with_reducible exact HB.out))) hb); clear BK610; clear HB; have BK610 := n0_; have HB := n1_; clear n0_ n1_; (try clear hb); have hcz25_0 : w24.cell? ⟨gb610, 0, none⟩ = some (.int .u8 0) := (blk_cell BK610.out 0).trans rfl; have hcz25_1 : w24.cell? ⟨gb610, 1, none⟩ = some (.int .i64 0) := (blk_cell BK610.out 1).trans rfl; have hcz25_2 : w24.cell? ⟨gb610, 2, none⟩ = some (.string (⟨#[]⟩ : ByteArray)) := (blk_cell BK610.out 2).trans rfl; have hfz25_0 := blk_frozen BK610.out 0; have hfz25_1 := blk_frozen BK610.out 1; have hfz25_2 := blk_frozen BK610.out 2))
        refine bodyPost_ret (results_ct rfl _ _ gb610 37 #[.int .u8 t623, .int .i64 t624, .string t625] (0, 0) _ rfl (by (with_reducible repeat (fail)); refine blk_put (cs := #[.int .u8 t623, .int .i64 t624, .string (⟨#[]⟩ : ByteArray)]) ?_ 2 _ rfl; (with_reducible repeat (fail)); refine blk_put (cs := #[.int .u8 t623, .int .i64 0, .string (⟨#[]⟩ : ByteArray)]) ?_ 1 _ rfl; (with_reducible repeat (fail)); refine blk_put (cs := #[.int .u8 0, .int .i64 0, .string (⟨#[]⟩ : ByteArray)]) ?_ 0 _ rfl; (with_reducible repeat (fail)); exact BK610.out) Try.underlying37 rfl (by kernel_rfl)) rfl ?_
        exact ⟨by rfl, by repeat ((with_reducible first | exact HB.out | refine below_set ?_ GE610.out))⟩
      replace c22 := Bool.eq_false_iff.mpr c22
      subst c22
      have H1 : (if a0.toList = ([97, 110, 100] : List UInt8) then ((value_Of.f (Go.bits .and .i64 a1 a2)).bind fun bt627 => (some (bt627.1, bt627.2.1, bt627.2.2, 0))) else (if a0.toList = ([111, 114] : List UInt8) then ((value_Of.f (Go.bits .or .i64 a1 a2)).bind fun bt630 => (some (bt630.1, bt630.2.1, bt630.2.2, 0))) else (if a0.toList = ([120, 111, 114] : List UInt8) then ((value_Of.f (Go.bits .xor .i64 a1 a2)).bind fun bt633 => (some (bt633.1, bt633.2.1, bt633.2.2, 0))) else ((value_moved.f kj18 a0 a1 a2).bind fun bt636 => (some (bt636.1, bt636.2.1, bt636.2.2.1, bt636.2.2.2)))))) = some (r1, r2, r3, r4) := by rw [if_neg (show ¬ (false = true) by decide)] at H; exact H
      clear H
      have H := H1
      clear H1
      by_cases c26 : a0.toList = ([97, 110, 100] : List UInt8)
      · rw [if_pos c26] at H
        have c26b0 : (a0.toList == ([97, 110, 100] : List UInt8)) = true := beq_iff_eq.mpr c26
        have c26b1 : (a0.toList != ([97, 110, 100] : List UInt8)) = false := bne_eq_false_iff_eq.mpr c26
        clear c26
        replace H := Option.bind_eq_some_iff.mp H
        obtain ⟨⟨t627, t628, t629⟩, A270, H⟩ := H
        replace H : (some (t627, t628, t629, 0)) = some (r1, r2, r3, r4) := H
        have A27 := Aside0.mk A270
        clear A270
        simp only [Option.some.injEq, Prod.mk.injEq] at H
        obtain ⟨rfl, rfl, rfl, rfl⟩ := H
        go_wp2_with (((with_reducible refine gate_callee (f := 94) rfl ?_); refine goesL_ (some 62) rfl rfl Try.func94 (by kernel_rfl) rfl #[.int .i64 (Go.bits .and .i64 a1 a2)] rfl (by (try simp only [List.map_toArray, List.map_cons, List.map_nil]); rfl) ?_; (with_reducible refine (value_Of.calls (Go.bits .and .i64 a1 a2) t627 t628 t629 _ A27.out).mono ?_); rintro e w28 ⟨rfl, hb⟩; refine ⟨_, rfl, ?_⟩; have n0_ := Aside0.mk (blk_below (g := gb610) (o := .cells #[.int .u8 0, .int .i64 0, .string (⟨#[]⟩ : ByteArray)] 37 (0, 0)) (by (with_reducible repeat (fail)); exact BK610.out) hb); have n1_ := Aside0.mk (below_step (by repeat ((with_reducible exact HB.out))) hb); clear BK610; clear HB; have BK610 := n0_; have HB := n1_; clear n0_ n1_; (try clear hb); have hcz29_0 : w28.cell? ⟨gb610, 0, none⟩ = some (.int .u8 0) := (blk_cell BK610.out 0).trans rfl; have hcz29_1 : w28.cell? ⟨gb610, 1, none⟩ = some (.int .i64 0) := (blk_cell BK610.out 1).trans rfl; have hcz29_2 : w28.cell? ⟨gb610, 2, none⟩ = some (.string (⟨#[]⟩ : ByteArray)) := (blk_cell BK610.out 2).trans rfl; have hfz29_0 := blk_frozen BK610.out 0; have hfz29_1 := blk_frozen BK610.out 1; have hfz29_2 := blk_frozen BK610.out 2))
        refine bodyPost_ret (results_ct rfl _ _ gb610 37 #[.int .u8 t627, .int .i64 t628, .string t629] (0, 0) _ rfl (by (with_reducible repeat (fail)); refine blk_put (cs := #[.int .u8 t627, .int .i64 t628, .string (⟨#[]⟩ : ByteArray)]) ?_ 2 _ rfl; (with_reducible repeat (fail)); refine blk_put (cs := #[.int .u8 t627, .int .i64 0, .string (⟨#[]⟩ : ByteArray)]) ?_ 1 _ rfl; (with_reducible repeat (fail)); refine blk_put (cs := #[.int .u8 0, .int .i64 0, .string (⟨#[]⟩ : ByteArray)]) ?_ 0 _ rfl; (with_reducible repeat (fail)); exact BK610.out) Try.underlying37 rfl (by kernel_rfl)) rfl ?_
        exact ⟨by rfl, by repeat ((with_reducible first | exact HB.out | refine below_set ?_ GE610.out))⟩
      rw [if_neg c26] at H
      have c26b0 : (a0.toList == ([97, 110, 100] : List UInt8)) = false := beq_eq_false_iff_ne.mpr c26
      have c26b1 : (a0.toList != ([97, 110, 100] : List UInt8)) = true := bne_iff_ne.mpr c26
      by_cases c30 : a0.toList = ([111, 114] : List UInt8)
      · rw [if_pos c30] at H
        have c30b0 : (a0.toList == ([111, 114] : List UInt8)) = true := beq_iff_eq.mpr c30
        have c30b1 : (a0.toList != ([111, 114] : List UInt8)) = false := bne_eq_false_iff_eq.mpr c30
        clear c30
        replace H := Option.bind_eq_some_iff.mp H
        obtain ⟨⟨t630, t631, t632⟩, A310, H⟩ := H
        replace H : (some (t630, t631, t632, 0)) = some (r1, r2, r3, r4) := H
        have A31 := Aside0.mk A310
        clear A310
        simp only [Option.some.injEq, Prod.mk.injEq] at H
        obtain ⟨rfl, rfl, rfl, rfl⟩ := H
        go_wp2_with (((with_reducible refine gate_callee (f := 94) rfl ?_); refine goesL_ (some 68) rfl rfl Try.func94 (by kernel_rfl) rfl #[.int .i64 (Go.bits .or .i64 a1 a2)] rfl (by (try simp only [List.map_toArray, List.map_cons, List.map_nil]); rfl) ?_; (with_reducible refine (value_Of.calls (Go.bits .or .i64 a1 a2) t630 t631 t632 _ A31.out).mono ?_); rintro e w32 ⟨rfl, hb⟩; refine ⟨_, rfl, ?_⟩; have n0_ := Aside0.mk (blk_below (g := gb610) (o := .cells #[.int .u8 0, .int .i64 0, .string (⟨#[]⟩ : ByteArray)] 37 (0, 0)) (by (with_reducible repeat (fail)); exact BK610.out) hb); have n1_ := Aside0.mk (below_step (by repeat ((with_reducible exact HB.out))) hb); clear BK610; clear HB; have BK610 := n0_; have HB := n1_; clear n0_ n1_; (try clear hb); have hcz33_0 : w32.cell? ⟨gb610, 0, none⟩ = some (.int .u8 0) := (blk_cell BK610.out 0).trans rfl; have hcz33_1 : w32.cell? ⟨gb610, 1, none⟩ = some (.int .i64 0) := (blk_cell BK610.out 1).trans rfl; have hcz33_2 : w32.cell? ⟨gb610, 2, none⟩ = some (.string (⟨#[]⟩ : ByteArray)) := (blk_cell BK610.out 2).trans rfl; have hfz33_0 := blk_frozen BK610.out 0; have hfz33_1 := blk_frozen BK610.out 1; have hfz33_2 := blk_frozen BK610.out 2))
        refine bodyPost_ret (results_ct rfl _ _ gb610 37 #[.int .u8 t630, .int .i64 t631, .string t632] (0, 0) _ rfl (by (with_reducible repeat (fail)); refine blk_put (cs := #[.int .u8 t630, .int .i64 t631, .string (⟨#[]⟩ : ByteArray)]) ?_ 2 _ rfl; (with_reducible repeat (fail)); refine blk_put (cs := #[.int .u8 t630, .int .i64 0, .string (⟨#[]⟩ : ByteArray)]) ?_ 1 _ rfl; (with_reducible repeat (fail)); refine blk_put (cs := #[.int .u8 0, .int .i64 0, .string (⟨#[]⟩ : ByteArray)]) ?_ 0 _ rfl; (with_reducible repeat (fail)); exact BK610.out) Try.underlying37 rfl (by kernel_rfl)) rfl ?_
        exact ⟨by rfl, by repeat ((with_reducible first | exact HB.out | refine below_set ?_ GE610.out))⟩
      rw [if_neg c30] at H
      have c30b0 : (a0.toList == ([111, 114] : List UInt8)) = false := beq_eq_false_iff_ne.mpr c30
      have c30b1 : (a0.toList != ([111, 114] : List UInt8)) = true := bne_iff_ne.mpr c30
      by_cases c34 : a0.toList = ([120, 111, 114] : List UInt8)
      · rw [if_pos c34] at H
        have c34b0 : (a0.toList == ([120, 111, 114] : List UInt8)) = true := beq_iff_eq.mpr c34
        have c34b1 : (a0.toList != ([120, 111, 114] : List UInt8)) = false := bne_eq_false_iff_eq.mpr c34
        clear c34
        replace H := Option.bind_eq_some_iff.mp H
        obtain ⟨⟨t633, t634, t635⟩, A350, H⟩ := H
        replace H : (some (t633, t634, t635, 0)) = some (r1, r2, r3, r4) := H
        have A35 := Aside0.mk A350
        clear A350
        simp only [Option.some.injEq, Prod.mk.injEq] at H
        obtain ⟨rfl, rfl, rfl, rfl⟩ := H
        go_wp2_with (((with_reducible refine gate_callee (f := 94) rfl ?_); refine goesL_ (some 74) rfl rfl Try.func94 (by kernel_rfl) rfl #[.int .i64 (Go.bits .xor .i64 a1 a2)] rfl (by (try simp only [List.map_toArray, List.map_cons, List.map_nil]); rfl) ?_; (with_reducible refine (value_Of.calls (Go.bits .xor .i64 a1 a2) t633 t634 t635 _ A35.out).mono ?_); rintro e w36 ⟨rfl, hb⟩; refine ⟨_, rfl, ?_⟩; have n0_ := Aside0.mk (blk_below (g := gb610) (o := .cells #[.int .u8 0, .int .i64 0, .string (⟨#[]⟩ : ByteArray)] 37 (0, 0)) (by (with_reducible repeat (fail)); exact BK610.out) hb); have n1_ := Aside0.mk (below_step (by repeat ((with_reducible exact HB.out))) hb); clear BK610; clear HB; have BK610 := n0_; have HB := n1_; clear n0_ n1_; (try clear hb); have hcz37_0 : w36.cell? ⟨gb610, 0, none⟩ = some (.int .u8 0) := (blk_cell BK610.out 0).trans rfl; have hcz37_1 : w36.cell? ⟨gb610, 1, none⟩ = some (.int .i64 0) := (blk_cell BK610.out 1).trans rfl; have hcz37_2 : w36.cell? ⟨gb610, 2, none⟩ = some (.string (⟨#[]⟩ : ByteArray)) := (blk_cell BK610.out 2).trans rfl; have hfz37_0 := blk_frozen BK610.out 0; have hfz37_1 := blk_frozen BK610.out 1; have hfz37_2 := blk_frozen BK610.out 2))
        refine bodyPost_ret (results_ct rfl _ _ gb610 37 #[.int .u8 t633, .int .i64 t634, .string t635] (0, 0) _ rfl (by (with_reducible repeat (fail)); refine blk_put (cs := #[.int .u8 t633, .int .i64 t634, .string (⟨#[]⟩ : ByteArray)]) ?_ 2 _ rfl; (with_reducible repeat (fail)); refine blk_put (cs := #[.int .u8 t633, .int .i64 0, .string (⟨#[]⟩ : ByteArray)]) ?_ 1 _ rfl; (with_reducible repeat (fail)); refine blk_put (cs := #[.int .u8 0, .int .i64 0, .string (⟨#[]⟩ : ByteArray)]) ?_ 0 _ rfl; (with_reducible repeat (fail)); exact BK610.out) Try.underlying37 rfl (by kernel_rfl)) rfl ?_
        exact ⟨by rfl, by repeat ((with_reducible first | exact HB.out | refine below_set ?_ GE610.out))⟩
      rw [if_neg c34] at H
      have c34b0 : (a0.toList == ([120, 111, 114] : List UInt8)) = false := beq_eq_false_iff_ne.mpr c34
      have c34b1 : (a0.toList != ([120, 111, 114] : List UInt8)) = true := bne_iff_ne.mpr c34
      replace H := Option.bind_eq_some_iff.mp H
      obtain ⟨⟨t636, t637, t638, t639⟩, A380, H⟩ := H
      replace H : (some (t636, t637, t638, t639)) = some (r1, r2, r3, r4) := H
      have A38 := Aside0.mk A380
      clear A380
      simp only [Option.some.injEq, Prod.mk.injEq] at H
      obtain ⟨rfl, rfl, rfl, rfl⟩ := H
      go_wp2_with (((with_reducible refine gate_callee (f := 106) rfl ?_); refine goesL_ (some 78) rfl rfl Try.func106 (by kernel_rfl) rfl #[.string a0, .int .i64 a1, .int .i64 a2] rfl (by (try simp only [List.map_toArray, List.map_cons, List.map_nil]); rfl) ?_; (with_reducible refine (value_moved.calls kj18 a0 a1 a2 t636 t637 t638 t639 _ A38.out).mono ?_); rintro e w39 ⟨rfl, hb⟩; refine ⟨_, rfl, ?_⟩; have n0_ := Aside0.mk (blk_below (g := gb610) (o := .cells #[.int .u8 0, .int .i64 0, .string (⟨#[]⟩ : ByteArray)] 37 (0, 0)) (by (with_reducible repeat (fail)); exact BK610.out) hb); have n1_ := Aside0.mk (below_step (by repeat ((with_reducible exact HB.out))) hb); clear BK610; clear HB; have BK610 := n0_; have HB := n1_; clear n0_ n1_; (try clear hb); have hcz40_0 : w39.cell? ⟨gb610, 0, none⟩ = some (.int .u8 0) := (blk_cell BK610.out 0).trans rfl; have hcz40_1 : w39.cell? ⟨gb610, 1, none⟩ = some (.int .i64 0) := (blk_cell BK610.out 1).trans rfl; have hcz40_2 : w39.cell? ⟨gb610, 2, none⟩ = some (.string (⟨#[]⟩ : ByteArray)) := (blk_cell BK610.out 2).trans rfl; have hfz40_0 := blk_frozen BK610.out 0; have hfz40_1 := blk_frozen BK610.out 1; have hfz40_2 := blk_frozen BK610.out 2))
      refine bodyPost_ret (results_ct rfl _ _ gb610 37 #[.int .u8 t636, .int .i64 t637, .string t638] (0, 0) _ rfl (by (with_reducible repeat (fail)); refine blk_put (cs := #[.int .u8 t636, .int .i64 t637, .string (⟨#[]⟩ : ByteArray)]) ?_ 2 _ rfl; (with_reducible repeat (fail)); refine blk_put (cs := #[.int .u8 t636, .int .i64 0, .string (⟨#[]⟩ : ByteArray)]) ?_ 1 _ rfl; (with_reducible repeat (fail)); refine blk_put (cs := #[.int .u8 0, .int .i64 0, .string (⟨#[]⟩ : ByteArray)]) ?_ 0 _ rfl; (with_reducible repeat (fail)); exact BK610.out) Try.underlying37 rfl (by kernel_rfl)) rfl ?_
      exact ⟨by rfl, by repeat ((with_reducible first | exact HB.out | refine below_set ?_ GE610.out))⟩

/-! ### cmp_Or_int: function 97 -/
def cmp_Or_int.l0 : Nat → Int → List Int → Int → Int → Option (Int)
  | 0, _, _, _, _ => none
  | k + 1, x3, x6, x7, x8 => if x8 < x7 then (if 0 ≤ x8 then (if x8 < (x6.length : Int) then (if (rd x6 x8) = x3 then (cmp_Or_int.l0 k x3 x6 x7 (wrap64 (x8 + 1))) else (some (rd x6 x8))) else (none)) else (none)) else (some x3)
def cmp_Or_int.f (k : Nat) (l0 : List Int) : Option (Int) := cmp_Or_int.l0 k 0 l0 (l0.length : Int) 0
theorem cmp_Or_int.mono_l : ∀ k, (∀ y0 y1 y2 y3, LeO (cmp_Or_int.l0 k y0 y1 y2 y3) (cmp_Or_int.l0 (k + 1) y0 y1 y2 y3))
  | 0 => fun _ _ _ _ r h => by simp [cmp_Or_int.l0] at h
  | k + 1 => by
    have ih0 := cmp_Or_int.mono_l k
    · intro y0 y1 y2 y3
      unfold cmp_Or_int.l0
      repeat' first | (with_reducible exact ih0 _ _ _ _) | (with_reducible exact LeO.refl _) | (with_reducible refine LeO.ite ?_ ?_)
theorem cmp_Or_int.mono : ∀ a0 k, LeO (cmp_Or_int.f k a0) (cmp_Or_int.f (k + 1) a0) := by
  intro a0 k
  have ih0 := cmp_Or_int.mono_l k
  unfold cmp_Or_int.f
  repeat' (with_reducible exact ih0 _ _ _ _)
set_option maxHeartbeats 8000000 in
set_option maxRecDepth 100000 in
theorem cmp_Or_int.calls (k : Nat) (A0 : Option Addr) (c0 : Nat) (l0 : List Int) (r : Int) (w : World) (hr0 : Kd.C (Kd.int .i64) w A0 l0.length l0) (hc0 : l0.length ≤ c0) (h : cmp_Or_int.f k l0 = some r) :
    Calls Try.prog 97 #[.slice A0 l0.length c0] w fun e w' => e = .returned (.int .i64 r) ∧ Drawn0 w w' := by
  have HR0 := Aside0.mk hr0
  have HC0 := Aside0.mk hc0
  clear hr0 hc0
  have H : (cmp_Or_int.l0 k 0 l0 (l0.length : Int) 0) = some r := h
  clear h
  have H' := Aside0.mk H
  clear H
  go_enter Try.func97, Try.ntmps97
  go_wp2
  go_loopg [8] k (fun kq v8 w' => ∃ (x8_1 : Int), v8 = .int .i64 x8_1 ∧ Aside0 (cmp_Or_int.l0 kq 0 l0 (l0.length : Int) x8_1 = some r) ∧ Aside0 (kq ≤ k) ∧ Drawn0 w w')
  case atStart => exact ⟨(0), (by rfl), H', ⟨Nat.le_refl _⟩, by repeat (exact Drawn0.refl _)⟩
  case round =>
    clear H'
    obtain ⟨x8_1, rfl, HA, HK1, ⟨m1, rfl⟩⟩ := hrel
    cases gk with
    | zero => exact absurd HA.out (by simp [cmp_Or_int.l0])
    | succ k1 =>
      have H := HA.out
      clear HA
      simp only [cmp_Or_int.l0] at H
      by_cases c2 : x8_1 < (l0.length : Int)
      · rw [if_pos c2] at H
        have c2b0 : decide (x8_1 < (l0.length : Int)) = true := decide_eq_true c2
        clear c2
        by_cases c3 : 0 ≤ x8_1
        · rw [if_pos c3] at H
          have c3b0 : decide (0 ≤ x8_1) = true := decide_eq_true c3
          clear c3
          by_cases c4 : x8_1 < (l0.length : Int)
          · rw [if_pos c4] at H
            have c4b0 : decide (x8_1 < (l0.length : Int)) = true := decide_eq_true c4
            clear c4
            by_cases c5 : (rd l0 x8_1) = 0
            · rw [if_pos c5] at H
              have c5b0 : ((rd l0 x8_1) == 0) = true := beq_iff_eq.mpr c5
              have c5b1 : ((rd l0 x8_1) != 0) = false := bne_eq_false_iff_eq.mpr c5
              clear c5
              have H' := Aside0.mk H
              clear H
              have p640 : 0 ≤ (x8_1 : Int) := of_decide_eq_true (by (with_reducible assumption))
              have q640 : x8_1 < (l0.length : Int) := of_decide_eq_true (by (with_reducible assumption))
              obtain ⟨ad640, e640, hx640_0⟩ := Kd.at_int HR0.out x8_1 p640 q640
              cases e640
              replace p640 := eq_true p640
              replace q640 := eq_true q640
              go_wp2
              go_roundg k1
              case measure => have := HK1.out; omega
              case rel => exact ⟨(wrap64 (x8_1 + 1)), (by rfl), H', ⟨by have := HK1.out; omega⟩, by repeat (first | exact Drawn0.refl _ | apply Drawn0.step)⟩
            rw [if_neg c5] at H
            have c5b0 : ((rd l0 x8_1) == 0) = false := beq_eq_false_iff_ne.mpr c5
            have c5b1 : ((rd l0 x8_1) != 0) = true := bne_iff_ne.mpr c5
            obtain rfl := Option.some.inj H
            have p640 : 0 ≤ (x8_1 : Int) := of_decide_eq_true (by (with_reducible assumption))
            have q640 : x8_1 < (l0.length : Int) := of_decide_eq_true (by (with_reducible assumption))
            obtain ⟨ad640, e640, hx640_0⟩ := Kd.at_int HR0.out x8_1 p640 q640
            cases e640
            replace p640 := eq_true p640
            replace q640 := eq_true q640
            go_wp2
            go_ret
            exact ⟨by rfl, by repeat (first | exact Drawn0.refl _ | apply Drawn0.step)⟩
          rw [if_neg c4] at H
          exact absurd H (by simp)
        rw [if_neg c3] at H
        exact absurd H (by simp)
      rw [if_neg c2] at H
      have c2b0 : decide (x8_1 < (l0.length : Int)) = false := decide_eq_false c2
      clear c2
      obtain rfl := Option.some.inj H
      go_wp2
      go_ret
      exact ⟨by rfl, by repeat (first | exact Drawn0.refl _ | apply Drawn0.step)⟩

/-! ### cmp_isNaN_int64: function 107 -/
def cmp_isNaN_int64.f (a0 : Int) : Option (Bool) := some (a0 != a0)
set_option maxHeartbeats 8000000 in
set_option maxRecDepth 100000 in
theorem cmp_isNaN_int64.calls (a0 : Int) (r : Bool) (w : World) (h : cmp_isNaN_int64.f a0 = some r) :
    Calls Try.prog 107 #[.int .i64 a0] w fun e w' => e = .returned (.bool r) ∧ Drawn0 w w' := by
  have H : (some (a0 != a0)) = some r := h
  clear h
  obtain rfl := Option.some.inj H
  go_enter Try.func107, Try.ntmps107
  go_wp2
  go_ret
  exact ⟨by rfl, by repeat (exact Drawn0.refl _)⟩

/-! ### cmp_Compare_int64: function 98 -/
def cmp_Compare_int64.f (a0 : Int) (a1 : Int) : Option (Int) := (cmp_isNaN_int64.f a0).bind fun t641 => ((cmp_isNaN_int64.f a1).bind fun t642 => (if t641 = true then (if t642 = true then (some 0) else (some (-1))) else (if t642 = true then (some 1) else (if a0 < a1 then (some (-1)) else (if a0 > a1 then (some 1) else (some 0))))))
set_option maxHeartbeats 8000000 in
set_option maxRecDepth 100000 in
theorem cmp_Compare_int64.calls (a0 : Int) (a1 : Int) (r : Int) (w : World) (h : cmp_Compare_int64.f a0 a1 = some r) :
    Calls Try.prog 98 #[.int .i64 a0, .int .i64 a1] w fun e w' => e = .returned (.int .i64 r) ∧ Drawn0 w w' := by
  have H : ((cmp_isNaN_int64.f a0).bind fun t641 => ((cmp_isNaN_int64.f a1).bind fun t642 => (if t641 = true then (if t642 = true then (some 0) else (some (-1))) else (if t642 = true then (some 1) else (if a0 < a1 then (some (-1)) else (if a0 > a1 then (some 1) else (some 0))))))) = some r := h
  clear h
  replace H := Option.bind_eq_some_iff.mp H
  obtain ⟨t641, A30, H⟩ := H
  have A3 := Aside0.mk A30
  clear A30
  replace H := Option.bind_eq_some_iff.mp H
  obtain ⟨t642, A40, H⟩ := H
  have A4 := Aside0.mk A40
  clear A40
  by_cases c5 : t641 = true
  · subst c5
    have H1 : (if t642 = true then (some 0) else (some (-1))) = some r := by rw [if_pos rfl] at H; exact H
    clear H
    have H := H1
    clear H1
    by_cases c6 : t642 = true
    · subst c6
      have H1 : (some 0) = some r := by rw [if_pos rfl] at H; exact H
      clear H
      have H := H1
      clear H1
      obtain rfl := Option.some.inj H
      go_enter Try.func98, Try.ntmps98
      go_wp2_with (first | ((with_reducible refine gate_callee (f := 107) rfl ?_); refine goesL_ (some 8) rfl rfl Try.func107 (by kernel_rfl) rfl #[.int .i64 a0] rfl (by (try simp only [List.map_toArray, List.map_cons, List.map_nil]); rfl) ?_; (with_reducible refine (cmp_isNaN_int64.calls a0 true _ A3.out).mono ?_); rintro e w' ⟨rfl, ⟨nd, rfl⟩⟩; refine ⟨_, rfl, ?_⟩) | ((with_reducible refine gate_callee (f := 107) rfl ?_); refine goesL_ (some 10) rfl rfl Try.func107 (by kernel_rfl) rfl #[.int .i64 a1] rfl (by (try simp only [List.map_toArray, List.map_cons, List.map_nil]); rfl) ?_; (with_reducible refine (cmp_isNaN_int64.calls a1 true _ A4.out).mono ?_); rintro e w' ⟨rfl, ⟨nd, rfl⟩⟩; refine ⟨_, rfl, ?_⟩))
      go_ret
      exact ⟨by rfl, by repeat (first | exact Drawn0.refl _ | apply Drawn0.step)⟩
    replace c6 := Bool.eq_false_iff.mpr c6
    subst c6
    have H1 : (some (-1)) = some r := by rw [if_neg (show ¬ (false = true) by decide)] at H; exact H
    clear H
    have H := H1
    clear H1
    obtain rfl := Option.some.inj H
    go_enter Try.func98, Try.ntmps98
    go_wp2_with (first | ((with_reducible refine gate_callee (f := 107) rfl ?_); refine goesL_ (some 8) rfl rfl Try.func107 (by kernel_rfl) rfl #[.int .i64 a0] rfl (by (try simp only [List.map_toArray, List.map_cons, List.map_nil]); rfl) ?_; (with_reducible refine (cmp_isNaN_int64.calls a0 true _ A3.out).mono ?_); rintro e w' ⟨rfl, ⟨nd, rfl⟩⟩; refine ⟨_, rfl, ?_⟩) | ((with_reducible refine gate_callee (f := 107) rfl ?_); refine goesL_ (some 10) rfl rfl Try.func107 (by kernel_rfl) rfl #[.int .i64 a1] rfl (by (try simp only [List.map_toArray, List.map_cons, List.map_nil]); rfl) ?_; (with_reducible refine (cmp_isNaN_int64.calls a1 false _ A4.out).mono ?_); rintro e w' ⟨rfl, ⟨nd, rfl⟩⟩; refine ⟨_, rfl, ?_⟩))
    go_ret
    exact ⟨by rfl, by repeat (first | exact Drawn0.refl _ | apply Drawn0.step)⟩
  replace c5 := Bool.eq_false_iff.mpr c5
  subst c5
  have H1 : (if t642 = true then (some 1) else (if a0 < a1 then (some (-1)) else (if a0 > a1 then (some 1) else (some 0)))) = some r := by rw [if_neg (show ¬ (false = true) by decide)] at H; exact H
  clear H
  have H := H1
  clear H1
  by_cases c7 : t642 = true
  · subst c7
    have H1 : (some 1) = some r := by rw [if_pos rfl] at H; exact H
    clear H
    have H := H1
    clear H1
    obtain rfl := Option.some.inj H
    go_enter Try.func98, Try.ntmps98
    go_wp2_with (first | ((with_reducible refine gate_callee (f := 107) rfl ?_); refine goesL_ (some 8) rfl rfl Try.func107 (by kernel_rfl) rfl #[.int .i64 a0] rfl (by (try simp only [List.map_toArray, List.map_cons, List.map_nil]); rfl) ?_; (with_reducible refine (cmp_isNaN_int64.calls a0 false _ A3.out).mono ?_); rintro e w' ⟨rfl, ⟨nd, rfl⟩⟩; refine ⟨_, rfl, ?_⟩) | ((with_reducible refine gate_callee (f := 107) rfl ?_); refine goesL_ (some 10) rfl rfl Try.func107 (by kernel_rfl) rfl #[.int .i64 a1] rfl (by (try simp only [List.map_toArray, List.map_cons, List.map_nil]); rfl) ?_; (with_reducible refine (cmp_isNaN_int64.calls a1 true _ A4.out).mono ?_); rintro e w' ⟨rfl, ⟨nd, rfl⟩⟩; refine ⟨_, rfl, ?_⟩))
    go_ret
    exact ⟨by rfl, by repeat (first | exact Drawn0.refl _ | apply Drawn0.step)⟩
  replace c7 := Bool.eq_false_iff.mpr c7
  subst c7
  have H1 : (if a0 < a1 then (some (-1)) else (if a0 > a1 then (some 1) else (some 0))) = some r := by rw [if_neg (show ¬ (false = true) by decide)] at H; exact H
  clear H
  have H := H1
  clear H1
  by_cases c8 : a0 < a1
  · rw [if_pos c8] at H
    have c8b0 : decide (a0 < a1) = true := decide_eq_true c8
    clear c8
    obtain rfl := Option.some.inj H
    go_enter Try.func98, Try.ntmps98
    go_wp2_with (first | ((with_reducible refine gate_callee (f := 107) rfl ?_); refine goesL_ (some 8) rfl rfl Try.func107 (by kernel_rfl) rfl #[.int .i64 a0] rfl (by (try simp only [List.map_toArray, List.map_cons, List.map_nil]); rfl) ?_; (with_reducible refine (cmp_isNaN_int64.calls a0 false _ A3.out).mono ?_); rintro e w' ⟨rfl, ⟨nd, rfl⟩⟩; refine ⟨_, rfl, ?_⟩) | ((with_reducible refine gate_callee (f := 107) rfl ?_); refine goesL_ (some 10) rfl rfl Try.func107 (by kernel_rfl) rfl #[.int .i64 a1] rfl (by (try simp only [List.map_toArray, List.map_cons, List.map_nil]); rfl) ?_; (with_reducible refine (cmp_isNaN_int64.calls a1 false _ A4.out).mono ?_); rintro e w' ⟨rfl, ⟨nd, rfl⟩⟩; refine ⟨_, rfl, ?_⟩))
    go_ret
    exact ⟨by rfl, by repeat (first | exact Drawn0.refl _ | apply Drawn0.step)⟩
  rw [if_neg c8] at H
  have c8b0 : decide (a0 < a1) = false := decide_eq_false c8
  clear c8
  by_cases c9 : a0 > a1
  · rw [if_pos c9] at H
    have c9b0 : decide (a1 < a0) = true := decide_eq_true c9
    clear c9
    obtain rfl := Option.some.inj H
    go_enter Try.func98, Try.ntmps98
    go_wp2_with (first | ((with_reducible refine gate_callee (f := 107) rfl ?_); refine goesL_ (some 8) rfl rfl Try.func107 (by kernel_rfl) rfl #[.int .i64 a0] rfl (by (try simp only [List.map_toArray, List.map_cons, List.map_nil]); rfl) ?_; (with_reducible refine (cmp_isNaN_int64.calls a0 false _ A3.out).mono ?_); rintro e w' ⟨rfl, ⟨nd, rfl⟩⟩; refine ⟨_, rfl, ?_⟩) | ((with_reducible refine gate_callee (f := 107) rfl ?_); refine goesL_ (some 10) rfl rfl Try.func107 (by kernel_rfl) rfl #[.int .i64 a1] rfl (by (try simp only [List.map_toArray, List.map_cons, List.map_nil]); rfl) ?_; (with_reducible refine (cmp_isNaN_int64.calls a1 false _ A4.out).mono ?_); rintro e w' ⟨rfl, ⟨nd, rfl⟩⟩; refine ⟨_, rfl, ?_⟩))
    go_ret
    exact ⟨by rfl, by repeat (first | exact Drawn0.refl _ | apply Drawn0.step)⟩
  rw [if_neg c9] at H
  have c9b0 : decide (a1 < a0) = false := decide_eq_false c9
  clear c9
  obtain rfl := Option.some.inj H
  go_enter Try.func98, Try.ntmps98
  go_wp2_with (first | ((with_reducible refine gate_callee (f := 107) rfl ?_); refine goesL_ (some 8) rfl rfl Try.func107 (by kernel_rfl) rfl #[.int .i64 a0] rfl (by (try simp only [List.map_toArray, List.map_cons, List.map_nil]); rfl) ?_; (with_reducible refine (cmp_isNaN_int64.calls a0 false _ A3.out).mono ?_); rintro e w' ⟨rfl, ⟨nd, rfl⟩⟩; refine ⟨_, rfl, ?_⟩) | ((with_reducible refine gate_callee (f := 107) rfl ?_); refine goesL_ (some 10) rfl rfl Try.func107 (by kernel_rfl) rfl #[.int .i64 a1] rfl (by (try simp only [List.map_toArray, List.map_cons, List.map_nil]); rfl) ?_; (with_reducible refine (cmp_isNaN_int64.calls a1 false _ A4.out).mono ?_); rintro e w' ⟨rfl, ⟨nd, rfl⟩⟩; refine ⟨_, rfl, ?_⟩))
  go_ret
  exact ⟨by rfl, by repeat (first | exact Drawn0.refl _ | apply Drawn0.step)⟩

/-! ### cmp_isNaN_string: function 108 -/
def cmp_isNaN_string.f (a0 : ByteArray) : Option (Bool) := some (a0.toList != a0.toList)
set_option maxHeartbeats 8000000 in
set_option maxRecDepth 100000 in
theorem cmp_isNaN_string.calls (a0 : ByteArray) (r : Bool) (w : World) (h : cmp_isNaN_string.f a0 = some r) :
    Calls Try.prog 108 #[.string a0] w fun e w' => e = .returned (.bool r) ∧ Drawn0 w w' := by
  have H : (some (a0.toList != a0.toList)) = some r := h
  clear h
  obtain rfl := Option.some.inj H
  go_enter Try.func108, Try.ntmps108
  go_wp2
  go_ret
  exact ⟨by rfl, by repeat (exact Drawn0.refl _)⟩

/-! ### cmp_Compare_string: function 99 -/
def cmp_Compare_string.f (a0 : ByteArray) (a1 : ByteArray) : Option (Int) := (cmp_isNaN_string.f a0).bind fun t643 => ((cmp_isNaN_string.f a1).bind fun t644 => (if t643 = true then (if t644 = true then (some 0) else (some (-1))) else (if t644 = true then (some 1) else (if (Op.bytesLess a0.toList a1.toList) = true then (some (-1)) else (if (Op.bytesLess a1.toList a0.toList) = true then (some 1) else (some 0))))))
set_option maxHeartbeats 8000000 in
set_option maxRecDepth 100000 in
theorem cmp_Compare_string.calls (a0 : ByteArray) (a1 : ByteArray) (r : Int) (w : World) (h : cmp_Compare_string.f a0 a1 = some r) :
    Calls Try.prog 99 #[.string a0, .string a1] w fun e w' => e = .returned (.int .i64 r) ∧ Drawn0 w w' := by
  have H : ((cmp_isNaN_string.f a0).bind fun t643 => ((cmp_isNaN_string.f a1).bind fun t644 => (if t643 = true then (if t644 = true then (some 0) else (some (-1))) else (if t644 = true then (some 1) else (if (Op.bytesLess a0.toList a1.toList) = true then (some (-1)) else (if (Op.bytesLess a1.toList a0.toList) = true then (some 1) else (some 0))))))) = some r := h
  clear h
  replace H := Option.bind_eq_some_iff.mp H
  obtain ⟨t643, A30, H⟩ := H
  have A3 := Aside0.mk A30
  clear A30
  replace H := Option.bind_eq_some_iff.mp H
  obtain ⟨t644, A40, H⟩ := H
  have A4 := Aside0.mk A40
  clear A40
  by_cases c5 : t643 = true
  · subst c5
    have H1 : (if t644 = true then (some 0) else (some (-1))) = some r := by rw [if_pos rfl] at H; exact H
    clear H
    have H := H1
    clear H1
    by_cases c6 : t644 = true
    · subst c6
      have H1 : (some 0) = some r := by rw [if_pos rfl] at H; exact H
      clear H
      have H := H1
      clear H1
      obtain rfl := Option.some.inj H
      go_enter Try.func99, Try.ntmps99
      go_wp2_with (first | ((with_reducible refine gate_callee (f := 108) rfl ?_); refine goesL_ (some 8) rfl rfl Try.func108 (by kernel_rfl) rfl #[.string a0] rfl (by (try simp only [List.map_toArray, List.map_cons, List.map_nil]); rfl) ?_; (with_reducible refine (cmp_isNaN_string.calls a0 true _ A3.out).mono ?_); rintro e w' ⟨rfl, ⟨nd, rfl⟩⟩; refine ⟨_, rfl, ?_⟩) | ((with_reducible refine gate_callee (f := 108) rfl ?_); refine goesL_ (some 10) rfl rfl Try.func108 (by kernel_rfl) rfl #[.string a1] rfl (by (try simp only [List.map_toArray, List.map_cons, List.map_nil]); rfl) ?_; (with_reducible refine (cmp_isNaN_string.calls a1 true _ A4.out).mono ?_); rintro e w' ⟨rfl, ⟨nd, rfl⟩⟩; refine ⟨_, rfl, ?_⟩))
      go_ret
      exact ⟨by rfl, by repeat (first | exact Drawn0.refl _ | apply Drawn0.step)⟩
    replace c6 := Bool.eq_false_iff.mpr c6
    subst c6
    have H1 : (some (-1)) = some r := by rw [if_neg (show ¬ (false = true) by decide)] at H; exact H
    clear H
    have H := H1
    clear H1
    obtain rfl := Option.some.inj H
    go_enter Try.func99, Try.ntmps99
    go_wp2_with (first | ((with_reducible refine gate_callee (f := 108) rfl ?_); refine goesL_ (some 8) rfl rfl Try.func108 (by kernel_rfl) rfl #[.string a0] rfl (by (try simp only [List.map_toArray, List.map_cons, List.map_nil]); rfl) ?_; (with_reducible refine (cmp_isNaN_string.calls a0 true _ A3.out).mono ?_); rintro e w' ⟨rfl, ⟨nd, rfl⟩⟩; refine ⟨_, rfl, ?_⟩) | ((with_reducible refine gate_callee (f := 108) rfl ?_); refine goesL_ (some 10) rfl rfl Try.func108 (by kernel_rfl) rfl #[.string a1] rfl (by (try simp only [List.map_toArray, List.map_cons, List.map_nil]); rfl) ?_; (with_reducible refine (cmp_isNaN_string.calls a1 false _ A4.out).mono ?_); rintro e w' ⟨rfl, ⟨nd, rfl⟩⟩; refine ⟨_, rfl, ?_⟩))
    go_ret
    exact ⟨by rfl, by repeat (first | exact Drawn0.refl _ | apply Drawn0.step)⟩
  replace c5 := Bool.eq_false_iff.mpr c5
  subst c5
  have H1 : (if t644 = true then (some 1) else (if (Op.bytesLess a0.toList a1.toList) = true then (some (-1)) else (if (Op.bytesLess a1.toList a0.toList) = true then (some 1) else (some 0)))) = some r := by rw [if_neg (show ¬ (false = true) by decide)] at H; exact H
  clear H
  have H := H1
  clear H1
  by_cases c7 : t644 = true
  · subst c7
    have H1 : (some 1) = some r := by rw [if_pos rfl] at H; exact H
    clear H
    have H := H1
    clear H1
    obtain rfl := Option.some.inj H
    go_enter Try.func99, Try.ntmps99
    go_wp2_with (first | ((with_reducible refine gate_callee (f := 108) rfl ?_); refine goesL_ (some 8) rfl rfl Try.func108 (by kernel_rfl) rfl #[.string a0] rfl (by (try simp only [List.map_toArray, List.map_cons, List.map_nil]); rfl) ?_; (with_reducible refine (cmp_isNaN_string.calls a0 false _ A3.out).mono ?_); rintro e w' ⟨rfl, ⟨nd, rfl⟩⟩; refine ⟨_, rfl, ?_⟩) | ((with_reducible refine gate_callee (f := 108) rfl ?_); refine goesL_ (some 10) rfl rfl Try.func108 (by kernel_rfl) rfl #[.string a1] rfl (by (try simp only [List.map_toArray, List.map_cons, List.map_nil]); rfl) ?_; (with_reducible refine (cmp_isNaN_string.calls a1 true _ A4.out).mono ?_); rintro e w' ⟨rfl, ⟨nd, rfl⟩⟩; refine ⟨_, rfl, ?_⟩))
    go_ret
    exact ⟨by rfl, by repeat (first | exact Drawn0.refl _ | apply Drawn0.step)⟩
  replace c7 := Bool.eq_false_iff.mpr c7
  subst c7
  have H1 : (if (Op.bytesLess a0.toList a1.toList) = true then (some (-1)) else (if (Op.bytesLess a1.toList a0.toList) = true then (some 1) else (some 0))) = some r := by rw [if_neg (show ¬ (false = true) by decide)] at H; exact H
  clear H
  have H := H1
  clear H1
  by_cases c8 : (Op.bytesLess a0.toList a1.toList) = true
  · rw [if_pos c8] at H
    have c8b0 : (Op.bytesLess a0.toList a1.toList) = true := c8
    clear c8
    obtain rfl := Option.some.inj H
    go_enter Try.func99, Try.ntmps99
    go_wp2_with (first | ((with_reducible refine gate_callee (f := 108) rfl ?_); refine goesL_ (some 8) rfl rfl Try.func108 (by kernel_rfl) rfl #[.string a0] rfl (by (try simp only [List.map_toArray, List.map_cons, List.map_nil]); rfl) ?_; (with_reducible refine (cmp_isNaN_string.calls a0 false _ A3.out).mono ?_); rintro e w' ⟨rfl, ⟨nd, rfl⟩⟩; refine ⟨_, rfl, ?_⟩) | ((with_reducible refine gate_callee (f := 108) rfl ?_); refine goesL_ (some 10) rfl rfl Try.func108 (by kernel_rfl) rfl #[.string a1] rfl (by (try simp only [List.map_toArray, List.map_cons, List.map_nil]); rfl) ?_; (with_reducible refine (cmp_isNaN_string.calls a1 false _ A4.out).mono ?_); rintro e w' ⟨rfl, ⟨nd, rfl⟩⟩; refine ⟨_, rfl, ?_⟩))
    go_ret
    exact ⟨by rfl, by repeat (first | exact Drawn0.refl _ | apply Drawn0.step)⟩
  rw [if_neg c8] at H
  have c8b0 : (Op.bytesLess a0.toList a1.toList) = false := by simpa using c8
  clear c8
  by_cases c9 : (Op.bytesLess a1.toList a0.toList) = true
  · rw [if_pos c9] at H
    have c9b0 : (Op.bytesLess a1.toList a0.toList) = true := c9
    clear c9
    obtain rfl := Option.some.inj H
    go_enter Try.func99, Try.ntmps99
    go_wp2_with (first | ((with_reducible refine gate_callee (f := 108) rfl ?_); refine goesL_ (some 8) rfl rfl Try.func108 (by kernel_rfl) rfl #[.string a0] rfl (by (try simp only [List.map_toArray, List.map_cons, List.map_nil]); rfl) ?_; (with_reducible refine (cmp_isNaN_string.calls a0 false _ A3.out).mono ?_); rintro e w' ⟨rfl, ⟨nd, rfl⟩⟩; refine ⟨_, rfl, ?_⟩) | ((with_reducible refine gate_callee (f := 108) rfl ?_); refine goesL_ (some 10) rfl rfl Try.func108 (by kernel_rfl) rfl #[.string a1] rfl (by (try simp only [List.map_toArray, List.map_cons, List.map_nil]); rfl) ?_; (with_reducible refine (cmp_isNaN_string.calls a1 false _ A4.out).mono ?_); rintro e w' ⟨rfl, ⟨nd, rfl⟩⟩; refine ⟨_, rfl, ?_⟩))
    go_ret
    exact ⟨by rfl, by repeat (first | exact Drawn0.refl _ | apply Drawn0.step)⟩
  rw [if_neg c9] at H
  have c9b0 : (Op.bytesLess a1.toList a0.toList) = false := by simpa using c9
  clear c9
  obtain rfl := Option.some.inj H
  go_enter Try.func99, Try.ntmps99
  go_wp2_with (first | ((with_reducible refine gate_callee (f := 108) rfl ?_); refine goesL_ (some 8) rfl rfl Try.func108 (by kernel_rfl) rfl #[.string a0] rfl (by (try simp only [List.map_toArray, List.map_cons, List.map_nil]); rfl) ?_; (with_reducible refine (cmp_isNaN_string.calls a0 false _ A3.out).mono ?_); rintro e w' ⟨rfl, ⟨nd, rfl⟩⟩; refine ⟨_, rfl, ?_⟩) | ((with_reducible refine gate_callee (f := 108) rfl ?_); refine goesL_ (some 10) rfl rfl Try.func108 (by kernel_rfl) rfl #[.string a1] rfl (by (try simp only [List.map_toArray, List.map_cons, List.map_nil]); rfl) ?_; (with_reducible refine (cmp_isNaN_string.calls a1 false _ A4.out).mono ?_); rintro e w' ⟨rfl, ⟨nd, rfl⟩⟩; refine ⟨_, rfl, ?_⟩))
  go_ret
  exact ⟨by rfl, by repeat (first | exact Drawn0.refl _ | apply Drawn0.step)⟩

/-! ### value_Text: function 109 -/
def value_Text.f (a0 : ByteArray) : Option (Int × Int × ByteArray) := some (3, 0, a0)
set_option maxHeartbeats 8000000 in
set_option maxRecDepth 100000 in
theorem value_Text.calls (a0 : ByteArray) (r1 : Int) (r2 : Int) (r3 : ByteArray) (w : World) (h : value_Text.f a0 = some (r1, r2, r3)) :
    Calls Try.prog 109 #[.string a0] w fun e w' => e = .returned (.agg #[.int .u8 r1, .int .i64 r2, .string r3]) ∧ Below w.heap.size w w' := by
  have hu37 := Try.underlying37
  have HB := Aside0.mk (Below.refl w.heap.size w)
  have H : (some (3, 0, a0)) = some (r1, r2, r3) := h
  clear h
  simp only [Option.some.injEq, Prod.mk.injEq] at H
  obtain ⟨rfl, rfl, rfl⟩ := H
  go_enter Try.func109, Try.ntmps109
  go_wp2_with (((with_reducible refine gate_dst (N := 2) rfl ?_); refine box_event ?hg (N := 2) ?hd (cs := #[.int .u8 0, .int .i64 0, .string (⟨#[]⟩ : ByteArray)]) (t := 37) ?hr ?_; (case hd => rfl); (case hg => rfl); (case hr => ((go_simp; done))); intro gb645 hg w2 hbox hb; have n0_ := Aside0.mk (below_step (by repeat ((with_reducible exact HB.out))) hb); have n1_ := Aside0.mk (hbox); have n2_ := Aside0.mk ((by rw [hg]; exact (below_size (by repeat ((with_reducible exact HB.out)))) : w.heap.size ≤ gb645)); have n3_ := Aside0.mk ((by rw [hg]; exact (below_size (by repeat ((with_reducible exact HB.out)))) : w.heap.size ≤ gb645)); clear HB; have HB := n0_; have BK645 := n1_; have GW645 := n2_; have GE645 := n3_; clear n0_ n1_ n2_ n3_; clear hb hbox hg; have hcz3_0 : w2.cell? ⟨gb645, 0, none⟩ = some (.int .u8 0) := (blk_cell BK645.out 0).trans rfl; have hcz3_1 : w2.cell? ⟨gb645, 1, none⟩ = some (.int .i64 0) := (blk_cell BK645.out 1).trans rfl; have hcz3_2 : w2.cell? ⟨gb645, 2, none⟩ = some (.string (⟨#[]⟩ : ByteArray)) := (blk_cell BK645.out 2).trans rfl; have hfz3_0 := blk_frozen BK645.out 0; have hfz3_1 := blk_frozen BK645.out 1; have hfz3_2 := blk_frozen BK645.out 2))
  refine bodyPost_ret (results_cell_row rfl _ _ gb645 37 #[.int .u8 3, .int .i64 0, .string a0] (0, 0) _ rfl (by (with_reducible repeat (fail)); refine blk_put (cs := #[.int .u8 3, .int .i64 0, .string (⟨#[]⟩ : ByteArray)]) ?_ 2 _ rfl; (with_reducible repeat (fail)); refine blk_put (cs := #[.int .u8 3, .int .i64 0, .string (⟨#[]⟩ : ByteArray)]) ?_ 1 _ rfl; (with_reducible repeat (fail)); refine blk_put (cs := #[.int .u8 0, .int .i64 0, .string (⟨#[]⟩ : ByteArray)]) ?_ 0 _ rfl; (with_reducible repeat (fail)); exact BK645.out) Try.underlying37 rfl (by kernel_rfl)) rfl ?_
  exact ⟨by rfl, by repeat ((with_reducible first | exact HB.out | refine below_set ?_ GE645.out))⟩

/-! ### value_texts: function 100 -/
def value_texts.f (a0 : ByteArray) (a1_0 : Int) (a1_1 : Int) (a1_2 : ByteArray) (a2_0 : Int) (a2_1 : Int) (a2_2 : ByteArray) : Option (Int × Int × ByteArray × Int) := if a0.toList = ([99, 97, 116] : List UInt8) then (if (wrap64 ((a1_2.size : Int) + (a2_2.size : Int))) > 65536 then (some (0, 0, (⟨#[]⟩ : ByteArray), 3)) else (if a1_2.size + a2_2.size ≤ 9223372036854775807 then ((value_Text.f (a1_2 ++ a2_2)).bind fun bt649 => (some (bt649.1, bt649.2.1, bt649.2.2, 0))) else (none))) else (if a2_1 < 0 then (some (0, 0, (⟨#[]⟩ : ByteArray), 5)) else (if a2_1 ≥ (a1_2.size : Int) then (some (0, 0, (⟨#[]⟩ : ByteArray), 5)) else (if 0 ≤ a2_1 then (if a2_1 < (a1_2.size : Int) then ((value_Of.f (wrap64 (bt a1_2 a2_1))).bind fun bt652 => (some (bt652.1, bt652.2.1, bt652.2.2, 0))) else (none)) else (none))))
set_option maxHeartbeats 8000000 in
set_option maxRecDepth 100000 in
theorem value_texts.calls (a0 : ByteArray) (a1_0 : Int) (a1_1 : Int) (a1_2 : ByteArray) (a2_0 : Int) (a2_1 : Int) (a2_2 : ByteArray) (r1 : Int) (r2 : Int) (r3 : ByteArray) (r4 : Int) (w : World) (h : value_texts.f a0 a1_0 a1_1 a1_2 a2_0 a2_1 a2_2 = some (r1, r2, r3, r4)) :
    Calls Try.prog 100 #[.string a0, .agg #[.int .u8 a1_0, .int .i64 a1_1, .string a1_2], .agg #[.int .u8 a2_0, .int .i64 a2_1, .string a2_2]] w fun e w' => e = .returned (.tuple #[.agg #[.int .u8 r1, .int .i64 r2, .string r3], .int .i64 r4]) ∧ Below w.heap.size w w' := by
  have hu37 := Try.underlying37
  have HB := Aside0.mk (Below.refl w.heap.size w)
  have H : (if a0.toList = ([99, 97, 116] : List UInt8) then (if (wrap64 ((a1_2.size : Int) + (a2_2.size : Int))) > 65536 then (some (0, 0, (⟨#[]⟩ : ByteArray), 3)) else (if a1_2.size + a2_2.size ≤ 9223372036854775807 then ((value_Text.f (a1_2 ++ a2_2)).bind fun bt649 => (some (bt649.1, bt649.2.1, bt649.2.2, 0))) else (none))) else (if a2_1 < 0 then (some (0, 0, (⟨#[]⟩ : ByteArray), 5)) else (if a2_1 ≥ (a1_2.size : Int) then (some (0, 0, (⟨#[]⟩ : ByteArray), 5)) else (if 0 ≤ a2_1 then (if a2_1 < (a1_2.size : Int) then ((value_Of.f (wrap64 (bt a1_2 a2_1))).bind fun bt652 => (some (bt652.1, bt652.2.1, bt652.2.2, 0))) else (none)) else (none))))) = some (r1, r2, r3, r4) := h
  clear h
  by_cases c4 : a0.toList = ([99, 97, 116] : List UInt8)
  · rw [if_pos c4] at H
    have c4b0 : (a0.toList == ([99, 97, 116] : List UInt8)) = true := beq_iff_eq.mpr c4
    have c4b1 : (a0.toList != ([99, 97, 116] : List UInt8)) = false := bne_eq_false_iff_eq.mpr c4
    clear c4
    by_cases c5 : (wrap64 ((a1_2.size : Int) + (a2_2.size : Int))) > 65536
    · rw [if_pos c5] at H
      have c5b0 : decide (65536 < (wrap64 ((a1_2.size : Int) + (a2_2.size : Int)))) = true := decide_eq_true c5
      clear c5
      simp only [Option.some.injEq, Prod.mk.injEq] at H
      obtain ⟨rfl, rfl, rfl, rfl⟩ := H
      go_enter Try.func100, Try.ntmps100
      go_wp2_with (first | ((with_reducible refine gate_dst (N := 4) rfl ?_); (try (refine gate_guard (by rfl) ?_; dsimp only)); refine box_event ?hg (N := 4) ?hd (cs := #[.int .u8 a1_0, .int .i64 a1_1, .string a1_2]) (t := 37) ?hr ?_; (case hd => rfl); (case hg => rfl); (case hr => ((go_simp; done))); intro gb646 hg w6 hbox hb; have n0_ := Aside0.mk (below_step (by repeat ((with_reducible exact HB.out))) hb); have n1_ := Aside0.mk (hbox); have n2_ := Aside0.mk ((by rw [hg]; exact (below_size (by repeat ((with_reducible exact HB.out)))) : w.heap.size ≤ gb646)); have n3_ := Aside0.mk ((by rw [hg]; exact (below_size (by repeat ((with_reducible exact HB.out)))) : w.heap.size ≤ gb646)); clear HB; have HB := n0_; have BK646 := n1_; have GW646 := n2_; have GE646 := n3_; clear n0_ n1_ n2_ n3_; clear hb hbox hg) | ((with_reducible refine gate_dst (N := 5) rfl ?_); (try (refine gate_guard (by rfl) ?_; dsimp only)); refine box_event ?hg (N := 5) ?hd (cs := #[.int .u8 a2_0, .int .i64 a2_1, .string a2_2]) (t := 37) ?hr ?_; (case hd => rfl); (case hg => rfl); (case hr => ((go_simp; done))); intro gb647 hg w7 hbox hb; have n0_ := Aside0.mk (blk_below (g := gb646) (o := .cells #[.int .u8 a1_0, .int .i64 a1_1, .string a1_2] 37 (0, 0)) (by (with_reducible repeat (fail)); exact BK646.out) hb); have n1_ := Aside0.mk (below_step (by repeat ((with_reducible exact HB.out))) hb); have n2_ := Aside0.mk (hbox); have n3_ := Aside0.mk ((by rw [hg]; exact (below_size (by repeat ((with_reducible exact HB.out)))) : w.heap.size ≤ gb647)); have n4_ := Aside0.mk ((by rw [hg]; exact (below_size (by repeat ((with_reducible exact HB.out)))) : w.heap.size ≤ gb647)); have n5_ := Aside0.mk ((by rw [hg]; exact Nat.ne_of_lt (blk_lt (g := gb646) (o := .cells #[.int .u8 a1_0, .int .i64 a1_1, .string a1_2] 37 (0, 0)) (by (with_reducible repeat (fail)); exact BK646.out)) : gb646 ≠ gb647)); have n6_ := Aside0.mk ((by rw [hg]; exact Nat.ne_of_gt (blk_lt (g := gb646) (o := .cells #[.int .u8 a1_0, .int .i64 a1_1, .string a1_2] 37 (0, 0)) (by (with_reducible repeat (fail)); exact BK646.out)) : gb647 ≠ gb646)); clear BK646; clear HB; have BK646 := n0_; have HB := n1_; have BK647 := n2_; have GW647 := n3_; have GE647 := n4_; have NB646_647 := n5_; have NB647_646 := n6_; clear n0_ n1_ n2_ n3_ n4_ n5_ n6_; clear hb hbox hg) | ((with_reducible refine gate_dst (N := 6) rfl ?_); (try (refine gate_guard (by rfl) ?_; dsimp only)); refine box_event ?hg (N := 6) ?hd (cs := #[.int .u8 0, .int .i64 0, .string (⟨#[]⟩ : ByteArray)]) (t := 37) ?hr ?_; (case hd => rfl); (case hg => rfl); (case hr => ((go_simp; done))); intro gb648 hg w8 hbox hb; have n0_ := Aside0.mk (blk_below (g := gb646) (o := .cells #[.int .u8 a1_0, .int .i64 a1_1, .string a1_2] 37 (0, 0)) (by (with_reducible repeat (fail)); exact BK646.out) hb); have n1_ := Aside0.mk (blk_below (g := gb647) (o := .cells #[.int .u8 a2_0, .int .i64 a2_1, .string a2_2] 37 (0, 0)) (by (with_reducible repeat (fail)); exact BK647.out) hb); have n2_ := Aside0.mk (below_step (by repeat ((with_reducible exact HB.out))) hb); have n3_ := Aside0.mk (hbox); have n4_ := Aside0.mk ((by rw [hg]; exact (below_size (by repeat ((with_reducible exact HB.out)))) : w.heap.size ≤ gb648)); have n5_ := Aside0.mk ((by rw [hg]; exact (below_size (by repeat ((with_reducible exact HB.out)))) : w.heap.size ≤ gb648)); have n6_ := Aside0.mk ((by rw [hg]; exact Nat.ne_of_lt (blk_lt (g := gb646) (o := .cells #[.int .u8 a1_0, .int .i64 a1_1, .string a1_2] 37 (0, 0)) (by (with_reducible repeat (fail)); exact BK646.out)) : gb646 ≠ gb648)); have n7_ := Aside0.mk ((by rw [hg]; exact Nat.ne_of_gt (blk_lt (g := gb646) (o := .cells #[.int .u8 a1_0, .int .i64 a1_1, .string a1_2] 37 (0, 0)) (by (with_reducible repeat (fail)); exact BK646.out)) : gb648 ≠ gb646)); have n8_ := Aside0.mk ((by rw [hg]; exact Nat.ne_of_lt (blk_lt (g := gb647) (o := .cells #[.int .u8 a2_0, .int .i64 a2_1, .string a2_2] 37 (0, 0)) (by (with_reducible repeat (fail)); exact BK647.out)) : gb647 ≠ gb648)); have n9_ := Aside0.mk ((by rw [hg]; exact Nat.ne_of_gt (blk_lt (g := gb647) (o := .cells #[.int .u8 a2_0, .int .i64 a2_1, .string a2_2] 37 (0, 0)) (by (with_reducible repeat (fail)); exact BK647.out)) : gb648 ≠ gb647)); clear BK646; clear BK647; clear HB; have BK646 := n0_; have BK647 := n1_; have HB := n2_; have BK648 := n3_; have GW648 := n4_; have GE648 := n5_; have NB646_648 := n6_; have NB648_646 := n7_; have NB647_648 := n8_; have NB648_647 := n9_; clear n0_ n1_ n2_ n3_ n4_ n5_ n6_ n7_ n8_ n9_; clear hb hbox hg; have hnb9 := NB646_647.out; have hnc9 := NB647_646.out; have hnb10 := NB646_648.out; have hnc10 := NB648_646.out; have hcz11_0 : w8.cell? ⟨gb646, 0, none⟩ = some (.int .u8 a1_0) := (blk_cell BK646.out 0).trans rfl; have hcz11_1 : w8.cell? ⟨gb646, 1, none⟩ = some (.int .i64 a1_1) := (blk_cell BK646.out 1).trans rfl; have hcz11_2 : w8.cell? ⟨gb646, 2, none⟩ = some (.string a1_2) := (blk_cell BK646.out 2).trans rfl; have hfz11_0 := blk_frozen BK646.out 0; have hfz11_1 := blk_frozen BK646.out 1; have hfz11_2 := blk_frozen BK646.out 2; have hnb12 := NB647_648.out; have hnc12 := NB648_647.out; have hcz13_0 : w8.cell? ⟨gb647, 0, none⟩ = some (.int .u8 a2_0) := (blk_cell BK647.out 0).trans rfl; have hcz13_1 : w8.cell? ⟨gb647, 1, none⟩ = some (.int .i64 a2_1) := (blk_cell BK647.out 1).trans rfl; have hcz13_2 : w8.cell? ⟨gb647, 2, none⟩ = some (.string a2_2) := (blk_cell BK647.out 2).trans rfl; have hfz13_0 := blk_frozen BK647.out 0; have hfz13_1 := blk_frozen BK647.out 1; have hfz13_2 := blk_frozen BK647.out 2; have hcz14_0 : w8.cell? ⟨gb648, 0, none⟩ = some (.int .u8 0) := (blk_cell BK648.out 0).trans rfl; have hcz14_1 : w8.cell? ⟨gb648, 1, none⟩ = some (.int .i64 0) := (blk_cell BK648.out 1).trans rfl; have hcz14_2 : w8.cell? ⟨gb648, 2, none⟩ = some (.string (⟨#[]⟩ : ByteArray)) := (blk_cell BK648.out 2).trans rfl; have hfz14_0 := blk_frozen BK648.out 0; have hfz14_1 := blk_frozen BK648.out 1; have hfz14_2 := blk_frozen BK648.out 2))
      refine bodyPost_ret (results_ct rfl _ _ gb648 37 #[.int .u8 0, .int .i64 0, .string (⟨#[]⟩ : ByteArray)] (0, 0) _ rfl (by (with_reducible repeat (fail)); refine blk_put (cs := #[.int .u8 0, .int .i64 0, .string (⟨#[]⟩ : ByteArray)]) ?_ 2 _ rfl; (with_reducible repeat (fail)); refine blk_put (cs := #[.int .u8 0, .int .i64 0, .string (⟨#[]⟩ : ByteArray)]) ?_ 1 _ rfl; (with_reducible repeat (fail)); refine blk_put (cs := #[.int .u8 0, .int .i64 0, .string (⟨#[]⟩ : ByteArray)]) ?_ 0 _ rfl; (with_reducible repeat (fail)); exact BK648.out) Try.underlying37 rfl (by kernel_rfl)) rfl ?_
      exact ⟨by rfl, by repeat ((with_reducible first | exact HB.out | refine below_set ?_ GE648.out))⟩
    rw [if_neg c5] at H
    have c5b0 : decide (65536 < (wrap64 ((a1_2.size : Int) + (a2_2.size : Int)))) = false := decide_eq_false c5
    clear c5
    by_cases c15 : a1_2.size + a2_2.size ≤ 9223372036854775807
    · rw [if_pos c15] at H
      have c15b0 := eq_true c15
      have c15b1 : decide (a1_2.size + a2_2.size ≤ 9223372036854775807) = true := decide_eq_true c15
      try have c15b2 : (9223372036854775807 < a1_2.size + a2_2.size) = False := eq_false (Nat.not_lt.2 c15)
      (try (have c5b0wc15 : decide (65536 < (((a1_2.size : Int) + (a2_2.size : Int)))) = false := by have h_ := c5b0; rw [show wrap64 ((a1_2.size : Int) + (a2_2.size : Int)) = ((a1_2.size : Int) + (a2_2.size : Int)) from by (unfold wrap64; omega)] at h_; exact h_))
      replace H := Option.bind_eq_some_iff.mp H
      obtain ⟨⟨t649, t650, t651⟩, A160, H⟩ := H
      replace H : (some (t649, t650, t651, 0)) = some (r1, r2, r3, r4) := H
      have A16 := Aside0.mk A160
      clear A160
      simp only [Option.some.injEq, Prod.mk.injEq] at H
      obtain ⟨rfl, rfl, rfl, rfl⟩ := H
      go_enter Try.func100, Try.ntmps100
      go_wp2_with (first | ((with_reducible refine gate_dst (N := 4) rfl ?_); (try (refine gate_guard (by rfl) ?_; dsimp only)); refine box_event ?hg (N := 4) ?hd (cs := #[.int .u8 a1_0, .int .i64 a1_1, .string a1_2]) (t := 37) ?hr ?_; (case hd => rfl); (case hg => rfl); (case hr => ((go_simp; done))); intro gb646 hg w17 hbox hb; have n0_ := Aside0.mk (below_step (by repeat ((with_reducible exact HB.out))) hb); have n1_ := Aside0.mk (hbox); have n2_ := Aside0.mk ((by rw [hg]; exact (below_size (by repeat ((with_reducible exact HB.out)))) : w.heap.size ≤ gb646)); have n3_ := Aside0.mk ((by rw [hg]; exact (below_size (by repeat ((with_reducible exact HB.out)))) : w.heap.size ≤ gb646)); clear HB; have HB := n0_; have BK646 := n1_; have GW646 := n2_; have GE646 := n3_; clear n0_ n1_ n2_ n3_; clear hb hbox hg) | ((with_reducible refine gate_dst (N := 5) rfl ?_); (try (refine gate_guard (by rfl) ?_; dsimp only)); refine box_event ?hg (N := 5) ?hd (cs := #[.int .u8 a2_0, .int .i64 a2_1, .string a2_2]) (t := 37) ?hr ?_; (case hd => rfl); (case hg => rfl); (case hr => ((go_simp; done))); intro gb647 hg w18 hbox hb; have n0_ := Aside0.mk (blk_below (g := gb646) (o := .cells #[.int .u8 a1_0, .int .i64 a1_1, .string a1_2] 37 (0, 0)) (by (with_reducible repeat (fail)); exact BK646.out) hb); have n1_ := Aside0.mk (below_step (by repeat ((with_reducible exact HB.out))) hb); have n2_ := Aside0.mk (hbox); have n3_ := Aside0.mk ((by rw [hg]; exact (below_size (by repeat ((with_reducible exact HB.out)))) : w.heap.size ≤ gb647)); have n4_ := Aside0.mk ((by rw [hg]; exact (below_size (by repeat ((with_reducible exact HB.out)))) : w.heap.size ≤ gb647)); have n5_ := Aside0.mk ((by rw [hg]; exact Nat.ne_of_lt (blk_lt (g := gb646) (o := .cells #[.int .u8 a1_0, .int .i64 a1_1, .string a1_2] 37 (0, 0)) (by (with_reducible repeat (fail)); exact BK646.out)) : gb646 ≠ gb647)); have n6_ := Aside0.mk ((by rw [hg]; exact Nat.ne_of_gt (blk_lt (g := gb646) (o := .cells #[.int .u8 a1_0, .int .i64 a1_1, .string a1_2] 37 (0, 0)) (by (with_reducible repeat (fail)); exact BK646.out)) : gb647 ≠ gb646)); clear BK646; clear HB; have BK646 := n0_; have HB := n1_; have BK647 := n2_; have GW647 := n3_; have GE647 := n4_; have NB646_647 := n5_; have NB647_646 := n6_; clear n0_ n1_ n2_ n3_ n4_ n5_ n6_; clear hb hbox hg) | ((with_reducible refine gate_dst (N := 6) rfl ?_); (try (refine gate_guard (by rfl) ?_; dsimp only)); refine box_event ?hg (N := 6) ?hd (cs := #[.int .u8 0, .int .i64 0, .string (⟨#[]⟩ : ByteArray)]) (t := 37) ?hr ?_; (case hd => rfl); (case hg => rfl); (case hr => ((go_simp; done))); intro gb648 hg w19 hbox hb; have n0_ := Aside0.mk (blk_below (g := gb646) (o := .cells #[.int .u8 a1_0, .int .i64 a1_1, .string a1_2] 37 (0, 0)) (by (with_reducible repeat (fail)); exact BK646.out) hb); have n1_ := Aside0.mk (blk_below (g := gb647) (o := .cells #[.int .u8 a2_0, .int .i64 a2_1, .string a2_2] 37 (0, 0)) (by (with_reducible repeat (fail)); exact BK647.out) hb); have n2_ := Aside0.mk (below_step (by repeat ((with_reducible exact HB.out))) hb); have n3_ := Aside0.mk (hbox); have n4_ := Aside0.mk ((by rw [hg]; exact (below_size (by repeat ((with_reducible exact HB.out)))) : w.heap.size ≤ gb648)); have n5_ := Aside0.mk ((by rw [hg]; exact (below_size (by repeat ((with_reducible exact HB.out)))) : w.heap.size ≤ gb648)); have n6_ := Aside0.mk ((by rw [hg]; exact Nat.ne_of_lt (blk_lt (g := gb646) (o := .cells #[.int .u8 a1_0, .int .i64 a1_1, .string a1_2] 37 (0, 0)) (by (with_reducible repeat (fail)); exact BK646.out)) : gb646 ≠ gb648)); have n7_ := Aside0.mk ((by rw [hg]; exact Nat.ne_of_gt (blk_lt (g := gb646) (o := .cells #[.int .u8 a1_0, .int .i64 a1_1, .string a1_2] 37 (0, 0)) (by (with_reducible repeat (fail)); exact BK646.out)) : gb648 ≠ gb646)); have n8_ := Aside0.mk ((by rw [hg]; exact Nat.ne_of_lt (blk_lt (g := gb647) (o := .cells #[.int .u8 a2_0, .int .i64 a2_1, .string a2_2] 37 (0, 0)) (by (with_reducible repeat (fail)); exact BK647.out)) : gb647 ≠ gb648)); have n9_ := Aside0.mk ((by rw [hg]; exact Nat.ne_of_gt (blk_lt (g := gb647) (o := .cells #[.int .u8 a2_0, .int .i64 a2_1, .string a2_2] 37 (0, 0)) (by (with_reducible repeat (fail)); exact BK647.out)) : gb648 ≠ gb647)); clear BK646; clear BK647; clear HB; have BK646 := n0_; have BK647 := n1_; have HB := n2_; have BK648 := n3_; have GW648 := n4_; have GE648 := n5_; have NB646_648 := n6_; have NB648_646 := n7_; have NB647_648 := n8_; have NB648_647 := n9_; clear n0_ n1_ n2_ n3_ n4_ n5_ n6_ n7_ n8_ n9_; clear hb hbox hg; have hnb20 := NB646_647.out; have hnc20 := NB647_646.out; have hnb21 := NB646_648.out; have hnc21 := NB648_646.out; have hcz22_0 : w19.cell? ⟨gb646, 0, none⟩ = some (.int .u8 a1_0) := (blk_cell BK646.out 0).trans rfl; have hcz22_1 : w19.cell? ⟨gb646, 1, none⟩ = some (.int .i64 a1_1) := (blk_cell BK646.out 1).trans rfl; have hcz22_2 : w19.cell? ⟨gb646, 2, none⟩ = some (.string a1_2) := (blk_cell BK646.out 2).trans rfl; have hfz22_0 := blk_frozen BK646.out 0; have hfz22_1 := blk_frozen BK646.out 1; have hfz22_2 := blk_frozen BK646.out 2; have hnb23 := NB647_648.out; have hnc23 := NB648_647.out; have hcz24_0 : w19.cell? ⟨gb647, 0, none⟩ = some (.int .u8 a2_0) := (blk_cell BK647.out 0).trans rfl; have hcz24_1 : w19.cell? ⟨gb647, 1, none⟩ = some (.int .i64 a2_1) := (blk_cell BK647.out 1).trans rfl; have hcz24_2 : w19.cell? ⟨gb647, 2, none⟩ = some (.string a2_2) := (blk_cell BK647.out 2).trans rfl; have hfz24_0 := blk_frozen BK647.out 0; have hfz24_1 := blk_frozen BK647.out 1; have hfz24_2 := blk_frozen BK647.out 2) | ((with_reducible refine gate_callee (f := 109) rfl ?_); refine goesL_ (some 24) rfl rfl Try.func109 (by kernel_rfl) rfl #[.string (a1_2 ++ a2_2)] rfl (by (try simp only [List.map_toArray, List.map_cons, List.map_nil]); rfl) ?_; (with_reducible refine (value_Text.calls (a1_2 ++ a2_2) t649 t650 t651 _ A16.out).mono ?_); rintro e w25 ⟨rfl, hb⟩; refine ⟨_, rfl, ?_⟩; have n0_ := Aside0.mk (blk_below (g := gb646) (o := .cells #[.int .u8 a1_0, .int .i64 a1_1, .string a1_2] 37 (0, 0)) (by (with_reducible repeat (fail)); exact BK646.out) hb); have n1_ := Aside0.mk (blk_below (g := gb647) (o := .cells #[.int .u8 a2_0, .int .i64 a2_1, .string a2_2] 37 (0, 0)) (by (with_reducible repeat (fail)); exact BK647.out) hb); have n2_ := Aside0.mk (blk_below (g := gb648) (o := .cells #[.int .u8 0, .int .i64 0, .string (⟨#[]⟩ : ByteArray)] 37 (0, 0)) (by (with_reducible repeat (fail)); exact BK648.out) hb); have n3_ := Aside0.mk (below_step (by repeat ((with_reducible exact HB.out))) hb); clear BK646; clear BK647; clear BK648; clear HB; have BK646 := n0_; have BK647 := n1_; have BK648 := n2_; have HB := n3_; clear n0_ n1_ n2_ n3_; (try clear hb); have hcz26_0 : w25.cell? ⟨gb648, 0, none⟩ = some (.int .u8 0) := (blk_cell BK648.out 0).trans rfl; have hcz26_1 : w25.cell? ⟨gb648, 1, none⟩ = some (.int .i64 0) := (blk_cell BK648.out 1).trans rfl; have hcz26_2 : w25.cell? ⟨gb648, 2, none⟩ = some (.string (⟨#[]⟩ : ByteArray)) := (blk_cell BK648.out 2).trans rfl; have hfz26_0 := blk_frozen BK648.out 0; have hfz26_1 := blk_frozen BK648.out 1; have hfz26_2 := blk_frozen BK648.out 2))
      refine bodyPost_ret (results_ct rfl _ _ gb648 37 #[.int .u8 t649, .int .i64 t650, .string t651] (0, 0) _ rfl (by (with_reducible repeat (fail)); refine blk_put (cs := #[.int .u8 t649, .int .i64 t650, .string (⟨#[]⟩ : ByteArray)]) ?_ 2 _ rfl; (with_reducible repeat (fail)); refine blk_put (cs := #[.int .u8 t649, .int .i64 0, .string (⟨#[]⟩ : ByteArray)]) ?_ 1 _ rfl; (with_reducible repeat (fail)); refine blk_put (cs := #[.int .u8 0, .int .i64 0, .string (⟨#[]⟩ : ByteArray)]) ?_ 0 _ rfl; (with_reducible repeat (fail)); exact BK648.out) Try.underlying37 rfl (by kernel_rfl)) rfl ?_
      exact ⟨by rfl, by repeat ((with_reducible first | exact HB.out | refine below_set ?_ GE648.out))⟩
    rw [if_neg c15] at H
    exact absurd H (by simp)
  rw [if_neg c4] at H
  have c4b0 : (a0.toList == ([99, 97, 116] : List UInt8)) = false := beq_eq_false_iff_ne.mpr c4
  have c4b1 : (a0.toList != ([99, 97, 116] : List UInt8)) = true := bne_iff_ne.mpr c4
  by_cases c27 : a2_1 < 0
  · rw [if_pos c27] at H
    have c27b0 : decide (a2_1 < 0) = true := decide_eq_true c27
    clear c27
    simp only [Option.some.injEq, Prod.mk.injEq] at H
    obtain ⟨rfl, rfl, rfl, rfl⟩ := H
    go_enter Try.func100, Try.ntmps100
    go_wp2_with (first | ((with_reducible refine gate_dst (N := 4) rfl ?_); (try (refine gate_guard (by rfl) ?_; dsimp only)); refine box_event ?hg (N := 4) ?hd (cs := #[.int .u8 a1_0, .int .i64 a1_1, .string a1_2]) (t := 37) ?hr ?_; (case hd => rfl); (case hg => rfl); (case hr => ((go_simp; done))); intro gb646 hg w28 hbox hb; have n0_ := Aside0.mk (below_step (by repeat ((with_reducible exact HB.out))) hb); have n1_ := Aside0.mk (hbox); have n2_ := Aside0.mk ((by rw [hg]; exact (below_size (by repeat ((with_reducible exact HB.out)))) : w.heap.size ≤ gb646)); have n3_ := Aside0.mk ((by rw [hg]; exact (below_size (by repeat ((with_reducible exact HB.out)))) : w.heap.size ≤ gb646)); clear HB; have HB := n0_; have BK646 := n1_; have GW646 := n2_; have GE646 := n3_; clear n0_ n1_ n2_ n3_; clear hb hbox hg) | ((with_reducible refine gate_dst (N := 5) rfl ?_); (try (refine gate_guard (by rfl) ?_; dsimp only)); refine box_event ?hg (N := 5) ?hd (cs := #[.int .u8 a2_0, .int .i64 a2_1, .string a2_2]) (t := 37) ?hr ?_; (case hd => rfl); (case hg => rfl); (case hr => ((go_simp; done))); intro gb647 hg w29 hbox hb; have n0_ := Aside0.mk (blk_below (g := gb646) (o := .cells #[.int .u8 a1_0, .int .i64 a1_1, .string a1_2] 37 (0, 0)) (by (with_reducible repeat (fail)); exact BK646.out) hb); have n1_ := Aside0.mk (below_step (by repeat ((with_reducible exact HB.out))) hb); have n2_ := Aside0.mk (hbox); have n3_ := Aside0.mk ((by rw [hg]; exact (below_size (by repeat ((with_reducible exact HB.out)))) : w.heap.size ≤ gb647)); have n4_ := Aside0.mk ((by rw [hg]; exact (below_size (by repeat ((with_reducible exact HB.out)))) : w.heap.size ≤ gb647)); have n5_ := Aside0.mk ((by rw [hg]; exact Nat.ne_of_lt (blk_lt (g := gb646) (o := .cells #[.int .u8 a1_0, .int .i64 a1_1, .string a1_2] 37 (0, 0)) (by (with_reducible repeat (fail)); exact BK646.out)) : gb646 ≠ gb647)); have n6_ := Aside0.mk ((by rw [hg]; exact Nat.ne_of_gt (blk_lt (g := gb646) (o := .cells #[.int .u8 a1_0, .int .i64 a1_1, .string a1_2] 37 (0, 0)) (by (with_reducible repeat (fail)); exact BK646.out)) : gb647 ≠ gb646)); clear BK646; clear HB; have BK646 := n0_; have HB := n1_; have BK647 := n2_; have GW647 := n3_; have GE647 := n4_; have NB646_647 := n5_; have NB647_646 := n6_; clear n0_ n1_ n2_ n3_ n4_ n5_ n6_; clear hb hbox hg) | ((with_reducible refine gate_dst (N := 6) rfl ?_); (try (refine gate_guard (by rfl) ?_; dsimp only)); refine box_event ?hg (N := 6) ?hd (cs := #[.int .u8 0, .int .i64 0, .string (⟨#[]⟩ : ByteArray)]) (t := 37) ?hr ?_; (case hd => rfl); (case hg => rfl); (case hr => ((go_simp; done))); intro gb648 hg w30 hbox hb; have n0_ := Aside0.mk (blk_below (g := gb646) (o := .cells #[.int .u8 a1_0, .int .i64 a1_1, .string a1_2] 37 (0, 0)) (by (with_reducible repeat (fail)); exact BK646.out) hb); have n1_ := Aside0.mk (blk_below (g := gb647) (o := .cells #[.int .u8 a2_0, .int .i64 a2_1, .string a2_2] 37 (0, 0)) (by (with_reducible repeat (fail)); exact BK647.out) hb); have n2_ := Aside0.mk (below_step (by repeat ((with_reducible exact HB.out))) hb); have n3_ := Aside0.mk (hbox); have n4_ := Aside0.mk ((by rw [hg]; exact (below_size (by repeat ((with_reducible exact HB.out)))) : w.heap.size ≤ gb648)); have n5_ := Aside0.mk ((by rw [hg]; exact (below_size (by repeat ((with_reducible exact HB.out)))) : w.heap.size ≤ gb648)); have n6_ := Aside0.mk ((by rw [hg]; exact Nat.ne_of_lt (blk_lt (g := gb646) (o := .cells #[.int .u8 a1_0, .int .i64 a1_1, .string a1_2] 37 (0, 0)) (by (with_reducible repeat (fail)); exact BK646.out)) : gb646 ≠ gb648)); have n7_ := Aside0.mk ((by rw [hg]; exact Nat.ne_of_gt (blk_lt (g := gb646) (o := .cells #[.int .u8 a1_0, .int .i64 a1_1, .string a1_2] 37 (0, 0)) (by (with_reducible repeat (fail)); exact BK646.out)) : gb648 ≠ gb646)); have n8_ := Aside0.mk ((by rw [hg]; exact Nat.ne_of_lt (blk_lt (g := gb647) (o := .cells #[.int .u8 a2_0, .int .i64 a2_1, .string a2_2] 37 (0, 0)) (by (with_reducible repeat (fail)); exact BK647.out)) : gb647 ≠ gb648)); have n9_ := Aside0.mk ((by rw [hg]; exact Nat.ne_of_gt (blk_lt (g := gb647) (o := .cells #[.int .u8 a2_0, .int .i64 a2_1, .string a2_2] 37 (0, 0)) (by (with_reducible repeat (fail)); exact BK647.out)) : gb648 ≠ gb647)); clear BK646; clear BK647; clear HB; have BK646 := n0_; have BK647 := n1_; have HB := n2_; have BK648 := n3_; have GW648 := n4_; have GE648 := n5_; have NB646_648 := n6_; have NB648_646 := n7_; have NB647_648 := n8_; have NB648_647 := n9_; clear n0_ n1_ n2_ n3_ n4_ n5_ n6_ n7_ n8_ n9_; clear hb hbox hg; have hnb31 := NB647_646.out; have hnc31 := NB646_647.out; have hnb32 := NB647_648.out; have hnc32 := NB648_647.out; have hcz33_0 : w30.cell? ⟨gb647, 0, none⟩ = some (.int .u8 a2_0) := (blk_cell BK647.out 0).trans rfl; have hcz33_1 : w30.cell? ⟨gb647, 1, none⟩ = some (.int .i64 a2_1) := (blk_cell BK647.out 1).trans rfl; have hcz33_2 : w30.cell? ⟨gb647, 2, none⟩ = some (.string a2_2) := (blk_cell BK647.out 2).trans rfl; have hfz33_0 := blk_frozen BK647.out 0; have hfz33_1 := blk_frozen BK647.out 1; have hfz33_2 := blk_frozen BK647.out 2; have hnb34 := NB648_646.out; have hnc34 := NB646_648.out; have hcz35_0 : w30.cell? ⟨gb648, 0, none⟩ = some (.int .u8 0) := (blk_cell BK648.out 0).trans rfl; have hcz35_1 : w30.cell? ⟨gb648, 1, none⟩ = some (.int .i64 0) := (blk_cell BK648.out 1).trans rfl; have hcz35_2 : w30.cell? ⟨gb648, 2, none⟩ = some (.string (⟨#[]⟩ : ByteArray)) := (blk_cell BK648.out 2).trans rfl; have hfz35_0 := blk_frozen BK648.out 0; have hfz35_1 := blk_frozen BK648.out 1; have hfz35_2 := blk_frozen BK648.out 2))
    refine bodyPost_ret (results_ct rfl _ _ gb648 37 #[.int .u8 0, .int .i64 0, .string (⟨#[]⟩ : ByteArray)] (0, 0) _ rfl (by (with_reducible repeat (fail)); refine blk_put (cs := #[.int .u8 0, .int .i64 0, .string (⟨#[]⟩ : ByteArray)]) ?_ 2 _ rfl; (with_reducible repeat (fail)); refine blk_put (cs := #[.int .u8 0, .int .i64 0, .string (⟨#[]⟩ : ByteArray)]) ?_ 1 _ rfl; (with_reducible repeat (fail)); refine blk_put (cs := #[.int .u8 0, .int .i64 0, .string (⟨#[]⟩ : ByteArray)]) ?_ 0 _ rfl; (with_reducible repeat (fail)); exact BK648.out) Try.underlying37 rfl (by kernel_rfl)) rfl ?_
    exact ⟨by rfl, by repeat ((with_reducible first | exact HB.out | refine below_set ?_ GE648.out))⟩
  rw [if_neg c27] at H
  have c27b0 : decide (a2_1 < 0) = false := decide_eq_false c27
  clear c27
  by_cases c36 : a2_1 ≥ (a1_2.size : Int)
  · rw [if_pos c36] at H
    have c36b0 : decide ((a1_2.size : Int) ≤ a2_1) = true := decide_eq_true c36
    clear c36
    simp only [Option.some.injEq, Prod.mk.injEq] at H
    obtain ⟨rfl, rfl, rfl, rfl⟩ := H
    go_enter Try.func100, Try.ntmps100
    go_wp2_with (first | ((with_reducible refine gate_dst (N := 4) rfl ?_); (try (refine gate_guard (by rfl) ?_; dsimp only)); refine box_event ?hg (N := 4) ?hd (cs := #[.int .u8 a1_0, .int .i64 a1_1, .string a1_2]) (t := 37) ?hr ?_; (case hd => rfl); (case hg => rfl); (case hr => ((go_simp; done))); intro gb646 hg w37 hbox hb; have n0_ := Aside0.mk (below_step (by repeat ((with_reducible exact HB.out))) hb); have n1_ := Aside0.mk (hbox); have n2_ := Aside0.mk ((by rw [hg]; exact (below_size (by repeat ((with_reducible exact HB.out)))) : w.heap.size ≤ gb646)); have n3_ := Aside0.mk ((by rw [hg]; exact (below_size (by repeat ((with_reducible exact HB.out)))) : w.heap.size ≤ gb646)); clear HB; have HB := n0_; have BK646 := n1_; have GW646 := n2_; have GE646 := n3_; clear n0_ n1_ n2_ n3_; clear hb hbox hg) | ((with_reducible refine gate_dst (N := 5) rfl ?_); (try (refine gate_guard (by rfl) ?_; dsimp only)); refine box_event ?hg (N := 5) ?hd (cs := #[.int .u8 a2_0, .int .i64 a2_1, .string a2_2]) (t := 37) ?hr ?_; (case hd => rfl); (case hg => rfl); (case hr => ((go_simp; done))); intro gb647 hg w38 hbox hb; have n0_ := Aside0.mk (blk_below (g := gb646) (o := .cells #[.int .u8 a1_0, .int .i64 a1_1, .string a1_2] 37 (0, 0)) (by (with_reducible repeat (fail)); exact BK646.out) hb); have n1_ := Aside0.mk (below_step (by repeat ((with_reducible exact HB.out))) hb); have n2_ := Aside0.mk (hbox); have n3_ := Aside0.mk ((by rw [hg]; exact (below_size (by repeat ((with_reducible exact HB.out)))) : w.heap.size ≤ gb647)); have n4_ := Aside0.mk ((by rw [hg]; exact (below_size (by repeat ((with_reducible exact HB.out)))) : w.heap.size ≤ gb647)); have n5_ := Aside0.mk ((by rw [hg]; exact Nat.ne_of_lt (blk_lt (g := gb646) (o := .cells #[.int .u8 a1_0, .int .i64 a1_1, .string a1_2] 37 (0, 0)) (by (with_reducible repeat (fail)); exact BK646.out)) : gb646 ≠ gb647)); have n6_ := Aside0.mk ((by rw [hg]; exact Nat.ne_of_gt (blk_lt (g := gb646) (o := .cells #[.int .u8 a1_0, .int .i64 a1_1, .string a1_2] 37 (0, 0)) (by (with_reducible repeat (fail)); exact BK646.out)) : gb647 ≠ gb646)); clear BK646; clear HB; have BK646 := n0_; have HB := n1_; have BK647 := n2_; have GW647 := n3_; have GE647 := n4_; have NB646_647 := n5_; have NB647_646 := n6_; clear n0_ n1_ n2_ n3_ n4_ n5_ n6_; clear hb hbox hg) | ((with_reducible refine gate_dst (N := 6) rfl ?_); (try (refine gate_guard (by rfl) ?_; dsimp only)); refine box_event ?hg (N := 6) ?hd (cs := #[.int .u8 0, .int .i64 0, .string (⟨#[]⟩ : ByteArray)]) (t := 37) ?hr ?_; (case hd => rfl); (case hg => rfl); (case hr => ((go_simp; done))); intro gb648 hg w39 hbox hb; have n0_ := Aside0.mk (blk_below (g := gb646) (o := .cells #[.int .u8 a1_0, .int .i64 a1_1, .string a1_2] 37 (0, 0)) (by (with_reducible repeat (fail)); exact BK646.out) hb); have n1_ := Aside0.mk (blk_below (g := gb647) (o := .cells #[.int .u8 a2_0, .int .i64 a2_1, .string a2_2] 37 (0, 0)) (by (with_reducible repeat (fail)); exact BK647.out) hb); have n2_ := Aside0.mk (below_step (by repeat ((with_reducible exact HB.out))) hb); have n3_ := Aside0.mk (hbox); have n4_ := Aside0.mk ((by rw [hg]; exact (below_size (by repeat ((with_reducible exact HB.out)))) : w.heap.size ≤ gb648)); have n5_ := Aside0.mk ((by rw [hg]; exact (below_size (by repeat ((with_reducible exact HB.out)))) : w.heap.size ≤ gb648)); have n6_ := Aside0.mk ((by rw [hg]; exact Nat.ne_of_lt (blk_lt (g := gb646) (o := .cells #[.int .u8 a1_0, .int .i64 a1_1, .string a1_2] 37 (0, 0)) (by (with_reducible repeat (fail)); exact BK646.out)) : gb646 ≠ gb648)); have n7_ := Aside0.mk ((by rw [hg]; exact Nat.ne_of_gt (blk_lt (g := gb646) (o := .cells #[.int .u8 a1_0, .int .i64 a1_1, .string a1_2] 37 (0, 0)) (by (with_reducible repeat (fail)); exact BK646.out)) : gb648 ≠ gb646)); have n8_ := Aside0.mk ((by rw [hg]; exact Nat.ne_of_lt (blk_lt (g := gb647) (o := .cells #[.int .u8 a2_0, .int .i64 a2_1, .string a2_2] 37 (0, 0)) (by (with_reducible repeat (fail)); exact BK647.out)) : gb647 ≠ gb648)); have n9_ := Aside0.mk ((by rw [hg]; exact Nat.ne_of_gt (blk_lt (g := gb647) (o := .cells #[.int .u8 a2_0, .int .i64 a2_1, .string a2_2] 37 (0, 0)) (by (with_reducible repeat (fail)); exact BK647.out)) : gb648 ≠ gb647)); clear BK646; clear BK647; clear HB; have BK646 := n0_; have BK647 := n1_; have HB := n2_; have BK648 := n3_; have GW648 := n4_; have GE648 := n5_; have NB646_648 := n6_; have NB648_646 := n7_; have NB647_648 := n8_; have NB648_647 := n9_; clear n0_ n1_ n2_ n3_ n4_ n5_ n6_ n7_ n8_ n9_; clear hb hbox hg; have hnb40 := NB647_646.out; have hnc40 := NB646_647.out; have hnb41 := NB647_648.out; have hnc41 := NB648_647.out; have hcz42_0 : w39.cell? ⟨gb647, 0, none⟩ = some (.int .u8 a2_0) := (blk_cell BK647.out 0).trans rfl; have hcz42_1 : w39.cell? ⟨gb647, 1, none⟩ = some (.int .i64 a2_1) := (blk_cell BK647.out 1).trans rfl; have hcz42_2 : w39.cell? ⟨gb647, 2, none⟩ = some (.string a2_2) := (blk_cell BK647.out 2).trans rfl; have hfz42_0 := blk_frozen BK647.out 0; have hfz42_1 := blk_frozen BK647.out 1; have hfz42_2 := blk_frozen BK647.out 2; have hnb43 := NB646_648.out; have hnc43 := NB648_646.out; have hcz44_0 : w39.cell? ⟨gb646, 0, none⟩ = some (.int .u8 a1_0) := (blk_cell BK646.out 0).trans rfl; have hcz44_1 : w39.cell? ⟨gb646, 1, none⟩ = some (.int .i64 a1_1) := (blk_cell BK646.out 1).trans rfl; have hcz44_2 : w39.cell? ⟨gb646, 2, none⟩ = some (.string a1_2) := (blk_cell BK646.out 2).trans rfl; have hfz44_0 := blk_frozen BK646.out 0; have hfz44_1 := blk_frozen BK646.out 1; have hfz44_2 := blk_frozen BK646.out 2; have hcz45_0 : w39.cell? ⟨gb648, 0, none⟩ = some (.int .u8 0) := (blk_cell BK648.out 0).trans rfl; have hcz45_1 : w39.cell? ⟨gb648, 1, none⟩ = some (.int .i64 0) := (blk_cell BK648.out 1).trans rfl; have hcz45_2 : w39.cell? ⟨gb648, 2, none⟩ = some (.string (⟨#[]⟩ : ByteArray)) := (blk_cell BK648.out 2).trans rfl; have hfz45_0 := blk_frozen BK648.out 0; have hfz45_1 := blk_frozen BK648.out 1; have hfz45_2 := blk_frozen BK648.out 2))
    refine bodyPost_ret (results_ct rfl _ _ gb648 37 #[.int .u8 0, .int .i64 0, .string (⟨#[]⟩ : ByteArray)] (0, 0) _ rfl (by (with_reducible repeat (fail)); refine blk_put (cs := #[.int .u8 0, .int .i64 0, .string (⟨#[]⟩ : ByteArray)]) ?_ 2 _ rfl; (with_reducible repeat (fail)); refine blk_put (cs := #[.int .u8 0, .int .i64 0, .string (⟨#[]⟩ : ByteArray)]) ?_ 1 _ rfl; (with_reducible repeat (fail)); refine blk_put (cs := #[.int .u8 0, .int .i64 0, .string (⟨#[]⟩ : ByteArray)]) ?_ 0 _ rfl; (with_reducible repeat (fail)); exact BK648.out) Try.underlying37 rfl (by kernel_rfl)) rfl ?_
    exact ⟨by rfl, by repeat ((with_reducible first | exact HB.out | refine below_set ?_ GE648.out))⟩
  rw [if_neg c36] at H
  have c36b0 : decide ((a1_2.size : Int) ≤ a2_1) = false := decide_eq_false c36
  clear c36
  by_cases c46 : 0 ≤ a2_1
  · rw [if_pos c46] at H
    have c46b0 : decide (0 ≤ a2_1) = true := decide_eq_true c46
    clear c46
    by_cases c47 : a2_1 < (a1_2.size : Int)
    · rw [if_pos c47] at H
      have c47b0 : decide (a2_1 < (a1_2.size : Int)) = true := decide_eq_true c47
      clear c47
      replace H := Option.bind_eq_some_iff.mp H
      obtain ⟨⟨t652, t653, t654⟩, A490, H⟩ := H
      replace H : (some (t652, t653, t654, 0)) = some (r1, r2, r3, r4) := H
      have A49 := Aside0.mk A490
      clear A490
      simp only [Option.some.injEq, Prod.mk.injEq] at H
      obtain ⟨rfl, rfl, rfl, rfl⟩ := H
      go_enter Try.func100, Try.ntmps100
      go_wp2_with (first | ((with_reducible refine gate_dst (N := 4) rfl ?_); (try (refine gate_guard (by rfl) ?_; dsimp only)); refine box_event ?hg (N := 4) ?hd (cs := #[.int .u8 a1_0, .int .i64 a1_1, .string a1_2]) (t := 37) ?hr ?_; (case hd => rfl); (case hg => rfl); (case hr => ((go_simp; done))); intro gb646 hg w50 hbox hb; have n0_ := Aside0.mk (below_step (by repeat ((with_reducible exact HB.out))) hb); have n1_ := Aside0.mk (hbox); have n2_ := Aside0.mk ((by rw [hg]; exact (below_size (by repeat ((with_reducible exact HB.out)))) : w.heap.size ≤ gb646)); have n3_ := Aside0.mk ((by rw [hg]; exact (below_size (by repeat ((with_reducible exact HB.out)))) : w.heap.size ≤ gb646)); clear HB; have HB := n0_; have BK646 := n1_; have GW646 := n2_; have GE646 := n3_; clear n0_ n1_ n2_ n3_; clear hb hbox hg) | ((with_reducible refine gate_dst (N := 5) rfl ?_); (try (refine gate_guard (by rfl) ?_; dsimp only)); refine box_event ?hg (N := 5) ?hd (cs := #[.int .u8 a2_0, .int .i64 a2_1, .string a2_2]) (t := 37) ?hr ?_; (case hd => rfl); (case hg => rfl); (case hr => ((go_simp; done))); intro gb647 hg w51 hbox hb; have n0_ := Aside0.mk (blk_below (g := gb646) (o := .cells #[.int .u8 a1_0, .int .i64 a1_1, .string a1_2] 37 (0, 0)) (by (with_reducible repeat (fail)); exact BK646.out) hb); have n1_ := Aside0.mk (below_step (by repeat ((with_reducible exact HB.out))) hb); have n2_ := Aside0.mk (hbox); have n3_ := Aside0.mk ((by rw [hg]; exact (below_size (by repeat ((with_reducible exact HB.out)))) : w.heap.size ≤ gb647)); have n4_ := Aside0.mk ((by rw [hg]; exact (below_size (by repeat ((with_reducible exact HB.out)))) : w.heap.size ≤ gb647)); have n5_ := Aside0.mk ((by rw [hg]; exact Nat.ne_of_lt (blk_lt (g := gb646) (o := .cells #[.int .u8 a1_0, .int .i64 a1_1, .string a1_2] 37 (0, 0)) (by (with_reducible repeat (fail)); exact BK646.out)) : gb646 ≠ gb647)); have n6_ := Aside0.mk ((by rw [hg]; exact Nat.ne_of_gt (blk_lt (g := gb646) (o := .cells #[.int .u8 a1_0, .int .i64 a1_1, .string a1_2] 37 (0, 0)) (by (with_reducible repeat (fail)); exact BK646.out)) : gb647 ≠ gb646)); clear BK646; clear HB; have BK646 := n0_; have HB := n1_; have BK647 := n2_; have GW647 := n3_; have GE647 := n4_; have NB646_647 := n5_; have NB647_646 := n6_; clear n0_ n1_ n2_ n3_ n4_ n5_ n6_; clear hb hbox hg) | ((with_reducible refine gate_dst (N := 6) rfl ?_); (try (refine gate_guard (by rfl) ?_; dsimp only)); refine box_event ?hg (N := 6) ?hd (cs := #[.int .u8 0, .int .i64 0, .string (⟨#[]⟩ : ByteArray)]) (t := 37) ?hr ?_; (case hd => rfl); (case hg => rfl); (case hr => ((go_simp; done))); intro gb648 hg w52 hbox hb; have n0_ := Aside0.mk (blk_below (g := gb646) (o := .cells #[.int .u8 a1_0, .int .i64 a1_1, .string a1_2] 37 (0, 0)) (by (with_reducible repeat (fail)); exact BK646.out) hb); have n1_ := Aside0.mk (blk_below (g := gb647) (o := .cells #[.int .u8 a2_0, .int .i64 a2_1, .string a2_2] 37 (0, 0)) (by (with_reducible repeat (fail)); exact BK647.out) hb); have n2_ := Aside0.mk (below_step (by repeat ((with_reducible exact HB.out))) hb); have n3_ := Aside0.mk (hbox); have n4_ := Aside0.mk ((by rw [hg]; exact (below_size (by repeat ((with_reducible exact HB.out)))) : w.heap.size ≤ gb648)); have n5_ := Aside0.mk ((by rw [hg]; exact (below_size (by repeat ((with_reducible exact HB.out)))) : w.heap.size ≤ gb648)); have n6_ := Aside0.mk ((by rw [hg]; exact Nat.ne_of_lt (blk_lt (g := gb646) (o := .cells #[.int .u8 a1_0, .int .i64 a1_1, .string a1_2] 37 (0, 0)) (by (with_reducible repeat (fail)); exact BK646.out)) : gb646 ≠ gb648)); have n7_ := Aside0.mk ((by rw [hg]; exact Nat.ne_of_gt (blk_lt (g := gb646) (o := .cells #[.int .u8 a1_0, .int .i64 a1_1, .string a1_2] 37 (0, 0)) (by (with_reducible repeat (fail)); exact BK646.out)) : gb648 ≠ gb646)); have n8_ := Aside0.mk ((by rw [hg]; exact Nat.ne_of_lt (blk_lt (g := gb647) (o := .cells #[.int .u8 a2_0, .int .i64 a2_1, .string a2_2] 37 (0, 0)) (by (with_reducible repeat (fail)); exact BK647.out)) : gb647 ≠ gb648)); have n9_ := Aside0.mk ((by rw [hg]; exact Nat.ne_of_gt (blk_lt (g := gb647) (o := .cells #[.int .u8 a2_0, .int .i64 a2_1, .string a2_2] 37 (0, 0)) (by (with_reducible repeat (fail)); exact BK647.out)) : gb648 ≠ gb647)); clear BK646; clear BK647; clear HB; have BK646 := n0_; have BK647 := n1_; have HB := n2_; have BK648 := n3_; have GW648 := n4_; have GE648 := n5_; have NB646_648 := n6_; have NB648_646 := n7_; have NB647_648 := n8_; have NB648_647 := n9_; clear n0_ n1_ n2_ n3_ n4_ n5_ n6_ n7_ n8_ n9_; clear hb hbox hg; have hnb53 := NB647_646.out; have hnc53 := NB646_647.out; have hnb54 := NB647_648.out; have hnc54 := NB648_647.out; have hcz55_0 : w52.cell? ⟨gb647, 0, none⟩ = some (.int .u8 a2_0) := (blk_cell BK647.out 0).trans rfl; have hcz55_1 : w52.cell? ⟨gb647, 1, none⟩ = some (.int .i64 a2_1) := (blk_cell BK647.out 1).trans rfl; have hcz55_2 : w52.cell? ⟨gb647, 2, none⟩ = some (.string a2_2) := (blk_cell BK647.out 2).trans rfl; have hfz55_0 := blk_frozen BK647.out 0; have hfz55_1 := blk_frozen BK647.out 1; have hfz55_2 := blk_frozen BK647.out 2; have hnb56 := NB646_648.out; have hnc56 := NB648_646.out; have hcz57_0 : w52.cell? ⟨gb646, 0, none⟩ = some (.int .u8 a1_0) := (blk_cell BK646.out 0).trans rfl; have hcz57_1 : w52.cell? ⟨gb646, 1, none⟩ = some (.int .i64 a1_1) := (blk_cell BK646.out 1).trans rfl; have hcz57_2 : w52.cell? ⟨gb646, 2, none⟩ = some (.string a1_2) := (blk_cell BK646.out 2).trans rfl; have hfz57_0 := blk_frozen BK646.out 0; have hfz57_1 := blk_frozen BK646.out 1; have hfz57_2 := blk_frozen BK646.out 2; have p48 : 0 ≤ (a2_1 : Int) := of_decide_eq_true (by (with_reducible assumption)); have q48 : a2_1 < (a1_2.size : Int) := of_decide_eq_true (by (with_reducible assumption)); have hx48 := bt_at a1_2 a2_1; replace p48 := eq_true p48; replace q48 := eq_true q48) | ((with_reducible refine gate_callee (f := 94) rfl ?_); refine goesL_ (some 43) rfl rfl Try.func94 (by kernel_rfl) rfl #[.int .i64 (wrap64 (bt a1_2 a2_1))] rfl (by (try simp only [List.map_toArray, List.map_cons, List.map_nil]); rfl) ?_; (with_reducible refine (value_Of.calls (wrap64 (bt a1_2 a2_1)) t652 t653 t654 _ A49.out).mono ?_); rintro e w58 ⟨rfl, hb⟩; refine ⟨_, rfl, ?_⟩; have n0_ := Aside0.mk (blk_below (g := gb646) (o := .cells #[.int .u8 a1_0, .int .i64 a1_1, .string a1_2] 37 (0, 0)) (by (with_reducible repeat (fail)); exact BK646.out) hb); have n1_ := Aside0.mk (blk_below (g := gb647) (o := .cells #[.int .u8 a2_0, .int .i64 a2_1, .string a2_2] 37 (0, 0)) (by (with_reducible repeat (fail)); exact BK647.out) hb); have n2_ := Aside0.mk (blk_below (g := gb648) (o := .cells #[.int .u8 0, .int .i64 0, .string (⟨#[]⟩ : ByteArray)] 37 (0, 0)) (by (with_reducible repeat (fail)); exact BK648.out) hb); have n3_ := Aside0.mk (below_step (by repeat ((with_reducible exact HB.out))) hb); clear BK646; clear BK647; clear BK648; clear HB; have BK646 := n0_; have BK647 := n1_; have BK648 := n2_; have HB := n3_; clear n0_ n1_ n2_ n3_; (try clear hb); have hcz59_0 : w58.cell? ⟨gb648, 0, none⟩ = some (.int .u8 0) := (blk_cell BK648.out 0).trans rfl; have hcz59_1 : w58.cell? ⟨gb648, 1, none⟩ = some (.int .i64 0) := (blk_cell BK648.out 1).trans rfl; have hcz59_2 : w58.cell? ⟨gb648, 2, none⟩ = some (.string (⟨#[]⟩ : ByteArray)) := (blk_cell BK648.out 2).trans rfl; have hfz59_0 := blk_frozen BK648.out 0; have hfz59_1 := blk_frozen BK648.out 1; have hfz59_2 := blk_frozen BK648.out 2))
      refine bodyPost_ret (results_ct rfl _ _ gb648 37 #[.int .u8 t652, .int .i64 t653, .string t654] (0, 0) _ rfl (by (with_reducible repeat (fail)); refine blk_put (cs := #[.int .u8 t652, .int .i64 t653, .string (⟨#[]⟩ : ByteArray)]) ?_ 2 _ rfl; (with_reducible repeat (fail)); refine blk_put (cs := #[.int .u8 t652, .int .i64 0, .string (⟨#[]⟩ : ByteArray)]) ?_ 1 _ rfl; (with_reducible repeat (fail)); refine blk_put (cs := #[.int .u8 0, .int .i64 0, .string (⟨#[]⟩ : ByteArray)]) ?_ 0 _ rfl; (with_reducible repeat (fail)); exact BK648.out) Try.underlying37 rfl (by kernel_rfl)) rfl ?_
      exact ⟨by rfl, by repeat ((with_reducible first | exact HB.out | refine below_set ?_ GE648.out))⟩
    rw [if_neg c47] at H
    exact absurd H (by simp)
  rw [if_neg c46] at H
  exact absurd H (by simp)

end Go.Proofs.Ytjkjbfhhfdbnoaa.PB
