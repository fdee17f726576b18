-- Own text: made by this session's variant of the printer (wip/mkpp.py); Lean checks it.
import Derived.Test.YtahcnpjgbhpbeaaPVx0
import Derived.Test.YtahcnpjgbhpbeaaPVx2
namespace Go.Proofs.Ytahcnpjgbhpbeaa.PV
open Go.RowKit Go.Proofs.YtahcnpjgbhpbeaaW.PrintWords Go.Proofs.YtahcnpjgbhpbeaaW.PrintLast Go.Proofs.YtahcnpjgbhpbeaaW.PrintMore Go.Proofs.YtahcnpjgbhpbeaaW.Own
attribute [local go_sem high] own_gtr own_leq own_geq
attribute [local go_sem] max2_int min2_int max_two min_two max_three min_three max_four min_four   -- for this text's walks alone
set_option linter.unusedVariables false
set_option linter.unusedSimpArgs false

/-! ### value_tag: function 53 -/
def value_tag.j0 : Nat → ByteArray → Bool → Option (Int × Bool)
  | 0, _, _ => none
  | k + 1, x4, x5 => if x5 = true then (some (1, true)) else (if x4.toList = ([110, 111, 116] : List UInt8) then (some (2, true)) else (if x4.toList = ([108, 101, 110] : List UInt8) then (some (3, true)) else (some (0, false))))
def value_tag.f (k : Nat) (a0 : ByteArray) : Option (Int × Bool) := if a0.toList = ([110, 101, 103] : List UInt8) then (value_tag.j0 k a0 (a0.toList == ([110, 101, 103] : List UInt8))) else (if a0.toList = ([105, 56] : List UInt8) then (value_tag.j0 k a0 (a0.toList == ([105, 56] : List UInt8))) else (if a0.toList = ([105, 49, 54] : List UInt8) then (value_tag.j0 k a0 (a0.toList == ([105, 49, 54] : List UInt8))) else (if a0.toList = ([105, 51, 50] : List UInt8) then (value_tag.j0 k a0 (a0.toList == ([105, 51, 50] : List UInt8))) else (if a0.toList = ([117, 56] : List UInt8) then (value_tag.j0 k a0 (a0.toList == ([117, 56] : List UInt8))) else (if a0.toList = ([117, 49, 54] : List UInt8) then (value_tag.j0 k a0 (a0.toList == ([117, 49, 54] : List UInt8))) else (value_tag.j0 k a0 (a0.toList == ([117, 51, 50] : List UInt8))))))))
theorem value_tag.mono_l : ∀ k, (∀ y0 y1, LeO (value_tag.j0 k y0 y1) (value_tag.j0 (k + 1) y0 y1))
  | 0 => fun _ _ r h => by simp [value_tag.j0] at h
  | k + 1 => by
    have ih0 := value_tag.mono_l k
    · intro y0 y1
      unfold value_tag.j0
      repeat' first
      | (with_reducible exact ih0 _ _)
      | (with_reducible exact LeO.refl _)
      | (with_reducible exact LeO.none _)
      | (with_reducible refine LeO.ite ?_ ?_)
      | (with_reducible refine LeO.bind ?_ (fun _ => ?_))
      | exact ih0 _ _
      | exact LeO.none _
      | refine LeO.ite ?_ ?_
      | refine LeO.bind ?_ (fun _ => ?_)
theorem value_tag.mono : ∀ a0 k, LeO (value_tag.f k a0) (value_tag.f (k + 1) a0) := by
  intro a0 k
  have ih0 := value_tag.mono_l k
  unfold value_tag.f
  repeat' first
      | (with_reducible exact ih0 _ _)
      | (with_reducible exact LeO.refl _)
      | (with_reducible exact LeO.none _)
      | (with_reducible refine LeO.ite ?_ ?_)
      | (with_reducible refine LeO.bind ?_ (fun _ => ?_))
      | exact ih0 _ _
      | exact LeO.none _
      | refine LeO.ite ?_ ?_
      | refine LeO.bind ?_ (fun _ => ?_)
set_option maxHeartbeats 8000000 in
set_option maxRecDepth 100000 in
theorem value_tag.calls (k : Nat) (a0 : ByteArray) (r1 : Int) (r2 : Bool) (w : World) (h : value_tag.f k a0 = some (r1, r2)) :
    Calls Try.prog 53 #[.string a0] w fun e w' => e = .returned (.tuple #[.int .u8 r1, .bool r2]) ∧ Drawn0 w w' := by
  have H : (if a0.toList = ([110, 101, 103] : List UInt8) then (value_tag.j0 k a0 (a0.toList == ([110, 101, 103] : List UInt8))) else (if a0.toList = ([105, 56] : List UInt8) then (value_tag.j0 k a0 (a0.toList == ([105, 56] : List UInt8))) else (if a0.toList = ([105, 49, 54] : List UInt8) then (value_tag.j0 k a0 (a0.toList == ([105, 49, 54] : List UInt8))) else (if a0.toList = ([105, 51, 50] : List UInt8) then (value_tag.j0 k a0 (a0.toList == ([105, 51, 50] : List UInt8))) else (if a0.toList = ([117, 56] : List UInt8) then (value_tag.j0 k a0 (a0.toList == ([117, 56] : List UInt8))) else (if a0.toList = ([117, 49, 54] : List UInt8) then (value_tag.j0 k a0 (a0.toList == ([117, 49, 54] : List UInt8))) else (value_tag.j0 k a0 (a0.toList == ([117, 51, 50] : List UInt8))))))))) = some (r1, r2) := h
  clear h
  have HC2 := Aside0.mk H
  clear H
  go_enter Try.func53, Try.ntmps53
  go_upto_if 5 with (fail)
  go_cut [5] (fun v5 wc => ∃ (kq : Nat) (x5_1 : Bool), v5 = .bool x5_1 ∧ Aside0 (value_tag.j0 kq a0 x5_1 = some (r1, r2)) ∧ Aside0 (kq ≤ k) ∧ Drawn0 w wc)
  case first =>
    have H := HC2.out
    clear HC2
    by_cases c3 : a0.toList = ([110, 101, 103] : List UInt8)
    · rw [if_pos c3] at H
      have c3b0 : (a0.toList == ([110, 101, 103] : List UInt8)) = true := beq_iff_eq.mpr c3
      have c3b1 : (a0.toList != ([110, 101, 103] : List UInt8)) = false := bne_eq_false_iff_eq.mpr c3
      clear c3
      (first | rw [c3b0] | (simp only [i64_w, i32_w]; rw [c3b0]) | skip)
      have H' := Aside0.mk H
      clear H
      go_wp2
      go_meet
      case rel => exact ⟨_, ((a0.toList == ([110, 101, 103] : List UInt8))), (by first | rfl | (simp; done) | (simp [*]; done)), H', ⟨by first | omega | exact Nat.le_refl _⟩, by repeat (first | exact Drawn0.refl _ | apply Drawn0.step)⟩
    · rw [if_neg c3] at H
      have c3b0 : (a0.toList == ([110, 101, 103] : List UInt8)) = false := beq_eq_false_iff_ne.mpr c3
      have c3b1 : (a0.toList != ([110, 101, 103] : List UInt8)) = true := bne_iff_ne.mpr c3
      (first | rw [c3b0] | (simp only [i64_w, i32_w]; rw [c3b0]) | skip)
      by_cases c4 : a0.toList = ([105, 56] : List UInt8)
      · rw [if_pos c4] at H
        have c4b0 : (a0.toList == ([105, 56] : List UInt8)) = true := beq_iff_eq.mpr c4
        have c4b1 : (a0.toList != ([105, 56] : List UInt8)) = false := bne_eq_false_iff_eq.mpr c4
        clear c4
        have H' := Aside0.mk H
        clear H
        go_wp2
        go_meet
        case rel => exact ⟨_, ((a0.toList == ([105, 56] : List UInt8))), (by first | rfl | (simp; done) | (simp [*]; done)), H', ⟨by first | omega | exact Nat.le_refl _⟩, by repeat (first | exact Drawn0.refl _ | apply Drawn0.step)⟩
      · rw [if_neg c4] at H
        have c4b0 : (a0.toList == ([105, 56] : List UInt8)) = false := beq_eq_false_iff_ne.mpr c4
        have c4b1 : (a0.toList != ([105, 56] : List UInt8)) = true := bne_iff_ne.mpr c4
        by_cases c5 : a0.toList = ([105, 49, 54] : List UInt8)
        · rw [if_pos c5] at H
          have c5b0 : (a0.toList == ([105, 49, 54] : List UInt8)) = true := beq_iff_eq.mpr c5
          have c5b1 : (a0.toList != ([105, 49, 54] : List UInt8)) = false := bne_eq_false_iff_eq.mpr c5
          clear c5
          have H' := Aside0.mk H
          clear H
          go_wp2
          go_meet
          case rel => exact ⟨_, ((a0.toList == ([105, 49, 54] : List UInt8))), (by first | rfl | (simp; done) | (simp [*]; done)), H', ⟨by first | omega | exact Nat.le_refl _⟩, by repeat (first | exact Drawn0.refl _ | apply Drawn0.step)⟩
        · rw [if_neg c5] at H
          have c5b0 : (a0.toList == ([105, 49, 54] : List UInt8)) = false := beq_eq_false_iff_ne.mpr c5
          have c5b1 : (a0.toList != ([105, 49, 54] : List UInt8)) = true := bne_iff_ne.mpr c5
          by_cases c6 : a0.toList = ([105, 51, 50] : List UInt8)
          · rw [if_pos c6] at H
            have c6b0 : (a0.toList == ([105, 51, 50] : List UInt8)) = true := beq_iff_eq.mpr c6
            have c6b1 : (a0.toList != ([105, 51, 50] : List UInt8)) = false := bne_eq_false_iff_eq.mpr c6
            clear c6
            have H' := Aside0.mk H
            clear H
            go_wp2
            go_meet
            case rel => exact ⟨_, ((a0.toList == ([105, 51, 50] : List UInt8))), (by first | rfl | (simp; done) | (simp [*]; done)), H', ⟨by first | omega | exact Nat.le_refl _⟩, by repeat (first | exact Drawn0.refl _ | apply Drawn0.step)⟩
          · rw [if_neg c6] at H
            have c6b0 : (a0.toList == ([105, 51, 50] : List UInt8)) = false := beq_eq_false_iff_ne.mpr c6
            have c6b1 : (a0.toList != ([105, 51, 50] : List UInt8)) = true := bne_iff_ne.mpr c6
            by_cases c7 : a0.toList = ([117, 56] : List UInt8)
            · rw [if_pos c7] at H
              have c7b0 : (a0.toList == ([117, 56] : List UInt8)) = true := beq_iff_eq.mpr c7
              have c7b1 : (a0.toList != ([117, 56] : List UInt8)) = false := bne_eq_false_iff_eq.mpr c7
              clear c7
              have H' := Aside0.mk H
              clear H
              go_wp2
              go_meet
              case rel => exact ⟨_, ((a0.toList == ([117, 56] : List UInt8))), (by first | rfl | (simp; done) | (simp [*]; done)), H', ⟨by first | omega | exact Nat.le_refl _⟩, by repeat (first | exact Drawn0.refl _ | apply Drawn0.step)⟩
            · rw [if_neg c7] at H
              have c7b0 : (a0.toList == ([117, 56] : List UInt8)) = false := beq_eq_false_iff_ne.mpr c7
              have c7b1 : (a0.toList != ([117, 56] : List UInt8)) = true := bne_iff_ne.mpr c7
              by_cases c8 : a0.toList = ([117, 49, 54] : List UInt8)
              · rw [if_pos c8] at H
                have c8b0 : (a0.toList == ([117, 49, 54] : List UInt8)) = true := beq_iff_eq.mpr c8
                have c8b1 : (a0.toList != ([117, 49, 54] : List UInt8)) = false := bne_eq_false_iff_eq.mpr c8
                clear c8
                have H' := Aside0.mk H
                clear H
                go_wp2
                go_meet
                case rel => exact ⟨_, ((a0.toList == ([117, 49, 54] : List UInt8))), (by first | rfl | (simp; done) | (simp [*]; done)), H', ⟨by first | omega | exact Nat.le_refl _⟩, by repeat (first | exact Drawn0.refl _ | apply Drawn0.step)⟩
              · rw [if_neg c8] at H
                have c8b0 : (a0.toList == ([117, 49, 54] : List UInt8)) = false := beq_eq_false_iff_ne.mpr c8
                have c8b1 : (a0.toList != ([117, 49, 54] : List UInt8)) = true := bne_iff_ne.mpr c8
                have H' := Aside0.mk H
                clear H
                go_wp2
                go_meet
                case rel => exact ⟨_, ((a0.toList == ([117, 51, 50] : List UInt8))), (by first | rfl | (simp; done) | (simp [*]; done)), H', ⟨by first | omega | exact Nat.le_refl _⟩, by repeat (first | exact Drawn0.refl _ | apply Drawn0.step)⟩
  case rest =>
    clear HC2
    try clear p2
    try clear c3
    try clear c3b0
    try clear c3b1
    try clear c4
    try clear c4b0
    try clear c4b1
    try clear c5
    try clear c5b0
    try clear c5b1
    try clear c6
    try clear c6b0
    try clear c6b1
    try clear c7
    try clear c7b0
    try clear c7b1
    try clear c8
    try clear c8b0
    try clear c8b1
    obtain ⟨kq, x5_1, rfl, HA, HJ1, ⟨mc1, rfl⟩⟩ := hcut
    cases kq with
    | zero => exact absurd HA.out (by simp [value_tag.j0])
    | succ kj1 =>
      have H := HA.out
      clear HA
      simp only [value_tag.j0] at H
      by_cases c9 : x5_1 = true
      · subst c9
        have H1 : (some (1, true)) = some (r1, r2) := by rw [if_pos rfl] at H; exact H
        clear H
        have H := H1
        clear H1
        simp only [Option.some.injEq, Prod.mk.injEq] at H
        obtain ⟨rfl, rfl⟩ := H
        go_wp2
        go_ret2
        exact ⟨by first | rfl | (simp; done) | (simp [*]; done), by repeat (first | exact Drawn0.refl _ | apply Drawn0.step)⟩
      · replace c9 := Bool.eq_false_iff.mpr c9
        subst c9
        have H1 : (if a0.toList = ([110, 111, 116] : List UInt8) then (some (2, true)) else (if a0.toList = ([108, 101, 110] : List UInt8) then (some (3, true)) else (some (0, false)))) = some (r1, r2) := by rw [if_neg (show ¬ (false = true) by decide)] at H; exact H
        clear H
        have H := H1
        clear H1
        by_cases c10 : a0.toList = ([110, 111, 116] : List UInt8)
        · rw [if_pos c10] at H
          have c10b0 : (a0.toList == ([110, 111, 116] : List UInt8)) = true := beq_iff_eq.mpr c10
          have c10b1 : (a0.toList != ([110, 111, 116] : List UInt8)) = false := bne_eq_false_iff_eq.mpr c10
          clear c10
          simp only [Option.some.injEq, Prod.mk.injEq] at H
          obtain ⟨rfl, rfl⟩ := H
          go_wp2
          go_ret2
          exact ⟨by first | rfl | (simp; done) | (simp [*]; done), by repeat (first | exact Drawn0.refl _ | apply Drawn0.step)⟩
        · rw [if_neg c10] at H
          have c10b0 : (a0.toList == ([110, 111, 116] : List UInt8)) = false := beq_eq_false_iff_ne.mpr c10
          have c10b1 : (a0.toList != ([110, 111, 116] : List UInt8)) = true := bne_iff_ne.mpr c10
          by_cases c11 : a0.toList = ([108, 101, 110] : List UInt8)
          · rw [if_pos c11] at H
            have c11b0 : (a0.toList == ([108, 101, 110] : List UInt8)) = true := beq_iff_eq.mpr c11
            have c11b1 : (a0.toList != ([108, 101, 110] : List UInt8)) = false := bne_eq_false_iff_eq.mpr c11
            clear c11
            simp only [Option.some.injEq, Prod.mk.injEq] at H
            obtain ⟨rfl, rfl⟩ := H
            go_wp2
            go_ret2
            exact ⟨by first | rfl | (simp; done) | (simp [*]; done), by repeat (first | exact Drawn0.refl _ | apply Drawn0.step)⟩
          · rw [if_neg c11] at H
            have c11b0 : (a0.toList == ([108, 101, 110] : List UInt8)) = false := beq_eq_false_iff_ne.mpr c11
            have c11b1 : (a0.toList != ([108, 101, 110] : List UInt8)) = true := bne_iff_ne.mpr c11
            simp only [Option.some.injEq, Prod.mk.injEq] at H
            obtain ⟨rfl, rfl⟩ := H
            go_wp2
            go_ret2
            exact ⟨by first | rfl | (simp; done) | (simp [*]; done), by repeat (first | exact Drawn0.refl _ | apply Drawn0.step)⟩

/-! ### value_One: function 38 -/
def value_One.j0 : Nat → ByteArray → Int → Int → ByteArray → Option (Int × Int × ByteArray × Int)
  | 0, _, _, _, _ => none
  | k + 1, x0, x550000, x550001, x550002 => if x0.toList = ([110, 101, 103] : List UInt8) then ((value_Of.f (wrap64 (-x550001))).bind fun bt553 => (some (bt553.1, bt553.2.1, bt553.2.2, 0))) else (if x0.toList = ([110, 111, 116] : List UInt8) then ((value_Is.f (x550001 == 0)).bind fun bt556 => (some (bt556.1, bt556.2.1, bt556.2.2, 0))) else (if x0.toList = ([108, 101, 110] : List UInt8) then ((value_Of.f (x550002.size : Int)).bind fun bt559 => (some (bt559.1, bt559.2.1, bt559.2.2, 0))) else (if x0.toList = ([105, 56] : List UInt8) then ((value_Of.f (wrap64 (IntKind.i8.wrap (x550001)))).bind fun bt562 => (some (bt562.1, bt562.2.1, bt562.2.2, 0))) else (if x0.toList = ([105, 49, 54] : List UInt8) then ((value_Of.f (wrap64 (IntKind.i16.wrap (x550001)))).bind fun bt565 => (some (bt565.1, bt565.2.1, bt565.2.2, 0))) else (if x0.toList = ([105, 51, 50] : List UInt8) then ((value_Of.f (wrap64 (wrap32 (x550001)))).bind fun bt568 => (some (bt568.1, bt568.2.1, bt568.2.2, 0))) else (if x0.toList = ([117, 56] : List UInt8) then ((value_Of.f ((x550001) % 256)).bind fun bt571 => (some (bt571.1, bt571.2.1, bt571.2.2, 0))) else (if x0.toList = ([117, 49, 54] : List UInt8) then ((value_Of.f (wrap64 (IntKind.u16.wrap (x550001)))).bind fun bt574 => (some (bt574.1, bt574.2.1, bt574.2.2, 0))) else ((value_Of.f ((x550001) % 4294967296)).bind fun bt577 => (some (bt577.1, bt577.2.1, bt577.2.2, 0))))))))))
def value_One.f (k : Nat) (a0 : ByteArray) (a1_0 : Int) (a1_1 : Int) (a1_2 : ByteArray) : Option (Int × Int × ByteArray × Int) := (value_tag.f k a0).bind fun bt551 => (if bt551.2 = true then (if a1_0 = bt551.1 then (if a0.toList = ([110, 101, 103] : List UInt8) then (if a1_1 = (-9223372036854775808) then (some (0, 0, (⟨#[]⟩ : ByteArray), 3)) else (value_One.j0 k a0 a1_0 a1_1 a1_2)) else (value_One.j0 k a0 a1_0 a1_1 a1_2)) else (some (0, 0, (⟨#[]⟩ : ByteArray), 2))) else (some (0, 0, (⟨#[]⟩ : ByteArray), 1)))
theorem value_One.mono_l : ∀ k, (∀ y0 y1 y2 y3, LeO (value_One.j0 k y0 y1 y2 y3) (value_One.j0 (k + 1) y0 y1 y2 y3))
  | 0 => fun _ _ _ _ r h => by simp [value_One.j0] at h
  | k + 1 => by
    have ih0 := value_One.mono_l k
    · intro y0 y1 y2 y3
      unfold value_One.j0
      repeat' first
      | (with_reducible exact ih0 _ _ _ _)
      | (with_reducible exact value_tag.mono _ _)
      | (with_reducible exact LeO.refl _)
      | (with_reducible exact LeO.none _)
      | (with_reducible refine LeO.ite ?_ ?_)
      | (with_reducible refine LeO.bind ?_ (fun _ => ?_))
      | exact ih0 _ _ _ _
      | exact value_tag.mono _ _
      | exact LeO.none _
      | refine LeO.ite ?_ ?_
      | refine LeO.bind ?_ (fun _ => ?_)
theorem value_One.mono : ∀ a0 a1 a2 a3 k, LeO (value_One.f k a0 a1 a2 a3) (value_One.f (k + 1) a0 a1 a2 a3) := by
  intro a0 a1 a2 a3 k
  have ih0 := value_One.mono_l k
  unfold value_One.f
  repeat' first
      | (with_reducible exact ih0 _ _ _ _)
      | (with_reducible exact value_tag.mono _ _)
      | (with_reducible exact LeO.refl _)
      | (with_reducible exact LeO.none _)
      | (with_reducible refine LeO.ite ?_ ?_)
      | (with_reducible refine LeO.bind ?_ (fun _ => ?_))
      | exact ih0 _ _ _ _
      | exact value_tag.mono _ _
      | exact LeO.none _
      | refine LeO.ite ?_ ?_
      | refine LeO.bind ?_ (fun _ => ?_)
set_option maxHeartbeats 8000000 in
set_option maxRecDepth 100000 in
theorem value_One.calls (k : Nat) (a0 : ByteArray) (a1_0 : Int) (a1_1 : Int) (a1_2 : ByteArray) (r1 : Int) (r2 : Int) (r3 : ByteArray) (r4 : Int) (w : World) (h : value_One.f k a0 a1_0 a1_1 a1_2 = some (r1, r2, r3, r4)) :
    Calls Try.prog 38 #[.string a0, .agg #[.int .u8 a1_0, .int .i64 a1_1, .string a1_2]] w fun e w' => e = .returned (.tuple #[.agg #[.int .u8 r1, .int .i64 r2, .string r3], .int .i64 r4]) ∧ Below w.heap.size w w' := by
  have hu26 := Try.underlying26
  have HB := Aside0.mk (Below.refl w.heap.size w)
  have H : ((value_tag.f k a0).bind fun bt551 => (if bt551.2 = true then (if a1_0 = bt551.1 then (if a0.toList = ([110, 101, 103] : List UInt8) then (if a1_1 = (-9223372036854775808) then (some (0, 0, (⟨#[]⟩ : ByteArray), 3)) else (value_One.j0 k a0 a1_0 a1_1 a1_2)) else (value_One.j0 k a0 a1_0 a1_1 a1_2)) else (some (0, 0, (⟨#[]⟩ : ByteArray), 2))) else (some (0, 0, (⟨#[]⟩ : ByteArray), 1)))) = some (r1, r2, r3, r4) := h
  clear h
  replace H := Option.bind_eq_some_iff.mp H
  obtain ⟨⟨t551, t552⟩, A30, H⟩ := H
  (try dsimp only at H)
  have A3 := Aside0.mk A30
  clear A30
  have HC4 := Aside0.mk H
  clear H
  go_enter Try.func38, Try.ntmps38
  go_upto_block 0 with (first | ((with_reducible refine gate_dst (N := 3) rfl ?_); refine box_event ?hg (N := 3) ?hd (cs := #[.int .u8 a1_0, .int .i64 a1_1, .string a1_2]) (t := 26) ?hr ?_; (case hd => rfl); (case hg => rfl); (case hr => first | (go_simp; done) | (go_simp; rfl)); intro gb549 hg w5 hbox hb; have n0_ := Aside0.mk (below_step (by repeat (first | (with_reducible first | exact HB.out | apply below_alloc | apply pw_below_drewN | apply below_drew1) | exact HB.out)) hb); have n1_ := Aside0.mk (hbox); have n2_ := Aside0.mk ((by rw [hg]; exact (below_size (by repeat (first | (with_reducible first | exact HB.out | apply below_alloc | apply pw_below_drewN | apply below_drew1) | exact HB.out))) : w.heap.size ≤ gb549)); have n3_ := Aside0.mk ((by rw [hg]; exact (below_size (by repeat (first | (with_reducible first | exact HB.out | apply below_alloc | apply pw_below_drewN | apply below_drew1) | exact HB.out))) : w.heap.size ≤ gb549)); clear HB; have HB := n0_; have BK549 := n1_; have GW549 := n2_; have GE549 := n3_; clear n0_ n1_ n2_ n3_; clear hb hbox hg) | ((with_reducible refine gate_dst (N := 4) rfl ?_); refine box_event ?hg (N := 4) ?hd (cs := #[.int .u8 0, .int .i64 0, .string (⟨#[]⟩ : ByteArray)]) (t := 26) ?hr ?_; (case hd => rfl); (case hg => rfl); (case hr => first | (go_simp; done) | (go_simp; rfl)); intro gb550 hg w6 hbox hb; have n0_ := Aside0.mk (blk_below (g := gb549) (o := .cells #[.int .u8 a1_0, .int .i64 a1_1, .string a1_2] 26 (0, 0)) (by (with_reducible repeat (first | refine blk_drewN ?_ _ | refine blk_drew ?_ | refine blk_alloc ?_ _)); exact BK549.out) hb); have n1_ := Aside0.mk (below_step (by repeat (first | (with_reducible first | exact HB.out | apply below_alloc | apply pw_below_drewN | apply below_drew1 | refine below_set ?_ GE549.out) | exact HB.out)) hb); have n2_ := Aside0.mk (hbox); have n3_ := Aside0.mk ((by rw [hg]; exact (below_size (by repeat (first | (with_reducible first | exact HB.out | apply below_alloc | apply pw_below_drewN | apply below_drew1 | refine below_set ?_ GE549.out) | exact HB.out))) : w.heap.size ≤ gb550)); have n4_ := Aside0.mk ((by rw [hg]; exact (below_size (by repeat (first | (with_reducible first | exact HB.out | apply below_alloc | apply pw_below_drewN | apply below_drew1 | refine below_set ?_ GE549.out) | exact HB.out))) : w.heap.size ≤ gb550)); have n5_ := Aside0.mk ((by rw [hg]; exact Nat.ne_of_lt (blk_lt (g := gb549) (o := .cells #[.int .u8 a1_0, .int .i64 a1_1, .string a1_2] 26 (0, 0)) (by (with_reducible repeat (first | refine blk_drewN ?_ _ | refine blk_drew ?_ | refine blk_alloc ?_ _)); exact BK549.out)) : gb549 ≠ gb550)); have n6_ := Aside0.mk ((by rw [hg]; exact Nat.ne_of_gt (blk_lt (g := gb549) (o := .cells #[.int .u8 a1_0, .int .i64 a1_1, .string a1_2] 26 (0, 0)) (by (with_reducible repeat (first | refine blk_drewN ?_ _ | refine blk_drew ?_ | refine blk_alloc ?_ _)); exact BK549.out)) : gb550 ≠ gb549)); clear BK549; clear HB; have BK549 := n0_; have HB := n1_; have BK550 := n2_; have GW550 := n3_; have GE550 := n4_; have NB549_550 := n5_; have NB550_549 := n6_; clear n0_ n1_ n2_ n3_ n4_ n5_ n6_; clear hb hbox hg) | ((with_reducible refine gate_callee (f := 53) rfl ?_); refine goesL_ (some 10) rfl rfl Try.func53 (by kernel_rfl) rfl #[.string a0] rfl (by (try simp only [List.map_toArray, List.map_cons, List.map_nil]); first | done | rfl | (simp only [List.length_drop, List.length_take]; rfl)) ?_; (with_reducible refine (value_tag.calls k a0 t551 t552 _ A3.out).mono ?_); rintro e w' ⟨rfl, ⟨nd, rfl⟩⟩; refine ⟨_, rfl, ?_⟩))
  (try simp only [Act.put, List.setIfInBounds_toArray, List.set_cons_zero, List.set_cons_succ])
  go_cut [] (fun wc => ∃ (kq : Nat) (x551000_3 : Int) (x551001_3 : Int) (x551002_3 : ByteArray), Aside0 (value_One.j0 kq a0 a1_0 a1_1 a1_2 = some (r1, r2, r3, r4)) ∧ Aside0 (kq ≤ k) ∧ Aside0 (wc.heap[gb549]? = some (.cells #[.int .u8 a1_0, .int .i64 a1_1, .string a1_2] 26 (0, 0))) ∧ Aside0 (wc.heap[gb550]? = some (.cells #[.int .u8 x551000_3, .int .i64 x551001_3, .string x551002_3] 26 (0, 0))) ∧ Aside0 (Below w.heap.size w wc))
  case first =>
    have H := HC4.out
    clear HC4
    by_cases c7 : t552 = true
    · subst c7
      have H1 : (if a1_0 = t551 then (if a0.toList = ([110, 101, 103] : List UInt8) then (if a1_1 = (-9223372036854775808) then (some (0, 0, (⟨#[]⟩ : ByteArray), 3)) else (value_One.j0 k a0 a1_0 a1_1 a1_2)) else (value_One.j0 k a0 a1_0 a1_1 a1_2)) else (some (0, 0, (⟨#[]⟩ : ByteArray), 2))) = some (r1, r2, r3, r4) := by rw [if_pos rfl] at H; exact H
      clear H
      have H := H1
      clear H1
      by_cases c8 : a1_0 = t551
      · rw [if_pos c8] at H
        have c8b0 : (a1_0 == t551) = true := beq_iff_eq.mpr c8
        have c8b1 : (a1_0 != t551) = false := bne_eq_false_iff_eq.mpr c8
        clear c8
        (first | rw [c8b0] | (simp only [i64_w, i32_w]; rw [c8b0]) | skip)
        by_cases c9 : a0.toList = ([110, 101, 103] : List UInt8)
        · rw [if_pos c9] at H
          have c9b0 : (a0.toList == ([110, 101, 103] : List UInt8)) = true := beq_iff_eq.mpr c9
          have c9b1 : (a0.toList != ([110, 101, 103] : List UInt8)) = false := bne_eq_false_iff_eq.mpr c9
          clear c9
          by_cases c10 : a1_1 = (-9223372036854775808)
          · rw [if_pos c10] at H
            have c10b0 : (a1_1 == (-9223372036854775808)) = true := beq_iff_eq.mpr c10
            have c10b1 : (a1_1 != (-9223372036854775808)) = false := bne_eq_false_iff_eq.mpr c10
            clear c10
            simp only [Option.some.injEq, Prod.mk.injEq] at H
            obtain ⟨rfl, rfl, rfl, rfl⟩ := H
            have hnb11 := NB549_550.out
            have hnc11 := NB550_549.out
            have hcz12_0 : w6.cell? ⟨gb549, 0, none⟩ = some (.int .u8 a1_0) := (blk_cell BK549.out 0).trans rfl
            have hcz12_1 : w6.cell? ⟨gb549, 1, none⟩ = some (.int .i64 a1_1) := (blk_cell BK549.out 1).trans rfl
            have hcz12_2 : w6.cell? ⟨gb549, 2, none⟩ = some (.string a1_2) := (blk_cell BK549.out 2).trans rfl
            have hfz12_0 := blk_frozen BK549.out 0
            have hfz12_1 := blk_frozen BK549.out 1
            have hfz12_2 := blk_frozen BK549.out 2
            have hcz13_0 : w6.cell? ⟨gb550, 0, none⟩ = some (.int .u8 0) := (blk_cell BK550.out 0).trans rfl
            have hcz13_1 : w6.cell? ⟨gb550, 1, none⟩ = some (.int .i64 0) := (blk_cell BK550.out 1).trans rfl
            have hcz13_2 : w6.cell? ⟨gb550, 2, none⟩ = some (.string (⟨#[]⟩ : ByteArray)) := (blk_cell BK550.out 2).trans rfl
            have hfz13_0 := blk_frozen BK550.out 0
            have hfz13_1 := blk_frozen BK550.out 1
            have hfz13_2 := blk_frozen BK550.out 2
            go_wp2
            refine bodyPost_ret (results_ct rfl _ _ gb550 26 #[.int .u8 0, .int .i64 0, .string (⟨#[]⟩ : ByteArray)] (0, 0) _ rfl (by (with_reducible repeat (first | refine blk_drewN ?_ _ | refine blk_drew ?_ | refine blk_alloc ?_ _)); refine blk_put (cs := #[.int .u8 0, .int .i64 0, .string (⟨#[]⟩ : ByteArray)]) ?_ 2 _ rfl; (with_reducible repeat (first | refine blk_drewN ?_ _ | refine blk_drew ?_ | refine blk_alloc ?_ _)); refine blk_put (cs := #[.int .u8 0, .int .i64 0, .string (⟨#[]⟩ : ByteArray)]) ?_ 1 _ rfl; (with_reducible repeat (first | refine blk_drewN ?_ _ | refine blk_drew ?_ | refine blk_alloc ?_ _)); refine blk_put (cs := #[.int .u8 0, .int .i64 0, .string (⟨#[]⟩ : ByteArray)]) ?_ 0 _ rfl; (with_reducible repeat (first | refine blk_drewN ?_ _ | refine blk_drew ?_ | refine blk_alloc ?_ _)); exact BK550.out) Try.underlying26 rfl (by kernel_rfl)) rfl ?_
            exact ⟨by first | rfl | (simp [errW_none, errW_some] <;> rfl) | (simp [*, errW_none, errW_some] <;> rfl), by repeat (first | (with_reducible first | exact HB.out | apply below_alloc | apply pw_below_drewN | apply below_drew1 | refine below_set ?_ GE549.out | refine below_set ?_ GE550.out) | exact HB.out)⟩
          · rw [if_neg c10] at H
            have c10b0 : (a1_1 == (-9223372036854775808)) = false := beq_eq_false_iff_ne.mpr c10
            have c10b1 : (a1_1 != (-9223372036854775808)) = true := bne_iff_ne.mpr c10
            have H' := Aside0.mk H
            clear H
            have hnb14 := NB549_550.out
            have hnc14 := NB550_549.out
            have hcz15_0 : w6.cell? ⟨gb549, 0, none⟩ = some (.int .u8 a1_0) := (blk_cell BK549.out 0).trans rfl
            have hcz15_1 : w6.cell? ⟨gb549, 1, none⟩ = some (.int .i64 a1_1) := (blk_cell BK549.out 1).trans rfl
            have hcz15_2 : w6.cell? ⟨gb549, 2, none⟩ = some (.string a1_2) := (blk_cell BK549.out 2).trans rfl
            have hfz15_0 := blk_frozen BK549.out 0
            have hfz15_1 := blk_frozen BK549.out 1
            have hfz15_2 := blk_frozen BK549.out 2
            go_wp2
            go_meet
            case rel => exact ⟨_, (0), (0), ((⟨#[]⟩ : ByteArray)), H', ⟨by first | omega | exact Nat.le_refl _⟩, ⟨by (with_reducible repeat (first | refine blk_drewN ?_ _ | refine blk_drew ?_ | refine blk_alloc ?_ _)); exact BK549.out⟩, ⟨by (with_reducible repeat (first | refine blk_drewN ?_ _ | refine blk_drew ?_ | refine blk_alloc ?_ _)); exact BK550.out⟩, ⟨by repeat (first | (with_reducible first | exact HB.out | apply below_alloc | apply pw_below_drewN | apply below_drew1 | refine below_set ?_ GE549.out | refine below_set ?_ GE550.out) | exact HB.out)⟩⟩
        · rw [if_neg c9] at H
          have c9b0 : (a0.toList == ([110, 101, 103] : List UInt8)) = false := beq_eq_false_iff_ne.mpr c9
          have c9b1 : (a0.toList != ([110, 101, 103] : List UInt8)) = true := bne_iff_ne.mpr c9
          have H' := Aside0.mk H
          clear H
          have hnb16 := NB549_550.out
          have hnc16 := NB550_549.out
          have hcz17_0 : w6.cell? ⟨gb549, 0, none⟩ = some (.int .u8 a1_0) := (blk_cell BK549.out 0).trans rfl
          have hcz17_1 : w6.cell? ⟨gb549, 1, none⟩ = some (.int .i64 a1_1) := (blk_cell BK549.out 1).trans rfl
          have hcz17_2 : w6.cell? ⟨gb549, 2, none⟩ = some (.string a1_2) := (blk_cell BK549.out 2).trans rfl
          have hfz17_0 := blk_frozen BK549.out 0
          have hfz17_1 := blk_frozen BK549.out 1
          have hfz17_2 := blk_frozen BK549.out 2
          go_wp2
          go_meet
          case rel => exact ⟨_, (0), (0), ((⟨#[]⟩ : ByteArray)), H', ⟨by first | omega | exact Nat.le_refl _⟩, ⟨by (with_reducible repeat (first | refine blk_drewN ?_ _ | refine blk_drew ?_ | refine blk_alloc ?_ _)); exact BK549.out⟩, ⟨by (with_reducible repeat (first | refine blk_drewN ?_ _ | refine blk_drew ?_ | refine blk_alloc ?_ _)); exact BK550.out⟩, ⟨by repeat (first | (with_reducible first | exact HB.out | apply below_alloc | apply pw_below_drewN | apply below_drew1 | refine below_set ?_ GE549.out | refine below_set ?_ GE550.out) | exact HB.out)⟩⟩
      · rw [if_neg c8] at H
        have c8b0 : (a1_0 == t551) = false := beq_eq_false_iff_ne.mpr c8
        have c8b1 : (a1_0 != t551) = true := bne_iff_ne.mpr c8
        (first | rw [c8b0] | (simp only [i64_w, i32_w]; rw [c8b0]) | skip)
        simp only [Option.some.injEq, Prod.mk.injEq] at H
        obtain ⟨rfl, rfl, rfl, rfl⟩ := H
        have hnb18 := NB549_550.out
        have hnc18 := NB550_549.out
        have hcz19_0 : w6.cell? ⟨gb549, 0, none⟩ = some (.int .u8 a1_0) := (blk_cell BK549.out 0).trans rfl
        have hcz19_1 : w6.cell? ⟨gb549, 1, none⟩ = some (.int .i64 a1_1) := (blk_cell BK549.out 1).trans rfl
        have hcz19_2 : w6.cell? ⟨gb549, 2, none⟩ = some (.string a1_2) := (blk_cell BK549.out 2).trans rfl
        have hfz19_0 := blk_frozen BK549.out 0
        have hfz19_1 := blk_frozen BK549.out 1
        have hfz19_2 := blk_frozen BK549.out 2
        have hcz20_0 : w6.cell? ⟨gb550, 0, none⟩ = some (.int .u8 0) := (blk_cell BK550.out 0).trans rfl
        have hcz20_1 : w6.cell? ⟨gb550, 1, none⟩ = some (.int .i64 0) := (blk_cell BK550.out 1).trans rfl
        have hcz20_2 : w6.cell? ⟨gb550, 2, none⟩ = some (.string (⟨#[]⟩ : ByteArray)) := (blk_cell BK550.out 2).trans rfl
        have hfz20_0 := blk_frozen BK550.out 0
        have hfz20_1 := blk_frozen BK550.out 1
        have hfz20_2 := blk_frozen BK550.out 2
        go_wp2
        refine bodyPost_ret (results_ct rfl _ _ gb550 26 #[.int .u8 0, .int .i64 0, .string (⟨#[]⟩ : ByteArray)] (0, 0) _ rfl (by (with_reducible repeat (first | refine blk_drewN ?_ _ | refine blk_drew ?_ | refine blk_alloc ?_ _)); refine blk_put (cs := #[.int .u8 0, .int .i64 0, .string (⟨#[]⟩ : ByteArray)]) ?_ 2 _ rfl; (with_reducible repeat (first | refine blk_drewN ?_ _ | refine blk_drew ?_ | refine blk_alloc ?_ _)); refine blk_put (cs := #[.int .u8 0, .int .i64 0, .string (⟨#[]⟩ : ByteArray)]) ?_ 1 _ rfl; (with_reducible repeat (first | refine blk_drewN ?_ _ | refine blk_drew ?_ | refine blk_alloc ?_ _)); refine blk_put (cs := #[.int .u8 0, .int .i64 0, .string (⟨#[]⟩ : ByteArray)]) ?_ 0 _ rfl; (with_reducible repeat (first | refine blk_drewN ?_ _ | refine blk_drew ?_ | refine blk_alloc ?_ _)); exact BK550.out) Try.underlying26 rfl (by kernel_rfl)) rfl ?_
        exact ⟨by first | rfl | (simp [errW_none, errW_some] <;> rfl) | (simp [*, errW_none, errW_some] <;> rfl), by repeat (first | (with_reducible first | exact HB.out | apply below_alloc | apply pw_below_drewN | apply below_drew1 | refine below_set ?_ GE549.out | refine below_set ?_ GE550.out) | exact HB.out)⟩
    · replace c7 := Bool.eq_false_iff.mpr c7
      subst c7
      have H1 : (some (0, 0, (⟨#[]⟩ : ByteArray), 1)) = some (r1, r2, r3, r4) := by rw [if_neg (show ¬ (false = true) by decide)] at H; exact H
      clear H
      have H := H1
      clear H1
      simp only [Option.some.injEq, Prod.mk.injEq] at H
      obtain ⟨rfl, rfl, rfl, rfl⟩ := H
      have hnb21 := NB550_549.out
      have hnc21 := NB549_550.out
      have hcz22_0 : w6.cell? ⟨gb550, 0, none⟩ = some (.int .u8 0) := (blk_cell BK550.out 0).trans rfl
      have hcz22_1 : w6.cell? ⟨gb550, 1, none⟩ = some (.int .i64 0) := (blk_cell BK550.out 1).trans rfl
      have hcz22_2 : w6.cell? ⟨gb550, 2, none⟩ = some (.string (⟨#[]⟩ : ByteArray)) := (blk_cell BK550.out 2).trans rfl
      have hfz22_0 := blk_frozen BK550.out 0
      have hfz22_1 := blk_frozen BK550.out 1
      have hfz22_2 := blk_frozen BK550.out 2
      go_wp2
      refine bodyPost_ret (results_ct rfl _ _ gb550 26 #[.int .u8 0, .int .i64 0, .string (⟨#[]⟩ : ByteArray)] (0, 0) _ rfl (by (with_reducible repeat (first | refine blk_drewN ?_ _ | refine blk_drew ?_ | refine blk_alloc ?_ _)); refine blk_put (cs := #[.int .u8 0, .int .i64 0, .string (⟨#[]⟩ : ByteArray)]) ?_ 2 _ rfl; (with_reducible repeat (first | refine blk_drewN ?_ _ | refine blk_drew ?_ | refine blk_alloc ?_ _)); refine blk_put (cs := #[.int .u8 0, .int .i64 0, .string (⟨#[]⟩ : ByteArray)]) ?_ 1 _ rfl; (with_reducible repeat (first | refine blk_drewN ?_ _ | refine blk_drew ?_ | refine blk_alloc ?_ _)); refine blk_put (cs := #[.int .u8 0, .int .i64 0, .string (⟨#[]⟩ : ByteArray)]) ?_ 0 _ rfl; (with_reducible repeat (first | refine blk_drewN ?_ _ | refine blk_drew ?_ | refine blk_alloc ?_ _)); exact BK550.out) Try.underlying26 rfl (by kernel_rfl)) rfl ?_
      exact ⟨by first | rfl | (simp [errW_none, errW_some] <;> rfl) | (simp [*, errW_none, errW_some] <;> rfl), by repeat (first | (with_reducible first | exact HB.out | apply below_alloc | apply pw_below_drewN | apply below_drew1 | refine below_set ?_ GE549.out | refine below_set ?_ GE550.out) | exact HB.out)⟩
  case rest =>
    clear HC4
    try clear c1
    try clear c2
    try clear p2
    try clear c3
    try clear c5
    try clear c7
    try clear c8
    try clear c8b0
    try clear c8b1
    try clear c9
    try clear c9b0
    try clear c9b1
    try clear c10
    try clear c10b0
    try clear c10b1
    try clear c11
    try clear c14
    try clear c16
    try clear c18
    try clear c21
    try clear hcz12_0
    try clear hcz12_1
    try clear hcz12_2
    try clear hcz13_0
    try clear hcz13_1
    try clear hcz13_2
    try clear hcz15_0
    try clear hcz15_1
    try clear hcz15_2
    try clear hcz17_0
    try clear hcz17_1
    try clear hcz17_2
    try clear hcz19_0
    try clear hcz19_1
    try clear hcz19_2
    try clear hcz20_0
    try clear hcz20_1
    try clear hcz20_2
    try clear hcz22_0
    try clear hcz22_1
    try clear hcz22_2
    try clear hfz12_0
    try clear hfz12_1
    try clear hfz12_2
    try clear hfz13_0
    try clear hfz13_1
    try clear hfz13_2
    try clear hfz15_0
    try clear hfz15_1
    try clear hfz15_2
    try clear hfz17_0
    try clear hfz17_1
    try clear hfz17_2
    try clear hfz19_0
    try clear hfz19_1
    try clear hfz19_2
    try clear hfz20_0
    try clear hfz20_1
    try clear hfz20_2
    try clear hfz22_0
    try clear hfz22_1
    try clear hfz22_2
    obtain ⟨kq, x551000_3, x551001_3, x551002_3, HA, HJ3, BK549, BK550, HB⟩ := hcut
    cases kq with
    | zero => exact absurd HA.out (by simp [value_One.j0])
    | succ kj3 =>
      have H := HA.out
      clear HA
      simp only [value_One.j0] at H
      by_cases c23 : a0.toList = ([110, 101, 103] : List UInt8)
      · rw [if_pos c23] at H
        have c23b0 : (a0.toList == ([110, 101, 103] : List UInt8)) = true := beq_iff_eq.mpr c23
        have c23b1 : (a0.toList != ([110, 101, 103] : List UInt8)) = false := bne_eq_false_iff_eq.mpr c23
        clear c23
        replace H := Option.bind_eq_some_iff.mp H
        obtain ⟨⟨t553, t554, t555⟩, A240, H⟩ := H
        replace H : (some (t553, t554, t555, 0)) = some (r1, r2, r3, r4) := H
        have A24 := Aside0.mk A240
        clear A240
        simp only [Option.some.injEq, Prod.mk.injEq] at H
        obtain ⟨rfl, rfl, rfl, rfl⟩ := H
        have hnb25 := NB549_550.out
        have hnc25 := NB550_549.out
        have hcz26_0 : wc.cell? ⟨gb549, 0, none⟩ = some (.int .u8 a1_0) := (blk_cell BK549.out 0).trans rfl
        have hcz26_1 : wc.cell? ⟨gb549, 1, none⟩ = some (.int .i64 a1_1) := (blk_cell BK549.out 1).trans rfl
        have hcz26_2 : wc.cell? ⟨gb549, 2, none⟩ = some (.string a1_2) := (blk_cell BK549.out 2).trans rfl
        have hfz26_0 := blk_frozen BK549.out 0
        have hfz26_1 := blk_frozen BK549.out 1
        have hfz26_2 := blk_frozen BK549.out 2
        go_wp2_with (first | ((with_reducible refine gate_callee (f := 33) rfl ?_); refine goesL_ (some 38) rfl rfl Try.func33 (by kernel_rfl) rfl #[.int .i64 (wrap64 (-a1_1))] rfl (by (try simp only [List.map_toArray, List.map_cons, List.map_nil]); first | done | rfl | (simp only [List.length_drop, List.length_take]; rfl)) ?_; (with_reducible refine (value_Of.calls (wrap64 (-a1_1)) t553 t554 t555 _ A24.out).mono ?_); rintro e w27 ⟨rfl, hb⟩; refine ⟨_, rfl, ?_⟩; have n0_ := Aside0.mk (blk_below (g := gb549) (o := .cells #[.int .u8 a1_0, .int .i64 a1_1, .string a1_2] 26 (0, 0)) (by (with_reducible repeat (first | refine blk_drewN ?_ _ | refine blk_drew ?_ | refine blk_alloc ?_ _)); exact BK549.out) hb); have n1_ := Aside0.mk (blk_below (g := gb550) (o := .cells #[.int .u8 x551000_3, .int .i64 x551001_3, .string x551002_3] 26 (0, 0)) (by (with_reducible repeat (first | refine blk_drewN ?_ _ | refine blk_drew ?_ | refine blk_alloc ?_ _)); exact BK550.out) hb); have n2_ := Aside0.mk (below_step (by repeat (first | (with_reducible first | exact HB.out | apply below_alloc | apply pw_below_drewN | apply below_drew1 | refine below_set ?_ GE549.out | refine below_set ?_ GE550.out) | exact HB.out)) hb); clear BK549; clear BK550; clear HB; have BK549 := n0_; have BK550 := n1_; have HB := n2_; clear n0_ n1_ n2_; (try clear hb); (try clear hb2); (try clear hk); (try clear hi); have hcz28_0 : w27.cell? ⟨gb550, 0, none⟩ = some (.int .u8 x551000_3) := (blk_cell BK550.out 0).trans rfl; have hcz28_1 : w27.cell? ⟨gb550, 1, none⟩ = some (.int .i64 x551001_3) := (blk_cell BK550.out 1).trans rfl; have hcz28_2 : w27.cell? ⟨gb550, 2, none⟩ = some (.string x551002_3) := (blk_cell BK550.out 2).trans rfl; have hfz28_0 := blk_frozen BK550.out 0; have hfz28_1 := blk_frozen BK550.out 1; have hfz28_2 := blk_frozen BK550.out 2))
        refine bodyPost_ret (results_ct rfl _ _ gb550 26 #[.int .u8 t553, .int .i64 t554, .string t555] (0, 0) _ rfl (by (with_reducible repeat (first | refine blk_drewN ?_ _ | refine blk_drew ?_ | refine blk_alloc ?_ _)); refine blk_put (cs := #[.int .u8 t553, .int .i64 t554, .string x551002_3]) ?_ 2 _ rfl; (with_reducible repeat (first | refine blk_drewN ?_ _ | refine blk_drew ?_ | refine blk_alloc ?_ _)); refine blk_put (cs := #[.int .u8 t553, .int .i64 x551001_3, .string x551002_3]) ?_ 1 _ rfl; (with_reducible repeat (first | refine blk_drewN ?_ _ | refine blk_drew ?_ | refine blk_alloc ?_ _)); refine blk_put (cs := #[.int .u8 x551000_3, .int .i64 x551001_3, .string x551002_3]) ?_ 0 _ rfl; (with_reducible repeat (first | refine blk_drewN ?_ _ | refine blk_drew ?_ | refine blk_alloc ?_ _)); exact BK550.out) Try.underlying26 rfl (by kernel_rfl)) rfl ?_
        exact ⟨by first | rfl | (simp [errW_none, errW_some] <;> rfl) | (simp [*, errW_none, errW_some] <;> rfl), by repeat (first | (with_reducible first | exact HB.out | apply below_alloc | apply pw_below_drewN | apply below_drew1 | refine below_set ?_ GE549.out | refine below_set ?_ GE550.out) | exact HB.out)⟩
      · rw [if_neg c23] at H
        have c23b0 : (a0.toList == ([110, 101, 103] : List UInt8)) = false := beq_eq_false_iff_ne.mpr c23
        have c23b1 : (a0.toList != ([110, 101, 103] : List UInt8)) = true := bne_iff_ne.mpr c23
        by_cases c29 : a0.toList = ([110, 111, 116] : List UInt8)
        · rw [if_pos c29] at H
          have c29b0 : (a0.toList == ([110, 111, 116] : List UInt8)) = true := beq_iff_eq.mpr c29
          have c29b1 : (a0.toList != ([110, 111, 116] : List UInt8)) = false := bne_eq_false_iff_eq.mpr c29
          clear c29
          replace H := Option.bind_eq_some_iff.mp H
          obtain ⟨⟨t556, t557, t558⟩, A300, H⟩ := H
          replace H : (some (t556, t557, t558, 0)) = some (r1, r2, r3, r4) := H
          have A30 := Aside0.mk A300
          clear A300
          simp only [Option.some.injEq, Prod.mk.injEq] at H
          obtain ⟨rfl, rfl, rfl, rfl⟩ := H
          have hnb31 := NB549_550.out
          have hnc31 := NB550_549.out
          have hcz32_0 : wc.cell? ⟨gb549, 0, none⟩ = some (.int .u8 a1_0) := (blk_cell BK549.out 0).trans rfl
          have hcz32_1 : wc.cell? ⟨gb549, 1, none⟩ = some (.int .i64 a1_1) := (blk_cell BK549.out 1).trans rfl
          have hcz32_2 : wc.cell? ⟨gb549, 2, none⟩ = some (.string a1_2) := (blk_cell BK549.out 2).trans rfl
          have hfz32_0 := blk_frozen BK549.out 0
          have hfz32_1 := blk_frozen BK549.out 1
          have hfz32_2 := blk_frozen BK549.out 2
          go_wp2_with (first | ((with_reducible refine gate_callee (f := 35) rfl ?_); refine goesL_ (some 44) rfl rfl Try.func35 (by kernel_rfl) rfl #[.bool (a1_1 == 0)] rfl (by (try simp only [List.map_toArray, List.map_cons, List.map_nil]); first | done | rfl | (simp only [List.length_drop, List.length_take]; rfl)) ?_; (with_reducible refine (value_Is.calls (a1_1 == 0) t556 t557 t558 _ A30.out).mono ?_); rintro e w33 ⟨rfl, hb⟩; refine ⟨_, rfl, ?_⟩; have n0_ := Aside0.mk (blk_below (g := gb549) (o := .cells #[.int .u8 a1_0, .int .i64 a1_1, .string a1_2] 26 (0, 0)) (by (with_reducible repeat (first | refine blk_drewN ?_ _ | refine blk_drew ?_ | refine blk_alloc ?_ _)); exact BK549.out) hb); have n1_ := Aside0.mk (blk_below (g := gb550) (o := .cells #[.int .u8 x551000_3, .int .i64 x551001_3, .string x551002_3] 26 (0, 0)) (by (with_reducible repeat (first | refine blk_drewN ?_ _ | refine blk_drew ?_ | refine blk_alloc ?_ _)); exact BK550.out) hb); have n2_ := Aside0.mk (below_step (by repeat (first | (with_reducible first | exact HB.out | apply below_alloc | apply pw_below_drewN | apply below_drew1 | refine below_set ?_ GE549.out | refine below_set ?_ GE550.out) | exact HB.out)) hb); clear BK549; clear BK550; clear HB; have BK549 := n0_; have BK550 := n1_; have HB := n2_; clear n0_ n1_ n2_; (try clear hb); (try clear hb2); (try clear hk); (try clear hi); have hcz34_0 : w33.cell? ⟨gb550, 0, none⟩ = some (.int .u8 x551000_3) := (blk_cell BK550.out 0).trans rfl; have hcz34_1 : w33.cell? ⟨gb550, 1, none⟩ = some (.int .i64 x551001_3) := (blk_cell BK550.out 1).trans rfl; have hcz34_2 : w33.cell? ⟨gb550, 2, none⟩ = some (.string x551002_3) := (blk_cell BK550.out 2).trans rfl; have hfz34_0 := blk_frozen BK550.out 0; have hfz34_1 := blk_frozen BK550.out 1; have hfz34_2 := blk_frozen BK550.out 2))
          refine bodyPost_ret (results_ct rfl _ _ gb550 26 #[.int .u8 t556, .int .i64 t557, .string t558] (0, 0) _ rfl (by (with_reducible repeat (first | refine blk_drewN ?_ _ | refine blk_drew ?_ | refine blk_alloc ?_ _)); refine blk_put (cs := #[.int .u8 t556, .int .i64 t557, .string x551002_3]) ?_ 2 _ rfl; (with_reducible repeat (first | refine blk_drewN ?_ _ | refine blk_drew ?_ | refine blk_alloc ?_ _)); refine blk_put (cs := #[.int .u8 t556, .int .i64 x551001_3, .string x551002_3]) ?_ 1 _ rfl; (with_reducible repeat (first | refine blk_drewN ?_ _ | refine blk_drew ?_ | refine blk_alloc ?_ _)); refine blk_put (cs := #[.int .u8 x551000_3, .int .i64 x551001_3, .string x551002_3]) ?_ 0 _ rfl; (with_reducible repeat (first | refine blk_drewN ?_ _ | refine blk_drew ?_ | refine blk_alloc ?_ _)); exact BK550.out) Try.underlying26 rfl (by kernel_rfl)) rfl ?_
          exact ⟨by first | rfl | (simp [errW_none, errW_some] <;> rfl) | (simp [*, errW_none, errW_some] <;> rfl), by repeat (first | (with_reducible first | exact HB.out | apply below_alloc | apply pw_below_drewN | apply below_drew1 | refine below_set ?_ GE549.out | refine below_set ?_ GE550.out) | exact HB.out)⟩
        · rw [if_neg c29] at H
          have c29b0 : (a0.toList == ([110, 111, 116] : List UInt8)) = false := beq_eq_false_iff_ne.mpr c29
          have c29b1 : (a0.toList != ([110, 111, 116] : List UInt8)) = true := bne_iff_ne.mpr c29
          by_cases c35 : a0.toList = ([108, 101, 110] : List UInt8)
          · rw [if_pos c35] at H
            have c35b0 : (a0.toList == ([108, 101, 110] : List UInt8)) = true := beq_iff_eq.mpr c35
            have c35b1 : (a0.toList != ([108, 101, 110] : List UInt8)) = false := bne_eq_false_iff_eq.mpr c35
            clear c35
            replace H := Option.bind_eq_some_iff.mp H
            obtain ⟨⟨t559, t560, t561⟩, A360, H⟩ := H
            replace H : (some (t559, t560, t561, 0)) = some (r1, r2, r3, r4) := H
            have A36 := Aside0.mk A360
            clear A360
            simp only [Option.some.injEq, Prod.mk.injEq] at H
            obtain ⟨rfl, rfl, rfl, rfl⟩ := H
            have hnb37 := NB549_550.out
            have hnc37 := NB550_549.out
            have hcz38_0 : wc.cell? ⟨gb549, 0, none⟩ = some (.int .u8 a1_0) := (blk_cell BK549.out 0).trans rfl
            have hcz38_1 : wc.cell? ⟨gb549, 1, none⟩ = some (.int .i64 a1_1) := (blk_cell BK549.out 1).trans rfl
            have hcz38_2 : wc.cell? ⟨gb549, 2, none⟩ = some (.string a1_2) := (blk_cell BK549.out 2).trans rfl
            have hfz38_0 := blk_frozen BK549.out 0
            have hfz38_1 := blk_frozen BK549.out 1
            have hfz38_2 := blk_frozen BK549.out 2
            go_wp2_with (first | ((with_reducible refine gate_callee (f := 33) rfl ?_); refine goesL_ (some 50) rfl rfl Try.func33 (by kernel_rfl) rfl #[.int .i64 (a1_2.size : Int)] rfl (by (try simp only [List.map_toArray, List.map_cons, List.map_nil]); first | done | rfl | (simp only [List.length_drop, List.length_take]; rfl)) ?_; (with_reducible refine (value_Of.calls (a1_2.size : Int) t559 t560 t561 _ A36.out).mono ?_); rintro e w39 ⟨rfl, hb⟩; refine ⟨_, rfl, ?_⟩; have n0_ := Aside0.mk (blk_below (g := gb549) (o := .cells #[.int .u8 a1_0, .int .i64 a1_1, .string a1_2] 26 (0, 0)) (by (with_reducible repeat (first | refine blk_drewN ?_ _ | refine blk_drew ?_ | refine blk_alloc ?_ _)); exact BK549.out) hb); have n1_ := Aside0.mk (blk_below (g := gb550) (o := .cells #[.int .u8 x551000_3, .int .i64 x551001_3, .string x551002_3] 26 (0, 0)) (by (with_reducible repeat (first | refine blk_drewN ?_ _ | refine blk_drew ?_ | refine blk_alloc ?_ _)); exact BK550.out) hb); have n2_ := Aside0.mk (below_step (by repeat (first | (with_reducible first | exact HB.out | apply below_alloc | apply pw_below_drewN | apply below_drew1 | refine below_set ?_ GE549.out | refine below_set ?_ GE550.out) | exact HB.out)) hb); clear BK549; clear BK550; clear HB; have BK549 := n0_; have BK550 := n1_; have HB := n2_; clear n0_ n1_ n2_; (try clear hb); (try clear hb2); (try clear hk); (try clear hi); have hcz40_0 : w39.cell? ⟨gb550, 0, none⟩ = some (.int .u8 x551000_3) := (blk_cell BK550.out 0).trans rfl; have hcz40_1 : w39.cell? ⟨gb550, 1, none⟩ = some (.int .i64 x551001_3) := (blk_cell BK550.out 1).trans rfl; have hcz40_2 : w39.cell? ⟨gb550, 2, none⟩ = some (.string x551002_3) := (blk_cell BK550.out 2).trans rfl; have hfz40_0 := blk_frozen BK550.out 0; have hfz40_1 := blk_frozen BK550.out 1; have hfz40_2 := blk_frozen BK550.out 2))
            refine bodyPost_ret (results_ct rfl _ _ gb550 26 #[.int .u8 t559, .int .i64 t560, .string t561] (0, 0) _ rfl (by (with_reducible repeat (first | refine blk_drewN ?_ _ | refine blk_drew ?_ | refine blk_alloc ?_ _)); refine blk_put (cs := #[.int .u8 t559, .int .i64 t560, .string x551002_3]) ?_ 2 _ rfl; (with_reducible repeat (first | refine blk_drewN ?_ _ | refine blk_drew ?_ | refine blk_alloc ?_ _)); refine blk_put (cs := #[.int .u8 t559, .int .i64 x551001_3, .string x551002_3]) ?_ 1 _ rfl; (with_reducible repeat (first | refine blk_drewN ?_ _ | refine blk_drew ?_ | refine blk_alloc ?_ _)); refine blk_put (cs := #[.int .u8 x551000_3, .int .i64 x551001_3, .string x551002_3]) ?_ 0 _ rfl; (with_reducible repeat (first | refine blk_drewN ?_ _ | refine blk_drew ?_ | refine blk_alloc ?_ _)); exact BK550.out) Try.underlying26 rfl (by kernel_rfl)) rfl ?_
            exact ⟨by first | rfl | (simp [errW_none, errW_some] <;> rfl) | (simp [*, errW_none, errW_some] <;> rfl), by repeat (first | (with_reducible first | exact HB.out | apply below_alloc | apply pw_below_drewN | apply below_drew1 | refine below_set ?_ GE549.out | refine below_set ?_ GE550.out) | exact HB.out)⟩
          · rw [if_neg c35] at H
            have c35b0 : (a0.toList == ([108, 101, 110] : List UInt8)) = false := beq_eq_false_iff_ne.mpr c35
            have c35b1 : (a0.toList != ([108, 101, 110] : List UInt8)) = true := bne_iff_ne.mpr c35
            by_cases c41 : a0.toList = ([105, 56] : List UInt8)
            · rw [if_pos c41] at H
              have c41b0 : (a0.toList == ([105, 56] : List UInt8)) = true := beq_iff_eq.mpr c41
              have c41b1 : (a0.toList != ([105, 56] : List UInt8)) = false := bne_eq_false_iff_eq.mpr c41
              clear c41
              replace H := Option.bind_eq_some_iff.mp H
              obtain ⟨⟨t562, t563, t564⟩, A420, H⟩ := H
              replace H : (some (t562, t563, t564, 0)) = some (r1, r2, r3, r4) := H
              have A42 := Aside0.mk A420
              clear A420
              simp only [Option.some.injEq, Prod.mk.injEq] at H
              obtain ⟨rfl, rfl, rfl, rfl⟩ := H
              have hnb43 := NB549_550.out
              have hnc43 := NB550_549.out
              have hcz44_0 : wc.cell? ⟨gb549, 0, none⟩ = some (.int .u8 a1_0) := (blk_cell BK549.out 0).trans rfl
              have hcz44_1 : wc.cell? ⟨gb549, 1, none⟩ = some (.int .i64 a1_1) := (blk_cell BK549.out 1).trans rfl
              have hcz44_2 : wc.cell? ⟨gb549, 2, none⟩ = some (.string a1_2) := (blk_cell BK549.out 2).trans rfl
              have hfz44_0 := blk_frozen BK549.out 0
              have hfz44_1 := blk_frozen BK549.out 1
              have hfz44_2 := blk_frozen BK549.out 2
              go_wp2_with (first | ((with_reducible refine gate_callee (f := 33) rfl ?_); refine goesL_ (some 57) rfl rfl Try.func33 (by kernel_rfl) rfl #[.int .i64 (wrap64 (IntKind.i8.wrap (a1_1)))] rfl (by (try simp only [List.map_toArray, List.map_cons, List.map_nil]); first | done | rfl | (simp only [List.length_drop, List.length_take]; rfl)) ?_; (with_reducible refine (value_Of.calls (wrap64 (IntKind.i8.wrap (a1_1))) t562 t563 t564 _ A42.out).mono ?_); rintro e w45 ⟨rfl, hb⟩; refine ⟨_, rfl, ?_⟩; have n0_ := Aside0.mk (blk_below (g := gb549) (o := .cells #[.int .u8 a1_0, .int .i64 a1_1, .string a1_2] 26 (0, 0)) (by (with_reducible repeat (first | refine blk_drewN ?_ _ | refine blk_drew ?_ | refine blk_alloc ?_ _)); exact BK549.out) hb); have n1_ := Aside0.mk (blk_below (g := gb550) (o := .cells #[.int .u8 x551000_3, .int .i64 x551001_3, .string x551002_3] 26 (0, 0)) (by (with_reducible repeat (first | refine blk_drewN ?_ _ | refine blk_drew ?_ | refine blk_alloc ?_ _)); exact BK550.out) hb); have n2_ := Aside0.mk (below_step (by repeat (first | (with_reducible first | exact HB.out | apply below_alloc | apply pw_below_drewN | apply below_drew1 | refine below_set ?_ GE549.out | refine below_set ?_ GE550.out) | exact HB.out)) hb); clear BK549; clear BK550; clear HB; have BK549 := n0_; have BK550 := n1_; have HB := n2_; clear n0_ n1_ n2_; (try clear hb); (try clear hb2); (try clear hk); (try clear hi); have hcz46_0 : w45.cell? ⟨gb550, 0, none⟩ = some (.int .u8 x551000_3) := (blk_cell BK550.out 0).trans rfl; have hcz46_1 : w45.cell? ⟨gb550, 1, none⟩ = some (.int .i64 x551001_3) := (blk_cell BK550.out 1).trans rfl; have hcz46_2 : w45.cell? ⟨gb550, 2, none⟩ = some (.string x551002_3) := (blk_cell BK550.out 2).trans rfl; have hfz46_0 := blk_frozen BK550.out 0; have hfz46_1 := blk_frozen BK550.out 1; have hfz46_2 := blk_frozen BK550.out 2))
              refine bodyPost_ret (results_ct rfl _ _ gb550 26 #[.int .u8 t562, .int .i64 t563, .string t564] (0, 0) _ rfl (by (with_reducible repeat (first | refine blk_drewN ?_ _ | refine blk_drew ?_ | refine blk_alloc ?_ _)); refine blk_put (cs := #[.int .u8 t562, .int .i64 t563, .string x551002_3]) ?_ 2 _ rfl; (with_reducible repeat (first | refine blk_drewN ?_ _ | refine blk_drew ?_ | refine blk_alloc ?_ _)); refine blk_put (cs := #[.int .u8 t562, .int .i64 x551001_3, .string x551002_3]) ?_ 1 _ rfl; (with_reducible repeat (first | refine blk_drewN ?_ _ | refine blk_drew ?_ | refine blk_alloc ?_ _)); refine blk_put (cs := #[.int .u8 x551000_3, .int .i64 x551001_3, .string x551002_3]) ?_ 0 _ rfl; (with_reducible repeat (first | refine blk_drewN ?_ _ | refine blk_drew ?_ | refine blk_alloc ?_ _)); exact BK550.out) Try.underlying26 rfl (by kernel_rfl)) rfl ?_
              exact ⟨by first | rfl | (simp [errW_none, errW_some] <;> rfl) | (simp [*, errW_none, errW_some] <;> rfl), by repeat (first | (with_reducible first | exact HB.out | apply below_alloc | apply pw_below_drewN | apply below_drew1 | refine below_set ?_ GE549.out | refine below_set ?_ GE550.out) | exact HB.out)⟩
            · rw [if_neg c41] at H
              have c41b0 : (a0.toList == ([105, 56] : List UInt8)) = false := beq_eq_false_iff_ne.mpr c41
              have c41b1 : (a0.toList != ([105, 56] : List UInt8)) = true := bne_iff_ne.mpr c41
              by_cases c47 : a0.toList = ([105, 49, 54] : List UInt8)
              · rw [if_pos c47] at H
                have c47b0 : (a0.toList == ([105, 49, 54] : List UInt8)) = true := beq_iff_eq.mpr c47
                have c47b1 : (a0.toList != ([105, 49, 54] : List UInt8)) = false := bne_eq_false_iff_eq.mpr c47
                clear c47
                replace H := Option.bind_eq_some_iff.mp H
                obtain ⟨⟨t565, t566, t567⟩, A480, H⟩ := H
                replace H : (some (t565, t566, t567, 0)) = some (r1, r2, r3, r4) := H
                have A48 := Aside0.mk A480
                clear A480
                simp only [Option.some.injEq, Prod.mk.injEq] at H
                obtain ⟨rfl, rfl, rfl, rfl⟩ := H
                have hnb49 := NB549_550.out
                have hnc49 := NB550_549.out
                have hcz50_0 : wc.cell? ⟨gb549, 0, none⟩ = some (.int .u8 a1_0) := (blk_cell BK549.out 0).trans rfl
                have hcz50_1 : wc.cell? ⟨gb549, 1, none⟩ = some (.int .i64 a1_1) := (blk_cell BK549.out 1).trans rfl
                have hcz50_2 : wc.cell? ⟨gb549, 2, none⟩ = some (.string a1_2) := (blk_cell BK549.out 2).trans rfl
                have hfz50_0 := blk_frozen BK549.out 0
                have hfz50_1 := blk_frozen BK549.out 1
                have hfz50_2 := blk_frozen BK549.out 2
                go_wp2_with (first | ((with_reducible refine gate_callee (f := 33) rfl ?_); refine goesL_ (some 64) rfl rfl Try.func33 (by kernel_rfl) rfl #[.int .i64 (wrap64 (IntKind.i16.wrap (a1_1)))] rfl (by (try simp only [List.map_toArray, List.map_cons, List.map_nil]); first | done | rfl | (simp only [List.length_drop, List.length_take]; rfl)) ?_; (with_reducible refine (value_Of.calls (wrap64 (IntKind.i16.wrap (a1_1))) t565 t566 t567 _ A48.out).mono ?_); rintro e w51 ⟨rfl, hb⟩; refine ⟨_, rfl, ?_⟩; have n0_ := Aside0.mk (blk_below (g := gb549) (o := .cells #[.int .u8 a1_0, .int .i64 a1_1, .string a1_2] 26 (0, 0)) (by (with_reducible repeat (first | refine blk_drewN ?_ _ | refine blk_drew ?_ | refine blk_alloc ?_ _)); exact BK549.out) hb); have n1_ := Aside0.mk (blk_below (g := gb550) (o := .cells #[.int .u8 x551000_3, .int .i64 x551001_3, .string x551002_3] 26 (0, 0)) (by (with_reducible repeat (first | refine blk_drewN ?_ _ | refine blk_drew ?_ | refine blk_alloc ?_ _)); exact BK550.out) hb); have n2_ := Aside0.mk (below_step (by repeat (first | (with_reducible first | exact HB.out | apply below_alloc | apply pw_below_drewN | apply below_drew1 | refine below_set ?_ GE549.out | refine below_set ?_ GE550.out) | exact HB.out)) hb); clear BK549; clear BK550; clear HB; have BK549 := n0_; have BK550 := n1_; have HB := n2_; clear n0_ n1_ n2_; (try clear hb); (try clear hb2); (try clear hk); (try clear hi); have hcz52_0 : w51.cell? ⟨gb550, 0, none⟩ = some (.int .u8 x551000_3) := (blk_cell BK550.out 0).trans rfl; have hcz52_1 : w51.cell? ⟨gb550, 1, none⟩ = some (.int .i64 x551001_3) := (blk_cell BK550.out 1).trans rfl; have hcz52_2 : w51.cell? ⟨gb550, 2, none⟩ = some (.string x551002_3) := (blk_cell BK550.out 2).trans rfl; have hfz52_0 := blk_frozen BK550.out 0; have hfz52_1 := blk_frozen BK550.out 1; have hfz52_2 := blk_frozen BK550.out 2))
                refine bodyPost_ret (results_ct rfl _ _ gb550 26 #[.int .u8 t565, .int .i64 t566, .string t567] (0, 0) _ rfl (by (with_reducible repeat (first | refine blk_drewN ?_ _ | refine blk_drew ?_ | refine blk_alloc ?_ _)); refine blk_put (cs := #[.int .u8 t565, .int .i64 t566, .string x551002_3]) ?_ 2 _ rfl; (with_reducible repeat (first | refine blk_drewN ?_ _ | refine blk_drew ?_ | refine blk_alloc ?_ _)); refine blk_put (cs := #[.int .u8 t565, .int .i64 x551001_3, .string x551002_3]) ?_ 1 _ rfl; (with_reducible repeat (first | refine blk_drewN ?_ _ | refine blk_drew ?_ | refine blk_alloc ?_ _)); refine blk_put (cs := #[.int .u8 x551000_3, .int .i64 x551001_3, .string x551002_3]) ?_ 0 _ rfl; (with_reducible repeat (first | refine blk_drewN ?_ _ | refine blk_drew ?_ | refine blk_alloc ?_ _)); exact BK550.out) Try.underlying26 rfl (by kernel_rfl)) rfl ?_
                exact ⟨by first | rfl | (simp [errW_none, errW_some] <;> rfl) | (simp [*, errW_none, errW_some] <;> rfl), by repeat (first | (with_reducible first | exact HB.out | apply below_alloc | apply pw_below_drewN | apply below_drew1 | refine below_set ?_ GE549.out | refine below_set ?_ GE550.out) | exact HB.out)⟩
              · rw [if_neg c47] at H
                have c47b0 : (a0.toList == ([105, 49, 54] : List UInt8)) = false := beq_eq_false_iff_ne.mpr c47
                have c47b1 : (a0.toList != ([105, 49, 54] : List UInt8)) = true := bne_iff_ne.mpr c47
                by_cases c53 : a0.toList = ([105, 51, 50] : List UInt8)
                · rw [if_pos c53] at H
                  have c53b0 : (a0.toList == ([105, 51, 50] : List UInt8)) = true := beq_iff_eq.mpr c53
                  have c53b1 : (a0.toList != ([105, 51, 50] : List UInt8)) = false := bne_eq_false_iff_eq.mpr c53
                  clear c53
                  replace H := Option.bind_eq_some_iff.mp H
                  obtain ⟨⟨t568, t569, t570⟩, A540, H⟩ := H
                  replace H : (some (t568, t569, t570, 0)) = some (r1, r2, r3, r4) := H
                  have A54 := Aside0.mk A540
                  clear A540
                  simp only [Option.some.injEq, Prod.mk.injEq] at H
                  obtain ⟨rfl, rfl, rfl, rfl⟩ := H
                  have hnb55 := NB549_550.out
                  have hnc55 := NB550_549.out
                  have hcz56_0 : wc.cell? ⟨gb549, 0, none⟩ = some (.int .u8 a1_0) := (blk_cell BK549.out 0).trans rfl
                  have hcz56_1 : wc.cell? ⟨gb549, 1, none⟩ = some (.int .i64 a1_1) := (blk_cell BK549.out 1).trans rfl
                  have hcz56_2 : wc.cell? ⟨gb549, 2, none⟩ = some (.string a1_2) := (blk_cell BK549.out 2).trans rfl
                  have hfz56_0 := blk_frozen BK549.out 0
                  have hfz56_1 := blk_frozen BK549.out 1
                  have hfz56_2 := blk_frozen BK549.out 2
                  go_wp2_with (first | ((with_reducible refine gate_callee (f := 33) rfl ?_); refine goesL_ (some 71) rfl rfl Try.func33 (by kernel_rfl) rfl #[.int .i64 (wrap64 (wrap32 (a1_1)))] rfl (by (try simp only [List.map_toArray, List.map_cons, List.map_nil]); first | done | rfl | (simp only [List.length_drop, List.length_take]; rfl)) ?_; (with_reducible refine (value_Of.calls (wrap64 (wrap32 (a1_1))) t568 t569 t570 _ A54.out).mono ?_); rintro e w57 ⟨rfl, hb⟩; refine ⟨_, rfl, ?_⟩; have n0_ := Aside0.mk (blk_below (g := gb549) (o := .cells #[.int .u8 a1_0, .int .i64 a1_1, .string a1_2] 26 (0, 0)) (by (with_reducible repeat (first | refine blk_drewN ?_ _ | refine blk_drew ?_ | refine blk_alloc ?_ _)); exact BK549.out) hb); have n1_ := Aside0.mk (blk_below (g := gb550) (o := .cells #[.int .u8 x551000_3, .int .i64 x551001_3, .string x551002_3] 26 (0, 0)) (by (with_reducible repeat (first | refine blk_drewN ?_ _ | refine blk_drew ?_ | refine blk_alloc ?_ _)); exact BK550.out) hb); have n2_ := Aside0.mk (below_step (by repeat (first | (with_reducible first | exact HB.out | apply below_alloc | apply pw_below_drewN | apply below_drew1 | refine below_set ?_ GE549.out | refine below_set ?_ GE550.out) | exact HB.out)) hb); clear BK549; clear BK550; clear HB; have BK549 := n0_; have BK550 := n1_; have HB := n2_; clear n0_ n1_ n2_; (try clear hb); (try clear hb2); (try clear hk); (try clear hi); have hcz58_0 : w57.cell? ⟨gb550, 0, none⟩ = some (.int .u8 x551000_3) := (blk_cell BK550.out 0).trans rfl; have hcz58_1 : w57.cell? ⟨gb550, 1, none⟩ = some (.int .i64 x551001_3) := (blk_cell BK550.out 1).trans rfl; have hcz58_2 : w57.cell? ⟨gb550, 2, none⟩ = some (.string x551002_3) := (blk_cell BK550.out 2).trans rfl; have hfz58_0 := blk_frozen BK550.out 0; have hfz58_1 := blk_frozen BK550.out 1; have hfz58_2 := blk_frozen BK550.out 2))
                  refine bodyPost_ret (results_ct rfl _ _ gb550 26 #[.int .u8 t568, .int .i64 t569, .string t570] (0, 0) _ rfl (by (with_reducible repeat (first | refine blk_drewN ?_ _ | refine blk_drew ?_ | refine blk_alloc ?_ _)); refine blk_put (cs := #[.int .u8 t568, .int .i64 t569, .string x551002_3]) ?_ 2 _ rfl; (with_reducible repeat (first | refine blk_drewN ?_ _ | refine blk_drew ?_ | refine blk_alloc ?_ _)); refine blk_put (cs := #[.int .u8 t568, .int .i64 x551001_3, .string x551002_3]) ?_ 1 _ rfl; (with_reducible repeat (first | refine blk_drewN ?_ _ | refine blk_drew ?_ | refine blk_alloc ?_ _)); refine blk_put (cs := #[.int .u8 x551000_3, .int .i64 x551001_3, .string x551002_3]) ?_ 0 _ rfl; (with_reducible repeat (first | refine blk_drewN ?_ _ | refine blk_drew ?_ | refine blk_alloc ?_ _)); exact BK550.out) Try.underlying26 rfl (by kernel_rfl)) rfl ?_
                  exact ⟨by first | rfl | (simp [errW_none, errW_some] <;> rfl) | (simp [*, errW_none, errW_some] <;> rfl), by repeat (first | (with_reducible first | exact HB.out | apply below_alloc | apply pw_below_drewN | apply below_drew1 | refine below_set ?_ GE549.out | refine below_set ?_ GE550.out) | exact HB.out)⟩
                · rw [if_neg c53] at H
                  have c53b0 : (a0.toList == ([105, 51, 50] : List UInt8)) = false := beq_eq_false_iff_ne.mpr c53
                  have c53b1 : (a0.toList != ([105, 51, 50] : List UInt8)) = true := bne_iff_ne.mpr c53
                  by_cases c59 : a0.toList = ([117, 56] : List UInt8)
                  · rw [if_pos c59] at H
                    have c59b0 : (a0.toList == ([117, 56] : List UInt8)) = true := beq_iff_eq.mpr c59
                    have c59b1 : (a0.toList != ([117, 56] : List UInt8)) = false := bne_eq_false_iff_eq.mpr c59
                    clear c59
                    replace H := Option.bind_eq_some_iff.mp H
                    obtain ⟨⟨t571, t572, t573⟩, A600, H⟩ := H
                    replace H : (some (t571, t572, t573, 0)) = some (r1, r2, r3, r4) := H
                    have A60 := Aside0.mk A600
                    clear A600
                    simp only [Option.some.injEq, Prod.mk.injEq] at H
                    obtain ⟨rfl, rfl, rfl, rfl⟩ := H
                    have hnb61 := NB549_550.out
                    have hnc61 := NB550_549.out
                    have hcz62_0 : wc.cell? ⟨gb549, 0, none⟩ = some (.int .u8 a1_0) := (blk_cell BK549.out 0).trans rfl
                    have hcz62_1 : wc.cell? ⟨gb549, 1, none⟩ = some (.int .i64 a1_1) := (blk_cell BK549.out 1).trans rfl
                    have hcz62_2 : wc.cell? ⟨gb549, 2, none⟩ = some (.string a1_2) := (blk_cell BK549.out 2).trans rfl
                    have hfz62_0 := blk_frozen BK549.out 0
                    have hfz62_1 := blk_frozen BK549.out 1
                    have hfz62_2 := blk_frozen BK549.out 2
                    go_wp2_with (first | ((with_reducible refine gate_callee (f := 33) rfl ?_); refine goesL_ (some 78) rfl rfl Try.func33 (by kernel_rfl) rfl #[.int .i64 ((a1_1) % 256)] rfl (by (try simp only [List.map_toArray, List.map_cons, List.map_nil]); first | done | rfl | (simp only [List.length_drop, List.length_take]; rfl)) ?_; (with_reducible refine (value_Of.calls ((a1_1) % 256) t571 t572 t573 _ A60.out).mono ?_); rintro e w63 ⟨rfl, hb⟩; refine ⟨_, rfl, ?_⟩; have n0_ := Aside0.mk (blk_below (g := gb549) (o := .cells #[.int .u8 a1_0, .int .i64 a1_1, .string a1_2] 26 (0, 0)) (by (with_reducible repeat (first | refine blk_drewN ?_ _ | refine blk_drew ?_ | refine blk_alloc ?_ _)); exact BK549.out) hb); have n1_ := Aside0.mk (blk_below (g := gb550) (o := .cells #[.int .u8 x551000_3, .int .i64 x551001_3, .string x551002_3] 26 (0, 0)) (by (with_reducible repeat (first | refine blk_drewN ?_ _ | refine blk_drew ?_ | refine blk_alloc ?_ _)); exact BK550.out) hb); have n2_ := Aside0.mk (below_step (by repeat (first | (with_reducible first | exact HB.out | apply below_alloc | apply pw_below_drewN | apply below_drew1 | refine below_set ?_ GE549.out | refine below_set ?_ GE550.out) | exact HB.out)) hb); clear BK549; clear BK550; clear HB; have BK549 := n0_; have BK550 := n1_; have HB := n2_; clear n0_ n1_ n2_; (try clear hb); (try clear hb2); (try clear hk); (try clear hi); have hcz64_0 : w63.cell? ⟨gb550, 0, none⟩ = some (.int .u8 x551000_3) := (blk_cell BK550.out 0).trans rfl; have hcz64_1 : w63.cell? ⟨gb550, 1, none⟩ = some (.int .i64 x551001_3) := (blk_cell BK550.out 1).trans rfl; have hcz64_2 : w63.cell? ⟨gb550, 2, none⟩ = some (.string x551002_3) := (blk_cell BK550.out 2).trans rfl; have hfz64_0 := blk_frozen BK550.out 0; have hfz64_1 := blk_frozen BK550.out 1; have hfz64_2 := blk_frozen BK550.out 2))
                    refine bodyPost_ret (results_ct rfl _ _ gb550 26 #[.int .u8 t571, .int .i64 t572, .string t573] (0, 0) _ rfl (by (with_reducible repeat (first | refine blk_drewN ?_ _ | refine blk_drew ?_ | refine blk_alloc ?_ _)); refine blk_put (cs := #[.int .u8 t571, .int .i64 t572, .string x551002_3]) ?_ 2 _ rfl; (with_reducible repeat (first | refine blk_drewN ?_ _ | refine blk_drew ?_ | refine blk_alloc ?_ _)); refine blk_put (cs := #[.int .u8 t571, .int .i64 x551001_3, .string x551002_3]) ?_ 1 _ rfl; (with_reducible repeat (first | refine blk_drewN ?_ _ | refine blk_drew ?_ | refine blk_alloc ?_ _)); refine blk_put (cs := #[.int .u8 x551000_3, .int .i64 x551001_3, .string x551002_3]) ?_ 0 _ rfl; (with_reducible repeat (first | refine blk_drewN ?_ _ | refine blk_drew ?_ | refine blk_alloc ?_ _)); exact BK550.out) Try.underlying26 rfl (by kernel_rfl)) rfl ?_
                    exact ⟨by first | rfl | (simp [errW_none, errW_some] <;> rfl) | (simp [*, errW_none, errW_some] <;> rfl), by repeat (first | (with_reducible first | exact HB.out | apply below_alloc | apply pw_below_drewN | apply below_drew1 | refine below_set ?_ GE549.out | refine below_set ?_ GE550.out) | exact HB.out)⟩
                  · rw [if_neg c59] at H
                    have c59b0 : (a0.toList == ([117, 56] : List UInt8)) = false := beq_eq_false_iff_ne.mpr c59
                    have c59b1 : (a0.toList != ([117, 56] : List UInt8)) = true := bne_iff_ne.mpr c59
                    by_cases c65 : a0.toList = ([117, 49, 54] : List UInt8)
                    · rw [if_pos c65] at H
                      have c65b0 : (a0.toList == ([117, 49, 54] : List UInt8)) = true := beq_iff_eq.mpr c65
                      have c65b1 : (a0.toList != ([117, 49, 54] : List UInt8)) = false := bne_eq_false_iff_eq.mpr c65
                      clear c65
                      replace H := Option.bind_eq_some_iff.mp H
                      obtain ⟨⟨t574, t575, t576⟩, A660, H⟩ := H
                      replace H : (some (t574, t575, t576, 0)) = some (r1, r2, r3, r4) := H
                      have A66 := Aside0.mk A660
                      clear A660
                      simp only [Option.some.injEq, Prod.mk.injEq] at H
                      obtain ⟨rfl, rfl, rfl, rfl⟩ := H
                      have hnb67 := NB549_550.out
                      have hnc67 := NB550_549.out
                      have hcz68_0 : wc.cell? ⟨gb549, 0, none⟩ = some (.int .u8 a1_0) := (blk_cell BK549.out 0).trans rfl
                      have hcz68_1 : wc.cell? ⟨gb549, 1, none⟩ = some (.int .i64 a1_1) := (blk_cell BK549.out 1).trans rfl
                      have hcz68_2 : wc.cell? ⟨gb549, 2, none⟩ = some (.string a1_2) := (blk_cell BK549.out 2).trans rfl
                      have hfz68_0 := blk_frozen BK549.out 0
                      have hfz68_1 := blk_frozen BK549.out 1
                      have hfz68_2 := blk_frozen BK549.out 2
                      go_wp2_with (first | ((with_reducible refine gate_callee (f := 33) rfl ?_); refine goesL_ (some 85) rfl rfl Try.func33 (by kernel_rfl) rfl #[.int .i64 (wrap64 (IntKind.u16.wrap (a1_1)))] rfl (by (try simp only [List.map_toArray, List.map_cons, List.map_nil]); first | done | rfl | (simp only [List.length_drop, List.length_take]; rfl)) ?_; (with_reducible refine (value_Of.calls (wrap64 (IntKind.u16.wrap (a1_1))) t574 t575 t576 _ A66.out).mono ?_); rintro e w69 ⟨rfl, hb⟩; refine ⟨_, rfl, ?_⟩; have n0_ := Aside0.mk (blk_below (g := gb549) (o := .cells #[.int .u8 a1_0, .int .i64 a1_1, .string a1_2] 26 (0, 0)) (by (with_reducible repeat (first | refine blk_drewN ?_ _ | refine blk_drew ?_ | refine blk_alloc ?_ _)); exact BK549.out) hb); have n1_ := Aside0.mk (blk_below (g := gb550) (o := .cells #[.int .u8 x551000_3, .int .i64 x551001_3, .string x551002_3] 26 (0, 0)) (by (with_reducible repeat (first | refine blk_drewN ?_ _ | refine blk_drew ?_ | refine blk_alloc ?_ _)); exact BK550.out) hb); have n2_ := Aside0.mk (below_step (by repeat (first | (with_reducible first | exact HB.out | apply below_alloc | apply pw_below_drewN | apply below_drew1 | refine below_set ?_ GE549.out | refine below_set ?_ GE550.out) | exact HB.out)) hb); clear BK549; clear BK550; clear HB; have BK549 := n0_; have BK550 := n1_; have HB := n2_; clear n0_ n1_ n2_; (try clear hb); (try clear hb2); (try clear hk); (try clear hi); have hcz70_0 : w69.cell? ⟨gb550, 0, none⟩ = some (.int .u8 x551000_3) := (blk_cell BK550.out 0).trans rfl; have hcz70_1 : w69.cell? ⟨gb550, 1, none⟩ = some (.int .i64 x551001_3) := (blk_cell BK550.out 1).trans rfl; have hcz70_2 : w69.cell? ⟨gb550, 2, none⟩ = some (.string x551002_3) := (blk_cell BK550.out 2).trans rfl; have hfz70_0 := blk_frozen BK550.out 0; have hfz70_1 := blk_frozen BK550.out 1; have hfz70_2 := blk_frozen BK550.out 2))
                      refine bodyPost_ret (results_ct rfl _ _ gb550 26 #[.int .u8 t574, .int .i64 t575, .string t576] (0, 0) _ rfl (by (with_reducible repeat (first | refine blk_drewN ?_ _ | refine blk_drew ?_ | refine blk_alloc ?_ _)); refine blk_put (cs := #[.int .u8 t574, .int .i64 t575, .string x551002_3]) ?_ 2 _ rfl; (with_reducible repeat (first | refine blk_drewN ?_ _ | refine blk_drew ?_ | refine blk_alloc ?_ _)); refine blk_put (cs := #[.int .u8 t574, .int .i64 x551001_3, .string x551002_3]) ?_ 1 _ rfl; (with_reducible repeat (first | refine blk_drewN ?_ _ | refine blk_drew ?_ | refine blk_alloc ?_ _)); refine blk_put (cs := #[.int .u8 x551000_3, .int .i64 x551001_3, .string x551002_3]) ?_ 0 _ rfl; (with_reducible repeat (first | refine blk_drewN ?_ _ | refine blk_drew ?_ | refine blk_alloc ?_ _)); exact BK550.out) Try.underlying26 rfl (by kernel_rfl)) rfl ?_
                      exact ⟨by first | rfl | (simp [errW_none, errW_some] <;> rfl) | (simp [*, errW_none, errW_some] <;> rfl), by repeat (first | (with_reducible first | exact HB.out | apply below_alloc | apply pw_below_drewN | apply below_drew1 | refine below_set ?_ GE549.out | refine below_set ?_ GE550.out) | exact HB.out)⟩
                    · rw [if_neg c65] at H
                      have c65b0 : (a0.toList == ([117, 49, 54] : List UInt8)) = false := beq_eq_false_iff_ne.mpr c65
                      have c65b1 : (a0.toList != ([117, 49, 54] : List UInt8)) = true := bne_iff_ne.mpr c65
                      replace H := Option.bind_eq_some_iff.mp H
                      obtain ⟨⟨t577, t578, t579⟩, A710, H⟩ := H
                      replace H : (some (t577, t578, t579, 0)) = some (r1, r2, r3, r4) := H
                      have A71 := Aside0.mk A710
                      clear A710
                      simp only [Option.some.injEq, Prod.mk.injEq] at H
                      obtain ⟨rfl, rfl, rfl, rfl⟩ := H
                      have hnb72 := NB549_550.out
                      have hnc72 := NB550_549.out
                      have hcz73_0 : wc.cell? ⟨gb549, 0, none⟩ = some (.int .u8 a1_0) := (blk_cell BK549.out 0).trans rfl
                      have hcz73_1 : wc.cell? ⟨gb549, 1, none⟩ = some (.int .i64 a1_1) := (blk_cell BK549.out 1).trans rfl
                      have hcz73_2 : wc.cell? ⟨gb549, 2, none⟩ = some (.string a1_2) := (blk_cell BK549.out 2).trans rfl
                      have hfz73_0 := blk_frozen BK549.out 0
                      have hfz73_1 := blk_frozen BK549.out 1
                      have hfz73_2 := blk_frozen BK549.out 2
                      go_wp2_with (first | ((with_reducible refine gate_callee (f := 33) rfl ?_); refine goesL_ (some 90) rfl rfl Try.func33 (by kernel_rfl) rfl #[.int .i64 ((a1_1) % 4294967296)] rfl (by (try simp only [List.map_toArray, List.map_cons, List.map_nil]); first | done | rfl | (simp only [List.length_drop, List.length_take]; rfl)) ?_; (with_reducible refine (value_Of.calls ((a1_1) % 4294967296) t577 t578 t579 _ A71.out).mono ?_); rintro e w74 ⟨rfl, hb⟩; refine ⟨_, rfl, ?_⟩; have n0_ := Aside0.mk (blk_below (g := gb549) (o := .cells #[.int .u8 a1_0, .int .i64 a1_1, .string a1_2] 26 (0, 0)) (by (with_reducible repeat (first | refine blk_drewN ?_ _ | refine blk_drew ?_ | refine blk_alloc ?_ _)); exact BK549.out) hb); have n1_ := Aside0.mk (blk_below (g := gb550) (o := .cells #[.int .u8 x551000_3, .int .i64 x551001_3, .string x551002_3] 26 (0, 0)) (by (with_reducible repeat (first | refine blk_drewN ?_ _ | refine blk_drew ?_ | refine blk_alloc ?_ _)); exact BK550.out) hb); have n2_ := Aside0.mk (below_step (by repeat (first | (with_reducible first | exact HB.out | apply below_alloc | apply pw_below_drewN | apply below_drew1 | refine below_set ?_ GE549.out | refine below_set ?_ GE550.out) | exact HB.out)) hb); clear BK549; clear BK550; clear HB; have BK549 := n0_; have BK550 := n1_; have HB := n2_; clear n0_ n1_ n2_; (try clear hb); (try clear hb2); (try clear hk); (try clear hi); have hcz75_0 : w74.cell? ⟨gb550, 0, none⟩ = some (.int .u8 x551000_3) := (blk_cell BK550.out 0).trans rfl; have hcz75_1 : w74.cell? ⟨gb550, 1, none⟩ = some (.int .i64 x551001_3) := (blk_cell BK550.out 1).trans rfl; have hcz75_2 : w74.cell? ⟨gb550, 2, none⟩ = some (.string x551002_3) := (blk_cell BK550.out 2).trans rfl; have hfz75_0 := blk_frozen BK550.out 0; have hfz75_1 := blk_frozen BK550.out 1; have hfz75_2 := blk_frozen BK550.out 2))
                      refine bodyPost_ret (results_ct rfl _ _ gb550 26 #[.int .u8 t577, .int .i64 t578, .string t579] (0, 0) _ rfl (by (with_reducible repeat (first | refine blk_drewN ?_ _ | refine blk_drew ?_ | refine blk_alloc ?_ _)); refine blk_put (cs := #[.int .u8 t577, .int .i64 t578, .string x551002_3]) ?_ 2 _ rfl; (with_reducible repeat (first | refine blk_drewN ?_ _ | refine blk_drew ?_ | refine blk_alloc ?_ _)); refine blk_put (cs := #[.int .u8 t577, .int .i64 x551001_3, .string x551002_3]) ?_ 1 _ rfl; (with_reducible repeat (first | refine blk_drewN ?_ _ | refine blk_drew ?_ | refine blk_alloc ?_ _)); refine blk_put (cs := #[.int .u8 x551000_3, .int .i64 x551001_3, .string x551002_3]) ?_ 0 _ rfl; (with_reducible repeat (first | refine blk_drewN ?_ _ | refine blk_drew ?_ | refine blk_alloc ?_ _)); exact BK550.out) Try.underlying26 rfl (by kernel_rfl)) rfl ?_
                      exact ⟨by first | rfl | (simp [errW_none, errW_some] <;> rfl) | (simp [*, errW_none, errW_some] <;> rfl), by repeat (first | (with_reducible first | exact HB.out | apply below_alloc | apply pw_below_drewN | apply below_drew1 | refine below_set ?_ GE549.out | refine below_set ?_ GE550.out) | exact HB.out)⟩

end Go.Proofs.Ytahcnpjgbhpbeaa.PV
