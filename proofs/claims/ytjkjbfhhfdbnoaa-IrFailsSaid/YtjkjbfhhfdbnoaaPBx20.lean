-- Own text: made by this session's variant of the printer (wip/mkpp.py); Lean checks it.
import Derived.Test.YtjkjbfhhfdbnoaaPBx0
import Derived.Test.YtjkjbfhhfdbnoaaPBx19
namespace Go.Proofs.Ytjkjbfhhfdbnoaa.PB
open Go.RowKit Go.Proofs.YtjkjbfhhfdbnoaaW.PrintWords Go.Proofs.YtjkjbfhhfdbnoaaW.PrintLast Go.Proofs.YtjkjbfhhfdbnoaaW.PrintMore Go.Proofs.YtjkjbfhhfdbnoaaW.Own
attribute [local go_sem high] own_gtr own_leq own_geq
attribute [local go_sem] max2_int min2_int max_two min_two max_three min_three max_four min_four   -- for this text's walks alone
set_option linter.unusedVariables false
set_option linter.unusedSimpArgs false

/-! ### value_One: function 77 -/
def value_One.j0 : Nat → ByteArray → Int → Int → ByteArray → Option (Int × Int × ByteArray × Int)
  | 0, _, _, _, _ => none
  | k + 1, x0, x532000, x532001, x532002 => if x0.toList = ([110, 101, 103] : List UInt8) then ((value_Of.f (wrap64 (-x532001))).bind fun bt535 => (some (bt535.1, bt535.2.1, bt535.2.2, 0))) else (if x0.toList = ([110, 111, 116] : List UInt8) then ((value_Is.f (x532001 == 0)).bind fun bt538 => (some (bt538.1, bt538.2.1, bt538.2.2, 0))) else (if x0.toList = ([108, 101, 110] : List UInt8) then ((value_Of.f (x532002.size : Int)).bind fun bt541 => (some (bt541.1, bt541.2.1, bt541.2.2, 0))) else (if x0.toList = ([105, 56] : List UInt8) then ((value_Of.f (wrap64 (IntKind.i8.wrap (x532001)))).bind fun bt544 => (some (bt544.1, bt544.2.1, bt544.2.2, 0))) else (if x0.toList = ([105, 49, 54] : List UInt8) then ((value_Of.f (wrap64 (IntKind.i16.wrap (x532001)))).bind fun bt547 => (some (bt547.1, bt547.2.1, bt547.2.2, 0))) else (if x0.toList = ([105, 51, 50] : List UInt8) then ((value_Of.f (wrap64 (wrap32 (x532001)))).bind fun bt550 => (some (bt550.1, bt550.2.1, bt550.2.2, 0))) else (if x0.toList = ([117, 56] : List UInt8) then ((value_Of.f ((x532001) % 256)).bind fun bt553 => (some (bt553.1, bt553.2.1, bt553.2.2, 0))) else (if x0.toList = ([117, 49, 54] : List UInt8) then ((value_Of.f (wrap64 (IntKind.u16.wrap (x532001)))).bind fun bt556 => (some (bt556.1, bt556.2.1, bt556.2.2, 0))) else ((value_Of.f ((x532001) % 4294967296)).bind fun bt559 => (some (bt559.1, bt559.2.1, bt559.2.2, 0))))))))))
def value_One.f (k : Nat) (a0 : ByteArray) (a1_0 : Int) (a1_1 : Int) (a1_2 : ByteArray) : Option (Int × Int × ByteArray × Int) := (value_tag.f k a0).bind fun bt533 => (if bt533.2 = true then (if a1_0 = bt533.1 then (if a0.toList = ([110, 101, 103] : List UInt8) then (if a1_1 = (-9223372036854775808) then (some (0, 0, (⟨#[]⟩ : ByteArray), 3)) else (value_One.j0 k a0 a1_0 a1_1 a1_2)) else (value_One.j0 k a0 a1_0 a1_1 a1_2)) else (some (0, 0, (⟨#[]⟩ : ByteArray), 2))) else (some (0, 0, (⟨#[]⟩ : ByteArray), 1)))
theorem value_One.mono_l : ∀ k, (∀ y0 y1 y2 y3, LeO (value_One.j0 k y0 y1 y2 y3) (value_One.j0 (k + 1) y0 y1 y2 y3))
  | 0 => fun _ _ _ _ r h => by simp [value_One.j0] at h
  | k + 1 => by
    have ih0 := value_One.mono_l k
    · intro y0 y1 y2 y3
      unfold value_One.j0
      repeat' (with_reducible exact LeO.refl _)
theorem value_One.mono : ∀ a0 a1 a2 a3 k, LeO (value_One.f k a0 a1 a2 a3) (value_One.f (k + 1) a0 a1 a2 a3) := by
  intro a0 a1 a2 a3 k
  have ih0 := value_One.mono_l k
  unfold value_One.f
  repeat' first | (with_reducible exact ih0 _ _ _ _) | (with_reducible exact value_tag.mono _ _) | (with_reducible exact LeO.refl _) | (with_reducible refine LeO.ite ?_ ?_) | (with_reducible refine LeO.bind ?_ (fun _ => ?_))
set_option maxHeartbeats 8000000 in
set_option maxRecDepth 100000 in
theorem value_One.calls (k : Nat) (a0 : ByteArray) (a1_0 : Int) (a1_1 : Int) (a1_2 : ByteArray) (r1 : Int) (r2 : Int) (r3 : ByteArray) (r4 : Int) (w : World) (h : value_One.f k a0 a1_0 a1_1 a1_2 = some (r1, r2, r3, r4)) :
    Calls Try.prog 77 #[.string a0, .agg #[.int .u8 a1_0, .int .i64 a1_1, .string a1_2]] w fun e w' => e = .returned (.tuple #[.agg #[.int .u8 r1, .int .i64 r2, .string r3], .int .i64 r4]) ∧ Below w.heap.size w w' := by
  have hu37 := Try.underlying37
  have HB := Aside0.mk (Below.refl w.heap.size w)
  have H : ((value_tag.f k a0).bind fun bt533 => (if bt533.2 = true then (if a1_0 = bt533.1 then (if a0.toList = ([110, 101, 103] : List UInt8) then (if a1_1 = (-9223372036854775808) then (some (0, 0, (⟨#[]⟩ : ByteArray), 3)) else (value_One.j0 k a0 a1_0 a1_1 a1_2)) else (value_One.j0 k a0 a1_0 a1_1 a1_2)) else (some (0, 0, (⟨#[]⟩ : ByteArray), 2))) else (some (0, 0, (⟨#[]⟩ : ByteArray), 1)))) = some (r1, r2, r3, r4) := h
  clear h
  replace H := Option.bind_eq_some_iff.mp H
  obtain ⟨⟨t533, t534⟩, A30, H⟩ := H
  (try dsimp only at H)
  have A3 := Aside0.mk A30
  clear A30
  have HC4 := Aside0.mk H
  clear H
  go_enter Try.func77, Try.ntmps77
  go_upto_block 0 with (first | ((with_reducible refine gate_dst (N := 3) rfl ?_); refine box_event ?hg (N := 3) ?hd (cs := #[.int .u8 a1_0, .int .i64 a1_1, .string a1_2]) (t := 37) ?hr ?_; (case hd => rfl); (case hg => rfl); (case hr => ((go_simp; done))); intro gb531 hg w5 hbox hb; have n0_ := Aside0.mk (below_step (by repeat ((with_reducible exact HB.out))) hb); have n1_ := Aside0.mk (hbox); have n2_ := Aside0.mk ((by rw [hg]; exact (below_size (by repeat ((with_reducible exact HB.out)))) : w.heap.size ≤ gb531)); have n3_ := Aside0.mk ((by rw [hg]; exact (below_size (by repeat ((with_reducible exact HB.out)))) : w.heap.size ≤ gb531)); clear HB; have HB := n0_; have BK531 := n1_; have GW531 := n2_; have GE531 := n3_; clear n0_ n1_ n2_ n3_; clear hb hbox hg) | ((with_reducible refine gate_dst (N := 4) rfl ?_); refine box_event ?hg (N := 4) ?hd (cs := #[.int .u8 0, .int .i64 0, .string (⟨#[]⟩ : ByteArray)]) (t := 37) ?hr ?_; (case hd => rfl); (case hg => rfl); (case hr => ((go_simp; done))); intro gb532 hg w6 hbox hb; have n0_ := Aside0.mk (blk_below (g := gb531) (o := .cells #[.int .u8 a1_0, .int .i64 a1_1, .string a1_2] 37 (0, 0)) (by (with_reducible repeat (fail)); exact BK531.out) hb); have n1_ := Aside0.mk (below_step (by repeat ((with_reducible exact HB.out))) hb); have n2_ := Aside0.mk (hbox); have n3_ := Aside0.mk ((by rw [hg]; exact (below_size (by repeat ((with_reducible exact HB.out)))) : w.heap.size ≤ gb532)); have n4_ := Aside0.mk ((by rw [hg]; exact (below_size (by repeat ((with_reducible exact HB.out)))) : w.heap.size ≤ gb532)); have n5_ := Aside0.mk ((by rw [hg]; exact Nat.ne_of_lt (blk_lt (g := gb531) (o := .cells #[.int .u8 a1_0, .int .i64 a1_1, .string a1_2] 37 (0, 0)) (by (with_reducible repeat (fail)); exact BK531.out)) : gb531 ≠ gb532)); have n6_ := Aside0.mk ((by rw [hg]; exact Nat.ne_of_gt (blk_lt (g := gb531) (o := .cells #[.int .u8 a1_0, .int .i64 a1_1, .string a1_2] 37 (0, 0)) (by (with_reducible repeat (fail)); exact BK531.out)) : gb532 ≠ gb531)); clear BK531; clear HB; have BK531 := n0_; have HB := n1_; have BK532 := n2_; have GW532 := n3_; have GE532 := n4_; have NB531_532 := n5_; have NB532_531 := n6_; clear n0_ n1_ n2_ n3_ n4_ n5_ n6_; clear hb hbox hg) | ((with_reducible refine gate_callee (f := 93) rfl ?_); refine goesL_ (some 10) rfl rfl Try.func93 (by kernel_rfl) rfl #[.string a0] rfl (by (try simp only [List.map_toArray, List.map_cons, List.map_nil]); rfl) ?_; (with_reducible refine (value_tag.calls k a0 t533 t534 _ A3.out).mono ?_); rintro e w' ⟨rfl, ⟨nd, rfl⟩⟩; refine ⟨_, rfl, ?_⟩))
  go_cut [] (fun wc => ∃ (kq : Nat) (x533000_3 : Int) (x533001_3 : Int) (x533002_3 : ByteArray), Aside0 (value_One.j0 kq a0 a1_0 a1_1 a1_2 = some (r1, r2, r3, r4)) ∧ Aside0 (kq ≤ k) ∧ Aside0 (wc.heap[gb531]? = some (.cells #[.int .u8 a1_0, .int .i64 a1_1, .string a1_2] 37 (0, 0))) ∧ Aside0 (wc.heap[gb532]? = some (.cells #[.int .u8 x533000_3, .int .i64 x533001_3, .string x533002_3] 37 (0, 0))) ∧ Aside0 (Below w.heap.size w wc))
  case first =>
    have H := HC4.out
    clear HC4
    by_cases c7 : t534 = true
    · subst c7
      have H1 : (if a1_0 = t533 then (if a0.toList = ([110, 101, 103] : List UInt8) then (if a1_1 = (-9223372036854775808) then (some (0, 0, (⟨#[]⟩ : ByteArray), 3)) else (value_One.j0 k a0 a1_0 a1_1 a1_2)) else (value_One.j0 k a0 a1_0 a1_1 a1_2)) else (some (0, 0, (⟨#[]⟩ : ByteArray), 2))) = some (r1, r2, r3, r4) := by rw [if_pos rfl] at H; exact H
      clear H
      have H := H1
      clear H1
      by_cases c8 : a1_0 = t533
      · rw [if_pos c8] at H
        have c8b0 : (a1_0 == t533) = true := beq_iff_eq.mpr c8
        have c8b1 : (a1_0 != t533) = false := bne_eq_false_iff_eq.mpr c8
        clear c8
        (skip)
        by_cases c9 : a0.toList = ([110, 101, 103] : List UInt8)
        · rw [if_pos c9] at H
          have c9b0 : (a0.toList == ([110, 101, 103] : List UInt8)) = true := beq_iff_eq.mpr c9
          have c9b1 : (a0.toList != ([110, 101, 103] : List UInt8)) = false := bne_eq_false_iff_eq.mpr c9
          clear c9
          by_cases c10 : a1_1 = (-9223372036854775808)
          · rw [if_pos c10] at H
            have c10b0 : (a1_1 == (-9223372036854775808)) = true := beq_iff_eq.mpr c10
            have c10b1 : (a1_1 != (-9223372036854775808)) = false := bne_eq_false_iff_eq.mpr c10
            clear c10
            simp only [Option.some.injEq, Prod.mk.injEq] at H
            obtain ⟨rfl, rfl, rfl, rfl⟩ := H
            have hnb11 := NB531_532.out
            have hnc11 := NB532_531.out
            have hcz12_0 : w6.cell? ⟨gb531, 0, none⟩ = some (.int .u8 a1_0) := (blk_cell BK531.out 0).trans rfl
            have hcz12_1 : w6.cell? ⟨gb531, 1, none⟩ = some (.int .i64 a1_1) := (blk_cell BK531.out 1).trans rfl
            have hcz12_2 : w6.cell? ⟨gb531, 2, none⟩ = some (.string a1_2) := (blk_cell BK531.out 2).trans rfl
            have hfz12_0 := blk_frozen BK531.out 0
            have hfz12_1 := blk_frozen BK531.out 1
            have hfz12_2 := blk_frozen BK531.out 2
            have hcz13_0 : w6.cell? ⟨gb532, 0, none⟩ = some (.int .u8 0) := (blk_cell BK532.out 0).trans rfl
            have hcz13_1 : w6.cell? ⟨gb532, 1, none⟩ = some (.int .i64 0) := (blk_cell BK532.out 1).trans rfl
            have hcz13_2 : w6.cell? ⟨gb532, 2, none⟩ = some (.string (⟨#[]⟩ : ByteArray)) := (blk_cell BK532.out 2).trans rfl
            have hfz13_0 := blk_frozen BK532.out 0
            have hfz13_1 := blk_frozen BK532.out 1
            have hfz13_2 := blk_frozen BK532.out 2
            go_wp2
            refine bodyPost_ret (results_ct rfl _ _ gb532 37 #[.int .u8 0, .int .i64 0, .string (⟨#[]⟩ : ByteArray)] (0, 0) _ rfl (by (with_reducible repeat (fail)); refine blk_put (cs := #[.int .u8 0, .int .i64 0, .string (⟨#[]⟩ : ByteArray)]) ?_ 2 _ rfl; (with_reducible repeat (fail)); refine blk_put (cs := #[.int .u8 0, .int .i64 0, .string (⟨#[]⟩ : ByteArray)]) ?_ 1 _ rfl; (with_reducible repeat (fail)); refine blk_put (cs := #[.int .u8 0, .int .i64 0, .string (⟨#[]⟩ : ByteArray)]) ?_ 0 _ rfl; (with_reducible repeat (refine blk_drewN ?_ _)); exact BK532.out) Try.underlying37 rfl (by kernel_rfl)) rfl ?_
            exact ⟨by rfl, by repeat ((with_reducible first | exact HB.out | apply pw_below_drewN | refine below_set ?_ GE532.out))⟩
          rw [if_neg c10] at H
          have c10b0 : (a1_1 == (-9223372036854775808)) = false := beq_eq_false_iff_ne.mpr c10
          have c10b1 : (a1_1 != (-9223372036854775808)) = true := bne_iff_ne.mpr c10
          have H' := Aside0.mk H
          clear H
          have hnb14 := NB531_532.out
          have hnc14 := NB532_531.out
          have hcz15_0 : w6.cell? ⟨gb531, 0, none⟩ = some (.int .u8 a1_0) := (blk_cell BK531.out 0).trans rfl
          have hcz15_1 : w6.cell? ⟨gb531, 1, none⟩ = some (.int .i64 a1_1) := (blk_cell BK531.out 1).trans rfl
          have hcz15_2 : w6.cell? ⟨gb531, 2, none⟩ = some (.string a1_2) := (blk_cell BK531.out 2).trans rfl
          have hfz15_0 := blk_frozen BK531.out 0
          have hfz15_1 := blk_frozen BK531.out 1
          have hfz15_2 := blk_frozen BK531.out 2
          go_wp2
          go_meet
          case rel => exact ⟨_, (0), (0), ((⟨#[]⟩ : ByteArray)), H', ⟨by omega⟩, ⟨by (with_reducible repeat (refine blk_drewN ?_ _)); exact BK531.out⟩, ⟨by (with_reducible repeat (refine blk_drewN ?_ _)); exact BK532.out⟩, ⟨by repeat ((with_reducible first | exact HB.out | apply pw_below_drewN))⟩⟩
        rw [if_neg c9] at H
        have c9b0 : (a0.toList == ([110, 101, 103] : List UInt8)) = false := beq_eq_false_iff_ne.mpr c9
        have c9b1 : (a0.toList != ([110, 101, 103] : List UInt8)) = true := bne_iff_ne.mpr c9
        have H' := Aside0.mk H
        clear H
        have hnb16 := NB531_532.out
        have hnc16 := NB532_531.out
        have hcz17_0 : w6.cell? ⟨gb531, 0, none⟩ = some (.int .u8 a1_0) := (blk_cell BK531.out 0).trans rfl
        have hcz17_1 : w6.cell? ⟨gb531, 1, none⟩ = some (.int .i64 a1_1) := (blk_cell BK531.out 1).trans rfl
        have hcz17_2 : w6.cell? ⟨gb531, 2, none⟩ = some (.string a1_2) := (blk_cell BK531.out 2).trans rfl
        have hfz17_0 := blk_frozen BK531.out 0
        have hfz17_1 := blk_frozen BK531.out 1
        have hfz17_2 := blk_frozen BK531.out 2
        go_wp2
        go_meet
        case rel => exact ⟨_, (0), (0), ((⟨#[]⟩ : ByteArray)), H', ⟨by omega⟩, ⟨by (with_reducible repeat (refine blk_drewN ?_ _)); exact BK531.out⟩, ⟨by (with_reducible repeat (refine blk_drewN ?_ _)); exact BK532.out⟩, ⟨by repeat ((with_reducible first | exact HB.out | apply pw_below_drewN))⟩⟩
      rw [if_neg c8] at H
      have c8b0 : (a1_0 == t533) = false := beq_eq_false_iff_ne.mpr c8
      have c8b1 : (a1_0 != t533) = true := bne_iff_ne.mpr c8
      (skip)
      simp only [Option.some.injEq, Prod.mk.injEq] at H
      obtain ⟨rfl, rfl, rfl, rfl⟩ := H
      have hnb18 := NB531_532.out
      have hnc18 := NB532_531.out
      have hcz19_0 : w6.cell? ⟨gb531, 0, none⟩ = some (.int .u8 a1_0) := (blk_cell BK531.out 0).trans rfl
      have hcz19_1 : w6.cell? ⟨gb531, 1, none⟩ = some (.int .i64 a1_1) := (blk_cell BK531.out 1).trans rfl
      have hcz19_2 : w6.cell? ⟨gb531, 2, none⟩ = some (.string a1_2) := (blk_cell BK531.out 2).trans rfl
      have hfz19_0 := blk_frozen BK531.out 0
      have hfz19_1 := blk_frozen BK531.out 1
      have hfz19_2 := blk_frozen BK531.out 2
      have hcz20_0 : w6.cell? ⟨gb532, 0, none⟩ = some (.int .u8 0) := (blk_cell BK532.out 0).trans rfl
      have hcz20_1 : w6.cell? ⟨gb532, 1, none⟩ = some (.int .i64 0) := (blk_cell BK532.out 1).trans rfl
      have hcz20_2 : w6.cell? ⟨gb532, 2, none⟩ = some (.string (⟨#[]⟩ : ByteArray)) := (blk_cell BK532.out 2).trans rfl
      have hfz20_0 := blk_frozen BK532.out 0
      have hfz20_1 := blk_frozen BK532.out 1
      have hfz20_2 := blk_frozen BK532.out 2
      go_wp2
      refine bodyPost_ret (results_ct rfl _ _ gb532 37 #[.int .u8 0, .int .i64 0, .string (⟨#[]⟩ : ByteArray)] (0, 0) _ rfl (by (with_reducible repeat (fail)); refine blk_put (cs := #[.int .u8 0, .int .i64 0, .string (⟨#[]⟩ : ByteArray)]) ?_ 2 _ rfl; (with_reducible repeat (fail)); refine blk_put (cs := #[.int .u8 0, .int .i64 0, .string (⟨#[]⟩ : ByteArray)]) ?_ 1 _ rfl; (with_reducible repeat (fail)); refine blk_put (cs := #[.int .u8 0, .int .i64 0, .string (⟨#[]⟩ : ByteArray)]) ?_ 0 _ rfl; (with_reducible repeat (refine blk_drewN ?_ _)); exact BK532.out) Try.underlying37 rfl (by kernel_rfl)) rfl ?_
      exact ⟨by rfl, by repeat ((with_reducible first | exact HB.out | apply pw_below_drewN | refine below_set ?_ GE532.out))⟩
    replace c7 := Bool.eq_false_iff.mpr c7
    subst c7
    have H1 : (some (0, 0, (⟨#[]⟩ : ByteArray), 1)) = some (r1, r2, r3, r4) := by rw [if_neg (show ¬ (false = true) by decide)] at H; exact H
    clear H
    have H := H1
    clear H1
    simp only [Option.some.injEq, Prod.mk.injEq] at H
    obtain ⟨rfl, rfl, rfl, rfl⟩ := H
    have hnb21 := NB532_531.out
    have hnc21 := NB531_532.out
    have hcz22_0 : w6.cell? ⟨gb532, 0, none⟩ = some (.int .u8 0) := (blk_cell BK532.out 0).trans rfl
    have hcz22_1 : w6.cell? ⟨gb532, 1, none⟩ = some (.int .i64 0) := (blk_cell BK532.out 1).trans rfl
    have hcz22_2 : w6.cell? ⟨gb532, 2, none⟩ = some (.string (⟨#[]⟩ : ByteArray)) := (blk_cell BK532.out 2).trans rfl
    have hfz22_0 := blk_frozen BK532.out 0
    have hfz22_1 := blk_frozen BK532.out 1
    have hfz22_2 := blk_frozen BK532.out 2
    go_wp2
    refine bodyPost_ret (results_ct rfl _ _ gb532 37 #[.int .u8 0, .int .i64 0, .string (⟨#[]⟩ : ByteArray)] (0, 0) _ rfl (by (with_reducible repeat (fail)); refine blk_put (cs := #[.int .u8 0, .int .i64 0, .string (⟨#[]⟩ : ByteArray)]) ?_ 2 _ rfl; (with_reducible repeat (fail)); refine blk_put (cs := #[.int .u8 0, .int .i64 0, .string (⟨#[]⟩ : ByteArray)]) ?_ 1 _ rfl; (with_reducible repeat (fail)); refine blk_put (cs := #[.int .u8 0, .int .i64 0, .string (⟨#[]⟩ : ByteArray)]) ?_ 0 _ rfl; (with_reducible repeat (refine blk_drewN ?_ _)); exact BK532.out) Try.underlying37 rfl (by kernel_rfl)) rfl ?_
    exact ⟨by rfl, by repeat ((with_reducible first | exact HB.out | apply pw_below_drewN | refine below_set ?_ GE532.out))⟩
  case rest =>
    clear HC4
    obtain ⟨kq, x533000_3, x533001_3, x533002_3, HA, HJ3, BK531, BK532, HB⟩ := hcut
    cases kq with
    | zero => exact absurd HA.out (by simp [value_One.j0])
    | succ kj3 =>
      have H := HA.out
      clear HA
      simp only [value_One.j0] at H
      by_cases c23 : a0.toList = ([110, 101, 103] : List UInt8)
      · rw [if_pos c23] at H
        have c23b0 : (a0.toList == ([110, 101, 103] : List UInt8)) = true := beq_iff_eq.mpr c23
        have c23b1 : (a0.toList != ([110, 101, 103] : List UInt8)) = false := bne_eq_false_iff_eq.mpr c23
        clear c23
        replace H := Option.bind_eq_some_iff.mp H
        obtain ⟨⟨t535, t536, t537⟩, A240, H⟩ := H
        replace H : (some (t535, t536, t537, 0)) = some (r1, r2, r3, r4) := H
        have A24 := Aside0.mk A240
        clear A240
        simp only [Option.some.injEq, Prod.mk.injEq] at H
        obtain ⟨rfl, rfl, rfl, rfl⟩ := H
        have hnb25 := NB531_532.out
        have hnc25 := NB532_531.out
        have hcz26_0 : wc.cell? ⟨gb531, 0, none⟩ = some (.int .u8 a1_0) := (blk_cell BK531.out 0).trans rfl
        have hcz26_1 : wc.cell? ⟨gb531, 1, none⟩ = some (.int .i64 a1_1) := (blk_cell BK531.out 1).trans rfl
        have hcz26_2 : wc.cell? ⟨gb531, 2, none⟩ = some (.string a1_2) := (blk_cell BK531.out 2).trans rfl
        have hfz26_0 := blk_frozen BK531.out 0
        have hfz26_1 := blk_frozen BK531.out 1
        have hfz26_2 := blk_frozen BK531.out 2
        go_wp2_with (((with_reducible refine gate_callee (f := 94) rfl ?_); refine goesL_ (some 38) rfl rfl Try.func94 (by kernel_rfl) rfl #[.int .i64 (wrap64 (-a1_1))] rfl (by (try simp only [List.map_toArray, List.map_cons, List.map_nil]); rfl) ?_; (with_reducible refine (value_Of.calls (wrap64 (-a1_1)) t535 t536 t537 _ A24.out).mono ?_); rintro e w27 ⟨rfl, hb⟩; refine ⟨_, rfl, ?_⟩; have n0_ := Aside0.mk (blk_below (g := gb531) (o := .cells #[.int .u8 a1_0, .int .i64 a1_1, .string a1_2] 37 (0, 0)) (by (with_reducible repeat (fail)); exact BK531.out) hb); have n1_ := Aside0.mk (blk_below (g := gb532) (o := .cells #[.int .u8 x533000_3, .int .i64 x533001_3, .string x533002_3] 37 (0, 0)) (by (with_reducible repeat (fail)); exact BK532.out) hb); have n2_ := Aside0.mk (below_step (by repeat ((with_reducible exact HB.out))) hb); clear BK531; clear BK532; clear HB; have BK531 := n0_; have BK532 := n1_; have HB := n2_; clear n0_ n1_ n2_; (try clear hb); have hcz28_0 : w27.cell? ⟨gb532, 0, none⟩ = some (.int .u8 x533000_3) := (blk_cell BK532.out 0).trans rfl; have hcz28_1 : w27.cell? ⟨gb532, 1, none⟩ = some (.int .i64 x533001_3) := (blk_cell BK532.out 1).trans rfl; have hcz28_2 : w27.cell? ⟨gb532, 2, none⟩ = some (.string x533002_3) := (blk_cell BK532.out 2).trans rfl; have hfz28_0 := blk_frozen BK532.out 0; have hfz28_1 := blk_frozen BK532.out 1; have hfz28_2 := blk_frozen BK532.out 2))
        refine bodyPost_ret (results_ct rfl _ _ gb532 37 #[.int .u8 t535, .int .i64 t536, .string t537] (0, 0) _ rfl (by (with_reducible repeat (fail)); refine blk_put (cs := #[.int .u8 t535, .int .i64 t536, .string x533002_3]) ?_ 2 _ rfl; (with_reducible repeat (fail)); refine blk_put (cs := #[.int .u8 t535, .int .i64 x533001_3, .string x533002_3]) ?_ 1 _ rfl; (with_reducible repeat (fail)); refine blk_put (cs := #[.int .u8 x533000_3, .int .i64 x533001_3, .string x533002_3]) ?_ 0 _ rfl; (with_reducible repeat (fail)); exact BK532.out) Try.underlying37 rfl (by kernel_rfl)) rfl ?_
        exact ⟨by rfl, by repeat ((with_reducible first | exact HB.out | refine below_set ?_ GE532.out))⟩
      rw [if_neg c23] at H
      have c23b0 : (a0.toList == ([110, 101, 103] : List UInt8)) = false := beq_eq_false_iff_ne.mpr c23
      have c23b1 : (a0.toList != ([110, 101, 103] : List UInt8)) = true := bne_iff_ne.mpr c23
      by_cases c29 : a0.toList = ([110, 111, 116] : List UInt8)
      · rw [if_pos c29] at H
        have c29b0 : (a0.toList == ([110, 111, 116] : List UInt8)) = true := beq_iff_eq.mpr c29
        have c29b1 : (a0.toList != ([110, 111, 116] : List UInt8)) = false := bne_eq_false_iff_eq.mpr c29
        clear c29
        replace H := Option.bind_eq_some_iff.mp H
        obtain ⟨⟨t538, t539, t540⟩, A300, H⟩ := H
        replace H : (some (t538, t539, t540, 0)) = some (r1, r2, r3, r4) := H
        have A30 := Aside0.mk A300
        clear A300
        simp only [Option.some.injEq, Prod.mk.injEq] at H
        obtain ⟨rfl, rfl, rfl, rfl⟩ := H
        have hnb31 := NB531_532.out
        have hnc31 := NB532_531.out
        have hcz32_0 : wc.cell? ⟨gb531, 0, none⟩ = some (.int .u8 a1_0) := (blk_cell BK531.out 0).trans rfl
        have hcz32_1 : wc.cell? ⟨gb531, 1, none⟩ = some (.int .i64 a1_1) := (blk_cell BK531.out 1).trans rfl
        have hcz32_2 : wc.cell? ⟨gb531, 2, none⟩ = some (.string a1_2) := (blk_cell BK531.out 2).trans rfl
        have hfz32_0 := blk_frozen BK531.out 0
        have hfz32_1 := blk_frozen BK531.out 1
        have hfz32_2 := blk_frozen BK531.out 2
        go_wp2_with (((with_reducible refine gate_callee (f := 95) rfl ?_); refine goesL_ (some 44) rfl rfl Try.func95 (by kernel_rfl) rfl #[.bool (a1_1 == 0)] rfl (by (try simp only [List.map_toArray, List.map_cons, List.map_nil]); rfl) ?_; (with_reducible refine (value_Is.calls (a1_1 == 0) t538 t539 t540 _ A30.out).mono ?_); rintro e w33 ⟨rfl, hb⟩; refine ⟨_, rfl, ?_⟩; have n0_ := Aside0.mk (blk_below (g := gb531) (o := .cells #[.int .u8 a1_0, .int .i64 a1_1, .string a1_2] 37 (0, 0)) (by (with_reducible repeat (fail)); exact BK531.out) hb); have n1_ := Aside0.mk (blk_below (g := gb532) (o := .cells #[.int .u8 x533000_3, .int .i64 x533001_3, .string x533002_3] 37 (0, 0)) (by (with_reducible repeat (fail)); exact BK532.out) hb); have n2_ := Aside0.mk (below_step (by repeat ((with_reducible exact HB.out))) hb); clear BK531; clear BK532; clear HB; have BK531 := n0_; have BK532 := n1_; have HB := n2_; clear n0_ n1_ n2_; (try clear hb); have hcz34_0 : w33.cell? ⟨gb532, 0, none⟩ = some (.int .u8 x533000_3) := (blk_cell BK532.out 0).trans rfl; have hcz34_1 : w33.cell? ⟨gb532, 1, none⟩ = some (.int .i64 x533001_3) := (blk_cell BK532.out 1).trans rfl; have hcz34_2 : w33.cell? ⟨gb532, 2, none⟩ = some (.string x533002_3) := (blk_cell BK532.out 2).trans rfl; have hfz34_0 := blk_frozen BK532.out 0; have hfz34_1 := blk_frozen BK532.out 1; have hfz34_2 := blk_frozen BK532.out 2))
        refine bodyPost_ret (results_ct rfl _ _ gb532 37 #[.int .u8 t538, .int .i64 t539, .string t540] (0, 0) _ rfl (by (with_reducible repeat (fail)); refine blk_put (cs := #[.int .u8 t538, .int .i64 t539, .string x533002_3]) ?_ 2 _ rfl; (with_reducible repeat (fail)); refine blk_put (cs := #[.int .u8 t538, .int .i64 x533001_3, .string x533002_3]) ?_ 1 _ rfl; (with_reducible repeat (fail)); refine blk_put (cs := #[.int .u8 x533000_3, .int .i64 x533001_3, .string x533002_3]) ?_ 0 _ rfl; (with_reducible repeat (fail)); exact BK532.out) Try.underlying37 rfl (by kernel_rfl)) rfl ?_
        exact ⟨by rfl, by repeat ((with_reducible first | exact HB.out | refine below_set ?_ GE532.out))⟩
      rw [if_neg c29] at H
      have c29b0 : (a0.toList == ([110, 111, 116] : List UInt8)) = false := beq_eq_false_iff_ne.mpr c29
      have c29b1 : (a0.toList != ([110, 111, 116] : List UInt8)) = true := bne_iff_ne.mpr c29
      by_cases c35 : a0.toList = ([108, 101, 110] : List UInt8)
      · rw [if_pos c35] at H
        have c35b0 : (a0.toList == ([108, 101, 110] : List UInt8)) = true := beq_iff_eq.mpr c35
        have c35b1 : (a0.toList != ([108, 101, 110] : List UInt8)) = false := bne_eq_false_iff_eq.mpr c35
        clear c35
        replace H := Option.bind_eq_some_iff.mp H
        obtain ⟨⟨t541, t542, t543⟩, A360, H⟩ := H
        replace H : (some (t541, t542, t543, 0)) = some (r1, r2, r3, r4) := H
        have A36 := Aside0.mk A360
        clear A360
        simp only [Option.some.injEq, Prod.mk.injEq] at H
        obtain ⟨rfl, rfl, rfl, rfl⟩ := H
        have hnb37 := NB531_532.out
        have hnc37 := NB532_531.out
        have hcz38_0 : wc.cell? ⟨gb531, 0, none⟩ = some (.int .u8 a1_0) := (blk_cell BK531.out 0).trans rfl
        have hcz38_1 : wc.cell? ⟨gb531, 1, none⟩ = some (.int .i64 a1_1) := (blk_cell BK531.out 1).trans rfl
        have hcz38_2 : wc.cell? ⟨gb531, 2, none⟩ = some (.string a1_2) := (blk_cell BK531.out 2).trans rfl
        have hfz38_0 := blk_frozen BK531.out 0
        have hfz38_1 := blk_frozen BK531.out 1
        have hfz38_2 := blk_frozen BK531.out 2
        go_wp2_with (((with_reducible refine gate_callee (f := 94) rfl ?_); refine goesL_ (some 50) rfl rfl Try.func94 (by kernel_rfl) rfl #[.int .i64 (a1_2.size : Int)] rfl (by (try simp only [List.map_toArray, List.map_cons, List.map_nil]); rfl) ?_; (with_reducible refine (value_Of.calls (a1_2.size : Int) t541 t542 t543 _ A36.out).mono ?_); rintro e w39 ⟨rfl, hb⟩; refine ⟨_, rfl, ?_⟩; have n0_ := Aside0.mk (blk_below (g := gb531) (o := .cells #[.int .u8 a1_0, .int .i64 a1_1, .string a1_2] 37 (0, 0)) (by (with_reducible repeat (fail)); exact BK531.out) hb); have n1_ := Aside0.mk (blk_below (g := gb532) (o := .cells #[.int .u8 x533000_3, .int .i64 x533001_3, .string x533002_3] 37 (0, 0)) (by (with_reducible repeat (fail)); exact BK532.out) hb); have n2_ := Aside0.mk (below_step (by repeat ((with_reducible exact HB.out))) hb); clear BK531; clear BK532; clear HB; have BK531 := n0_; have BK532 := n1_; have HB := n2_; clear n0_ n1_ n2_; (try clear hb); have hcz40_0 : w39.cell? ⟨gb532, 0, none⟩ = some (.int .u8 x533000_3) := (blk_cell BK532.out 0).trans rfl; have hcz40_1 : w39.cell? ⟨gb532, 1, none⟩ = some (.int .i64 x533001_3) := (blk_cell BK532.out 1).trans rfl; have hcz40_2 : w39.cell? ⟨gb532, 2, none⟩ = some (.string x533002_3) := (blk_cell BK532.out 2).trans rfl; have hfz40_0 := blk_frozen BK532.out 0; have hfz40_1 := blk_frozen BK532.out 1; have hfz40_2 := blk_frozen BK532.out 2))
        refine bodyPost_ret (results_ct rfl _ _ gb532 37 #[.int .u8 t541, .int .i64 t542, .string t543] (0, 0) _ rfl (by (with_reducible repeat (fail)); refine blk_put (cs := #[.int .u8 t541, .int .i64 t542, .string x533002_3]) ?_ 2 _ rfl; (with_reducible repeat (fail)); refine blk_put (cs := #[.int .u8 t541, .int .i64 x533001_3, .string x533002_3]) ?_ 1 _ rfl; (with_reducible repeat (fail)); refine blk_put (cs := #[.int .u8 x533000_3, .int .i64 x533001_3, .string x533002_3]) ?_ 0 _ rfl; (with_reducible repeat (fail)); exact BK532.out) Try.underlying37 rfl (by kernel_rfl)) rfl ?_
        exact ⟨by rfl, by repeat ((with_reducible first | exact HB.out | refine below_set ?_ GE532.out))⟩
      rw [if_neg c35] at H
      have c35b0 : (a0.toList == ([108, 101, 110] : List UInt8)) = false := beq_eq_false_iff_ne.mpr c35
      have c35b1 : (a0.toList != ([108, 101, 110] : List UInt8)) = true := bne_iff_ne.mpr c35
      by_cases c41 : a0.toList = ([105, 56] : List UInt8)
      · rw [if_pos c41] at H
        have c41b0 : (a0.toList == ([105, 56] : List UInt8)) = true := beq_iff_eq.mpr c41
        have c41b1 : (a0.toList != ([105, 56] : List UInt8)) = false := bne_eq_false_iff_eq.mpr c41
        clear c41
        replace H := Option.bind_eq_some_iff.mp H
        obtain ⟨⟨t544, t545, t546⟩, A420, H⟩ := H
        replace H : (some (t544, t545, t546, 0)) = some (r1, r2, r3, r4) := H
        have A42 := Aside0.mk A420
        clear A420
        simp only [Option.some.injEq, Prod.mk.injEq] at H
        obtain ⟨rfl, rfl, rfl, rfl⟩ := H
        have hnb43 := NB531_532.out
        have hnc43 := NB532_531.out
        have hcz44_0 : wc.cell? ⟨gb531, 0, none⟩ = some (.int .u8 a1_0) := (blk_cell BK531.out 0).trans rfl
        have hcz44_1 : wc.cell? ⟨gb531, 1, none⟩ = some (.int .i64 a1_1) := (blk_cell BK531.out 1).trans rfl
        have hcz44_2 : wc.cell? ⟨gb531, 2, none⟩ = some (.string a1_2) := (blk_cell BK531.out 2).trans rfl
        have hfz44_0 := blk_frozen BK531.out 0
        have hfz44_1 := blk_frozen BK531.out 1
        have hfz44_2 := blk_frozen BK531.out 2
        go_wp2_with (((with_reducible refine gate_callee (f := 94) rfl ?_); refine goesL_ (some 57) rfl rfl Try.func94 (by kernel_rfl) rfl #[.int .i64 (wrap64 (IntKind.i8.wrap (a1_1)))] rfl (by (try simp only [List.map_toArray, List.map_cons, List.map_nil]); rfl) ?_; (with_reducible refine (value_Of.calls (wrap64 (IntKind.i8.wrap (a1_1))) t544 t545 t546 _ A42.out).mono ?_); rintro e w45 ⟨rfl, hb⟩; refine ⟨_, rfl, ?_⟩; have n0_ := Aside0.mk (blk_below (g := gb531) (o := .cells #[.int .u8 a1_0, .int .i64 a1_1, .string a1_2] 37 (0, 0)) (by (with_reducible repeat (fail)); exact BK531.out) hb); have n1_ := Aside0.mk (blk_below (g := gb532) (o := .cells #[.int .u8 x533000_3, .int .i64 x533001_3, .string x533002_3] 37 (0, 0)) (by (with_reducible repeat (fail)); exact BK532.out) hb); have n2_ := Aside0.mk (below_step (by repeat ((with_reducible exact HB.out))) hb); clear BK531; clear BK532; clear HB; have BK531 := n0_; have BK532 := n1_; have HB := n2_; clear n0_ n1_ n2_; (try clear hb); have hcz46_0 : w45.cell? ⟨gb532, 0, none⟩ = some (.int .u8 x533000_3) := (blk_cell BK532.out 0).trans rfl; have hcz46_1 : w45.cell? ⟨gb532, 1, none⟩ = some (.int .i64 x533001_3) := (blk_cell BK532.out 1).trans rfl; have hcz46_2 : w45.cell? ⟨gb532, 2, none⟩ = some (.string x533002_3) := (blk_cell BK532.out 2).trans rfl; have hfz46_0 := blk_frozen BK532.out 0; have hfz46_1 := blk_frozen BK532.out 1; have hfz46_2 := blk_frozen BK532.out 2))
        refine bodyPost_ret (results_ct rfl _ _ gb532 37 #[.int .u8 t544, .int .i64 t545, .string t546] (0, 0) _ rfl (by (with_reducible repeat (fail)); refine blk_put (cs := #[.int .u8 t544, .int .i64 t545, .string x533002_3]) ?_ 2 _ rfl; (with_reducible repeat (fail)); refine blk_put (cs := #[.int .u8 t544, .int .i64 x533001_3, .string x533002_3]) ?_ 1 _ rfl; (with_reducible repeat (fail)); refine blk_put (cs := #[.int .u8 x533000_3, .int .i64 x533001_3, .string x533002_3]) ?_ 0 _ rfl; (with_reducible repeat (fail)); exact BK532.out) Try.underlying37 rfl (by kernel_rfl)) rfl ?_
        exact ⟨by rfl, by repeat ((with_reducible first | exact HB.out | refine below_set ?_ GE532.out))⟩
      rw [if_neg c41] at H
      have c41b0 : (a0.toList == ([105, 56] : List UInt8)) = false := beq_eq_false_iff_ne.mpr c41
      have c41b1 : (a0.toList != ([105, 56] : List UInt8)) = true := bne_iff_ne.mpr c41
      by_cases c47 : a0.toList = ([105, 49, 54] : List UInt8)
      · rw [if_pos c47] at H
        have c47b0 : (a0.toList == ([105, 49, 54] : List UInt8)) = true := beq_iff_eq.mpr c47
        have c47b1 : (a0.toList != ([105, 49, 54] : List UInt8)) = false := bne_eq_false_iff_eq.mpr c47
        clear c47
        replace H := Option.bind_eq_some_iff.mp H
        obtain ⟨⟨t547, t548, t549⟩, A480, H⟩ := H
        replace H : (some (t547, t548, t549, 0)) = some (r1, r2, r3, r4) := H
        have A48 := Aside0.mk A480
        clear A480
        simp only [Option.some.injEq, Prod.mk.injEq] at H
        obtain ⟨rfl, rfl, rfl, rfl⟩ := H
        have hnb49 := NB531_532.out
        have hnc49 := NB532_531.out
        have hcz50_0 : wc.cell? ⟨gb531, 0, none⟩ = some (.int .u8 a1_0) := (blk_cell BK531.out 0).trans rfl
        have hcz50_1 : wc.cell? ⟨gb531, 1, none⟩ = some (.int .i64 a1_1) := (blk_cell BK531.out 1).trans rfl
        have hcz50_2 : wc.cell? ⟨gb531, 2, none⟩ = some (.string a1_2) := (blk_cell BK531.out 2).trans rfl
        have hfz50_0 := blk_frozen BK531.out 0
        have hfz50_1 := blk_frozen BK531.out 1
        have hfz50_2 := blk_frozen BK531.out 2
        go_wp2_with (((with_reducible refine gate_callee (f := 94) rfl ?_); refine goesL_ (some 64) rfl rfl Try.func94 (by kernel_rfl) rfl #[.int .i64 (wrap64 (IntKind.i16.wrap (a1_1)))] rfl (by (try simp only [List.map_toArray, List.map_cons, List.map_nil]); rfl) ?_; (with_reducible refine (value_Of.calls (wrap64 (IntKind.i16.wrap (a1_1))) t547 t548 t549 _ A48.out).mono ?_); rintro e w51 ⟨rfl, hb⟩; refine ⟨_, rfl, ?_⟩; have n0_ := Aside0.mk (blk_below (g := gb531) (o := .cells #[.int .u8 a1_0, .int .i64 a1_1, .string a1_2] 37 (0, 0)) (by (with_reducible repeat (fail)); exact BK531.out) hb); have n1_ := Aside0.mk (blk_below (g := gb532) (o := .cells #[.int .u8 x533000_3, .int .i64 x533001_3, .string x533002_3] 37 (0, 0)) (by (with_reducible repeat (fail)); exact BK532.out) hb); have n2_ := Aside0.mk (below_step (by repeat ((with_reducible exact HB.out))) hb); clear BK531; clear BK532; clear HB; have BK531 := n0_; have BK532 := n1_; have HB := n2_; clear n0_ n1_ n2_; (try clear hb); have hcz52_0 : w51.cell? ⟨gb532, 0, none⟩ = some (.int .u8 x533000_3) := (blk_cell BK532.out 0).trans rfl; have hcz52_1 : w51.cell? ⟨gb532, 1, none⟩ = some (.int .i64 x533001_3) := (blk_cell BK532.out 1).trans rfl; have hcz52_2 : w51.cell? ⟨gb532, 2, none⟩ = some (.string x533002_3) := (blk_cell BK532.out 2).trans rfl; have hfz52_0 := blk_frozen BK532.out 0; have hfz52_1 := blk_frozen BK532.out 1; have hfz52_2 := blk_frozen BK532.out 2))
        refine bodyPost_ret (results_ct rfl _ _ gb532 37 #[.int .u8 t547, .int .i64 t548, .string t549] (0, 0) _ rfl (by (with_reducible repeat (fail)); refine blk_put (cs := #[.int .u8 t547, .int .i64 t548, .string x533002_3]) ?_ 2 _ rfl; (with_reducible repeat (fail)); refine blk_put (cs := #[.int .u8 t547, .int .i64 x533001_3, .string x533002_3]) ?_ 1 _ rfl; (with_reducible repeat (fail)); refine blk_put (cs := #[.int .u8 x533000_3, .int .i64 x533001_3, .string x533002_3]) ?_ 0 _ rfl; (with_reducible repeat (fail)); exact BK532.out) Try.underlying37 rfl (by kernel_rfl)) rfl ?_
        exact ⟨by rfl, by repeat ((with_reducible first | exact HB.out | refine below_set ?_ GE532.out))⟩
      rw [if_neg c47] at H
      have c47b0 : (a0.toList == ([105, 49, 54] : List UInt8)) = false := beq_eq_false_iff_ne.mpr c47
      have c47b1 : (a0.toList != ([105, 49, 54] : List UInt8)) = true := bne_iff_ne.mpr c47
      by_cases c53 : a0.toList = ([105, 51, 50] : List UInt8)
      · rw [if_pos c53] at H
        have c53b0 : (a0.toList == ([105, 51, 50] : List UInt8)) = true := beq_iff_eq.mpr c53
        have c53b1 : (a0.toList != ([105, 51, 50] : List UInt8)) = false := bne_eq_false_iff_eq.mpr c53
        clear c53
        replace H := Option.bind_eq_some_iff.mp H
        obtain ⟨⟨t550, t551, t552⟩, A540, H⟩ := H
        replace H : (some (t550, t551, t552, 0)) = some (r1, r2, r3, r4) := H
        have A54 := Aside0.mk A540
        clear A540
        simp only [Option.some.injEq, Prod.mk.injEq] at H
        obtain ⟨rfl, rfl, rfl, rfl⟩ := H
        have hnb55 := NB531_532.out
        have hnc55 := NB532_531.out
        have hcz56_0 : wc.cell? ⟨gb531, 0, none⟩ = some (.int .u8 a1_0) := (blk_cell BK531.out 0).trans rfl
        have hcz56_1 : wc.cell? ⟨gb531, 1, none⟩ = some (.int .i64 a1_1) := (blk_cell BK531.out 1).trans rfl
        have hcz56_2 : wc.cell? ⟨gb531, 2, none⟩ = some (.string a1_2) := (blk_cell BK531.out 2).trans rfl
        have hfz56_0 := blk_frozen BK531.out 0
        have hfz56_1 := blk_frozen BK531.out 1
        have hfz56_2 := blk_frozen BK531.out 2
        go_wp2_with (((with_reducible refine gate_callee (f := 94) rfl ?_); refine goesL_ (some 71) rfl rfl Try.func94 (by kernel_rfl) rfl #[.int .i64 (wrap64 (wrap32 (a1_1)))] rfl (by (try simp only [List.map_toArray, List.map_cons, List.map_nil]); rfl) ?_; (with_reducible refine (value_Of.calls (wrap64 (wrap32 (a1_1))) t550 t551 t552 _ A54.out).mono ?_); rintro e w57 ⟨rfl, hb⟩; refine ⟨_, rfl, ?_⟩; have n0_ := Aside0.mk (blk_below (g := gb531) (o := .cells #[.int .u8 a1_0, .int .i64 a1_1, .string a1_2] 37 (0, 0)) (by (with_reducible repeat (fail)); exact BK531.out) hb); have n1_ := Aside0.mk (blk_below (g := gb532) (o := .cells #[.int .u8 x533000_3, .int .i64 x533001_3, .string x533002_3] 37 (0, 0)) (by (with_reducible repeat (fail)); exact BK532.out) hb); have n2_ := Aside0.mk (below_step (by repeat ((with_reducible exact HB.out))) hb); clear BK531; clear BK532; clear HB; have BK531 := n0_; have BK532 := n1_; have HB := n2_; clear n0_ n1_ n2_; (try clear hb); have hcz58_0 : w57.cell? ⟨gb532, 0, none⟩ = some (.int .u8 x533000_3) := (blk_cell BK532.out 0).trans rfl; have hcz58_1 : w57.cell? ⟨gb532, 1, none⟩ = some (.int .i64 x533001_3) := (blk_cell BK532.out 1).trans rfl; have hcz58_2 : w57.cell? ⟨gb532, 2, none⟩ = some (.string x533002_3) := (blk_cell BK532.out 2).trans rfl; have hfz58_0 := blk_frozen BK532.out 0; have hfz58_1 := blk_frozen BK532.out 1; have hfz58_2 := blk_frozen BK532.out 2))
        refine bodyPost_ret (results_ct rfl _ _ gb532 37 #[.int .u8 t550, .int .i64 t551, .string t552] (0, 0) _ rfl (by (with_reducible repeat (fail)); refine blk_put (cs := #[.int .u8 t550, .int .i64 t551, .string x533002_3]) ?_ 2 _ rfl; (with_reducible repeat (fail)); refine blk_put (cs := #[.int .u8 t550, .int .i64 x533001_3, .string x533002_3]) ?_ 1 _ rfl; (with_reducible repeat (fail)); refine blk_put (cs := #[.int .u8 x533000_3, .int .i64 x533001_3, .string x533002_3]) ?_ 0 _ rfl; (with_reducible repeat (fail)); exact BK532.out) Try.underlying37 rfl (by kernel_rfl)) rfl ?_
        exact ⟨by rfl, by repeat ((with_reducible first | exact HB.out | refine below_set ?_ GE532.out))⟩
      rw [if_neg c53] at H
      have c53b0 : (a0.toList == ([105, 51, 50] : List UInt8)) = false := beq_eq_false_iff_ne.mpr c53
      have c53b1 : (a0.toList != ([105, 51, 50] : List UInt8)) = true := bne_iff_ne.mpr c53
      by_cases c59 : a0.toList = ([117, 56] : List UInt8)
      · rw [if_pos c59] at H
        have c59b0 : (a0.toList == ([117, 56] : List UInt8)) = true := beq_iff_eq.mpr c59
        have c59b1 : (a0.toList != ([117, 56] : List UInt8)) = false := bne_eq_false_iff_eq.mpr c59
        clear c59
        replace H := Option.bind_eq_some_iff.mp H
        obtain ⟨⟨t553, t554, t555⟩, A600, H⟩ := H
        replace H : (some (t553, t554, t555, 0)) = some (r1, r2, r3, r4) := H
        have A60 := Aside0.mk A600
        clear A600
        simp only [Option.some.injEq, Prod.mk.injEq] at H
        obtain ⟨rfl, rfl, rfl, rfl⟩ := H
        have hnb61 := NB531_532.out
        have hnc61 := NB532_531.out
        have hcz62_0 : wc.cell? ⟨gb531, 0, none⟩ = some (.int .u8 a1_0) := (blk_cell BK531.out 0).trans rfl
        have hcz62_1 : wc.cell? ⟨gb531, 1, none⟩ = some (.int .i64 a1_1) := (blk_cell BK531.out 1).trans rfl
        have hcz62_2 : wc.cell? ⟨gb531, 2, none⟩ = some (.string a1_2) := (blk_cell BK531.out 2).trans rfl
        have hfz62_0 := blk_frozen BK531.out 0
        have hfz62_1 := blk_frozen BK531.out 1
        have hfz62_2 := blk_frozen BK531.out 2
        go_wp2_with (((with_reducible refine gate_callee (f := 94) rfl ?_); refine goesL_ (some 78) rfl rfl Try.func94 (by kernel_rfl) rfl #[.int .i64 ((a1_1) % 256)] rfl (by (try simp only [List.map_toArray, List.map_cons, List.map_nil]); rfl) ?_; (with_reducible refine (value_Of.calls ((a1_1) % 256) t553 t554 t555 _ A60.out).mono ?_); rintro e w63 ⟨rfl, hb⟩; refine ⟨_, rfl, ?_⟩; have n0_ := Aside0.mk (blk_below (g := gb531) (o := .cells #[.int .u8 a1_0, .int .i64 a1_1, .string a1_2] 37 (0, 0)) (by (with_reducible repeat (fail)); exact BK531.out) hb); have n1_ := Aside0.mk (blk_below (g := gb532) (o := .cells #[.int .u8 x533000_3, .int .i64 x533001_3, .string x533002_3] 37 (0, 0)) (by (with_reducible repeat (fail)); exact BK532.out) hb); have n2_ := Aside0.mk (below_step (by repeat ((with_reducible exact HB.out))) hb); clear BK531; clear BK532; clear HB; have BK531 := n0_; have BK532 := n1_; have HB := n2_; clear n0_ n1_ n2_; (try clear hb); have hcz64_0 : w63.cell? ⟨gb532, 0, none⟩ = some (.int .u8 x533000_3) := (blk_cell BK532.out 0).trans rfl; have hcz64_1 : w63.cell? ⟨gb532, 1, none⟩ = some (.int .i64 x533001_3) := (blk_cell BK532.out 1).trans rfl; have hcz64_2 : w63.cell? ⟨gb532, 2, none⟩ = some (.string x533002_3) := (blk_cell BK532.out 2).trans rfl; have hfz64_0 := blk_frozen BK532.out 0; have hfz64_1 := blk_frozen BK532.out 1; have hfz64_2 := blk_frozen BK532.out 2))
        refine bodyPost_ret (results_ct rfl _ _ gb532 37 #[.int .u8 t553, .int .i64 t554, .string t555] (0, 0) _ rfl (by (with_reducible repeat (fail)); refine blk_put (cs := #[.int .u8 t553, .int .i64 t554, .string x533002_3]) ?_ 2 _ rfl; (with_reducible repeat (fail)); refine blk_put (cs := #[.int .u8 t553, .int .i64 x533001_3, .string x533002_3]) ?_ 1 _ rfl; (with_reducible repeat (fail)); refine blk_put (cs := #[.int .u8 x533000_3, .int .i64 x533001_3, .string x533002_3]) ?_ 0 _ rfl; (with_reducible repeat (fail)); exact BK532.out) Try.underlying37 rfl (by kernel_rfl)) rfl ?_
        exact ⟨by rfl, by repeat ((with_reducible first | exact HB.out | refine below_set ?_ GE532.out))⟩
      rw [if_neg c59] at H
      have c59b0 : (a0.toList == ([117, 56] : List UInt8)) = false := beq_eq_false_iff_ne.mpr c59
      have c59b1 : (a0.toList != ([117, 56] : List UInt8)) = true := bne_iff_ne.mpr c59
      by_cases c65 : a0.toList = ([117, 49, 54] : List UInt8)
      · rw [if_pos c65] at H
        have c65b0 : (a0.toList == ([117, 49, 54] : List UInt8)) = true := beq_iff_eq.mpr c65
        have c65b1 : (a0.toList != ([117, 49, 54] : List UInt8)) = false := bne_eq_false_iff_eq.mpr c65
        clear c65
        replace H := Option.bind_eq_some_iff.mp H
        obtain ⟨⟨t556, t557, t558⟩, A660, H⟩ := H
        replace H : (some (t556, t557, t558, 0)) = some (r1, r2, r3, r4) := H
        have A66 := Aside0.mk A660
        clear A660
        simp only [Option.some.injEq, Prod.mk.injEq] at H
        obtain ⟨rfl, rfl, rfl, rfl⟩ := H
        have hnb67 := NB531_532.out
        have hnc67 := NB532_531.out
        have hcz68_0 : wc.cell? ⟨gb531, 0, none⟩ = some (.int .u8 a1_0) := (blk_cell BK531.out 0).trans rfl
        have hcz68_1 : wc.cell? ⟨gb531, 1, none⟩ = some (.int .i64 a1_1) := (blk_cell BK531.out 1).trans rfl
        have hcz68_2 : wc.cell? ⟨gb531, 2, none⟩ = some (.string a1_2) := (blk_cell BK531.out 2).trans rfl
        have hfz68_0 := blk_frozen BK531.out 0
        have hfz68_1 := blk_frozen BK531.out 1
        have hfz68_2 := blk_frozen BK531.out 2
        go_wp2_with (((with_reducible refine gate_callee (f := 94) rfl ?_); refine goesL_ (some 85) rfl rfl Try.func94 (by kernel_rfl) rfl #[.int .i64 (wrap64 (IntKind.u16.wrap (a1_1)))] rfl (by (try simp only [List.map_toArray, List.map_cons, List.map_nil]); rfl) ?_; (with_reducible refine (value_Of.calls (wrap64 (IntKind.u16.wrap (a1_1))) t556 t557 t558 _ A66.out).mono ?_); rintro e w69 ⟨rfl, hb⟩; refine ⟨_, rfl, ?_⟩; have n0_ := Aside0.mk (blk_below (g := gb531) (o := .cells #[.int .u8 a1_0, .int .i64 a1_1, .string a1_2] 37 (0, 0)) (by (with_reducible repeat (fail)); exact BK531.out) hb); have n1_ := Aside0.mk (blk_below (g := gb532) (o := .cells #[.int .u8 x533000_3, .int .i64 x533001_3, .string x533002_3] 37 (0, 0)) (by (with_reducible repeat (fail)); exact BK532.out) hb); have n2_ := Aside0.mk (below_step (by repeat ((with_reducible exact HB.out))) hb); clear BK531; clear BK532; clear HB; have BK531 := n0_; have BK532 := n1_; have HB := n2_; clear n0_ n1_ n2_; (try clear hb); have hcz70_0 : w69.cell? ⟨gb532, 0, none⟩ = some (.int .u8 x533000_3) := (blk_cell BK532.out 0).trans rfl; have hcz70_1 : w69.cell? ⟨gb532, 1, none⟩ = some (.int .i64 x533001_3) := (blk_cell BK532.out 1).trans rfl; have hcz70_2 : w69.cell? ⟨gb532, 2, none⟩ = some (.string x533002_3) := (blk_cell BK532.out 2).trans rfl; have hfz70_0 := blk_frozen BK532.out 0; have hfz70_1 := blk_frozen BK532.out 1; have hfz70_2 := blk_frozen BK532.out 2))
        refine bodyPost_ret (results_ct rfl _ _ gb532 37 #[.int .u8 t556, .int .i64 t557, .string t558] (0, 0) _ rfl (by (with_reducible repeat (fail)); refine blk_put (cs := #[.int .u8 t556, .int .i64 t557, .string x533002_3]) ?_ 2 _ rfl; (with_reducible repeat (fail)); refine blk_put (cs := #[.int .u8 t556, .int .i64 x533001_3, .string x533002_3]) ?_ 1 _ rfl; (with_reducible repeat (fail)); refine blk_put (cs := #[.int .u8 x533000_3, .int .i64 x533001_3, .string x533002_3]) ?_ 0 _ rfl; (with_reducible repeat (fail)); exact BK532.out) Try.underlying37 rfl (by kernel_rfl)) rfl ?_
        exact ⟨by rfl, by repeat ((with_reducible first | exact HB.out | refine below_set ?_ GE532.out))⟩
      rw [if_neg c65] at H
      have c65b0 : (a0.toList == ([117, 49, 54] : List UInt8)) = false := beq_eq_false_iff_ne.mpr c65
      have c65b1 : (a0.toList != ([117, 49, 54] : List UInt8)) = true := bne_iff_ne.mpr c65
      replace H := Option.bind_eq_some_iff.mp H
      obtain ⟨⟨t559, t560, t561⟩, A710, H⟩ := H
      replace H : (some (t559, t560, t561, 0)) = some (r1, r2, r3, r4) := H
      have A71 := Aside0.mk A710
      clear A710
      simp only [Option.some.injEq, Prod.mk.injEq] at H
      obtain ⟨rfl, rfl, rfl, rfl⟩ := H
      have hnb72 := NB531_532.out
      have hnc72 := NB532_531.out
      have hcz73_0 : wc.cell? ⟨gb531, 0, none⟩ = some (.int .u8 a1_0) := (blk_cell BK531.out 0).trans rfl
      have hcz73_1 : wc.cell? ⟨gb531, 1, none⟩ = some (.int .i64 a1_1) := (blk_cell BK531.out 1).trans rfl
      have hcz73_2 : wc.cell? ⟨gb531, 2, none⟩ = some (.string a1_2) := (blk_cell BK531.out 2).trans rfl
      have hfz73_0 := blk_frozen BK531.out 0
      have hfz73_1 := blk_frozen BK531.out 1
      have hfz73_2 := blk_frozen BK531.out 2
      go_wp2_with (((with_reducible refine gate_callee (f := 94) rfl ?_); refine goesL_ (some 90) rfl rfl Try.func94 (by kernel_rfl) rfl #[.int .i64 ((a1_1) % 4294967296)] rfl (by (try simp only [List.map_toArray, List.map_cons, List.map_nil]); rfl) ?_; (with_reducible refine (value_Of.calls ((a1_1) % 4294967296) t559 t560 t561 _ A71.out).mono ?_); rintro e w74 ⟨rfl, hb⟩; refine ⟨_, rfl, ?_⟩; have n0_ := Aside0.mk (blk_below (g := gb531) (o := .cells #[.int .u8 a1_0, .int .i64 a1_1, .string a1_2] 37 (0, 0)) (by (with_reducible repeat (fail)); exact BK531.out) hb); have n1_ := Aside0.mk (blk_below (g := gb532) (o := .cells #[.int .u8 x533000_3, .int .i64 x533001_3, .string x533002_3] 37 (0, 0)) (by (with_reducible repeat (fail)); exact BK532.out) hb); have n2_ := Aside0.mk (below_step (by repeat ((with_reducible exact HB.out))) hb); clear BK531; clear BK532; clear HB; have BK531 := n0_; have BK532 := n1_; have HB := n2_; clear n0_ n1_ n2_; (try clear hb); have hcz75_0 : w74.cell? ⟨gb532, 0, none⟩ = some (.int .u8 x533000_3) := (blk_cell BK532.out 0).trans rfl; have hcz75_1 : w74.cell? ⟨gb532, 1, none⟩ = some (.int .i64 x533001_3) := (blk_cell BK532.out 1).trans rfl; have hcz75_2 : w74.cell? ⟨gb532, 2, none⟩ = some (.string x533002_3) := (blk_cell BK532.out 2).trans rfl; have hfz75_0 := blk_frozen BK532.out 0; have hfz75_1 := blk_frozen BK532.out 1; have hfz75_2 := blk_frozen BK532.out 2))
      refine bodyPost_ret (results_ct rfl _ _ gb532 37 #[.int .u8 t559, .int .i64 t560, .string t561] (0, 0) _ rfl (by (with_reducible repeat (fail)); refine blk_put (cs := #[.int .u8 t559, .int .i64 t560, .string x533002_3]) ?_ 2 _ rfl; (with_reducible repeat (fail)); refine blk_put (cs := #[.int .u8 t559, .int .i64 x533001_3, .string x533002_3]) ?_ 1 _ rfl; (with_reducible repeat (fail)); refine blk_put (cs := #[.int .u8 x533000_3, .int .i64 x533001_3, .string x533002_3]) ?_ 0 _ rfl; (with_reducible repeat (fail)); exact BK532.out) Try.underlying37 rfl (by kernel_rfl)) rfl ?_
      exact ⟨by rfl, by repeat ((with_reducible first | exact HB.out | refine below_set ?_ GE532.out))⟩

/-! ### value_over: function 103 -/
def value_over.f (a0 : Int) (a1 : Bool) : Option (Int × Int × ByteArray × Int) := if a1 = true then ((value_Of.f a0).bind fun bt563 => (some (bt563.1, bt563.2.1, bt563.2.2, 0))) else (some (0, 0, (⟨#[]⟩ : ByteArray), 3))
set_option maxHeartbeats 8000000 in
set_option maxRecDepth 100000 in
theorem value_over.calls (a0 : Int) (a1 : Bool) (r1 : Int) (r2 : Int) (r3 : ByteArray) (r4 : Int) (w : World) (h : value_over.f a0 a1 = some (r1, r2, r3, r4)) :
    Calls Try.prog 103 #[.int .i64 a0, .bool a1] w fun e w' => e = .returned (.tuple #[.agg #[.int .u8 r1, .int .i64 r2, .string r3], .int .i64 r4]) ∧ Below w.heap.size w w' := by
  have hu37 := Try.underlying37
  have HB := Aside0.mk (Below.refl w.heap.size w)
  have H : (if a1 = true then ((value_Of.f a0).bind fun bt563 => (some (bt563.1, bt563.2.1, bt563.2.2, 0))) else (some (0, 0, (⟨#[]⟩ : ByteArray), 3))) = some (r1, r2, r3, r4) := h
  clear h
  by_cases c3 : a1 = true
  · subst c3
    have H1 : ((value_Of.f a0).bind fun bt563 => (some (bt563.1, bt563.2.1, bt563.2.2, 0))) = some (r1, r2, r3, r4) := by rw [if_pos rfl] at H; exact H
    clear H
    have H := H1
    clear H1
    replace H := Option.bind_eq_some_iff.mp H
    obtain ⟨⟨t563, t564, t565⟩, A40, H⟩ := H
    replace H : (some (t563, t564, t565, 0)) = some (r1, r2, r3, r4) := H
    have A4 := Aside0.mk A40
    clear A40
    simp only [Option.some.injEq, Prod.mk.injEq] at H
    obtain ⟨rfl, rfl, rfl, rfl⟩ := H
    go_enter Try.func103, Try.ntmps103
    go_wp2_with (first | ((with_reducible refine gate_dst (N := 4) rfl ?_); refine box_event ?hg (N := 4) ?hd (cs := #[.int .u8 0, .int .i64 0, .string (⟨#[]⟩ : ByteArray)]) (t := 37) ?hr ?_; (case hd => rfl); (case hg => rfl); (case hr => ((go_simp; done))); intro gb562 hg w5 hbox hb; have n0_ := Aside0.mk (below_step (by repeat ((with_reducible exact HB.out))) hb); have n1_ := Aside0.mk (hbox); have n2_ := Aside0.mk ((by rw [hg]; exact (below_size (by repeat ((with_reducible exact HB.out)))) : w.heap.size ≤ gb562)); have n3_ := Aside0.mk ((by rw [hg]; exact (below_size (by repeat ((with_reducible exact HB.out)))) : w.heap.size ≤ gb562)); clear HB; have HB := n0_; have BK562 := n1_; have GW562 := n2_; have GE562 := n3_; clear n0_ n1_ n2_ n3_; clear hb hbox hg) | ((with_reducible refine gate_callee (f := 94) rfl ?_); refine goesL_ (some 10) rfl rfl Try.func94 (by kernel_rfl) rfl #[.int .i64 a0] rfl (by (try simp only [List.map_toArray, List.map_cons, List.map_nil]); rfl) ?_; (with_reducible refine (value_Of.calls a0 t563 t564 t565 _ A4.out).mono ?_); rintro e w6 ⟨rfl, hb⟩; refine ⟨_, rfl, ?_⟩; have n0_ := Aside0.mk (blk_below (g := gb562) (o := .cells #[.int .u8 0, .int .i64 0, .string (⟨#[]⟩ : ByteArray)] 37 (0, 0)) (by (with_reducible repeat (fail)); exact BK562.out) hb); have n1_ := Aside0.mk (below_step (by repeat ((with_reducible exact HB.out))) hb); clear BK562; clear HB; have BK562 := n0_; have HB := n1_; clear n0_ n1_; (try clear hb); have hcz7_0 : w6.cell? ⟨gb562, 0, none⟩ = some (.int .u8 0) := (blk_cell BK562.out 0).trans rfl; have hcz7_1 : w6.cell? ⟨gb562, 1, none⟩ = some (.int .i64 0) := (blk_cell BK562.out 1).trans rfl; have hcz7_2 : w6.cell? ⟨gb562, 2, none⟩ = some (.string (⟨#[]⟩ : ByteArray)) := (blk_cell BK562.out 2).trans rfl; have hfz7_0 := blk_frozen BK562.out 0; have hfz7_1 := blk_frozen BK562.out 1; have hfz7_2 := blk_frozen BK562.out 2))
    refine bodyPost_ret (results_ct rfl _ _ gb562 37 #[.int .u8 t563, .int .i64 t564, .string t565] (0, 0) _ rfl (by (with_reducible repeat (fail)); refine blk_put (cs := #[.int .u8 t563, .int .i64 t564, .string (⟨#[]⟩ : ByteArray)]) ?_ 2 _ rfl; (with_reducible repeat (fail)); refine blk_put (cs := #[.int .u8 t563, .int .i64 0, .string (⟨#[]⟩ : ByteArray)]) ?_ 1 _ rfl; (with_reducible repeat (fail)); refine blk_put (cs := #[.int .u8 0, .int .i64 0, .string (⟨#[]⟩ : ByteArray)]) ?_ 0 _ rfl; (with_reducible repeat (fail)); exact BK562.out) Try.underlying37 rfl (by kernel_rfl)) rfl ?_
    exact ⟨by rfl, by repeat ((with_reducible first | exact HB.out | refine below_set ?_ GE562.out))⟩
  replace c3 := Bool.eq_false_iff.mpr c3
  subst c3
  have H1 : (some (0, 0, (⟨#[]⟩ : ByteArray), 3)) = some (r1, r2, r3, r4) := by rw [if_neg (show ¬ (false = true) by decide)] at H; exact H
  clear H
  have H := H1
  clear H1
  simp only [Option.some.injEq, Prod.mk.injEq] at H
  obtain ⟨rfl, rfl, rfl, rfl⟩ := H
  go_enter Try.func103, Try.ntmps103
  go_wp2_with (((with_reducible refine gate_dst (N := 4) rfl ?_); refine box_event ?hg (N := 4) ?hd (cs := #[.int .u8 0, .int .i64 0, .string (⟨#[]⟩ : ByteArray)]) (t := 37) ?hr ?_; (case hd => rfl); (case hg => rfl); (case hr => ((go_simp; done))); intro gb562 hg w8 hbox hb; have n0_ := Aside0.mk (below_step (by repeat ((with_reducible exact HB.out))) hb); have n1_ := Aside0.mk (hbox); have n2_ := Aside0.mk ((by rw [hg]; exact (below_size (by repeat ((with_reducible exact HB.out)))) : w.heap.size ≤ gb562)); have n3_ := Aside0.mk ((by rw [hg]; exact (below_size (by repeat ((with_reducible exact HB.out)))) : w.heap.size ≤ gb562)); clear HB; have HB := n0_; have BK562 := n1_; have GW562 := n2_; have GE562 := n3_; clear n0_ n1_ n2_ n3_; clear hb hbox hg; have hcz9_0 : w8.cell? ⟨gb562, 0, none⟩ = some (.int .u8 0) := (blk_cell BK562.out 0).trans rfl; have hcz9_1 : w8.cell? ⟨gb562, 1, none⟩ = some (.int .i64 0) := (blk_cell BK562.out 1).trans rfl; have hcz9_2 : w8.cell? ⟨gb562, 2, none⟩ = some (.string (⟨#[]⟩ : ByteArray)) := (blk_cell BK562.out 2).trans rfl; have hfz9_0 := blk_frozen BK562.out 0; have hfz9_1 := blk_frozen BK562.out 1; have hfz9_2 := blk_frozen BK562.out 2))
  refine bodyPost_ret (results_ct rfl _ _ gb562 37 #[.int .u8 0, .int .i64 0, .string (⟨#[]⟩ : ByteArray)] (0, 0) _ rfl (by (with_reducible repeat (fail)); refine blk_put (cs := #[.int .u8 0, .int .i64 0, .string (⟨#[]⟩ : ByteArray)]) ?_ 2 _ rfl; (with_reducible repeat (fail)); refine blk_put (cs := #[.int .u8 0, .int .i64 0, .string (⟨#[]⟩ : ByteArray)]) ?_ 1 _ rfl; (with_reducible repeat (fail)); refine blk_put (cs := #[.int .u8 0, .int .i64 0, .string (⟨#[]⟩ : ByteArray)]) ?_ 0 _ rfl; (with_reducible repeat (fail)); exact BK562.out) Try.underlying37 rfl (by kernel_rfl)) rfl ?_
  exact ⟨by rfl, by repeat ((with_reducible first | exact HB.out | refine below_set ?_ GE562.out))⟩

/-! ### value_times_1: function 114 -/
def value_times_1.f (a0 : Int) : Option (Int) := if a0 < 0 then (some (IntKind.u64.wrap (-(IntKind.u64.wrap (a0))))) else (some (IntKind.u64.wrap (a0)))
set_option maxHeartbeats 8000000 in
set_option maxRecDepth 100000 in
theorem value_times_1.calls (a0 : Int) (r : Int) (w : World) (h : value_times_1.f a0 = some r) :
    Calls Try.prog 114 #[.int .i64 a0] w fun e w' => e = .returned (.int .u64 r) ∧ Drawn0 w w' := by
  have H : (if a0 < 0 then (some (IntKind.u64.wrap (-(IntKind.u64.wrap (a0))))) else (some (IntKind.u64.wrap (a0)))) = some r := h
  clear h
  by_cases c2 : a0 < 0
  · rw [if_pos c2] at H
    have c2b0 : decide (a0 < 0) = true := decide_eq_true c2
    clear c2
    obtain rfl := Option.some.inj H
    go_enter Try.func114, Try.ntmps114
    go_wp2
    go_ret
    exact ⟨by rfl, by repeat (exact Drawn0.refl _)⟩
  rw [if_neg c2] at H
  have c2b0 : decide (a0 < 0) = false := decide_eq_false c2
  clear c2
  obtain rfl := Option.some.inj H
  go_enter Try.func114, Try.ntmps114
  go_wp2
  go_ret
  exact ⟨by rfl, by repeat (exact Drawn0.refl _)⟩

/-! ### bits_Mul64: function 115 -/
def bits_Mul64.f (a0 : Int) (a1 : Int) : Option (Int × Int) := some (IntKind.u64.wrap ((IntKind.u64.wrap ((IntKind.u64.wrap ((a0 / 4294967296) * (a1 / 4294967296))) + ((IntKind.u64.wrap ((IntKind.u64.wrap ((a0 / 4294967296) * (Go.bits .and .u64 a1 4294967295))) + ((IntKind.u64.wrap ((Go.bits .and .u64 a0 4294967295) * (Go.bits .and .u64 a1 4294967295))) / 4294967296))) / 4294967296))) + ((IntKind.u64.wrap ((Go.bits .and .u64 (IntKind.u64.wrap ((IntKind.u64.wrap ((a0 / 4294967296) * (Go.bits .and .u64 a1 4294967295))) + ((IntKind.u64.wrap ((Go.bits .and .u64 a0 4294967295) * (Go.bits .and .u64 a1 4294967295))) / 4294967296))) 4294967295) + (IntKind.u64.wrap ((Go.bits .and .u64 a0 4294967295) * (a1 / 4294967296))))) / 4294967296)), IntKind.u64.wrap (a0 * a1))
set_option maxHeartbeats 8000000 in
set_option maxRecDepth 100000 in
theorem bits_Mul64.calls (a0 : Int) (a1 : Int) (r1 : Int) (r2 : Int) (w : World) (h : bits_Mul64.f a0 a1 = some (r1, r2)) :
    Calls Try.prog 115 #[.int .u64 a0, .int .u64 a1] w fun e w' => e = .returned (.tuple #[.int .u64 r1, .int .u64 r2]) ∧ Drawn0 w w' := by
  have H : (some (IntKind.u64.wrap ((IntKind.u64.wrap ((IntKind.u64.wrap ((a0 / 4294967296) * (a1 / 4294967296))) + ((IntKind.u64.wrap ((IntKind.u64.wrap ((a0 / 4294967296) * (Go.bits .and .u64 a1 4294967295))) + ((IntKind.u64.wrap ((Go.bits .and .u64 a0 4294967295) * (Go.bits .and .u64 a1 4294967295))) / 4294967296))) / 4294967296))) + ((IntKind.u64.wrap ((Go.bits .and .u64 (IntKind.u64.wrap ((IntKind.u64.wrap ((a0 / 4294967296) * (Go.bits .and .u64 a1 4294967295))) + ((IntKind.u64.wrap ((Go.bits .and .u64 a0 4294967295) * (Go.bits .and .u64 a1 4294967295))) / 4294967296))) 4294967295) + (IntKind.u64.wrap ((Go.bits .and .u64 a0 4294967295) * (a1 / 4294967296))))) / 4294967296)), IntKind.u64.wrap (a0 * a1))) = some (r1, r2) := h
  clear h
  simp only [Option.some.injEq, Prod.mk.injEq] at H
  obtain ⟨rfl, rfl⟩ := H
  go_enter Try.func115, Try.ntmps115
  go_wp2
  go_ret2
  exact ⟨by rfl, by repeat (exact Drawn0.refl _)⟩

/-! ### value_times: function 104 -/
def value_times.f (a0 : Int) (a1 : Int) : Option (Int × Int × ByteArray × Int) := (value_times_1.f a0).bind fun t567 => ((value_times_1.f a1).bind fun t568 => ((bits_Mul64.f t567 t568).bind fun bt569 => (if ((decide (a0 < 0)) != (decide (a1 < 0))) = true then (if bt569.1 = 0 then ((value_over.f (wrap64 (IntKind.u64.wrap (-bt569.2))) (decide (bt569.2 ≤ (9223372036854775807 + 1)))).bind fun bt571 => (some (bt571.1, bt571.2.1, bt571.2.2.1, bt571.2.2.2))) else ((value_over.f (wrap64 (IntKind.u64.wrap (-bt569.2))) false).bind fun bt575 => (some (bt575.1, bt575.2.1, bt575.2.2.1, bt575.2.2.2)))) else (if bt569.1 = 0 then ((value_over.f (wrap64 (bt569.2)) (decide (bt569.2 ≤ 9223372036854775807))).bind fun bt579 => (some (bt579.1, bt579.2.1, bt579.2.2.1, bt579.2.2.2))) else ((value_over.f (wrap64 (bt569.2)) false).bind fun bt583 => (some (bt583.1, bt583.2.1, bt583.2.2.1, bt583.2.2.2)))))))
set_option maxHeartbeats 8000000 in
set_option maxRecDepth 100000 in
theorem value_times.calls (a0 : Int) (a1 : Int) (r1 : Int) (r2 : Int) (r3 : ByteArray) (r4 : Int) (w : World) (h : value_times.f a0 a1 = some (r1, r2, r3, r4)) :
    Calls Try.prog 104 #[.int .i64 a0, .int .i64 a1] w fun e w' => e = .returned (.tuple #[.agg #[.int .u8 r1, .int .i64 r2, .string r3], .int .i64 r4]) ∧ Below w.heap.size w w' := by
  have hu37 := Try.underlying37
  have HB := Aside0.mk (Below.refl w.heap.size w)
  have H : ((value_times_1.f a0).bind fun t567 => ((value_times_1.f a1).bind fun t568 => ((bits_Mul64.f t567 t568).bind fun bt569 => (if ((decide (a0 < 0)) != (decide (a1 < 0))) = true then (if bt569.1 = 0 then ((value_over.f (wrap64 (IntKind.u64.wrap (-bt569.2))) (decide (bt569.2 ≤ (9223372036854775807 + 1)))).bind fun bt571 => (some (bt571.1, bt571.2.1, bt571.2.2.1, bt571.2.2.2))) else ((value_over.f (wrap64 (IntKind.u64.wrap (-bt569.2))) false).bind fun bt575 => (some (bt575.1, bt575.2.1, bt575.2.2.1, bt575.2.2.2)))) else (if bt569.1 = 0 then ((value_over.f (wrap64 (bt569.2)) (decide (bt569.2 ≤ 9223372036854775807))).bind fun bt579 => (some (bt579.1, bt579.2.1, bt579.2.2.1, bt579.2.2.2))) else ((value_over.f (wrap64 (bt569.2)) false).bind fun bt583 => (some (bt583.1, bt583.2.1, bt583.2.2.1, bt583.2.2.2)))))))) = some (r1, r2, r3, r4) := h
  clear h
  replace H := Option.bind_eq_some_iff.mp H
  obtain ⟨t567, A30, H⟩ := H
  have A3 := Aside0.mk A30
  clear A30
  replace H := Option.bind_eq_some_iff.mp H
  obtain ⟨t568, A40, H⟩ := H
  have A4 := Aside0.mk A40
  clear A40
  replace H := Option.bind_eq_some_iff.mp H
  obtain ⟨⟨t569, t570⟩, A50, H⟩ := H
  (try dsimp only at H)
  have A5 := Aside0.mk A50
  clear A50
  by_cases c6 : ((decide (a0 < 0)) != (decide (a1 < 0))) = true
  · rw [if_pos c6] at H
    have c6b0 : ((decide (a0 < 0)) != (decide (a1 < 0))) = true := c6
    (try (have c6b1 : decide ((decide (a0 < 0)) = (decide (a1 < 0))) = false := by simpa using c6))
    (try (have c6b2 : ((decide (a0 < 0)) == (decide (a1 < 0))) = false := by simpa using c6))
    (try (have c6b3 : ¬ ((decide (a0 < 0)) = (decide (a1 < 0))) := by simpa using c6))
    clear c6
    by_cases c7 : t569 = 0
    · rw [if_pos c7] at H
      have c7b0 : (t569 == 0) = true := beq_iff_eq.mpr c7
      have c7b1 : (t569 != 0) = false := bne_eq_false_iff_eq.mpr c7
      clear c7
      replace H := Option.bind_eq_some_iff.mp H
      obtain ⟨⟨t571, t572, t573, t574⟩, A80, H⟩ := H
      replace H : (some (t571, t572, t573, t574)) = some (r1, r2, r3, r4) := H
      have A8 := Aside0.mk A80
      clear A80
      simp only [Option.some.injEq, Prod.mk.injEq] at H
      obtain ⟨rfl, rfl, rfl, rfl⟩ := H
      go_enter Try.func104, Try.ntmps104
      go_wp2_with (first | ((with_reducible refine gate_dst (N := 4) rfl ?_); refine box_event ?hg (N := 4) ?hd (cs := #[.int .u8 0, .int .i64 0, .string (⟨#[]⟩ : ByteArray)]) (t := 37) ?hr ?_; (case hd => rfl); (case hg => rfl); (case hr => ((go_simp; done))); intro gb566 hg w9 hbox hb; have n0_ := Aside0.mk (below_step (by repeat ((with_reducible exact HB.out))) hb); have n1_ := Aside0.mk (hbox); have n2_ := Aside0.mk ((by rw [hg]; exact (below_size (by repeat ((with_reducible exact HB.out)))) : w.heap.size ≤ gb566)); have n3_ := Aside0.mk ((by rw [hg]; exact (below_size (by repeat ((with_reducible exact HB.out)))) : w.heap.size ≤ gb566)); clear HB; have HB := n0_; have BK566 := n1_; have GW566 := n2_; have GE566 := n3_; clear n0_ n1_ n2_ n3_; clear hb hbox hg) | ((with_reducible refine gate_dst (N := 14) rfl ?_); refine goesLT_ (some 14) rfl rfl Try.func114 (by kernel_rfl) rfl #[.int .i64 a0] rfl rfl (by (try simp only [List.map_toArray, List.map_cons, List.map_nil]); rfl) ?_; (with_reducible refine (value_times_1.calls a0 t567 _ A3.out).mono ?_); rintro e w' ⟨rfl, ⟨nd, rfl⟩⟩; refine ⟨_, rfl, ?_⟩; (try (rw [drewN_self w9]; generalize hq_ : World.drewN w9 _ = w9; have n0_ : Aside0 (w9.heap[gb566]? = some (.cells #[.int .u8 0, .int .i64 0, .string (⟨#[]⟩ : ByteArray)] 37 (0, 0))) := ⟨by rw [← hq_]; exact (by (with_reducible repeat (refine blk_drewN ?_ _)); exact BK566.out)⟩; have n1_ : Aside0 (Below w.heap.size w w9) := ⟨by rw [← hq_]; exact (by repeat ((with_reducible first | exact HB.out | apply pw_below_drewN)))⟩; clear BK566 HB hq_; have BK566 := n0_; have HB := n1_; clear n0_ n1_))) | ((with_reducible refine gate_dst (N := 17) rfl ?_); refine goesLT_ (some 17) rfl rfl Try.func114 (by kernel_rfl) rfl #[.int .i64 a1] rfl rfl (by (try simp only [List.map_toArray, List.map_cons, List.map_nil]); rfl) ?_; (with_reducible refine (value_times_1.calls a1 t568 _ A4.out).mono ?_); rintro e w' ⟨rfl, ⟨nd, rfl⟩⟩; refine ⟨_, rfl, ?_⟩; (try (rw [drewN_self w9]; generalize hq_ : World.drewN w9 _ = w9; have n0_ : Aside0 (w9.heap[gb566]? = some (.cells #[.int .u8 0, .int .i64 0, .string (⟨#[]⟩ : ByteArray)] 37 (0, 0))) := ⟨by rw [← hq_]; exact (by (with_reducible repeat (refine blk_drewN ?_ _)); exact BK566.out)⟩; have n1_ : Aside0 (Below w.heap.size w w9) := ⟨by rw [← hq_]; exact (by repeat ((with_reducible first | exact HB.out | apply pw_below_drewN)))⟩; clear BK566 HB hq_; have BK566 := n0_; have HB := n1_; clear n0_ n1_))) | ((with_reducible refine gate_callee (f := 115) rfl ?_); refine goesL_ (some 18) rfl rfl Try.func115 (by kernel_rfl) rfl #[.int .u64 t567, .int .u64 t568] rfl (by (try simp only [List.map_toArray, List.map_cons, List.map_nil]); rfl) ?_; (with_reducible refine (bits_Mul64.calls t567 t568 t569 t570 _ A5.out).mono ?_); rintro e w' ⟨rfl, ⟨nd, rfl⟩⟩; refine ⟨_, rfl, ?_⟩; (try (rw [drewN_self w9]; generalize hq_ : World.drewN w9 _ = w9; have n0_ : Aside0 (w9.heap[gb566]? = some (.cells #[.int .u8 0, .int .i64 0, .string (⟨#[]⟩ : ByteArray)] 37 (0, 0))) := ⟨by rw [← hq_]; exact (by (with_reducible repeat (refine blk_drewN ?_ _)); exact BK566.out)⟩; have n1_ : Aside0 (Below w.heap.size w w9) := ⟨by rw [← hq_]; exact (by repeat ((with_reducible first | exact HB.out | apply pw_below_drewN)))⟩; clear BK566 HB hq_; have BK566 := n0_; have HB := n1_; clear n0_ n1_))) | ((with_reducible refine gate_callee (f := 103) rfl ?_); refine goesL_ (some 40) rfl rfl Try.func103 (by kernel_rfl) rfl #[.int .i64 (wrap64 (IntKind.u64.wrap (-t570))), .bool (decide (t570 ≤ (9223372036854775807 + 1)))] rfl (by (try simp only [List.map_toArray, List.map_cons, List.map_nil]); rfl) ?_; (with_reducible refine (value_over.calls (wrap64 (IntKind.u64.wrap (-t570))) (decide (t570 ≤ (9223372036854775807 + 1))) t571 t572 t573 t574 _ A8.out).mono ?_); rintro e w10 ⟨rfl, hb⟩; refine ⟨_, rfl, ?_⟩; have n0_ := Aside0.mk (blk_below (g := gb566) (o := .cells #[.int .u8 0, .int .i64 0, .string (⟨#[]⟩ : ByteArray)] 37 (0, 0)) (by (with_reducible repeat (fail)); exact BK566.out) hb); have n1_ := Aside0.mk (below_step (by repeat ((with_reducible exact HB.out))) hb); clear BK566; clear HB; have BK566 := n0_; have HB := n1_; clear n0_ n1_; (try clear hb); have hcz11_0 : w10.cell? ⟨gb566, 0, none⟩ = some (.int .u8 0) := (blk_cell BK566.out 0).trans rfl; have hcz11_1 : w10.cell? ⟨gb566, 1, none⟩ = some (.int .i64 0) := (blk_cell BK566.out 1).trans rfl; have hcz11_2 : w10.cell? ⟨gb566, 2, none⟩ = some (.string (⟨#[]⟩ : ByteArray)) := (blk_cell BK566.out 2).trans rfl; have hfz11_0 := blk_frozen BK566.out 0; have hfz11_1 := blk_frozen BK566.out 1; have hfz11_2 := blk_frozen BK566.out 2))
      refine bodyPost_ret (results_ct rfl _ _ gb566 37 #[.int .u8 t571, .int .i64 t572, .string t573] (0, 0) _ rfl (by (with_reducible repeat (fail)); refine blk_put (cs := #[.int .u8 t571, .int .i64 t572, .string (⟨#[]⟩ : ByteArray)]) ?_ 2 _ rfl; (with_reducible repeat (fail)); refine blk_put (cs := #[.int .u8 t571, .int .i64 0, .string (⟨#[]⟩ : ByteArray)]) ?_ 1 _ rfl; (with_reducible repeat (fail)); refine blk_put (cs := #[.int .u8 0, .int .i64 0, .string (⟨#[]⟩ : ByteArray)]) ?_ 0 _ rfl; (with_reducible repeat (fail)); exact BK566.out) Try.underlying37 rfl (by kernel_rfl)) rfl ?_
      exact ⟨by rfl, by repeat ((with_reducible first | exact HB.out | refine below_set ?_ GE566.out))⟩
    rw [if_neg c7] at H
    have c7b0 : (t569 == 0) = false := beq_eq_false_iff_ne.mpr c7
    have c7b1 : (t569 != 0) = true := bne_iff_ne.mpr c7
    replace H := Option.bind_eq_some_iff.mp H
    obtain ⟨⟨t575, t576, t577, t578⟩, A120, H⟩ := H
    replace H : (some (t575, t576, t577, t578)) = some (r1, r2, r3, r4) := H
    have A12 := Aside0.mk A120
    clear A120
    simp only [Option.some.injEq, Prod.mk.injEq] at H
    obtain ⟨rfl, rfl, rfl, rfl⟩ := H
    go_enter Try.func104, Try.ntmps104
    go_wp2_with (first | ((with_reducible refine gate_dst (N := 4) rfl ?_); refine box_event ?hg (N := 4) ?hd (cs := #[.int .u8 0, .int .i64 0, .string (⟨#[]⟩ : ByteArray)]) (t := 37) ?hr ?_; (case hd => rfl); (case hg => rfl); (case hr => ((go_simp; done))); intro gb566 hg w13 hbox hb; have n0_ := Aside0.mk (below_step (by repeat ((with_reducible exact HB.out))) hb); have n1_ := Aside0.mk (hbox); have n2_ := Aside0.mk ((by rw [hg]; exact (below_size (by repeat ((with_reducible exact HB.out)))) : w.heap.size ≤ gb566)); have n3_ := Aside0.mk ((by rw [hg]; exact (below_size (by repeat ((with_reducible exact HB.out)))) : w.heap.size ≤ gb566)); clear HB; have HB := n0_; have BK566 := n1_; have GW566 := n2_; have GE566 := n3_; clear n0_ n1_ n2_ n3_; clear hb hbox hg) | ((with_reducible refine gate_dst (N := 14) rfl ?_); refine goesLT_ (some 14) rfl rfl Try.func114 (by kernel_rfl) rfl #[.int .i64 a0] rfl rfl (by (try simp only [List.map_toArray, List.map_cons, List.map_nil]); rfl) ?_; (with_reducible refine (value_times_1.calls a0 t567 _ A3.out).mono ?_); rintro e w' ⟨rfl, ⟨nd, rfl⟩⟩; refine ⟨_, rfl, ?_⟩; (try (rw [drewN_self w13]; generalize hq_ : World.drewN w13 _ = w13; have n0_ : Aside0 (w13.heap[gb566]? = some (.cells #[.int .u8 0, .int .i64 0, .string (⟨#[]⟩ : ByteArray)] 37 (0, 0))) := ⟨by rw [← hq_]; exact (by (with_reducible repeat (refine blk_drewN ?_ _)); exact BK566.out)⟩; have n1_ : Aside0 (Below w.heap.size w w13) := ⟨by rw [← hq_]; exact (by repeat ((with_reducible first | exact HB.out | apply pw_below_drewN)))⟩; clear BK566 HB hq_; have BK566 := n0_; have HB := n1_; clear n0_ n1_))) | ((with_reducible refine gate_dst (N := 17) rfl ?_); refine goesLT_ (some 17) rfl rfl Try.func114 (by kernel_rfl) rfl #[.int .i64 a1] rfl rfl (by (try simp only [List.map_toArray, List.map_cons, List.map_nil]); rfl) ?_; (with_reducible refine (value_times_1.calls a1 t568 _ A4.out).mono ?_); rintro e w' ⟨rfl, ⟨nd, rfl⟩⟩; refine ⟨_, rfl, ?_⟩; (try (rw [drewN_self w13]; generalize hq_ : World.drewN w13 _ = w13; have n0_ : Aside0 (w13.heap[gb566]? = some (.cells #[.int .u8 0, .int .i64 0, .string (⟨#[]⟩ : ByteArray)] 37 (0, 0))) := ⟨by rw [← hq_]; exact (by (with_reducible repeat (refine blk_drewN ?_ _)); exact BK566.out)⟩; have n1_ : Aside0 (Below w.heap.size w w13) := ⟨by rw [← hq_]; exact (by repeat ((with_reducible first | exact HB.out | apply pw_below_drewN)))⟩; clear BK566 HB hq_; have BK566 := n0_; have HB := n1_; clear n0_ n1_))) | ((with_reducible refine gate_callee (f := 115) rfl ?_); refine goesL_ (some 18) rfl rfl Try.func115 (by kernel_rfl) rfl #[.int .u64 t567, .int .u64 t568] rfl (by (try simp only [List.map_toArray, List.map_cons, List.map_nil]); rfl) ?_; (with_reducible refine (bits_Mul64.calls t567 t568 t569 t570 _ A5.out).mono ?_); rintro e w' ⟨rfl, ⟨nd, rfl⟩⟩; refine ⟨_, rfl, ?_⟩; (try (rw [drewN_self w13]; generalize hq_ : World.drewN w13 _ = w13; have n0_ : Aside0 (w13.heap[gb566]? = some (.cells #[.int .u8 0, .int .i64 0, .string (⟨#[]⟩ : ByteArray)] 37 (0, 0))) := ⟨by rw [← hq_]; exact (by (with_reducible repeat (refine blk_drewN ?_ _)); exact BK566.out)⟩; have n1_ : Aside0 (Below w.heap.size w w13) := ⟨by rw [← hq_]; exact (by repeat ((with_reducible first | exact HB.out | apply pw_below_drewN)))⟩; clear BK566 HB hq_; have BK566 := n0_; have HB := n1_; clear n0_ n1_))) | ((with_reducible refine gate_callee (f := 103) rfl ?_); refine goesL_ (some 40) rfl rfl Try.func103 (by kernel_rfl) rfl #[.int .i64 (wrap64 (IntKind.u64.wrap (-t570))), .bool false] rfl (by (try simp only [List.map_toArray, List.map_cons, List.map_nil]); rfl) ?_; (with_reducible refine (value_over.calls (wrap64 (IntKind.u64.wrap (-t570))) false t575 t576 t577 t578 _ A12.out).mono ?_); rintro e w14 ⟨rfl, hb⟩; refine ⟨_, rfl, ?_⟩; have n0_ := Aside0.mk (blk_below (g := gb566) (o := .cells #[.int .u8 0, .int .i64 0, .string (⟨#[]⟩ : ByteArray)] 37 (0, 0)) (by (with_reducible repeat (fail)); exact BK566.out) hb); have n1_ := Aside0.mk (below_step (by repeat ((with_reducible exact HB.out))) hb); clear BK566; clear HB; have BK566 := n0_; have HB := n1_; clear n0_ n1_; (try clear hb); have hcz15_0 : w14.cell? ⟨gb566, 0, none⟩ = some (.int .u8 0) := (blk_cell BK566.out 0).trans rfl; have hcz15_1 : w14.cell? ⟨gb566, 1, none⟩ = some (.int .i64 0) := (blk_cell BK566.out 1).trans rfl; have hcz15_2 : w14.cell? ⟨gb566, 2, none⟩ = some (.string (⟨#[]⟩ : ByteArray)) := (blk_cell BK566.out 2).trans rfl; have hfz15_0 := blk_frozen BK566.out 0; have hfz15_1 := blk_frozen BK566.out 1; have hfz15_2 := blk_frozen BK566.out 2))
    refine bodyPost_ret (results_ct rfl _ _ gb566 37 #[.int .u8 t575, .int .i64 t576, .string t577] (0, 0) _ rfl (by (with_reducible repeat (fail)); refine blk_put (cs := #[.int .u8 t575, .int .i64 t576, .string (⟨#[]⟩ : ByteArray)]) ?_ 2 _ rfl; (with_reducible repeat (fail)); refine blk_put (cs := #[.int .u8 t575, .int .i64 0, .string (⟨#[]⟩ : ByteArray)]) ?_ 1 _ rfl; (with_reducible repeat (fail)); refine blk_put (cs := #[.int .u8 0, .int .i64 0, .string (⟨#[]⟩ : ByteArray)]) ?_ 0 _ rfl; (with_reducible repeat (fail)); exact BK566.out) Try.underlying37 rfl (by kernel_rfl)) rfl ?_
    exact ⟨by rfl, by repeat ((with_reducible first | exact HB.out | refine below_set ?_ GE566.out))⟩
  rw [if_neg c6] at H
  have c6b0 : ((decide (a0 < 0)) != (decide (a1 < 0))) = false := by simpa using c6
  (try (have c6b1 : decide ((decide (a0 < 0)) = (decide (a1 < 0))) = true := by simpa using c6))
  (try (have c6b2 : ((decide (a0 < 0)) == (decide (a1 < 0))) = true := by simpa using c6))
  clear c6
  by_cases c16 : t569 = 0
  · rw [if_pos c16] at H
    have c16b0 : (t569 == 0) = true := beq_iff_eq.mpr c16
    have c16b1 : (t569 != 0) = false := bne_eq_false_iff_eq.mpr c16
    clear c16
    replace H := Option.bind_eq_some_iff.mp H
    obtain ⟨⟨t579, t580, t581, t582⟩, A170, H⟩ := H
    replace H : (some (t579, t580, t581, t582)) = some (r1, r2, r3, r4) := H
    have A17 := Aside0.mk A170
    clear A170
    simp only [Option.some.injEq, Prod.mk.injEq] at H
    obtain ⟨rfl, rfl, rfl, rfl⟩ := H
    go_enter Try.func104, Try.ntmps104
    go_wp2_with (first | ((with_reducible refine gate_dst (N := 4) rfl ?_); refine box_event ?hg (N := 4) ?hd (cs := #[.int .u8 0, .int .i64 0, .string (⟨#[]⟩ : ByteArray)]) (t := 37) ?hr ?_; (case hd => rfl); (case hg => rfl); (case hr => ((go_simp; done))); intro gb566 hg w18 hbox hb; have n0_ := Aside0.mk (below_step (by repeat ((with_reducible exact HB.out))) hb); have n1_ := Aside0.mk (hbox); have n2_ := Aside0.mk ((by rw [hg]; exact (below_size (by repeat ((with_reducible exact HB.out)))) : w.heap.size ≤ gb566)); have n3_ := Aside0.mk ((by rw [hg]; exact (below_size (by repeat ((with_reducible exact HB.out)))) : w.heap.size ≤ gb566)); clear HB; have HB := n0_; have BK566 := n1_; have GW566 := n2_; have GE566 := n3_; clear n0_ n1_ n2_ n3_; clear hb hbox hg) | ((with_reducible refine gate_dst (N := 14) rfl ?_); refine goesLT_ (some 14) rfl rfl Try.func114 (by kernel_rfl) rfl #[.int .i64 a0] rfl rfl (by (try simp only [List.map_toArray, List.map_cons, List.map_nil]); rfl) ?_; (with_reducible refine (value_times_1.calls a0 t567 _ A3.out).mono ?_); rintro e w' ⟨rfl, ⟨nd, rfl⟩⟩; refine ⟨_, rfl, ?_⟩; (try (rw [drewN_self w18]; generalize hq_ : World.drewN w18 _ = w18; have n0_ : Aside0 (w18.heap[gb566]? = some (.cells #[.int .u8 0, .int .i64 0, .string (⟨#[]⟩ : ByteArray)] 37 (0, 0))) := ⟨by rw [← hq_]; exact (by (with_reducible repeat (refine blk_drewN ?_ _)); exact BK566.out)⟩; have n1_ : Aside0 (Below w.heap.size w w18) := ⟨by rw [← hq_]; exact (by repeat ((with_reducible first | exact HB.out | apply pw_below_drewN)))⟩; clear BK566 HB hq_; have BK566 := n0_; have HB := n1_; clear n0_ n1_))) | ((with_reducible refine gate_dst (N := 17) rfl ?_); refine goesLT_ (some 17) rfl rfl Try.func114 (by kernel_rfl) rfl #[.int .i64 a1] rfl rfl (by (try simp only [List.map_toArray, List.map_cons, List.map_nil]); rfl) ?_; (with_reducible refine (value_times_1.calls a1 t568 _ A4.out).mono ?_); rintro e w' ⟨rfl, ⟨nd, rfl⟩⟩; refine ⟨_, rfl, ?_⟩; (try (rw [drewN_self w18]; generalize hq_ : World.drewN w18 _ = w18; have n0_ : Aside0 (w18.heap[gb566]? = some (.cells #[.int .u8 0, .int .i64 0, .string (⟨#[]⟩ : ByteArray)] 37 (0, 0))) := ⟨by rw [← hq_]; exact (by (with_reducible repeat (refine blk_drewN ?_ _)); exact BK566.out)⟩; have n1_ : Aside0 (Below w.heap.size w w18) := ⟨by rw [← hq_]; exact (by repeat ((with_reducible first | exact HB.out | apply pw_below_drewN)))⟩; clear BK566 HB hq_; have BK566 := n0_; have HB := n1_; clear n0_ n1_))) | ((with_reducible refine gate_callee (f := 115) rfl ?_); refine goesL_ (some 18) rfl rfl Try.func115 (by kernel_rfl) rfl #[.int .u64 t567, .int .u64 t568] rfl (by (try simp only [List.map_toArray, List.map_cons, List.map_nil]); rfl) ?_; (with_reducible refine (bits_Mul64.calls t567 t568 t569 t570 _ A5.out).mono ?_); rintro e w' ⟨rfl, ⟨nd, rfl⟩⟩; refine ⟨_, rfl, ?_⟩; (try (rw [drewN_self w18]; generalize hq_ : World.drewN w18 _ = w18; have n0_ : Aside0 (w18.heap[gb566]? = some (.cells #[.int .u8 0, .int .i64 0, .string (⟨#[]⟩ : ByteArray)] 37 (0, 0))) := ⟨by rw [← hq_]; exact (by (with_reducible repeat (refine blk_drewN ?_ _)); exact BK566.out)⟩; have n1_ : Aside0 (Below w.heap.size w w18) := ⟨by rw [← hq_]; exact (by repeat ((with_reducible first | exact HB.out | apply pw_below_drewN)))⟩; clear BK566 HB hq_; have BK566 := n0_; have HB := n1_; clear n0_ n1_))) | ((with_reducible refine gate_callee (f := 103) rfl ?_); refine goesL_ (some 52) rfl rfl Try.func103 (by kernel_rfl) rfl #[.int .i64 (wrap64 (t570)), .bool (decide (t570 ≤ 9223372036854775807))] rfl (by (try simp only [List.map_toArray, List.map_cons, List.map_nil]); rfl) ?_; (with_reducible refine (value_over.calls (wrap64 (t570)) (decide (t570 ≤ 9223372036854775807)) t579 t580 t581 t582 _ A17.out).mono ?_); rintro e w19 ⟨rfl, hb⟩; refine ⟨_, rfl, ?_⟩; have n0_ := Aside0.mk (blk_below (g := gb566) (o := .cells #[.int .u8 0, .int .i64 0, .string (⟨#[]⟩ : ByteArray)] 37 (0, 0)) (by (with_reducible repeat (fail)); exact BK566.out) hb); have n1_ := Aside0.mk (below_step (by repeat ((with_reducible exact HB.out))) hb); clear BK566; clear HB; have BK566 := n0_; have HB := n1_; clear n0_ n1_; (try clear hb); have hcz20_0 : w19.cell? ⟨gb566, 0, none⟩ = some (.int .u8 0) := (blk_cell BK566.out 0).trans rfl; have hcz20_1 : w19.cell? ⟨gb566, 1, none⟩ = some (.int .i64 0) := (blk_cell BK566.out 1).trans rfl; have hcz20_2 : w19.cell? ⟨gb566, 2, none⟩ = some (.string (⟨#[]⟩ : ByteArray)) := (blk_cell BK566.out 2).trans rfl; have hfz20_0 := blk_frozen BK566.out 0; have hfz20_1 := blk_frozen BK566.out 1; have hfz20_2 := blk_frozen BK566.out 2))
    refine bodyPost_ret (results_ct rfl _ _ gb566 37 #[.int .u8 t579, .int .i64 t580, .string t581] (0, 0) _ rfl (by (with_reducible repeat (fail)); refine blk_put (cs := #[.int .u8 t579, .int .i64 t580, .string (⟨#[]⟩ : ByteArray)]) ?_ 2 _ rfl; (with_reducible repeat (fail)); refine blk_put (cs := #[.int .u8 t579, .int .i64 0, .string (⟨#[]⟩ : ByteArray)]) ?_ 1 _ rfl; (with_reducible repeat (fail)); refine blk_put (cs := #[.int .u8 0, .int .i64 0, .string (⟨#[]⟩ : ByteArray)]) ?_ 0 _ rfl; (with_reducible repeat (fail)); exact BK566.out) Try.underlying37 rfl (by kernel_rfl)) rfl ?_
    exact ⟨by rfl, by repeat ((with_reducible first | exact HB.out | refine below_set ?_ GE566.out))⟩
  rw [if_neg c16] at H
  have c16b0 : (t569 == 0) = false := beq_eq_false_iff_ne.mpr c16
  have c16b1 : (t569 != 0) = true := bne_iff_ne.mpr c16
  replace H := Option.bind_eq_some_iff.mp H
  obtain ⟨⟨t583, t584, t585, t586⟩, A210, H⟩ := H
  replace H : (some (t583, t584, t585, t586)) = some (r1, r2, r3, r4) := H
  have A21 := Aside0.mk A210
  clear A210
  simp only [Option.some.injEq, Prod.mk.injEq] at H
  obtain ⟨rfl, rfl, rfl, rfl⟩ := H
  go_enter Try.func104, Try.ntmps104
  go_wp2_with (first | ((with_reducible refine gate_dst (N := 4) rfl ?_); refine box_event ?hg (N := 4) ?hd (cs := #[.int .u8 0, .int .i64 0, .string (⟨#[]⟩ : ByteArray)]) (t := 37) ?hr ?_; (case hd => rfl); (case hg => rfl); (case hr => ((go_simp; done))); intro gb566 hg w22 hbox hb; have n0_ := Aside0.mk (below_step (by repeat ((with_reducible exact HB.out))) hb); have n1_ := Aside0.mk (hbox); have n2_ := Aside0.mk ((by rw [hg]; exact (below_size (by repeat ((with_reducible exact HB.out)))) : w.heap.size ≤ gb566)); have n3_ := Aside0.mk ((by rw [hg]; exact (below_size (by repeat ((with_reducible exact HB.out)))) : w.heap.size ≤ gb566)); clear HB; have HB := n0_; have BK566 := n1_; have GW566 := n2_; have GE566 := n3_; clear n0_ n1_ n2_ n3_; clear hb hbox hg) | ((with_reducible refine gate_dst (N := 14) rfl ?_); refine goesLT_ (some 14) rfl rfl Try.func114 (by kernel_rfl) rfl #[.int .i64 a0] rfl rfl (by (try simp only [List.map_toArray, List.map_cons, List.map_nil]); rfl) ?_; (with_reducible refine (value_times_1.calls a0 t567 _ A3.out).mono ?_); rintro e w' ⟨rfl, ⟨nd, rfl⟩⟩; refine ⟨_, rfl, ?_⟩; (try (rw [drewN_self w22]; generalize hq_ : World.drewN w22 _ = w22; have n0_ : Aside0 (w22.heap[gb566]? = some (.cells #[.int .u8 0, .int .i64 0, .string (⟨#[]⟩ : ByteArray)] 37 (0, 0))) := ⟨by rw [← hq_]; exact (by (with_reducible repeat (refine blk_drewN ?_ _)); exact BK566.out)⟩; have n1_ : Aside0 (Below w.heap.size w w22) := ⟨by rw [← hq_]; exact (by repeat ((with_reducible first | exact HB.out | apply pw_below_drewN)))⟩; clear BK566 HB hq_; have BK566 := n0_; have HB := n1_; clear n0_ n1_))) | ((with_reducible refine gate_dst (N := 17) rfl ?_); refine goesLT_ (some 17) rfl rfl Try.func114 (by kernel_rfl) rfl #[.int .i64 a1] rfl rfl (by (try simp only [List.map_toArray, List.map_cons, List.map_nil]); rfl) ?_; (with_reducible refine (value_times_1.calls a1 t568 _ A4.out).mono ?_); rintro e w' ⟨rfl, ⟨nd, rfl⟩⟩; refine ⟨_, rfl, ?_⟩; (try (rw [drewN_self w22]; generalize hq_ : World.drewN w22 _ = w22; have n0_ : Aside0 (w22.heap[gb566]? = some (.cells #[.int .u8 0, .int .i64 0, .string (⟨#[]⟩ : ByteArray)] 37 (0, 0))) := ⟨by rw [← hq_]; exact (by (with_reducible repeat (refine blk_drewN ?_ _)); exact BK566.out)⟩; have n1_ : Aside0 (Below w.heap.size w w22) := ⟨by rw [← hq_]; exact (by repeat ((with_reducible first | exact HB.out | apply pw_below_drewN)))⟩; clear BK566 HB hq_; have BK566 := n0_; have HB := n1_; clear n0_ n1_))) | ((with_reducible refine gate_callee (f := 115) rfl ?_); refine goesL_ (some 18) rfl rfl Try.func115 (by kernel_rfl) rfl #[.int .u64 t567, .int .u64 t568] rfl (by (try simp only [List.map_toArray, List.map_cons, List.map_nil]); rfl) ?_; (with_reducible refine (bits_Mul64.calls t567 t568 t569 t570 _ A5.out).mono ?_); rintro e w' ⟨rfl, ⟨nd, rfl⟩⟩; refine ⟨_, rfl, ?_⟩; (try (rw [drewN_self w22]; generalize hq_ : World.drewN w22 _ = w22; have n0_ : Aside0 (w22.heap[gb566]? = some (.cells #[.int .u8 0, .int .i64 0, .string (⟨#[]⟩ : ByteArray)] 37 (0, 0))) := ⟨by rw [← hq_]; exact (by (with_reducible repeat (refine blk_drewN ?_ _)); exact BK566.out)⟩; have n1_ : Aside0 (Below w.heap.size w w22) := ⟨by rw [← hq_]; exact (by repeat ((with_reducible first | exact HB.out | apply pw_below_drewN)))⟩; clear BK566 HB hq_; have BK566 := n0_; have HB := n1_; clear n0_ n1_))) | ((with_reducible refine gate_callee (f := 103) rfl ?_); refine goesL_ (some 52) rfl rfl Try.func103 (by kernel_rfl) rfl #[.int .i64 (wrap64 (t570)), .bool false] rfl (by (try simp only [List.map_toArray, List.map_cons, List.map_nil]); rfl) ?_; (with_reducible refine (value_over.calls (wrap64 (t570)) false t583 t584 t585 t586 _ A21.out).mono ?_); rintro e w23 ⟨rfl, hb⟩; refine ⟨_, rfl, ?_⟩; have n0_ := Aside0.mk (blk_below (g := gb566) (o := .cells #[.int .u8 0, .int .i64 0, .string (⟨#[]⟩ : ByteArray)] 37 (0, 0)) (by (with_reducible repeat (fail)); exact BK566.out) hb); have n1_ := Aside0.mk (below_step (by repeat ((with_reducible exact HB.out))) hb); clear BK566; clear HB; have BK566 := n0_; have HB := n1_; clear n0_ n1_; (try clear hb); have hcz24_0 : w23.cell? ⟨gb566, 0, none⟩ = some (.int .u8 0) := (blk_cell BK566.out 0).trans rfl; have hcz24_1 : w23.cell? ⟨gb566, 1, none⟩ = some (.int .i64 0) := (blk_cell BK566.out 1).trans rfl; have hcz24_2 : w23.cell? ⟨gb566, 2, none⟩ = some (.string (⟨#[]⟩ : ByteArray)) := (blk_cell BK566.out 2).trans rfl; have hfz24_0 := blk_frozen BK566.out 0; have hfz24_1 := blk_frozen BK566.out 1; have hfz24_2 := blk_frozen BK566.out 2))
  refine bodyPost_ret (results_ct rfl _ _ gb566 37 #[.int .u8 t583, .int .i64 t584, .string t585] (0, 0) _ rfl (by (with_reducible repeat (fail)); refine blk_put (cs := #[.int .u8 t583, .int .i64 t584, .string (⟨#[]⟩ : ByteArray)]) ?_ 2 _ rfl; (with_reducible repeat (fail)); refine blk_put (cs := #[.int .u8 t583, .int .i64 0, .string (⟨#[]⟩ : ByteArray)]) ?_ 1 _ rfl; (with_reducible repeat (fail)); refine blk_put (cs := #[.int .u8 0, .int .i64 0, .string (⟨#[]⟩ : ByteArray)]) ?_ 0 _ rfl; (with_reducible repeat (fail)); exact BK566.out) Try.underlying37 rfl (by kernel_rfl)) rfl ?_
  exact ⟨by rfl, by repeat ((with_reducible first | exact HB.out | refine below_set ?_ GE566.out))⟩

/-! ### value_parts: function 105 -/
def value_parts.f (a0 : ByteArray) (a1 : Int) (a2 : Int) : Option (Int × Int × ByteArray × Int) := if a2 = 0 then (some (0, 0, (⟨#[]⟩ : ByteArray), 4)) else (if a0.toList = ([37] : List UInt8) then (if a2 = (-1) then ((value_Of.f 0).bind fun bt588 => (some (bt588.1, bt588.2.1, bt588.2.2, 0))) else ((value_Of.f (Int.tmod a1 a2)).bind fun bt591 => (some (bt591.1, bt591.2.1, bt591.2.2, 0)))) else (if a1 = (-9223372036854775808) then (if a2 = (-1) then (some (0, 0, (⟨#[]⟩ : ByteArray), 3)) else ((value_Of.f (wrap64 (Int.tdiv a1 a2))).bind fun bt594 => (some (bt594.1, bt594.2.1, bt594.2.2, 0)))) else ((value_Of.f (wrap64 (Int.tdiv a1 a2))).bind fun bt597 => (some (bt597.1, bt597.2.1, bt597.2.2, 0)))))
set_option maxHeartbeats 8000000 in
set_option maxRecDepth 100000 in
theorem value_parts.calls (a0 : ByteArray) (a1 : Int) (a2 : Int) (r1 : Int) (r2 : Int) (r3 : ByteArray) (r4 : Int) (w : World) (h : value_parts.f a0 a1 a2 = some (r1, r2, r3, r4)) :
    Calls Try.prog 105 #[.string a0, .int .i64 a1, .int .i64 a2] w fun e w' => e = .returned (.tuple #[.agg #[.int .u8 r1, .int .i64 r2, .string r3], .int .i64 r4]) ∧ Below w.heap.size w w' := by
  have hu37 := Try.underlying37
  have HB := Aside0.mk (Below.refl w.heap.size w)
  have H : (if a2 = 0 then (some (0, 0, (⟨#[]⟩ : ByteArray), 4)) else (if a0.toList = ([37] : List UInt8) then (if a2 = (-1) then ((value_Of.f 0).bind fun bt588 => (some (bt588.1, bt588.2.1, bt588.2.2, 0))) else ((value_Of.f (Int.tmod a1 a2)).bind fun bt591 => (some (bt591.1, bt591.2.1, bt591.2.2, 0)))) else (if a1 = (-9223372036854775808) then (if a2 = (-1) then (some (0, 0, (⟨#[]⟩ : ByteArray), 3)) else ((value_Of.f (wrap64 (Int.tdiv a1 a2))).bind fun bt594 => (some (bt594.1, bt594.2.1, bt594.2.2, 0)))) else ((value_Of.f (wrap64 (Int.tdiv a1 a2))).bind fun bt597 => (some (bt597.1, bt597.2.1, bt597.2.2, 0)))))) = some (r1, r2, r3, r4) := h
  clear h
  by_cases c4 : a2 = 0
  · rw [if_pos c4] at H
    have c4b0 : (a2 == 0) = true := beq_iff_eq.mpr c4
    have c4b1 : (a2 != 0) = false := bne_eq_false_iff_eq.mpr c4
    clear c4
    simp only [Option.some.injEq, Prod.mk.injEq] at H
    obtain ⟨rfl, rfl, rfl, rfl⟩ := H
    go_enter Try.func105, Try.ntmps105
    go_wp2_with (((with_reducible refine gate_dst (N := 6) rfl ?_); refine box_event ?hg (N := 6) ?hd (cs := #[.int .u8 0, .int .i64 0, .string (⟨#[]⟩ : ByteArray)]) (t := 37) ?hr ?_; (case hd => rfl); (case hg => rfl); (case hr => ((go_simp; done))); intro gb587 hg w5 hbox hb; have n0_ := Aside0.mk (below_step (by repeat ((with_reducible exact HB.out))) hb); have n1_ := Aside0.mk (hbox); have n2_ := Aside0.mk ((by rw [hg]; exact (below_size (by repeat ((with_reducible exact HB.out)))) : w.heap.size ≤ gb587)); have n3_ := Aside0.mk ((by rw [hg]; exact (below_size (by repeat ((with_reducible exact HB.out)))) : w.heap.size ≤ gb587)); clear HB; have HB := n0_; have BK587 := n1_; have GW587 := n2_; have GE587 := n3_; clear n0_ n1_ n2_ n3_; clear hb hbox hg; have hcz6_0 : w5.cell? ⟨gb587, 0, none⟩ = some (.int .u8 0) := (blk_cell BK587.out 0).trans rfl; have hcz6_1 : w5.cell? ⟨gb587, 1, none⟩ = some (.int .i64 0) := (blk_cell BK587.out 1).trans rfl; have hcz6_2 : w5.cell? ⟨gb587, 2, none⟩ = some (.string (⟨#[]⟩ : ByteArray)) := (blk_cell BK587.out 2).trans rfl; have hfz6_0 := blk_frozen BK587.out 0; have hfz6_1 := blk_frozen BK587.out 1; have hfz6_2 := blk_frozen BK587.out 2))
    refine bodyPost_ret (results_ct rfl _ _ gb587 37 #[.int .u8 0, .int .i64 0, .string (⟨#[]⟩ : ByteArray)] (0, 0) _ rfl (by (with_reducible repeat (fail)); refine blk_put (cs := #[.int .u8 0, .int .i64 0, .string (⟨#[]⟩ : ByteArray)]) ?_ 2 _ rfl; (with_reducible repeat (fail)); refine blk_put (cs := #[.int .u8 0, .int .i64 0, .string (⟨#[]⟩ : ByteArray)]) ?_ 1 _ rfl; (with_reducible repeat (fail)); refine blk_put (cs := #[.int .u8 0, .int .i64 0, .string (⟨#[]⟩ : ByteArray)]) ?_ 0 _ rfl; (with_reducible repeat (fail)); exact BK587.out) Try.underlying37 rfl (by kernel_rfl)) rfl ?_
    exact ⟨by rfl, by repeat ((with_reducible first | exact HB.out | refine below_set ?_ GE587.out))⟩
  rw [if_neg c4] at H
  have c4b0 : (a2 == 0) = false := beq_eq_false_iff_ne.mpr c4
  have c4b1 : (a2 != 0) = true := bne_iff_ne.mpr c4
  by_cases c7 : a0.toList = ([37] : List UInt8)
  · rw [if_pos c7] at H
    have c7b0 : (a0.toList == ([37] : List UInt8)) = true := beq_iff_eq.mpr c7
    have c7b1 : (a0.toList != ([37] : List UInt8)) = false := bne_eq_false_iff_eq.mpr c7
    clear c7
    by_cases c8 : a2 = (-1)
    · rw [if_pos c8] at H
      have c8b0 : (a2 == (-1)) = true := beq_iff_eq.mpr c8
      have c8b1 : (a2 != (-1)) = false := bne_eq_false_iff_eq.mpr c8
      clear c8
      replace H := Option.bind_eq_some_iff.mp H
      obtain ⟨⟨t588, t589, t590⟩, A90, H⟩ := H
      replace H : (some (t588, t589, t590, 0)) = some (r1, r2, r3, r4) := H
      have A9 := Aside0.mk A90
      clear A90
      simp only [Option.some.injEq, Prod.mk.injEq] at H
      obtain ⟨rfl, rfl, rfl, rfl⟩ := H
      go_enter Try.func105, Try.ntmps105
      go_wp2_with (first | ((with_reducible refine gate_dst (N := 6) rfl ?_); refine box_event ?hg (N := 6) ?hd (cs := #[.int .u8 0, .int .i64 0, .string (⟨#[]⟩ : ByteArray)]) (t := 37) ?hr ?_; (case hd => rfl); (case hg => rfl); (case hr => ((go_simp; done))); intro gb587 hg w10 hbox hb; have n0_ := Aside0.mk (below_step (by repeat ((with_reducible exact HB.out))) hb); have n1_ := Aside0.mk (hbox); have n2_ := Aside0.mk ((by rw [hg]; exact (below_size (by repeat ((with_reducible exact HB.out)))) : w.heap.size ≤ gb587)); have n3_ := Aside0.mk ((by rw [hg]; exact (below_size (by repeat ((with_reducible exact HB.out)))) : w.heap.size ≤ gb587)); clear HB; have HB := n0_; have BK587 := n1_; have GW587 := n2_; have GE587 := n3_; clear n0_ n1_ n2_ n3_; clear hb hbox hg) | ((with_reducible refine gate_callee (f := 94) rfl ?_); refine goesL_ (some 17) rfl rfl Try.func94 (by kernel_rfl) rfl #[.int .i64 0] rfl (by (try simp only [List.map_toArray, List.map_cons, List.map_nil]); rfl) ?_; (with_reducible refine (value_Of.calls 0 t588 t589 t590 _ A9.out).mono ?_); rintro e w11 ⟨rfl, hb⟩; refine ⟨_, rfl, ?_⟩; have n0_ := Aside0.mk (blk_below (g := gb587) (o := .cells #[.int .u8 0, .int .i64 0, .string (⟨#[]⟩ : ByteArray)] 37 (0, 0)) (by (with_reducible repeat (fail)); exact BK587.out) hb); have n1_ := Aside0.mk (below_step (by repeat ((with_reducible exact HB.out))) hb); clear BK587; clear HB; have BK587 := n0_; have HB := n1_; clear n0_ n1_; (try clear hb); have hcz12_0 : w11.cell? ⟨gb587, 0, none⟩ = some (.int .u8 0) := (blk_cell BK587.out 0).trans rfl; have hcz12_1 : w11.cell? ⟨gb587, 1, none⟩ = some (.int .i64 0) := (blk_cell BK587.out 1).trans rfl; have hcz12_2 : w11.cell? ⟨gb587, 2, none⟩ = some (.string (⟨#[]⟩ : ByteArray)) := (blk_cell BK587.out 2).trans rfl; have hfz12_0 := blk_frozen BK587.out 0; have hfz12_1 := blk_frozen BK587.out 1; have hfz12_2 := blk_frozen BK587.out 2))
      refine bodyPost_ret (results_ct rfl _ _ gb587 37 #[.int .u8 t588, .int .i64 t589, .string t590] (0, 0) _ rfl (by (with_reducible repeat (fail)); refine blk_put (cs := #[.int .u8 t588, .int .i64 t589, .string (⟨#[]⟩ : ByteArray)]) ?_ 2 _ rfl; (with_reducible repeat (fail)); refine blk_put (cs := #[.int .u8 t588, .int .i64 0, .string (⟨#[]⟩ : ByteArray)]) ?_ 1 _ rfl; (with_reducible repeat (fail)); refine blk_put (cs := #[.int .u8 0, .int .i64 0, .string (⟨#[]⟩ : ByteArray)]) ?_ 0 _ rfl; (with_reducible repeat (fail)); exact BK587.out) Try.underlying37 rfl (by kernel_rfl)) rfl ?_
      exact ⟨by rfl, by repeat ((with_reducible first | exact HB.out | refine below_set ?_ GE587.out))⟩
    rw [if_neg c8] at H
    have c8b0 : (a2 == (-1)) = false := beq_eq_false_iff_ne.mpr c8
    have c8b1 : (a2 != (-1)) = true := bne_iff_ne.mpr c8
    replace H := Option.bind_eq_some_iff.mp H
    obtain ⟨⟨t591, t592, t593⟩, A130, H⟩ := H
    replace H : (some (t591, t592, t593, 0)) = some (r1, r2, r3, r4) := H
    have A13 := Aside0.mk A130
    clear A130
    simp only [Option.some.injEq, Prod.mk.injEq] at H
    obtain ⟨rfl, rfl, rfl, rfl⟩ := H
    go_enter Try.func105, Try.ntmps105
    go_wp2_with (first | ((with_reducible refine gate_dst (N := 6) rfl ?_); refine box_event ?hg (N := 6) ?hd (cs := #[.int .u8 0, .int .i64 0, .string (⟨#[]⟩ : ByteArray)]) (t := 37) ?hr ?_; (case hd => rfl); (case hg => rfl); (case hr => ((go_simp; done))); intro gb587 hg w14 hbox hb; have n0_ := Aside0.mk (below_step (by repeat ((with_reducible exact HB.out))) hb); have n1_ := Aside0.mk (hbox); have n2_ := Aside0.mk ((by rw [hg]; exact (below_size (by repeat ((with_reducible exact HB.out)))) : w.heap.size ≤ gb587)); have n3_ := Aside0.mk ((by rw [hg]; exact (below_size (by repeat ((with_reducible exact HB.out)))) : w.heap.size ≤ gb587)); clear HB; have HB := n0_; have BK587 := n1_; have GW587 := n2_; have GE587 := n3_; clear n0_ n1_ n2_ n3_; clear hb hbox hg) | ((with_reducible refine gate_callee (f := 94) rfl ?_); refine goesL_ (some 21) rfl rfl Try.func94 (by kernel_rfl) rfl #[.int .i64 (Int.tmod a1 a2)] rfl (by (try simp only [List.map_toArray, List.map_cons, List.map_nil]); rfl) ?_; (with_reducible refine (value_Of.calls (Int.tmod a1 a2) t591 t592 t593 _ A13.out).mono ?_); rintro e w15 ⟨rfl, hb⟩; refine ⟨_, rfl, ?_⟩; have n0_ := Aside0.mk (blk_below (g := gb587) (o := .cells #[.int .u8 0, .int .i64 0, .string (⟨#[]⟩ : ByteArray)] 37 (0, 0)) (by (with_reducible repeat (fail)); exact BK587.out) hb); have n1_ := Aside0.mk (below_step (by repeat ((with_reducible exact HB.out))) hb); clear BK587; clear HB; have BK587 := n0_; have HB := n1_; clear n0_ n1_; (try clear hb); have hcz16_0 : w15.cell? ⟨gb587, 0, none⟩ = some (.int .u8 0) := (blk_cell BK587.out 0).trans rfl; have hcz16_1 : w15.cell? ⟨gb587, 1, none⟩ = some (.int .i64 0) := (blk_cell BK587.out 1).trans rfl; have hcz16_2 : w15.cell? ⟨gb587, 2, none⟩ = some (.string (⟨#[]⟩ : ByteArray)) := (blk_cell BK587.out 2).trans rfl; have hfz16_0 := blk_frozen BK587.out 0; have hfz16_1 := blk_frozen BK587.out 1; have hfz16_2 := blk_frozen BK587.out 2))
    refine bodyPost_ret (results_ct rfl _ _ gb587 37 #[.int .u8 t591, .int .i64 t592, .string t593] (0, 0) _ rfl (by (with_reducible repeat (fail)); refine blk_put (cs := #[.int .u8 t591, .int .i64 t592, .string (⟨#[]⟩ : ByteArray)]) ?_ 2 _ rfl; (with_reducible repeat (fail)); refine blk_put (cs := #[.int .u8 t591, .int .i64 0, .string (⟨#[]⟩ : ByteArray)]) ?_ 1 _ rfl; (with_reducible repeat (fail)); refine blk_put (cs := #[.int .u8 0, .int .i64 0, .string (⟨#[]⟩ : ByteArray)]) ?_ 0 _ rfl; (with_reducible repeat (fail)); exact BK587.out) Try.underlying37 rfl (by kernel_rfl)) rfl ?_
    exact ⟨by rfl, by repeat ((with_reducible first | exact HB.out | refine below_set ?_ GE587.out))⟩
  rw [if_neg c7] at H
  have c7b0 : (a0.toList == ([37] : List UInt8)) = false := beq_eq_false_iff_ne.mpr c7
  have c7b1 : (a0.toList != ([37] : List UInt8)) = true := bne_iff_ne.mpr c7
  by_cases c17 : a1 = (-9223372036854775808)
  · rw [if_pos c17] at H
    have c17b0 : (a1 == (-9223372036854775808)) = true := beq_iff_eq.mpr c17
    have c17b1 : (a1 != (-9223372036854775808)) = false := bne_eq_false_iff_eq.mpr c17
    clear c17
    by_cases c18 : a2 = (-1)
    · rw [if_pos c18] at H
      have c18b0 : (a2 == (-1)) = true := beq_iff_eq.mpr c18
      have c18b1 : (a2 != (-1)) = false := bne_eq_false_iff_eq.mpr c18
      clear c18
      simp only [Option.some.injEq, Prod.mk.injEq] at H
      obtain ⟨rfl, rfl, rfl, rfl⟩ := H
      go_enter Try.func105, Try.ntmps105
      go_wp2_with (((with_reducible refine gate_dst (N := 6) rfl ?_); refine box_event ?hg (N := 6) ?hd (cs := #[.int .u8 0, .int .i64 0, .string (⟨#[]⟩ : ByteArray)]) (t := 37) ?hr ?_; (case hd => rfl); (case hg => rfl); (case hr => ((go_simp; done))); intro gb587 hg w19 hbox hb; have n0_ := Aside0.mk (below_step (by repeat ((with_reducible exact HB.out))) hb); have n1_ := Aside0.mk (hbox); have n2_ := Aside0.mk ((by rw [hg]; exact (below_size (by repeat ((with_reducible exact HB.out)))) : w.heap.size ≤ gb587)); have n3_ := Aside0.mk ((by rw [hg]; exact (below_size (by repeat ((with_reducible exact HB.out)))) : w.heap.size ≤ gb587)); clear HB; have HB := n0_; have BK587 := n1_; have GW587 := n2_; have GE587 := n3_; clear n0_ n1_ n2_ n3_; clear hb hbox hg; have hcz20_0 : w19.cell? ⟨gb587, 0, none⟩ = some (.int .u8 0) := (blk_cell BK587.out 0).trans rfl; have hcz20_1 : w19.cell? ⟨gb587, 1, none⟩ = some (.int .i64 0) := (blk_cell BK587.out 1).trans rfl; have hcz20_2 : w19.cell? ⟨gb587, 2, none⟩ = some (.string (⟨#[]⟩ : ByteArray)) := (blk_cell BK587.out 2).trans rfl; have hfz20_0 := blk_frozen BK587.out 0; have hfz20_1 := blk_frozen BK587.out 1; have hfz20_2 := blk_frozen BK587.out 2))
      refine bodyPost_ret (results_ct rfl _ _ gb587 37 #[.int .u8 0, .int .i64 0, .string (⟨#[]⟩ : ByteArray)] (0, 0) _ rfl (by (with_reducible repeat (fail)); refine blk_put (cs := #[.int .u8 0, .int .i64 0, .string (⟨#[]⟩ : ByteArray)]) ?_ 2 _ rfl; (with_reducible repeat (fail)); refine blk_put (cs := #[.int .u8 0, .int .i64 0, .string (⟨#[]⟩ : ByteArray)]) ?_ 1 _ rfl; (with_reducible repeat (fail)); refine blk_put (cs := #[.int .u8 0, .int .i64 0, .string (⟨#[]⟩ : ByteArray)]) ?_ 0 _ rfl; (with_reducible repeat (fail)); exact BK587.out) Try.underlying37 rfl (by kernel_rfl)) rfl ?_
      exact ⟨by rfl, by repeat ((with_reducible first | exact HB.out | refine below_set ?_ GE587.out))⟩
    rw [if_neg c18] at H
    have c18b0 : (a2 == (-1)) = false := beq_eq_false_iff_ne.mpr c18
    have c18b1 : (a2 != (-1)) = true := bne_iff_ne.mpr c18
    replace H := Option.bind_eq_some_iff.mp H
    obtain ⟨⟨t594, t595, t596⟩, A210, H⟩ := H
    replace H : (some (t594, t595, t596, 0)) = some (r1, r2, r3, r4) := H
    have A21 := Aside0.mk A210
    clear A210
    simp only [Option.some.injEq, Prod.mk.injEq] at H
    obtain ⟨rfl, rfl, rfl, rfl⟩ := H
    go_enter Try.func105, Try.ntmps105
    go_wp2_with (first | ((with_reducible refine gate_dst (N := 6) rfl ?_); refine box_event ?hg (N := 6) ?hd (cs := #[.int .u8 0, .int .i64 0, .string (⟨#[]⟩ : ByteArray)]) (t := 37) ?hr ?_; (case hd => rfl); (case hg => rfl); (case hr => ((go_simp; done))); intro gb587 hg w22 hbox hb; have n0_ := Aside0.mk (below_step (by repeat ((with_reducible exact HB.out))) hb); have n1_ := Aside0.mk (hbox); have n2_ := Aside0.mk ((by rw [hg]; exact (below_size (by repeat ((with_reducible exact HB.out)))) : w.heap.size ≤ gb587)); have n3_ := Aside0.mk ((by rw [hg]; exact (below_size (by repeat ((with_reducible exact HB.out)))) : w.heap.size ≤ gb587)); clear HB; have HB := n0_; have BK587 := n1_; have GW587 := n2_; have GE587 := n3_; clear n0_ n1_ n2_ n3_; clear hb hbox hg) | ((with_reducible refine gate_callee (f := 94) rfl ?_); refine goesL_ (some 33) rfl rfl Try.func94 (by kernel_rfl) rfl #[.int .i64 (wrap64 (Int.tdiv a1 a2))] rfl (by (try simp only [List.map_toArray, List.map_cons, List.map_nil]); rfl) ?_; (with_reducible refine (value_Of.calls (wrap64 (Int.tdiv a1 a2)) t594 t595 t596 _ A21.out).mono ?_); rintro e w23 ⟨rfl, hb⟩; refine ⟨_, rfl, ?_⟩; have n0_ := Aside0.mk (blk_below (g := gb587) (o := .cells #[.int .u8 0, .int .i64 0, .string (⟨#[]⟩ : ByteArray)] 37 (0, 0)) (by (with_reducible repeat (fail)); exact BK587.out) hb); have n1_ := Aside0.mk (below_step (by repeat ((with_reducible exact HB.out))) hb); clear BK587; clear HB; have BK587 := n0_; have HB := n1_; clear n0_ n1_; (try clear hb); have hcz24_0 : w23.cell? ⟨gb587, 0, none⟩ = some (.int .u8 0) := (blk_cell BK587.out 0).trans rfl; have hcz24_1 : w23.cell? ⟨gb587, 1, none⟩ = some (.int .i64 0) := (blk_cell BK587.out 1).trans rfl; have hcz24_2 : w23.cell? ⟨gb587, 2, none⟩ = some (.string (⟨#[]⟩ : ByteArray)) := (blk_cell BK587.out 2).trans rfl; have hfz24_0 := blk_frozen BK587.out 0; have hfz24_1 := blk_frozen BK587.out 1; have hfz24_2 := blk_frozen BK587.out 2))
    refine bodyPost_ret (results_ct rfl _ _ gb587 37 #[.int .u8 t594, .int .i64 t595, .string t596] (0, 0) _ rfl (by (with_reducible repeat (fail)); refine blk_put (cs := #[.int .u8 t594, .int .i64 t595, .string (⟨#[]⟩ : ByteArray)]) ?_ 2 _ rfl; (with_reducible repeat (fail)); refine blk_put (cs := #[.int .u8 t594, .int .i64 0, .string (⟨#[]⟩ : ByteArray)]) ?_ 1 _ rfl; (with_reducible repeat (fail)); refine blk_put (cs := #[.int .u8 0, .int .i64 0, .string (⟨#[]⟩ : ByteArray)]) ?_ 0 _ rfl; (with_reducible repeat (fail)); exact BK587.out) Try.underlying37 rfl (by kernel_rfl)) rfl ?_
    exact ⟨by rfl, by repeat ((with_reducible first | exact HB.out | refine below_set ?_ GE587.out))⟩
  rw [if_neg c17] at H
  have c17b0 : (a1 == (-9223372036854775808)) = false := beq_eq_false_iff_ne.mpr c17
  have c17b1 : (a1 != (-9223372036854775808)) = true := bne_iff_ne.mpr c17
  replace H := Option.bind_eq_some_iff.mp H
  obtain ⟨⟨t597, t598, t599⟩, A250, H⟩ := H
  replace H : (some (t597, t598, t599, 0)) = some (r1, r2, r3, r4) := H
  have A25 := Aside0.mk A250
  clear A250
  simp only [Option.some.injEq, Prod.mk.injEq] at H
  obtain ⟨rfl, rfl, rfl, rfl⟩ := H
  go_enter Try.func105, Try.ntmps105
  go_wp2_with (first | ((with_reducible refine gate_dst (N := 6) rfl ?_); refine box_event ?hg (N := 6) ?hd (cs := #[.int .u8 0, .int .i64 0, .string (⟨#[]⟩ : ByteArray)]) (t := 37) ?hr ?_; (case hd => rfl); (case hg => rfl); (case hr => ((go_simp; done))); intro gb587 hg w26 hbox hb; have n0_ := Aside0.mk (below_step (by repeat ((with_reducible exact HB.out))) hb); have n1_ := Aside0.mk (hbox); have n2_ := Aside0.mk ((by rw [hg]; exact (below_size (by repeat ((with_reducible exact HB.out)))) : w.heap.size ≤ gb587)); have n3_ := Aside0.mk ((by rw [hg]; exact (below_size (by repeat ((with_reducible exact HB.out)))) : w.heap.size ≤ gb587)); clear HB; have HB := n0_; have BK587 := n1_; have GW587 := n2_; have GE587 := n3_; clear n0_ n1_ n2_ n3_; clear hb hbox hg) | ((with_reducible refine gate_callee (f := 94) rfl ?_); refine goesL_ (some 33) rfl rfl Try.func94 (by kernel_rfl) rfl #[.int .i64 (wrap64 (Int.tdiv a1 a2))] rfl (by (try simp only [List.map_toArray, List.map_cons, List.map_nil]); rfl) ?_; (with_reducible refine (value_Of.calls (wrap64 (Int.tdiv a1 a2)) t597 t598 t599 _ A25.out).mono ?_); rintro e w27 ⟨rfl, hb⟩; refine ⟨_, rfl, ?_⟩; have n0_ := Aside0.mk (blk_below (g := gb587) (o := .cells #[.int .u8 0, .int .i64 0, .string (⟨#[]⟩ : ByteArray)] 37 (0, 0)) (by (with_reducible repeat (fail)); exact BK587.out) hb); have n1_ := Aside0.mk (below_step (by repeat ((with_reducible exact HB.out))) hb); clear BK587; clear HB; have BK587 := n0_; have HB := n1_; clear n0_ n1_; (try clear hb); have hcz28_0 : w27.cell? ⟨gb587, 0, none⟩ = some (.int .u8 0) := (blk_cell BK587.out 0).trans rfl; have hcz28_1 : w27.cell? ⟨gb587, 1, none⟩ = some (.int .i64 0) := (blk_cell BK587.out 1).trans rfl; have hcz28_2 : w27.cell? ⟨gb587, 2, none⟩ = some (.string (⟨#[]⟩ : ByteArray)) := (blk_cell BK587.out 2).trans rfl; have hfz28_0 := blk_frozen BK587.out 0; have hfz28_1 := blk_frozen BK587.out 1; have hfz28_2 := blk_frozen BK587.out 2))
  refine bodyPost_ret (results_ct rfl _ _ gb587 37 #[.int .u8 t597, .int .i64 t598, .string t599] (0, 0) _ rfl (by (with_reducible repeat (fail)); refine blk_put (cs := #[.int .u8 t597, .int .i64 t598, .string (⟨#[]⟩ : ByteArray)]) ?_ 2 _ rfl; (with_reducible repeat (fail)); refine blk_put (cs := #[.int .u8 t597, .int .i64 0, .string (⟨#[]⟩ : ByteArray)]) ?_ 1 _ rfl; (with_reducible repeat (fail)); refine blk_put (cs := #[.int .u8 0, .int .i64 0, .string (⟨#[]⟩ : ByteArray)]) ?_ 0 _ rfl; (with_reducible repeat (fail)); exact BK587.out) Try.underlying37 rfl (by kernel_rfl)) rfl ?_
  exact ⟨by rfl, by repeat ((with_reducible first | exact HB.out | refine below_set ?_ GE587.out))⟩

end Go.Proofs.Ytjkjbfhhfdbnoaa.PB
