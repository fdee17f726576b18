-- Own text: made by this session's variant of the printer (wip/mkpp.py); Lean checks it.
import Derived.Test.YtjkjbfhhfdbnoaaPBx0
import Derived.Test.YtjkjbfhhfdbnoaaPBx1
import Derived.Test.YtjkjbfhhfdbnoaaPBx19
import Derived.Test.YtjkjbfhhfdbnoaaPBx21
namespace Go.Proofs.Ytjkjbfhhfdbnoaa.PB
open Go.RowKit Go.Proofs.YtjkjbfhhfdbnoaaW.PrintWords Go.Proofs.YtjkjbfhhfdbnoaaW.PrintLast Go.Proofs.YtjkjbfhhfdbnoaaW.PrintMore Go.Proofs.YtjkjbfhhfdbnoaaW.Own
attribute [local go_sem high] own_gtr own_leq own_geq
attribute [local go_sem] max2_int min2_int max_two min_two max_three min_three max_four min_four   -- for this text's walks alone
set_option linter.unusedVariables false
set_option linter.unusedSimpArgs false

attribute [local go_sem high] eqA37
/-! ### value_Two: function 79 -/
mutual
def value_Two.j0 : Nat → ByteArray → Bool → Int → Int → ByteArray → Int → Int → ByteArray → Option (Int × Int × ByteArray × Int)
  | 0, _, _, _, _, _, _, _, _ => none
  | k + 1, x0, x8, x656000, x656001, x656002, x657000, x657001, x657002 => if x0.toList = ([43] : List UInt8) then (value_Two.j1 k x0 x8 x0 (x0.toList == ([43] : List UInt8)) x656000 x656001 x656002 x657000 x657001 x657002) else (if x0.toList = ([45] : List UInt8) then (value_Two.j1 k x0 x8 x0 (x0.toList == ([45] : List UInt8)) x656000 x656001 x656002 x657000 x657001 x657002) else (if x0.toList = ([42] : List UInt8) then (value_Two.j1 k x0 x8 x0 (x0.toList == ([42] : List UInt8)) x656000 x656001 x656002 x657000 x657001 x657002) else (if x0.toList = ([47] : List UInt8) then (value_Two.j1 k x0 x8 x0 (x0.toList == ([47] : List UInt8)) x656000 x656001 x656002 x657000 x657001 x657002) else (if x0.toList = ([37] : List UInt8) then (value_Two.j1 k x0 x8 x0 (x0.toList == ([37] : List UInt8)) x656000 x656001 x656002 x657000 x657001 x657002) else (if x0.toList = ([97, 110, 100] : List UInt8) then (value_Two.j1 k x0 x8 x0 (x0.toList == ([97, 110, 100] : List UInt8)) x656000 x656001 x656002 x657000 x657001 x657002) else (if x0.toList = ([111, 114] : List UInt8) then (value_Two.j1 k x0 x8 x0 (x0.toList == ([111, 114] : List UInt8)) x656000 x656001 x656002 x657000 x657001 x657002) else (if x0.toList = ([120, 111, 114] : List UInt8) then (value_Two.j1 k x0 x8 x0 (x0.toList == ([120, 111, 114] : List UInt8)) x656000 x656001 x656002 x657000 x657001 x657002) else (if x0.toList = ([115, 104, 108] : List UInt8) then (value_Two.j1 k x0 x8 x0 (x0.toList == ([115, 104, 108] : List UInt8)) x656000 x656001 x656002 x657000 x657001 x657002) else (if x0.toList = ([115, 104, 114] : List UInt8) then (value_Two.j1 k x0 x8 x0 (x0.toList == ([115, 104, 114] : List UInt8)) x656000 x656001 x656002 x657000 x657001 x657002) else (value_Two.j1 k x0 x8 x0 (x0.toList == ([117, 115, 104, 114] : List UInt8)) x656000 x656001 x656002 x657000 x657001 x657002))))))))))
def value_Two.j1 : Nat → ByteArray → Bool → ByteArray → Bool → Int → Int → ByteArray → Int → Int → ByteArray → Option (Int × Int × ByteArray × Int)
  | 0, _, _, _, _, _, _, _, _, _, _ => none
  | k + 1, x0, x8, x17, x19, x656000, x656001, x656002, x657000, x657001, x657002 => if x19 = true then (if x8 = true then ((value_ints.f k x0 x656001 x657001).bind fun bt658 => (some (bt658.1, bt658.2.1, bt658.2.2.1, bt658.2.2.2))) else (some (0, 0, (⟨#[]⟩ : ByteArray), 2))) else (if x17.toList = ([60] : List UInt8) then (if x8 = true then (value_Two.j2 k true x656000 x656001 x656002 x657000 x657001 x657002) else (if x656000 = 3 then (value_Two.j2 k (x657000 == 3) x656000 x656001 x656002 x657000 x657001 x657002) else (value_Two.j2 k false x656000 x656001 x656002 x657000 x657001 x657002))) else (if x17.toList = ([61] : List UInt8) then (if x656000 = x657000 then (if x656000 ≤ 3 then ((value_Is.f (x656000 == x657000 && (x656001 == x657001 && (x656002.toList == x657002.toList)))).bind fun bt671 => (some (bt671.1, bt671.2.1, bt671.2.2, 0))) else (some (0, 0, (⟨#[]⟩ : ByteArray), 2))) else (some (0, 0, (⟨#[]⟩ : ByteArray), 2))) else (if x17.toList = ([99, 97, 116] : List UInt8) then (value_Two.j3 k x0 (x17.toList == ([99, 97, 116] : List UInt8)) x656000 x656001 x656002 x657000 x657001 x657002) else (value_Two.j3 k x0 (x17.toList == ([97, 116] : List UInt8)) x656000 x656001 x656002 x657000 x657001 x657002))))
def value_Two.j2 : Nat → Bool → Int → Int → ByteArray → Int → Int → ByteArray → Option (Int × Int × ByteArray × Int)
  | 0, _, _, _, _, _, _, _ => none
  | k + 1, x52, x656000, x656001, x656002, x657000, x657001, x657002 => if x52 = true then ((cmp_Compare_int64.f x656001 x657001).bind fun t662 => ((cmp_Compare_string.f x656002 x657002).bind fun t663 => ((cmp_Or_int.f k (([t662, t663] : List Int))).bind fun t667 => ((value_Is.f (decide (t667 < 0))).bind fun bt668 => (some (bt668.1, bt668.2.1, bt668.2.2, 0)))))) else (some (0, 0, (⟨#[]⟩ : ByteArray), 2))
def value_Two.j3 : Nat → ByteArray → Bool → Int → Int → ByteArray → Int → Int → ByteArray → Option (Int × Int × ByteArray × Int)
  | 0, _, _, _, _, _, _, _, _ => none
  | k + 1, x0, x83, x656000, x656001, x656002, x657000, x657001, x657002 => if x83 = true then (if x656000 = 3 then (if x0.toList = ([99, 97, 116] : List UInt8) then (if x657000 = 3 then (value_Two.j4 k x0 true x656000 x656001 x656002 x657000 x657001 x657002) else (if x0.toList = ([97, 116] : List UInt8) then (value_Two.j4 k x0 (x657000 == 1) x656000 x656001 x656002 x657000 x657001 x657002) else (value_Two.j4 k x0 false x656000 x656001 x656002 x657000 x657001 x657002))) else (if x0.toList = ([97, 116] : List UInt8) then (value_Two.j4 k x0 (x657000 == 1) x656000 x656001 x656002 x657000 x657001 x657002) else (value_Two.j4 k x0 false x656000 x656001 x656002 x657000 x657001 x657002))) else (value_Two.j4 k x0 false x656000 x656001 x656002 x657000 x657001 x657002)) else (some (0, 0, (⟨#[]⟩ : ByteArray), 1))
def value_Two.j4 : Nat → ByteArray → Bool → Int → Int → ByteArray → Int → Int → ByteArray → Option (Int × Int × ByteArray × Int)
  | 0, _, _, _, _, _, _, _, _ => none
  | k + 1, x0, x106, x656000, x656001, x656002, x657000, x657001, x657002 => if x106 = true then ((value_texts.f x0 x656000 x656001 x656002 x657000 x657001 x657002).bind fun bt674 => (some (bt674.1, bt674.2.1, bt674.2.2.1, bt674.2.2.2))) else (some (0, 0, (⟨#[]⟩ : ByteArray), 2))
end
def value_Two.f (k : Nat) (a0 : ByteArray) (a1_0 : Int) (a1_1 : Int) (a1_2 : ByteArray) (a2_0 : Int) (a2_1 : Int) (a2_2 : ByteArray) : Option (Int × Int × ByteArray × Int) := if a1_0 = 1 then (value_Two.j0 k a0 (a2_0 == 1) a1_0 a1_1 a1_2 a2_0 a2_1 a2_2) else (value_Two.j0 k a0 false a1_0 a1_1 a1_2 a2_0 a2_1 a2_2)
theorem value_Two.mono_l : ∀ k, (∀ y0 y1 y2 y3 y4 y5 y6 y7, LeO (value_Two.j0 k y0 y1 y2 y3 y4 y5 y6 y7) (value_Two.j0 (k + 1) y0 y1 y2 y3 y4 y5 y6 y7)) ∧ (∀ y0 y1 y2 y3 y4 y5 y6 y7 y8 y9, LeO (value_Two.j1 k y0 y1 y2 y3 y4 y5 y6 y7 y8 y9) (value_Two.j1 (k + 1) y0 y1 y2 y3 y4 y5 y6 y7 y8 y9)) ∧ (∀ y0 y1 y2 y3 y4 y5 y6, LeO (value_Two.j2 k y0 y1 y2 y3 y4 y5 y6) (value_Two.j2 (k + 1) y0 y1 y2 y3 y4 y5 y6)) ∧ (∀ y0 y1 y2 y3 y4 y5 y6 y7, LeO (value_Two.j3 k y0 y1 y2 y3 y4 y5 y6 y7) (value_Two.j3 (k + 1) y0 y1 y2 y3 y4 y5 y6 y7)) ∧ (∀ y0 y1 y2 y3 y4 y5 y6 y7, LeO (value_Two.j4 k y0 y1 y2 y3 y4 y5 y6 y7) (value_Two.j4 (k + 1) y0 y1 y2 y3 y4 y5 y6 y7))
  | 0 => ⟨fun _ _ _ _ _ _ _ _ r h => by simp [value_Two.j0] at h, fun _ _ _ _ _ _ _ _ _ _ r h => by simp [value_Two.j1] at h, fun _ _ _ _ _ _ _ r h => by simp [value_Two.j2] at h, fun _ _ _ _ _ _ _ _ r h => by simp [value_Two.j3] at h, fun _ _ _ _ _ _ _ _ r h => by simp [value_Two.j4] at h⟩
  | k + 1 => by
    obtain ⟨ih0, ih1, ih2, ih3, ih4⟩ := value_Two.mono_l k
    refine ⟨?_, ?_, ?_, ?_, ?_⟩
    · intro y0 y1 y2 y3 y4 y5 y6 y7
      unfold value_Two.j0
      repeat' first
      | (with_reducible exact ih0 _ _ _ _ _ _ _ _)
      | (with_reducible exact ih1 _ _ _ _ _ _ _ _ _ _)
      | (with_reducible exact ih2 _ _ _ _ _ _ _)
      | (with_reducible exact ih3 _ _ _ _ _ _ _ _)
      | (with_reducible exact ih4 _ _ _ _ _ _ _ _)
      | (with_reducible exact cmp_Or_int.mono _ _)
      | (with_reducible exact value_ints.mono _ _ _ _)
      | (with_reducible exact LeO.refl _)
      | (with_reducible exact LeO.none _)
      | (with_reducible refine LeO.ite ?_ ?_)
      | (with_reducible refine LeO.bind ?_ (fun _ => ?_))
      | exact ih0 _ _ _ _ _ _ _ _
      | exact ih1 _ _ _ _ _ _ _ _ _ _
      | exact ih2 _ _ _ _ _ _ _
      | exact ih3 _ _ _ _ _ _ _ _
      | exact ih4 _ _ _ _ _ _ _ _
      | exact cmp_Or_int.mono _ _
      | exact value_ints.mono _ _ _ _
      | exact LeO.none _
      | refine LeO.ite ?_ ?_
      | refine LeO.bind ?_ (fun _ => ?_)
    · intro y0 y1 y2 y3 y4 y5 y6 y7 y8 y9
      unfold value_Two.j1
      repeat' first
      | (with_reducible exact ih0 _ _ _ _ _ _ _ _)
      | (with_reducible exact ih1 _ _ _ _ _ _ _ _ _ _)
      | (with_reducible exact ih2 _ _ _ _ _ _ _)
      | (with_reducible exact ih3 _ _ _ _ _ _ _ _)
      | (with_reducible exact ih4 _ _ _ _ _ _ _ _)
      | (with_reducible exact cmp_Or_int.mono _ _)
      | (with_reducible exact value_ints.mono _ _ _ _)
      | (with_reducible exact LeO.refl _)
      | (with_reducible exact LeO.none _)
      | (with_reducible refine LeO.ite ?_ ?_)
      | (with_reducible refine LeO.bind ?_ (fun _ => ?_))
      | exact ih0 _ _ _ _ _ _ _ _
      | exact ih1 _ _ _ _ _ _ _ _ _ _
      | exact ih2 _ _ _ _ _ _ _
      | exact ih3 _ _ _ _ _ _ _ _
      | exact ih4 _ _ _ _ _ _ _ _
      | exact cmp_Or_int.mono _ _
      | exact value_ints.mono _ _ _ _
      | exact LeO.none _
      | refine LeO.ite ?_ ?_
      | refine LeO.bind ?_ (fun _ => ?_)
    · intro y0 y1 y2 y3 y4 y5 y6
      unfold value_Two.j2
      repeat' first
      | (with_reducible exact ih0 _ _ _ _ _ _ _ _)
      | (with_reducible exact ih1 _ _ _ _ _ _ _ _ _ _)
      | (with_reducible exact ih2 _ _ _ _ _ _ _)
      | (with_reducible exact ih3 _ _ _ _ _ _ _ _)
      | (with_reducible exact ih4 _ _ _ _ _ _ _ _)
      | (with_reducible exact cmp_Or_int.mono _ _)
      | (with_reducible exact value_ints.mono _ _ _ _)
      | (with_reducible exact LeO.refl _)
      | (with_reducible exact LeO.none _)
      | (with_reducible refine LeO.ite ?_ ?_)
      | (with_reducible refine LeO.bind ?_ (fun _ => ?_))
      | exact ih0 _ _ _ _ _ _ _ _
      | exact ih1 _ _ _ _ _ _ _ _ _ _
      | exact ih2 _ _ _ _ _ _ _
      | exact ih3 _ _ _ _ _ _ _ _
      | exact ih4 _ _ _ _ _ _ _ _
      | exact cmp_Or_int.mono _ _
      | exact value_ints.mono _ _ _ _
      | exact LeO.none _
      | refine LeO.ite ?_ ?_
      | refine LeO.bind ?_ (fun _ => ?_)
    · intro y0 y1 y2 y3 y4 y5 y6 y7
      unfold value_Two.j3
      repeat' first
      | (with_reducible exact ih0 _ _ _ _ _ _ _ _)
      | (with_reducible exact ih1 _ _ _ _ _ _ _ _ _ _)
      | (with_reducible exact ih2 _ _ _ _ _ _ _)
      | (with_reducible exact ih3 _ _ _ _ _ _ _ _)
      | (with_reducible exact ih4 _ _ _ _ _ _ _ _)
      | (with_reducible exact cmp_Or_int.mono _ _)
      | (with_reducible exact value_ints.mono _ _ _ _)
      | (with_reducible exact LeO.refl _)
      | (with_reducible exact LeO.none _)
      | (with_reducible refine LeO.ite ?_ ?_)
      | (with_reducible refine LeO.bind ?_ (fun _ => ?_))
      | exact ih0 _ _ _ _ _ _ _ _
      | exact ih1 _ _ _ _ _ _ _ _ _ _
      | exact ih2 _ _ _ _ _ _ _
      | exact ih3 _ _ _ _ _ _ _ _
      | exact ih4 _ _ _ _ _ _ _ _
      | exact cmp_Or_int.mono _ _
      | exact value_ints.mono _ _ _ _
      | exact LeO.none _
      | refine LeO.ite ?_ ?_
      | refine LeO.bind ?_ (fun _ => ?_)
    · intro y0 y1 y2 y3 y4 y5 y6 y7
      unfold value_Two.j4
      repeat' first
      | (with_reducible exact ih0 _ _ _ _ _ _ _ _)
      | (with_reducible exact ih1 _ _ _ _ _ _ _ _ _ _)
      | (with_reducible exact ih2 _ _ _ _ _ _ _)
      | (with_reducible exact ih3 _ _ _ _ _ _ _ _)
      | (with_reducible exact ih4 _ _ _ _ _ _ _ _)
      | (with_reducible exact cmp_Or_int.mono _ _)
      | (with_reducible exact value_ints.mono _ _ _ _)
      | (with_reducible exact LeO.refl _)
      | (with_reducible exact LeO.none _)
      | (with_reducible refine LeO.ite ?_ ?_)
      | (with_reducible refine LeO.bind ?_ (fun _ => ?_))
      | exact ih0 _ _ _ _ _ _ _ _
      | exact ih1 _ _ _ _ _ _ _ _ _ _
      | exact ih2 _ _ _ _ _ _ _
      | exact ih3 _ _ _ _ _ _ _ _
      | exact ih4 _ _ _ _ _ _ _ _
      | exact cmp_Or_int.mono _ _
      | exact value_ints.mono _ _ _ _
      | exact LeO.none _
      | refine LeO.ite ?_ ?_
      | refine LeO.bind ?_ (fun _ => ?_)
theorem value_Two.mono : ∀ a0 a1 a2 a3 a4 a5 a6 k, LeO (value_Two.f k a0 a1 a2 a3 a4 a5 a6) (value_Two.f (k + 1) a0 a1 a2 a3 a4 a5 a6) := by
  intro a0 a1 a2 a3 a4 a5 a6 k
  obtain ⟨ih0, ih1, ih2, ih3, ih4⟩ := value_Two.mono_l k
  unfold value_Two.f
  repeat' first
      | (with_reducible exact ih0 _ _ _ _ _ _ _ _)
      | (with_reducible exact ih1 _ _ _ _ _ _ _ _ _ _)
      | (with_reducible exact ih2 _ _ _ _ _ _ _)
      | (with_reducible exact ih3 _ _ _ _ _ _ _ _)
      | (with_reducible exact ih4 _ _ _ _ _ _ _ _)
      | (with_reducible exact cmp_Or_int.mono _ _)
      | (with_reducible exact value_ints.mono _ _ _ _)
      | (with_reducible exact LeO.refl _)
      | (with_reducible exact LeO.none _)
      | (with_reducible refine LeO.ite ?_ ?_)
      | (with_reducible refine LeO.bind ?_ (fun _ => ?_))
      | exact ih0 _ _ _ _ _ _ _ _
      | exact ih1 _ _ _ _ _ _ _ _ _ _
      | exact ih2 _ _ _ _ _ _ _
      | exact ih3 _ _ _ _ _ _ _ _
      | exact ih4 _ _ _ _ _ _ _ _
      | exact cmp_Or_int.mono _ _
      | exact value_ints.mono _ _ _ _
      | exact LeO.none _
      | refine LeO.ite ?_ ?_
      | refine LeO.bind ?_ (fun _ => ?_)
def value_Two.T19 : Bool × List (List Nat × List Nat) := (true, [([], []), ([0], [0]), ([], []), ([2], [2]), ([1, 3], [1, 3]), ([], []), ([5], [5]), ([], []), ([7], [7]), ([6, 8, 4], [6, 8]), ([4, 9], [4, 9]), ([10, 9], [10]), ([11], [11]), ([12, 11], [12]), ([13, 13, 0, 1, 2, 3, 4, 5, 6, 7, 8, 9, 10, 11, 12, 13], [13]), ([14, 0, 1, 2, 3, 4, 5, 6, 7, 8, 9, 10, 11, 12, 13, 14], [])])
def value_Two.B19 : List Nat := [0, 1, 0, 4, 15, 0, 32, 0, 128, 511, 1023, 2047, 4095, 8191, 16383, 32767]
theorem value_Two.tab19 : rtab .any (opsOf Try.f79 19) = value_Two.T19 := by kernel_rfl
theorem value_Two.bits19 : waitsOk value_Two.T19.2 value_Two.B19 = true := by kernel_rfl
set_option maxHeartbeats 8000000 in
set_option maxRecDepth 100000 in
theorem value_Two.calls (k : Nat) (a0 : ByteArray) (a1_0 : Int) (a1_1 : Int) (a1_2 : ByteArray) (a2_0 : Int) (a2_1 : Int) (a2_2 : ByteArray) (r1 : Int) (r2 : Int) (r3 : ByteArray) (r4 : Int) (w : World) (h : value_Two.f k a0 a1_0 a1_1 a1_2 a2_0 a2_1 a2_2 = some (r1, r2, r3, r4)) :
    Calls Try.prog 79 #[.string a0, .agg #[.int .u8 a1_0, .int .i64 a1_1, .string a1_2], .agg #[.int .u8 a2_0, .int .i64 a2_1, .string a2_2]] w fun e w' => e = .returned (.tuple #[.agg #[.int .u8 r1, .int .i64 r2, .string r3], .int .i64 r4]) ∧ Below w.heap.size w w' := by
  have hu37 := Try.underlying37
  have HB := Aside0.mk (Below.refl w.heap.size w)
  have H : (if a1_0 = 1 then (value_Two.j0 k a0 (a2_0 == 1) a1_0 a1_1 a1_2 a2_0 a2_1 a2_2) else (value_Two.j0 k a0 false a1_0 a1_1 a1_2 a2_0 a2_1 a2_2)) = some (r1, r2, r3, r4) := h
  clear h
  have HC4 := Aside0.mk H
  clear H
  go_enter Try.func79, Try.ntmps79
  go_upto_region 1 with (first | ((with_reducible refine gate_dst (N := 4) rfl ?_); refine box_event ?hg (N := 4) ?hd (cs := #[.int .u8 a1_0, .int .i64 a1_1, .string a1_2]) (t := 37) ?hr ?_; (case hd => rfl); (case hg => rfl); (case hr => first | (go_simp; done) | (go_simp; rfl)); intro gb655 hg w5 hbox hb; have n0_ := Aside0.mk (below_step (by repeat (first | (with_reducible first | exact HB.out | apply below_alloc | apply pw_below_drewN | apply below_drew1) | exact HB.out)) hb); have n1_ := Aside0.mk (hbox); have n2_ := Aside0.mk ((by rw [hg]; exact (below_size (by repeat (first | (with_reducible first | exact HB.out | apply below_alloc | apply pw_below_drewN | apply below_drew1) | exact HB.out))) : w.heap.size ≤ gb655)); have n3_ := Aside0.mk ((by rw [hg]; exact (below_size (by repeat (first | (with_reducible first | exact HB.out | apply below_alloc | apply pw_below_drewN | apply below_drew1) | exact HB.out))) : w.heap.size ≤ gb655)); clear HB; have HB := n0_; have BK655 := n1_; have GW655 := n2_; have GE655 := n3_; clear n0_ n1_ n2_ n3_; clear hb hbox hg) | ((with_reducible refine gate_dst (N := 5) rfl ?_); refine box_event ?hg (N := 5) ?hd (cs := #[.int .u8 a2_0, .int .i64 a2_1, .string a2_2]) (t := 37) ?hr ?_; (case hd => rfl); (case hg => rfl); (case hr => first | (go_simp; done) | (go_simp; rfl)); intro gb656 hg w6 hbox hb; have n0_ := Aside0.mk (blk_below (g := gb655) (o := .cells #[.int .u8 a1_0, .int .i64 a1_1, .string a1_2] 37 (0, 0)) (by (with_reducible repeat (first | refine blk_drewN ?_ _ | refine blk_drew ?_ | refine blk_alloc ?_ _)); exact BK655.out) hb); have n1_ := Aside0.mk (below_step (by repeat (first | (with_reducible first | exact HB.out | apply below_alloc | apply pw_below_drewN | apply below_drew1 | refine below_set ?_ GE655.out) | exact HB.out)) hb); have n2_ := Aside0.mk (hbox); have n3_ := Aside0.mk ((by rw [hg]; exact (below_size (by repeat (first | (with_reducible first | exact HB.out | apply below_alloc | apply pw_below_drewN | apply below_drew1 | refine below_set ?_ GE655.out) | exact HB.out))) : w.heap.size ≤ gb656)); have n4_ := Aside0.mk ((by rw [hg]; exact (below_size (by repeat (first | (with_reducible first | exact HB.out | apply below_alloc | apply pw_below_drewN | apply below_drew1 | refine below_set ?_ GE655.out) | exact HB.out))) : w.heap.size ≤ gb656)); have n5_ := Aside0.mk ((by rw [hg]; exact Nat.ne_of_lt (blk_lt (g := gb655) (o := .cells #[.int .u8 a1_0, .int .i64 a1_1, .string a1_2] 37 (0, 0)) (by (with_reducible repeat (first | refine blk_drewN ?_ _ | refine blk_drew ?_ | refine blk_alloc ?_ _)); exact BK655.out)) : gb655 ≠ gb656)); have n6_ := Aside0.mk ((by rw [hg]; exact Nat.ne_of_gt (blk_lt (g := gb655) (o := .cells #[.int .u8 a1_0, .int .i64 a1_1, .string a1_2] 37 (0, 0)) (by (with_reducible repeat (first | refine blk_drewN ?_ _ | refine blk_drew ?_ | refine blk_alloc ?_ _)); exact BK655.out)) : gb656 ≠ gb655)); clear BK655; clear HB; have BK655 := n0_; have HB := n1_; have BK656 := n2_; have GW656 := n3_; have GE656 := n4_; have NB655_656 := n5_; have NB656_655 := n6_; clear n0_ n1_ n2_ n3_ n4_ n5_ n6_; clear hb hbox hg) | ((with_reducible refine gate_dst (N := 6) rfl ?_); refine box_event ?hg (N := 6) ?hd (cs := #[.int .u8 0, .int .i64 0, .string (⟨#[]⟩ : ByteArray)]) (t := 37) ?hr ?_; (case hd => rfl); (case hg => rfl); (case hr => first | (go_simp; done) | (go_simp; rfl)); intro gb657 hg w7 hbox hb; have n0_ := Aside0.mk (blk_below (g := gb655) (o := .cells #[.int .u8 a1_0, .int .i64 a1_1, .string a1_2] 37 (0, 0)) (by (with_reducible repeat (first | refine blk_drewN ?_ _ | refine blk_drew ?_ | refine blk_alloc ?_ _)); exact BK655.out) hb); have n1_ := Aside0.mk (blk_below (g := gb656) (o := .cells #[.int .u8 a2_0, .int .i64 a2_1, .string a2_2] 37 (0, 0)) (by (with_reducible repeat (first | refine blk_drewN ?_ _ | refine blk_drew ?_ | refine blk_alloc ?_ _)); exact BK656.out) hb); have n2_ := Aside0.mk (below_step (by repeat (first | (with_reducible first | exact HB.out | apply below_alloc | apply pw_below_drewN | apply below_drew1 | refine below_set ?_ GE655.out | refine below_set ?_ GE656.out) | exact HB.out)) hb); have n3_ := Aside0.mk (hbox); have n4_ := Aside0.mk ((by rw [hg]; exact (below_size (by repeat (first | (with_reducible first | exact HB.out | apply below_alloc | apply pw_below_drewN | apply below_drew1 | refine below_set ?_ GE655.out | refine below_set ?_ GE656.out) | exact HB.out))) : w.heap.size ≤ gb657)); have n5_ := Aside0.mk ((by rw [hg]; exact (below_size (by repeat (first | (with_reducible first | exact HB.out | apply below_alloc | apply pw_below_drewN | apply below_drew1 | refine below_set ?_ GE655.out | refine below_set ?_ GE656.out) | exact HB.out))) : w.heap.size ≤ gb657)); have n6_ := Aside0.mk ((by rw [hg]; exact Nat.ne_of_lt (blk_lt (g := gb655) (o := .cells #[.int .u8 a1_0, .int .i64 a1_1, .string a1_2] 37 (0, 0)) (by (with_reducible repeat (first | refine blk_drewN ?_ _ | refine blk_drew ?_ | refine blk_alloc ?_ _)); exact BK655.out)) : gb655 ≠ gb657)); have n7_ := Aside0.mk ((by rw [hg]; exact Nat.ne_of_gt (blk_lt (g := gb655) (o := .cells #[.int .u8 a1_0, .int .i64 a1_1, .string a1_2] 37 (0, 0)) (by (with_reducible repeat (first | refine blk_drewN ?_ _ | refine blk_drew ?_ | refine blk_alloc ?_ _)); exact BK655.out)) : gb657 ≠ gb655)); have n8_ := Aside0.mk ((by rw [hg]; exact Nat.ne_of_lt (blk_lt (g := gb656) (o := .cells #[.int .u8 a2_0, .int .i64 a2_1, .string a2_2] 37 (0, 0)) (by (with_reducible repeat (first | refine blk_drewN ?_ _ | refine blk_drew ?_ | refine blk_alloc ?_ _)); exact BK656.out)) : gb656 ≠ gb657)); have n9_ := Aside0.mk ((by rw [hg]; exact Nat.ne_of_gt (blk_lt (g := gb656) (o := .cells #[.int .u8 a2_0, .int .i64 a2_1, .string a2_2] 37 (0, 0)) (by (with_reducible repeat (first | refine blk_drewN ?_ _ | refine blk_drew ?_ | refine blk_alloc ?_ _)); exact BK656.out)) : gb657 ≠ gb656)); clear BK655; clear BK656; clear HB; have BK655 := n0_; have BK656 := n1_; have HB := n2_; have BK657 := n3_; have GW657 := n4_; have GE657 := n5_; have NB655_657 := n6_; have NB657_655 := n7_; have NB656_657 := n8_; have NB657_656 := n9_; clear n0_ n1_ n2_ n3_ n4_ n5_ n6_ n7_ n8_ n9_; clear hb hbox hg))
  (try simp only [Act.put, List.setIfInBounds_toArray, List.set_cons_zero, List.set_cons_succ])
  go_cut [8] (fun v8 wc => ∃ (kq : Nat) (x8_3 : Bool), v8 = .bool x8_3 ∧ Aside0 (value_Two.j0 kq a0 x8_3 a1_0 a1_1 a1_2 a2_0 a2_1 a2_2 = some (r1, r2, r3, r4)) ∧ Aside0 (kq ≤ k) ∧ Aside0 (wc.heap[gb655]? = some (.cells #[.int .u8 a1_0, .int .i64 a1_1, .string a1_2] 37 (0, 0))) ∧ Aside0 (wc.heap[gb656]? = some (.cells #[.int .u8 a2_0, .int .i64 a2_1, .string a2_2] 37 (0, 0))) ∧ Aside0 (wc.heap[gb657]? = some (.cells #[.int .u8 0, .int .i64 0, .string (⟨#[]⟩ : ByteArray)] 37 (0, 0))) ∧ Aside0 (Below w.heap.size w wc))
  case first =>
    have H := HC4.out
    clear HC4
    by_cases c8 : a1_0 = 1
    · rw [if_pos c8] at H
      have c8b0 : (a1_0 == 1) = true := beq_iff_eq.mpr c8
      have c8b1 : (a1_0 != 1) = false := bne_eq_false_iff_eq.mpr c8
      clear c8
      (first | rw [c8b0] | (simp only [i64_w, i32_w]; rw [c8b0]) | skip)
      have H' := Aside0.mk H
      clear H
      have hnb9 := NB655_656.out
      have hnc9 := NB656_655.out
      have hnb10 := NB655_657.out
      have hnc10 := NB657_655.out
      have hcz11_0 : w7.cell? ⟨gb655, 0, none⟩ = some (.int .u8 a1_0) := (blk_cell BK655.out 0).trans rfl
      have hcz11_1 : w7.cell? ⟨gb655, 1, none⟩ = some (.int .i64 a1_1) := (blk_cell BK655.out 1).trans rfl
      have hcz11_2 : w7.cell? ⟨gb655, 2, none⟩ = some (.string a1_2) := (blk_cell BK655.out 2).trans rfl
      have hfz11_0 := blk_frozen BK655.out 0
      have hfz11_1 := blk_frozen BK655.out 1
      have hfz11_2 := blk_frozen BK655.out 2
      have hnb12 := NB656_657.out
      have hnc12 := NB657_656.out
      have hcz13_0 : w7.cell? ⟨gb656, 0, none⟩ = some (.int .u8 a2_0) := (blk_cell BK656.out 0).trans rfl
      have hcz13_1 : w7.cell? ⟨gb656, 1, none⟩ = some (.int .i64 a2_1) := (blk_cell BK656.out 1).trans rfl
      have hcz13_2 : w7.cell? ⟨gb656, 2, none⟩ = some (.string a2_2) := (blk_cell BK656.out 2).trans rfl
      have hfz13_0 := blk_frozen BK656.out 0
      have hfz13_1 := blk_frozen BK656.out 1
      have hfz13_2 := blk_frozen BK656.out 2
      go_wp2
      go_meet
      case rel => exact ⟨_, ((a2_0 == 1)), (by first | rfl | (simp; done) | (simp [*]; done)), H', ⟨by first | omega | exact Nat.le_refl _⟩, ⟨by (with_reducible repeat (first | refine blk_drewN ?_ _ | refine blk_drew ?_ | refine blk_alloc ?_ _)); exact BK655.out⟩, ⟨by (with_reducible repeat (first | refine blk_drewN ?_ _ | refine blk_drew ?_ | refine blk_alloc ?_ _)); exact BK656.out⟩, ⟨by (with_reducible repeat (first | refine blk_drewN ?_ _ | refine blk_drew ?_ | refine blk_alloc ?_ _)); exact BK657.out⟩, ⟨by repeat (first | (with_reducible first | exact HB.out | apply below_alloc | apply pw_below_drewN | apply below_drew1 | refine below_set ?_ GE655.out | refine below_set ?_ GE656.out | refine below_set ?_ GE657.out) | exact HB.out)⟩⟩
    · rw [if_neg c8] at H
      have c8b0 : (a1_0 == 1) = false := beq_eq_false_iff_ne.mpr c8
      have c8b1 : (a1_0 != 1) = true := bne_iff_ne.mpr c8
      (first | rw [c8b0] | (simp only [i64_w, i32_w]; rw [c8b0]) | skip)
      have H' := Aside0.mk H
      clear H
      have hnb14 := NB655_656.out
      have hnc14 := NB656_655.out
      have hnb15 := NB655_657.out
      have hnc15 := NB657_655.out
      have hcz16_0 : w7.cell? ⟨gb655, 0, none⟩ = some (.int .u8 a1_0) := (blk_cell BK655.out 0).trans rfl
      have hcz16_1 : w7.cell? ⟨gb655, 1, none⟩ = some (.int .i64 a1_1) := (blk_cell BK655.out 1).trans rfl
      have hcz16_2 : w7.cell? ⟨gb655, 2, none⟩ = some (.string a1_2) := (blk_cell BK655.out 2).trans rfl
      have hfz16_0 := blk_frozen BK655.out 0
      have hfz16_1 := blk_frozen BK655.out 1
      have hfz16_2 := blk_frozen BK655.out 2
      go_wp2
      go_meet
      case rel => exact ⟨_, (false), (by first | rfl | (simp; done) | (simp [*]; done)), H', ⟨by first | omega | exact Nat.le_refl _⟩, ⟨by (with_reducible repeat (first | refine blk_drewN ?_ _ | refine blk_drew ?_ | refine blk_alloc ?_ _)); exact BK655.out⟩, ⟨by (with_reducible repeat (first | refine blk_drewN ?_ _ | refine blk_drew ?_ | refine blk_alloc ?_ _)); exact BK656.out⟩, ⟨by (with_reducible repeat (first | refine blk_drewN ?_ _ | refine blk_drew ?_ | refine blk_alloc ?_ _)); exact BK657.out⟩, ⟨by repeat (first | (with_reducible first | exact HB.out | apply below_alloc | apply pw_below_drewN | apply below_drew1 | refine below_set ?_ GE655.out | refine below_set ?_ GE656.out | refine below_set ?_ GE657.out) | exact HB.out)⟩⟩
  case rest =>
    clear HC4
    try clear c1
    try clear p2
    try clear c7
    try clear c8
    try clear c8b0
    try clear c8b1
    try clear c9
    try clear c10
    try clear c12
    try clear c14
    try clear c15
    try clear hcz11_0
    try clear hcz11_1
    try clear hcz11_2
    try clear hcz13_0
    try clear hcz13_1
    try clear hcz13_2
    try clear hcz16_0
    try clear hcz16_1
    try clear hcz16_2
    try clear hfz11_0
    try clear hfz11_1
    try clear hfz11_2
    try clear hfz13_0
    try clear hfz13_1
    try clear hfz13_2
    try clear hfz16_0
    try clear hfz16_1
    try clear hfz16_2
    obtain ⟨kq, x8_3, rfl, HA, HJ3, BK655, BK656, BK657, HB⟩ := hcut
    cases kq with
    | zero => exact absurd HA.out (by simp [value_Two.j0])
    | succ kj3 =>
      have H := HA.out
      clear HA
      simp only [value_Two.j0] at H
      have HC17 := Aside0.mk H
      clear H
      go_upto_if 19 with (fail)
      go_cut [19] (fun v19 wc => ∃ (kq : Nat) (x19_16 : Bool), v19 = .bool x19_16 ∧ Aside0 (value_Two.j1 kq a0 x8_3 a0 x19_16 a1_0 a1_1 a1_2 a2_0 a2_1 a2_2 = some (r1, r2, r3, r4)) ∧ Aside0 (kq ≤ kj3) ∧ Aside0 (wc.heap[gb655]? = some (.cells #[.int .u8 a1_0, .int .i64 a1_1, .string a1_2] 37 (0, 0))) ∧ Aside0 (wc.heap[gb656]? = some (.cells #[.int .u8 a2_0, .int .i64 a2_1, .string a2_2] 37 (0, 0))) ∧ Aside0 (wc.heap[gb657]? = some (.cells #[.int .u8 0, .int .i64 0, .string (⟨#[]⟩ : ByteArray)] 37 (0, 0))) ∧ Aside0 (Below w.heap.size w wc))
      case first =>
        have H := HC17.out
        clear HC17
        by_cases c18 : a0.toList = ([43] : List UInt8)
        · rw [if_pos c18] at H
          have c18b0 : (a0.toList == ([43] : List UInt8)) = true := beq_iff_eq.mpr c18
          have c18b1 : (a0.toList != ([43] : List UInt8)) = false := bne_eq_false_iff_eq.mpr c18
          clear c18
          (first | rw [c18b0] | (simp only [i64_w, i32_w]; rw [c18b0]) | skip)
          have H' := Aside0.mk H
          clear H
          go_wp2
          go_meet
          case rel => exact ⟨_, ((a0.toList == ([43] : List UInt8))), (by first | rfl | (simp; done) | (simp [*]; done)), H', ⟨by have := HJ3.out; first | omega | exact Nat.le_refl _⟩, ⟨by (with_reducible repeat (first | refine blk_drewN ?_ _ | refine blk_drew ?_ | refine blk_alloc ?_ _)); exact BK655.out⟩, ⟨by (with_reducible repeat (first | refine blk_drewN ?_ _ | refine blk_drew ?_ | refine blk_alloc ?_ _)); exact BK656.out⟩, ⟨by (with_reducible repeat (first | refine blk_drewN ?_ _ | refine blk_drew ?_ | refine blk_alloc ?_ _)); exact BK657.out⟩, ⟨by repeat (first | (with_reducible first | exact HB.out | apply below_alloc | apply pw_below_drewN | apply below_drew1 | refine below_set ?_ GE655.out | refine below_set ?_ GE656.out | refine below_set ?_ GE657.out) | exact HB.out)⟩⟩
        · rw [if_neg c18] at H
          have c18b0 : (a0.toList == ([43] : List UInt8)) = false := beq_eq_false_iff_ne.mpr c18
          have c18b1 : (a0.toList != ([43] : List UInt8)) = true := bne_iff_ne.mpr c18
          (first | rw [c18b0] | (simp only [i64_w, i32_w]; rw [c18b0]) | skip)
          by_cases c19 : a0.toList = ([45] : List UInt8)
          · rw [if_pos c19] at H
            have c19b0 : (a0.toList == ([45] : List UInt8)) = true := beq_iff_eq.mpr c19
            have c19b1 : (a0.toList != ([45] : List UInt8)) = false := bne_eq_false_iff_eq.mpr c19
            clear c19
            have H' := Aside0.mk H
            clear H
            go_wp2
            go_meet
            case rel => exact ⟨_, ((a0.toList == ([45] : List UInt8))), (by first | rfl | (simp; done) | (simp [*]; done)), H', ⟨by have := HJ3.out; first | omega | exact Nat.le_refl _⟩, ⟨by (with_reducible repeat (first | refine blk_drewN ?_ _ | refine blk_drew ?_ | refine blk_alloc ?_ _)); exact BK655.out⟩, ⟨by (with_reducible repeat (first | refine blk_drewN ?_ _ | refine blk_drew ?_ | refine blk_alloc ?_ _)); exact BK656.out⟩, ⟨by (with_reducible repeat (first | refine blk_drewN ?_ _ | refine blk_drew ?_ | refine blk_alloc ?_ _)); exact BK657.out⟩, ⟨by repeat (first | (with_reducible first | exact HB.out | apply below_alloc | apply pw_below_drewN | apply below_drew1 | refine below_set ?_ GE655.out | refine below_set ?_ GE656.out | refine below_set ?_ GE657.out) | exact HB.out)⟩⟩
          · rw [if_neg c19] at H
            have c19b0 : (a0.toList == ([45] : List UInt8)) = false := beq_eq_false_iff_ne.mpr c19
            have c19b1 : (a0.toList != ([45] : List UInt8)) = true := bne_iff_ne.mpr c19
            by_cases c20 : a0.toList = ([42] : List UInt8)
            · rw [if_pos c20] at H
              have c20b0 : (a0.toList == ([42] : List UInt8)) = true := beq_iff_eq.mpr c20
              have c20b1 : (a0.toList != ([42] : List UInt8)) = false := bne_eq_false_iff_eq.mpr c20
              clear c20
              have H' := Aside0.mk H
              clear H
              go_wp2
              go_meet
              case rel => exact ⟨_, ((a0.toList == ([42] : List UInt8))), (by first | rfl | (simp; done) | (simp [*]; done)), H', ⟨by have := HJ3.out; first | omega | exact Nat.le_refl _⟩, ⟨by (with_reducible repeat (first | refine blk_drewN ?_ _ | refine blk_drew ?_ | refine blk_alloc ?_ _)); exact BK655.out⟩, ⟨by (with_reducible repeat (first | refine blk_drewN ?_ _ | refine blk_drew ?_ | refine blk_alloc ?_ _)); exact BK656.out⟩, ⟨by (with_reducible repeat (first | refine blk_drewN ?_ _ | refine blk_drew ?_ | refine blk_alloc ?_ _)); exact BK657.out⟩, ⟨by repeat (first | (with_reducible first | exact HB.out | apply below_alloc | apply pw_below_drewN | apply below_drew1 | refine below_set ?_ GE655.out | refine below_set ?_ GE656.out | refine below_set ?_ GE657.out) | exact HB.out)⟩⟩
            · rw [if_neg c20] at H
              have c20b0 : (a0.toList == ([42] : List UInt8)) = false := beq_eq_false_iff_ne.mpr c20
              have c20b1 : (a0.toList != ([42] : List UInt8)) = true := bne_iff_ne.mpr c20
              by_cases c21 : a0.toList = ([47] : List UInt8)
              · rw [if_pos c21] at H
                have c21b0 : (a0.toList == ([47] : List UInt8)) = true := beq_iff_eq.mpr c21
                have c21b1 : (a0.toList != ([47] : List UInt8)) = false := bne_eq_false_iff_eq.mpr c21
                clear c21
                have H' := Aside0.mk H
                clear H
                go_wp2
                go_meet
                case rel => exact ⟨_, ((a0.toList == ([47] : List UInt8))), (by first | rfl | (simp; done) | (simp [*]; done)), H', ⟨by have := HJ3.out; first | omega | exact Nat.le_refl _⟩, ⟨by (with_reducible repeat (first | refine blk_drewN ?_ _ | refine blk_drew ?_ | refine blk_alloc ?_ _)); exact BK655.out⟩, ⟨by (with_reducible repeat (first | refine blk_drewN ?_ _ | refine blk_drew ?_ | refine blk_alloc ?_ _)); exact BK656.out⟩, ⟨by (with_reducible repeat (first | refine blk_drewN ?_ _ | refine blk_drew ?_ | refine blk_alloc ?_ _)); exact BK657.out⟩, ⟨by repeat (first | (with_reducible first | exact HB.out | apply below_alloc | apply pw_below_drewN | apply below_drew1 | refine below_set ?_ GE655.out | refine below_set ?_ GE656.out | refine below_set ?_ GE657.out) | exact HB.out)⟩⟩
              · rw [if_neg c21] at H
                have c21b0 : (a0.toList == ([47] : List UInt8)) = false := beq_eq_false_iff_ne.mpr c21
                have c21b1 : (a0.toList != ([47] : List UInt8)) = true := bne_iff_ne.mpr c21
                by_cases c22 : a0.toList = ([37] : List UInt8)
                · rw [if_pos c22] at H
                  have c22b0 : (a0.toList == ([37] : List UInt8)) = true := beq_iff_eq.mpr c22
                  have c22b1 : (a0.toList != ([37] : List UInt8)) = false := bne_eq_false_iff_eq.mpr c22
                  clear c22
                  have H' := Aside0.mk H
                  clear H
                  go_wp2
                  go_meet
                  case rel => exact ⟨_, ((a0.toList == ([37] : List UInt8))), (by first | rfl | (simp; done) | (simp [*]; done)), H', ⟨by have := HJ3.out; first | omega | exact Nat.le_refl _⟩, ⟨by (with_reducible repeat (first | refine blk_drewN ?_ _ | refine blk_drew ?_ | refine blk_alloc ?_ _)); exact BK655.out⟩, ⟨by (with_reducible repeat (first | refine blk_drewN ?_ _ | refine blk_drew ?_ | refine blk_alloc ?_ _)); exact BK656.out⟩, ⟨by (with_reducible repeat (first | refine blk_drewN ?_ _ | refine blk_drew ?_ | refine blk_alloc ?_ _)); exact BK657.out⟩, ⟨by repeat (first | (with_reducible first | exact HB.out | apply below_alloc | apply pw_below_drewN | apply below_drew1 | refine below_set ?_ GE655.out | refine below_set ?_ GE656.out | refine below_set ?_ GE657.out) | exact HB.out)⟩⟩
                · rw [if_neg c22] at H
                  have c22b0 : (a0.toList == ([37] : List UInt8)) = false := beq_eq_false_iff_ne.mpr c22
                  have c22b1 : (a0.toList != ([37] : List UInt8)) = true := bne_iff_ne.mpr c22
                  by_cases c23 : a0.toList = ([97, 110, 100] : List UInt8)
                  · rw [if_pos c23] at H
                    have c23b0 : (a0.toList == ([97, 110, 100] : List UInt8)) = true := beq_iff_eq.mpr c23
                    have c23b1 : (a0.toList != ([97, 110, 100] : List UInt8)) = false := bne_eq_false_iff_eq.mpr c23
                    clear c23
                    have H' := Aside0.mk H
                    clear H
                    go_wp2
                    go_meet
                    case rel => exact ⟨_, ((a0.toList == ([97, 110, 100] : List UInt8))), (by first | rfl | (simp; done) | (simp [*]; done)), H', ⟨by have := HJ3.out; first | omega | exact Nat.le_refl _⟩, ⟨by (with_reducible repeat (first | refine blk_drewN ?_ _ | refine blk_drew ?_ | refine blk_alloc ?_ _)); exact BK655.out⟩, ⟨by (with_reducible repeat (first | refine blk_drewN ?_ _ | refine blk_drew ?_ | refine blk_alloc ?_ _)); exact BK656.out⟩, ⟨by (with_reducible repeat (first | refine blk_drewN ?_ _ | refine blk_drew ?_ | refine blk_alloc ?_ _)); exact BK657.out⟩, ⟨by repeat (first | (with_reducible first | exact HB.out | apply below_alloc | apply pw_below_drewN | apply below_drew1 | refine below_set ?_ GE655.out | refine below_set ?_ GE656.out | refine below_set ?_ GE657.out) | exact HB.out)⟩⟩
                  · rw [if_neg c23] at H
                    have c23b0 : (a0.toList == ([97, 110, 100] : List UInt8)) = false := beq_eq_false_iff_ne.mpr c23
                    have c23b1 : (a0.toList != ([97, 110, 100] : List UInt8)) = true := bne_iff_ne.mpr c23
                    by_cases c24 : a0.toList = ([111, 114] : List UInt8)
                    · rw [if_pos c24] at H
                      have c24b0 : (a0.toList == ([111, 114] : List UInt8)) = true := beq_iff_eq.mpr c24
                      have c24b1 : (a0.toList != ([111, 114] : List UInt8)) = false := bne_eq_false_iff_eq.mpr c24
                      clear c24
                      have H' := Aside0.mk H
                      clear H
                      go_wp2
                      go_meet
                      case rel => exact ⟨_, ((a0.toList == ([111, 114] : List UInt8))), (by first | rfl | (simp; done) | (simp [*]; done)), H', ⟨by have := HJ3.out; first | omega | exact Nat.le_refl _⟩, ⟨by (with_reducible repeat (first | refine blk_drewN ?_ _ | refine blk_drew ?_ | refine blk_alloc ?_ _)); exact BK655.out⟩, ⟨by (with_reducible repeat (first | refine blk_drewN ?_ _ | refine blk_drew ?_ | refine blk_alloc ?_ _)); exact BK656.out⟩, ⟨by (with_reducible repeat (first | refine blk_drewN ?_ _ | refine blk_drew ?_ | refine blk_alloc ?_ _)); exact BK657.out⟩, ⟨by repeat (first | (with_reducible first | exact HB.out | apply below_alloc | apply pw_below_drewN | apply below_drew1 | refine below_set ?_ GE655.out | refine below_set ?_ GE656.out | refine below_set ?_ GE657.out) | exact HB.out)⟩⟩
                    · rw [if_neg c24] at H
                      have c24b0 : (a0.toList == ([111, 114] : List UInt8)) = false := beq_eq_false_iff_ne.mpr c24
                      have c24b1 : (a0.toList != ([111, 114] : List UInt8)) = true := bne_iff_ne.mpr c24
                      by_cases c25 : a0.toList = ([120, 111, 114] : List UInt8)
                      · rw [if_pos c25] at H
                        have c25b0 : (a0.toList == ([120, 111, 114] : List UInt8)) = true := beq_iff_eq.mpr c25
                        have c25b1 : (a0.toList != ([120, 111, 114] : List UInt8)) = false := bne_eq_false_iff_eq.mpr c25
                        clear c25
                        have H' := Aside0.mk H
                        clear H
                        go_wp2
                        go_meet
                        case rel => exact ⟨_, ((a0.toList == ([120, 111, 114] : List UInt8))), (by first | rfl | (simp; done) | (simp [*]; done)), H', ⟨by have := HJ3.out; first | omega | exact Nat.le_refl _⟩, ⟨by (with_reducible repeat (first | refine blk_drewN ?_ _ | refine blk_drew ?_ | refine blk_alloc ?_ _)); exact BK655.out⟩, ⟨by (with_reducible repeat (first | refine blk_drewN ?_ _ | refine blk_drew ?_ | refine blk_alloc ?_ _)); exact BK656.out⟩, ⟨by (with_reducible repeat (first | refine blk_drewN ?_ _ | refine blk_drew ?_ | refine blk_alloc ?_ _)); exact BK657.out⟩, ⟨by repeat (first | (with_reducible first | exact HB.out | apply below_alloc | apply pw_below_drewN | apply below_drew1 | refine below_set ?_ GE655.out | refine below_set ?_ GE656.out | refine below_set ?_ GE657.out) | exact HB.out)⟩⟩
                      · rw [if_neg c25] at H
                        have c25b0 : (a0.toList == ([120, 111, 114] : List UInt8)) = false := beq_eq_false_iff_ne.mpr c25
                        have c25b1 : (a0.toList != ([120, 111, 114] : List UInt8)) = true := bne_iff_ne.mpr c25
                        by_cases c26 : a0.toList = ([115, 104, 108] : List UInt8)
                        · rw [if_pos c26] at H
                          have c26b0 : (a0.toList == ([115, 104, 108] : List UInt8)) = true := beq_iff_eq.mpr c26
                          have c26b1 : (a0.toList != ([115, 104, 108] : List UInt8)) = false := bne_eq_false_iff_eq.mpr c26
                          clear c26
                          have H' := Aside0.mk H
                          clear H
                          go_wp2
                          go_meet
                          case rel => exact ⟨_, ((a0.toList == ([115, 104, 108] : List UInt8))), (by first | rfl | (simp; done) | (simp [*]; done)), H', ⟨by have := HJ3.out; first | omega | exact Nat.le_refl _⟩, ⟨by (with_reducible repeat (first | refine blk_drewN ?_ _ | refine blk_drew ?_ | refine blk_alloc ?_ _)); exact BK655.out⟩, ⟨by (with_reducible repeat (first | refine blk_drewN ?_ _ | refine blk_drew ?_ | refine blk_alloc ?_ _)); exact BK656.out⟩, ⟨by (with_reducible repeat (first | refine blk_drewN ?_ _ | refine blk_drew ?_ | refine blk_alloc ?_ _)); exact BK657.out⟩, ⟨by repeat (first | (with_reducible first | exact HB.out | apply below_alloc | apply pw_below_drewN | apply below_drew1 | refine below_set ?_ GE655.out | refine below_set ?_ GE656.out | refine below_set ?_ GE657.out) | exact HB.out)⟩⟩
                        · rw [if_neg c26] at H
                          have c26b0 : (a0.toList == ([115, 104, 108] : List UInt8)) = false := beq_eq_false_iff_ne.mpr c26
                          have c26b1 : (a0.toList != ([115, 104, 108] : List UInt8)) = true := bne_iff_ne.mpr c26
                          by_cases c27 : a0.toList = ([115, 104, 114] : List UInt8)
                          · rw [if_pos c27] at H
                            have c27b0 : (a0.toList == ([115, 104, 114] : List UInt8)) = true := beq_iff_eq.mpr c27
                            have c27b1 : (a0.toList != ([115, 104, 114] : List UInt8)) = false := bne_eq_false_iff_eq.mpr c27
                            clear c27
                            have H' := Aside0.mk H
                            clear H
                            go_wp2
                            go_meet
                            case rel => exact ⟨_, ((a0.toList == ([115, 104, 114] : List UInt8))), (by first | rfl | (simp; done) | (simp [*]; done)), H', ⟨by have := HJ3.out; first | omega | exact Nat.le_refl _⟩, ⟨by (with_reducible repeat (first | refine blk_drewN ?_ _ | refine blk_drew ?_ | refine blk_alloc ?_ _)); exact BK655.out⟩, ⟨by (with_reducible repeat (first | refine blk_drewN ?_ _ | refine blk_drew ?_ | refine blk_alloc ?_ _)); exact BK656.out⟩, ⟨by (with_reducible repeat (first | refine blk_drewN ?_ _ | refine blk_drew ?_ | refine blk_alloc ?_ _)); exact BK657.out⟩, ⟨by repeat (first | (with_reducible first | exact HB.out | apply below_alloc | apply pw_below_drewN | apply below_drew1 | refine below_set ?_ GE655.out | refine below_set ?_ GE656.out | refine below_set ?_ GE657.out) | exact HB.out)⟩⟩
                          · rw [if_neg c27] at H
                            have c27b0 : (a0.toList == ([115, 104, 114] : List UInt8)) = false := beq_eq_false_iff_ne.mpr c27
                            have c27b1 : (a0.toList != ([115, 104, 114] : List UInt8)) = true := bne_iff_ne.mpr c27
                            have H' := Aside0.mk H
                            clear H
                            go_wp2
                            go_meet
                            case rel => exact ⟨_, ((a0.toList == ([117, 115, 104, 114] : List UInt8))), (by first | rfl | (simp; done) | (simp [*]; done)), H', ⟨by have := HJ3.out; first | omega | exact Nat.le_refl _⟩, ⟨by (with_reducible repeat (first | refine blk_drewN ?_ _ | refine blk_drew ?_ | refine blk_alloc ?_ _)); exact BK655.out⟩, ⟨by (with_reducible repeat (first | refine blk_drewN ?_ _ | refine blk_drew ?_ | refine blk_alloc ?_ _)); exact BK656.out⟩, ⟨by (with_reducible repeat (first | refine blk_drewN ?_ _ | refine blk_drew ?_ | refine blk_alloc ?_ _)); exact BK657.out⟩, ⟨by repeat (first | (with_reducible first | exact HB.out | apply below_alloc | apply pw_below_drewN | apply below_drew1 | refine below_set ?_ GE655.out | refine below_set ?_ GE656.out | refine below_set ?_ GE657.out) | exact HB.out)⟩⟩
      case rest =>
        clear HC17
        try clear c1
        try clear c2
        try clear p2
        try clear c7
        try clear c8
        try clear c8b0
        try clear c8b1
        try clear c9
        try clear c10
        try clear c12
        try clear c14
        try clear c15
        try clear c18
        try clear c18b0
        try clear c18b1
        try clear c19
        try clear c19b0
        try clear c19b1
        try clear c20
        try clear c20b0
        try clear c20b1
        try clear c21
        try clear c21b0
        try clear c21b1
        try clear c22
        try clear c22b0
        try clear c22b1
        try clear c23
        try clear c23b0
        try clear c23b1
        try clear c24
        try clear c24b0
        try clear c24b1
        try clear c25
        try clear c25b0
        try clear c25b1
        try clear c26
        try clear c26b0
        try clear c26b1
        try clear c27
        try clear c27b0
        try clear c27b1
        try clear hcz11_0
        try clear hcz11_1
        try clear hcz11_2
        try clear hcz13_0
        try clear hcz13_1
        try clear hcz13_2
        try clear hcz16_0
        try clear hcz16_1
        try clear hcz16_2
        try clear hfz11_0
        try clear hfz11_1
        try clear hfz11_2
        try clear hfz13_0
        try clear hfz13_1
        try clear hfz13_2
        try clear hfz16_0
        try clear hfz16_1
        try clear hfz16_2
        try clear p2
        obtain ⟨kq, x19_16, rfl, HA, HJ16, BK655, BK656, BK657, HB⟩ := hcut
        cases kq with
        | zero => exact absurd HA.out (by simp [value_Two.j1])
        | succ kj16 =>
          have H := HA.out
          clear HA
          simp only [value_Two.j1] at H
          by_cases c28 : x19_16 = true
          · subst c28
            have H1 : (if x8_3 = true then ((value_ints.f kj16 a0 a1_1 a2_1).bind fun bt658 => (some (bt658.1, bt658.2.1, bt658.2.2.1, bt658.2.2.2))) else (some (0, 0, (⟨#[]⟩ : ByteArray), 2))) = some (r1, r2, r3, r4) := by rw [if_pos rfl] at H; exact H
            clear H
            have H := H1
            clear H1
            by_cases c29 : x8_3 = true
            · subst c29
              have H1 : ((value_ints.f kj16 a0 a1_1 a2_1).bind fun bt658 => (some (bt658.1, bt658.2.1, bt658.2.2.1, bt658.2.2.2))) = some (r1, r2, r3, r4) := by rw [if_pos rfl] at H; exact H
              clear H
              have H := H1
              clear H1
              replace H := Option.bind_eq_some_iff.mp H
              obtain ⟨⟨t658, t659, t660, t661⟩, A300, H⟩ := H
              replace H : (some (t658, t659, t660, t661)) = some (r1, r2, r3, r4) := H
              have A30 := Aside0.mk A300
              clear A300
              simp only [Option.some.injEq, Prod.mk.injEq] at H
              obtain ⟨rfl, rfl, rfl, rfl⟩ := H
              have hnb31 := NB655_656.out
              have hnc31 := NB656_655.out
              have hnb32 := NB655_657.out
              have hnc32 := NB657_655.out
              have hcz33_0 : wc.cell? ⟨gb655, 0, none⟩ = some (.int .u8 a1_0) := (blk_cell BK655.out 0).trans rfl
              have hcz33_1 : wc.cell? ⟨gb655, 1, none⟩ = some (.int .i64 a1_1) := (blk_cell BK655.out 1).trans rfl
              have hcz33_2 : wc.cell? ⟨gb655, 2, none⟩ = some (.string a1_2) := (blk_cell BK655.out 2).trans rfl
              have hfz33_0 := blk_frozen BK655.out 0
              have hfz33_1 := blk_frozen BK655.out 1
              have hfz33_2 := blk_frozen BK655.out 2
              have hnb34 := NB656_657.out
              have hnc34 := NB657_656.out
              have hcz35_0 : wc.cell? ⟨gb656, 0, none⟩ = some (.int .u8 a2_0) := (blk_cell BK656.out 0).trans rfl
              have hcz35_1 : wc.cell? ⟨gb656, 1, none⟩ = some (.int .i64 a2_1) := (blk_cell BK656.out 1).trans rfl
              have hcz35_2 : wc.cell? ⟨gb656, 2, none⟩ = some (.string a2_2) := (blk_cell BK656.out 2).trans rfl
              have hfz35_0 := blk_frozen BK656.out 0
              have hfz35_1 := blk_frozen BK656.out 1
              have hfz35_2 := blk_frozen BK656.out 2
              go_wp2_with (first | ((with_reducible refine gate_callee (f := 96) rfl ?_); refine goesL_ (some 37) rfl rfl Try.func96 (by kernel_rfl) rfl #[.string a0, .int .i64 a1_1, .int .i64 a2_1] rfl (by (try simp only [List.map_toArray, List.map_cons, List.map_nil]); first | done | rfl | (simp only [List.length_drop, List.length_take]; rfl)) ?_; (with_reducible refine (value_ints.calls kj16 a0 a1_1 a2_1 t658 t659 t660 t661 _ A30.out).mono ?_); rintro e w36 ⟨rfl, hb⟩; refine ⟨_, rfl, ?_⟩; have n0_ := Aside0.mk (blk_below (g := gb655) (o := .cells #[.int .u8 a1_0, .int .i64 a1_1, .string a1_2] 37 (0, 0)) (by (with_reducible repeat (first | refine blk_drewN ?_ _ | refine blk_drew ?_ | refine blk_alloc ?_ _)); exact BK655.out) hb); have n1_ := Aside0.mk (blk_below (g := gb656) (o := .cells #[.int .u8 a2_0, .int .i64 a2_1, .string a2_2] 37 (0, 0)) (by (with_reducible repeat (first | refine blk_drewN ?_ _ | refine blk_drew ?_ | refine blk_alloc ?_ _)); exact BK656.out) hb); have n2_ := Aside0.mk (blk_below (g := gb657) (o := .cells #[.int .u8 0, .int .i64 0, .string (⟨#[]⟩ : ByteArray)] 37 (0, 0)) (by (with_reducible repeat (first | refine blk_drewN ?_ _ | refine blk_drew ?_ | refine blk_alloc ?_ _)); exact BK657.out) hb); have n3_ := Aside0.mk (below_step (by repeat (first | (with_reducible first | exact HB.out | apply below_alloc | apply pw_below_drewN | apply below_drew1 | refine below_set ?_ GE655.out | refine below_set ?_ GE656.out | refine below_set ?_ GE657.out) | exact HB.out)) hb); clear BK655; clear BK656; clear BK657; clear HB; have BK655 := n0_; have BK656 := n1_; have BK657 := n2_; have HB := n3_; clear n0_ n1_ n2_ n3_; (try clear hb); (try clear hb2); (try clear hk); (try clear hi); have hcz37_0 : w36.cell? ⟨gb657, 0, none⟩ = some (.int .u8 0) := (blk_cell BK657.out 0).trans rfl; have hcz37_1 : w36.cell? ⟨gb657, 1, none⟩ = some (.int .i64 0) := (blk_cell BK657.out 1).trans rfl; have hcz37_2 : w36.cell? ⟨gb657, 2, none⟩ = some (.string (⟨#[]⟩ : ByteArray)) := (blk_cell BK657.out 2).trans rfl; have hfz37_0 := blk_frozen BK657.out 0; have hfz37_1 := blk_frozen BK657.out 1; have hfz37_2 := blk_frozen BK657.out 2))
              refine bodyPost_ret (results_ct rfl _ _ gb657 37 #[.int .u8 t658, .int .i64 t659, .string t660] (0, 0) _ rfl (by (with_reducible repeat (first | refine blk_drewN ?_ _ | refine blk_drew ?_ | refine blk_alloc ?_ _)); refine blk_put (cs := #[.int .u8 t658, .int .i64 t659, .string (⟨#[]⟩ : ByteArray)]) ?_ 2 _ rfl; (with_reducible repeat (first | refine blk_drewN ?_ _ | refine blk_drew ?_ | refine blk_alloc ?_ _)); refine blk_put (cs := #[.int .u8 t658, .int .i64 0, .string (⟨#[]⟩ : ByteArray)]) ?_ 1 _ rfl; (with_reducible repeat (first | refine blk_drewN ?_ _ | refine blk_drew ?_ | refine blk_alloc ?_ _)); refine blk_put (cs := #[.int .u8 0, .int .i64 0, .string (⟨#[]⟩ : ByteArray)]) ?_ 0 _ rfl; (with_reducible repeat (first | refine blk_drewN ?_ _ | refine blk_drew ?_ | refine blk_alloc ?_ _)); exact BK657.out) Try.underlying37 rfl (by kernel_rfl)) rfl ?_
              exact ⟨by first | rfl | (simp [errW_none, errW_some] <;> rfl) | (simp [*, errW_none, errW_some] <;> rfl), by repeat (first | (with_reducible first | exact HB.out | apply below_alloc | apply pw_below_drewN | apply below_drew1 | refine below_set ?_ GE655.out | refine below_set ?_ GE656.out | refine below_set ?_ GE657.out) | exact HB.out)⟩
            · replace c29 := Bool.eq_false_iff.mpr c29
              subst c29
              have H1 : (some (0, 0, (⟨#[]⟩ : ByteArray), 2)) = some (r1, r2, r3, r4) := by rw [if_neg (show ¬ (false = true) by decide)] at H; exact H
              clear H
              have H := H1
              clear H1
              simp only [Option.some.injEq, Prod.mk.injEq] at H
              obtain ⟨rfl, rfl, rfl, rfl⟩ := H
              have hnb38 := NB657_655.out
              have hnc38 := NB655_657.out
              have hnb39 := NB657_656.out
              have hnc39 := NB656_657.out
              have hcz40_0 : wc.cell? ⟨gb657, 0, none⟩ = some (.int .u8 0) := (blk_cell BK657.out 0).trans rfl
              have hcz40_1 : wc.cell? ⟨gb657, 1, none⟩ = some (.int .i64 0) := (blk_cell BK657.out 1).trans rfl
              have hcz40_2 : wc.cell? ⟨gb657, 2, none⟩ = some (.string (⟨#[]⟩ : ByteArray)) := (blk_cell BK657.out 2).trans rfl
              have hfz40_0 := blk_frozen BK657.out 0
              have hfz40_1 := blk_frozen BK657.out 1
              have hfz40_2 := blk_frozen BK657.out 2
              go_wp2
              refine bodyPost_ret (results_ct rfl _ _ gb657 37 #[.int .u8 0, .int .i64 0, .string (⟨#[]⟩ : ByteArray)] (0, 0) _ rfl (by (with_reducible repeat (first | refine blk_drewN ?_ _ | refine blk_drew ?_ | refine blk_alloc ?_ _)); refine blk_put (cs := #[.int .u8 0, .int .i64 0, .string (⟨#[]⟩ : ByteArray)]) ?_ 2 _ rfl; (with_reducible repeat (first | refine blk_drewN ?_ _ | refine blk_drew ?_ | refine blk_alloc ?_ _)); refine blk_put (cs := #[.int .u8 0, .int .i64 0, .string (⟨#[]⟩ : ByteArray)]) ?_ 1 _ rfl; (with_reducible repeat (first | refine blk_drewN ?_ _ | refine blk_drew ?_ | refine blk_alloc ?_ _)); refine blk_put (cs := #[.int .u8 0, .int .i64 0, .string (⟨#[]⟩ : ByteArray)]) ?_ 0 _ rfl; (with_reducible repeat (first | refine blk_drewN ?_ _ | refine blk_drew ?_ | refine blk_alloc ?_ _)); exact BK657.out) Try.underlying37 rfl (by kernel_rfl)) rfl ?_
              exact ⟨by first | rfl | (simp [errW_none, errW_some] <;> rfl) | (simp [*, errW_none, errW_some] <;> rfl), by repeat (first | (with_reducible first | exact HB.out | apply below_alloc | apply pw_below_drewN | apply below_drew1 | refine below_set ?_ GE655.out | refine below_set ?_ GE656.out | refine below_set ?_ GE657.out) | exact HB.out)⟩
          · replace c28 := Bool.eq_false_iff.mpr c28
            subst c28
            have H1 : (if a0.toList = ([60] : List UInt8) then (if x8_3 = true then (value_Two.j2 kj16 true a1_0 a1_1 a1_2 a2_0 a2_1 a2_2) else (if a1_0 = 3 then (value_Two.j2 kj16 (a2_0 == 3) a1_0 a1_1 a1_2 a2_0 a2_1 a2_2) else (value_Two.j2 kj16 false a1_0 a1_1 a1_2 a2_0 a2_1 a2_2))) else (if a0.toList = ([61] : List UInt8) then (if a1_0 = a2_0 then (if a1_0 ≤ 3 then ((value_Is.f (a1_0 == a2_0 && (a1_1 == a2_1 && (a1_2.toList == a2_2.toList)))).bind fun bt671 => (some (bt671.1, bt671.2.1, bt671.2.2, 0))) else (some (0, 0, (⟨#[]⟩ : ByteArray), 2))) else (some (0, 0, (⟨#[]⟩ : ByteArray), 2))) else (if a0.toList = ([99, 97, 116] : List UInt8) then (value_Two.j3 kj16 a0 (a0.toList == ([99, 97, 116] : List UInt8)) a1_0 a1_1 a1_2 a2_0 a2_1 a2_2) else (value_Two.j3 kj16 a0 (a0.toList == ([97, 116] : List UInt8)) a1_0 a1_1 a1_2 a2_0 a2_1 a2_2)))) = some (r1, r2, r3, r4) := by rw [if_neg (show ¬ (false = true) by decide)] at H; exact H
            clear H
            have H := H1
            clear H1
            by_cases c41 : a0.toList = ([60] : List UInt8)
            · rw [if_pos c41] at H
              have c41b0 : (a0.toList == ([60] : List UInt8)) = true := beq_iff_eq.mpr c41
              have c41b1 : (a0.toList != ([60] : List UInt8)) = false := bne_eq_false_iff_eq.mpr c41
              clear c41
              have HC42 := Aside0.mk H
              clear H
              go_upto_region 18 with (fail)
              go_cut [52] (fun v52 wc => ∃ (kq : Nat) (x52_41 : Bool), v52 = .bool x52_41 ∧ Aside0 (value_Two.j2 kq x52_41 a1_0 a1_1 a1_2 a2_0 a2_1 a2_2 = some (r1, r2, r3, r4)) ∧ Aside0 (kq ≤ kj16) ∧ Aside0 (wc.heap[gb655]? = some (.cells #[.int .u8 a1_0, .int .i64 a1_1, .string a1_2] 37 (0, 0))) ∧ Aside0 (wc.heap[gb656]? = some (.cells #[.int .u8 a2_0, .int .i64 a2_1, .string a2_2] 37 (0, 0))) ∧ Aside0 (wc.heap[gb657]? = some (.cells #[.int .u8 0, .int .i64 0, .string (⟨#[]⟩ : ByteArray)] 37 (0, 0))) ∧ Aside0 (Below w.heap.size w wc))
              case first =>
                have H := HC42.out
                clear HC42
                by_cases c43 : x8_3 = true
                · subst c43
                  have H1 : (value_Two.j2 kj16 true a1_0 a1_1 a1_2 a2_0 a2_1 a2_2) = some (r1, r2, r3, r4) := by rw [if_pos rfl] at H; exact H
                  clear H
                  have H := H1
                  clear H1
                  have H' := Aside0.mk H
                  clear H
                  go_wp2
                  go_meet
                  case rel => exact ⟨_, (true), (by first | rfl | (simp; done) | (simp [*]; done)), H', ⟨by have := HJ3.out; have := HJ16.out; first | omega | exact Nat.le_refl _⟩, ⟨by (with_reducible repeat (first | refine blk_drewN ?_ _ | refine blk_drew ?_ | refine blk_alloc ?_ _)); exact BK655.out⟩, ⟨by (with_reducible repeat (first | refine blk_drewN ?_ _ | refine blk_drew ?_ | refine blk_alloc ?_ _)); exact BK656.out⟩, ⟨by (with_reducible repeat (first | refine blk_drewN ?_ _ | refine blk_drew ?_ | refine blk_alloc ?_ _)); exact BK657.out⟩, ⟨by repeat (first | (with_reducible first | exact HB.out | apply below_alloc | apply pw_below_drewN | apply below_drew1 | refine below_set ?_ GE655.out | refine below_set ?_ GE656.out | refine below_set ?_ GE657.out) | exact HB.out)⟩⟩
                · replace c43 := Bool.eq_false_iff.mpr c43
                  subst c43
                  have H1 : (if a1_0 = 3 then (value_Two.j2 kj16 (a2_0 == 3) a1_0 a1_1 a1_2 a2_0 a2_1 a2_2) else (value_Two.j2 kj16 false a1_0 a1_1 a1_2 a2_0 a2_1 a2_2)) = some (r1, r2, r3, r4) := by rw [if_neg (show ¬ (false = true) by decide)] at H; exact H
                  clear H
                  have H := H1
                  clear H1
                  by_cases c44 : a1_0 = 3
                  · rw [if_pos c44] at H
                    have c44b0 : (a1_0 == 3) = true := beq_iff_eq.mpr c44
                    have c44b1 : (a1_0 != 3) = false := bne_eq_false_iff_eq.mpr c44
                    clear c44
                    (first | rw [c44b0] | (simp only [i64_w, i32_w]; rw [c44b0]) | skip)
                    have H' := Aside0.mk H
                    clear H
                    have hnb45 := NB655_656.out
                    have hnc45 := NB656_655.out
                    have hnb46 := NB655_657.out
                    have hnc46 := NB657_655.out
                    have hcz47_0 : wc.cell? ⟨gb655, 0, none⟩ = some (.int .u8 a1_0) := (blk_cell BK655.out 0).trans rfl
                    have hcz47_1 : wc.cell? ⟨gb655, 1, none⟩ = some (.int .i64 a1_1) := (blk_cell BK655.out 1).trans rfl
                    have hcz47_2 : wc.cell? ⟨gb655, 2, none⟩ = some (.string a1_2) := (blk_cell BK655.out 2).trans rfl
                    have hfz47_0 := blk_frozen BK655.out 0
                    have hfz47_1 := blk_frozen BK655.out 1
                    have hfz47_2 := blk_frozen BK655.out 2
                    have hnb48 := NB656_657.out
                    have hnc48 := NB657_656.out
                    have hcz49_0 : wc.cell? ⟨gb656, 0, none⟩ = some (.int .u8 a2_0) := (blk_cell BK656.out 0).trans rfl
                    have hcz49_1 : wc.cell? ⟨gb656, 1, none⟩ = some (.int .i64 a2_1) := (blk_cell BK656.out 1).trans rfl
                    have hcz49_2 : wc.cell? ⟨gb656, 2, none⟩ = some (.string a2_2) := (blk_cell BK656.out 2).trans rfl
                    have hfz49_0 := blk_frozen BK656.out 0
                    have hfz49_1 := blk_frozen BK656.out 1
                    have hfz49_2 := blk_frozen BK656.out 2
                    go_wp2
                    go_meet
                    case rel => exact ⟨_, ((a2_0 == 3)), (by first | rfl | (simp; done) | (simp [*]; done)), H', ⟨by have := HJ3.out; have := HJ16.out; first | omega | exact Nat.le_refl _⟩, ⟨by (with_reducible repeat (first | refine blk_drewN ?_ _ | refine blk_drew ?_ | refine blk_alloc ?_ _)); exact BK655.out⟩, ⟨by (with_reducible repeat (first | refine blk_drewN ?_ _ | refine blk_drew ?_ | refine blk_alloc ?_ _)); exact BK656.out⟩, ⟨by (with_reducible repeat (first | refine blk_drewN ?_ _ | refine blk_drew ?_ | refine blk_alloc ?_ _)); exact BK657.out⟩, ⟨by repeat (first | (with_reducible first | exact HB.out | apply below_alloc | apply pw_below_drewN | apply below_drew1 | refine below_set ?_ GE655.out | refine below_set ?_ GE656.out | refine below_set ?_ GE657.out) | exact HB.out)⟩⟩
                  · rw [if_neg c44] at H
                    have c44b0 : (a1_0 == 3) = false := beq_eq_false_iff_ne.mpr c44
                    have c44b1 : (a1_0 != 3) = true := bne_iff_ne.mpr c44
                    (first | rw [c44b0] | (simp only [i64_w, i32_w]; rw [c44b0]) | skip)
                    have H' := Aside0.mk H
                    clear H
                    have hnb50 := NB655_656.out
                    have hnc50 := NB656_655.out
                    have hnb51 := NB655_657.out
                    have hnc51 := NB657_655.out
                    have hcz52_0 : wc.cell? ⟨gb655, 0, none⟩ = some (.int .u8 a1_0) := (blk_cell BK655.out 0).trans rfl
                    have hcz52_1 : wc.cell? ⟨gb655, 1, none⟩ = some (.int .i64 a1_1) := (blk_cell BK655.out 1).trans rfl
                    have hcz52_2 : wc.cell? ⟨gb655, 2, none⟩ = some (.string a1_2) := (blk_cell BK655.out 2).trans rfl
                    have hfz52_0 := blk_frozen BK655.out 0
                    have hfz52_1 := blk_frozen BK655.out 1
                    have hfz52_2 := blk_frozen BK655.out 2
                    go_wp2
                    go_meet
                    case rel => exact ⟨_, (false), (by first | rfl | (simp; done) | (simp [*]; done)), H', ⟨by have := HJ3.out; have := HJ16.out; first | omega | exact Nat.le_refl _⟩, ⟨by (with_reducible repeat (first | refine blk_drewN ?_ _ | refine blk_drew ?_ | refine blk_alloc ?_ _)); exact BK655.out⟩, ⟨by (with_reducible repeat (first | refine blk_drewN ?_ _ | refine blk_drew ?_ | refine blk_alloc ?_ _)); exact BK656.out⟩, ⟨by (with_reducible repeat (first | refine blk_drewN ?_ _ | refine blk_drew ?_ | refine blk_alloc ?_ _)); exact BK657.out⟩, ⟨by repeat (first | (with_reducible first | exact HB.out | apply below_alloc | apply pw_below_drewN | apply below_drew1 | refine below_set ?_ GE655.out | refine below_set ?_ GE656.out | refine below_set ?_ GE657.out) | exact HB.out)⟩⟩
              case rest =>
                clear HC42
                try clear c1
                try clear c2
                try clear p2
                try clear c3
                try clear c4
                try clear c5
                try clear c7
                try clear c8
                try clear c8b0
                try clear c8b1
                try clear c9
                try clear c10
                try clear c12
                try clear c14
                try clear c15
                try clear c18
                try clear c18b0
                try clear c18b1
                try clear c19
                try clear c19b0
                try clear c19b1
                try clear c20
                try clear c20b0
                try clear c20b1
                try clear c21
                try clear c21b0
                try clear c21b1
                try clear c22
                try clear c22b0
                try clear c22b1
                try clear c23
                try clear c23b0
                try clear c23b1
                try clear c24
                try clear c24b0
                try clear c24b1
                try clear c25
                try clear c25b0
                try clear c25b1
                try clear c26
                try clear c26b0
                try clear c26b1
                try clear c27
                try clear c27b0
                try clear c27b1
                try clear c28
                try clear c29
                try clear c31
                try clear c32
                try clear c34
                try clear c38
                try clear c39
                try clear c41
                try clear c41b0
                try clear c41b1
                try clear c43
                try clear c44
                try clear c44b0
                try clear c44b1
                try clear c45
                try clear c46
                try clear c48
                try clear c50
                try clear c51
                try clear hcz11_0
                try clear hcz11_1
                try clear hcz11_2
                try clear hcz13_0
                try clear hcz13_1
                try clear hcz13_2
                try clear hcz16_0
                try clear hcz16_1
                try clear hcz16_2
                try clear hcz33_0
                try clear hcz33_1
                try clear hcz33_2
                try clear hcz35_0
                try clear hcz35_1
                try clear hcz35_2
                try clear hcz37_0
                try clear hcz37_1
                try clear hcz37_2
                try clear hcz40_0
                try clear hcz40_1
                try clear hcz40_2
                try clear hcz47_0
                try clear hcz47_1
                try clear hcz47_2
                try clear hcz49_0
                try clear hcz49_1
                try clear hcz49_2
                try clear hcz52_0
                try clear hcz52_1
                try clear hcz52_2
                try clear hfz11_0
                try clear hfz11_1
                try clear hfz11_2
                try clear hfz13_0
                try clear hfz13_1
                try clear hfz13_2
                try clear hfz16_0
                try clear hfz16_1
                try clear hfz16_2
                try clear hfz33_0
                try clear hfz33_1
                try clear hfz33_2
                try clear hfz35_0
                try clear hfz35_1
                try clear hfz35_2
                try clear hfz37_0
                try clear hfz37_1
                try clear hfz37_2
                try clear hfz40_0
                try clear hfz40_1
                try clear hfz40_2
                try clear hfz47_0
                try clear hfz47_1
                try clear hfz47_2
                try clear hfz49_0
                try clear hfz49_1
                try clear hfz49_2
                try clear hfz52_0
                try clear hfz52_1
                try clear hfz52_2
                try clear p2
                obtain ⟨kq, x52_41, rfl, HA, HJ41, BK655, BK656, BK657, HB⟩ := hcut
                cases kq with
                | zero => exact absurd HA.out (by simp [value_Two.j2])
                | succ kj41 =>
                  have H := HA.out
                  clear HA
                  simp only [value_Two.j2] at H
                  by_cases c53 : x52_41 = true
                  · subst c53
                    have H1 : ((cmp_Compare_int64.f a1_1 a2_1).bind fun t662 => ((cmp_Compare_string.f a1_2 a2_2).bind fun t663 => ((cmp_Or_int.f kj41 (([t662, t663] : List Int))).bind fun t667 => ((value_Is.f (decide (t667 < 0))).bind fun bt668 => (some (bt668.1, bt668.2.1, bt668.2.2, 0)))))) = some (r1, r2, r3, r4) := by rw [if_pos rfl] at H; exact H
                    clear H
                    have H := H1
                    clear H1
                    replace H := Option.bind_eq_some_iff.mp H
                    obtain ⟨t662, A540, H⟩ := H
                    (try dsimp only at H)
                    have A54 := Aside0.mk A540
                    clear A540
                    replace H := Option.bind_eq_some_iff.mp H
                    obtain ⟨t663, A550, H⟩ := H
                    (try dsimp only at H)
                    have A55 := Aside0.mk A550
                    clear A550
                    obtain ⟨y664, hy664⟩ : ∃ y_ : List Int, y_ = (([t662, t663] : List Int)) := ⟨_, rfl⟩
                    replace H : ((cmp_Or_int.f kj41 y664).bind fun t667 => ((value_Is.f (decide (t667 < 0))).bind fun bt668 => (some (bt668.1, bt668.2.1, bt668.2.2, 0)))) = some (r1, r2, r3, r4) := by first | (rw [hy664]; with_reducible exact H) | (have H2_ := (Option.bind_some _ _).symm.trans H; rw [hy664]; with_reducible exact H2_) | (have H2_ := (Option.bind_some _ _).symm.trans H; with_reducible exact H2_) | with_reducible exact H | (rw [hy664]; exact H) | exact H
                    have Ny664 := Aside0.mk hy664
                    clear hy664
                    replace H := Option.bind_eq_some_iff.mp H
                    obtain ⟨t667, A560, H⟩ := H
                    replace H : ((value_Is.f (decide (t667 < 0))).bind fun bt668 => (some (bt668.1, bt668.2.1, bt668.2.2, 0))) = some (r1, r2, r3, r4) := H
                    have A56 := Aside0.mk A560
                    clear A560
                    replace H := Option.bind_eq_some_iff.mp H
                    obtain ⟨⟨t668, t669, t670⟩, A570, H⟩ := H
                    replace H : (some (t668, t669, t670, 0)) = some (r1, r2, r3, r4) := H
                    have A57 := Aside0.mk A570
                    clear A570
                    simp only [Option.some.injEq, Prod.mk.injEq] at H
                    obtain ⟨rfl, rfl, rfl, rfl⟩ := H
                    try go_wp2
                    have n0_ := Aside0.mk (blk_drew BK655.out)
                    have n1_ := Aside0.mk (blk_drew BK656.out)
                    have n2_ := Aside0.mk (blk_drew BK657.out)
                    have n3_ := Aside0.mk (below_drew1 HB.out)
                    clear BK655
                    clear BK656
                    clear BK657
                    clear HB
                    have BK655 := n0_
                    have BK656 := n1_
                    have BK657 := n2_
                    have HB := n3_
                    clear n0_ n1_ n2_ n3_
                    refine start_ (n := 16) (S := fun w' => w'.cell? ⟨gb655, 0, none⟩ = some (.int .u8 a1_0) ∧ w'.cell? ⟨gb655, 1, none⟩ = some (.int .i64 a1_1) ∧ w'.cell? ⟨gb655, 2, none⟩ = some (.string a1_2) ∧ w'.cell? ⟨gb656, 0, none⟩ = some (.int .u8 a2_0) ∧ w'.cell? ⟨gb656, 1, none⟩ = some (.int .i64 a2_1) ∧ w'.cell? ⟨gb656, 2, none⟩ = some (.string a2_2)) (ds := []) #[false, false, false, false, false, false, false, false, false, false, false, false, false, false, false, false] (by kernel_rfl) rfl rfl ⟨(blk_cell BK655.out 0).trans rfl, (blk_cell BK655.out 1).trans rfl, (blk_cell BK655.out 2).trans rfl, (blk_cell BK656.out 0).trans rfl, (blk_cell BK656.out 1).trans rfl, (blk_cell BK656.out 2).trans rfl⟩ (fun hHeld => ?_); refine with_tabW value_Two.tab19 value_Two.bits19 (fun HT_ HW_ => ?_)
                    generalize wc.drew = w58 at BK655 BK656 BK657 HB hHeld ⊢
                    refine pure_ (i := 0) (N := some 53) (v := ?_) (a' := ?_) #[true, false, false, false, false, false, false, false, false, false, false, false, false, false, false, false] rfl rfl (any_of HT_.out (by kernel_rfl)) (fun _ _ _ h => h) (Or.inl ⟨by rfl, ?_⟩) ?_ ?_
                    rotate_left
                    · intro w'
                      go_simp
                      with_reducible rfl
                    rotate_left
                    · simp only [Act.put, List.setIfInBounds_toArray, List.set_cons_zero, List.set_cons_succ, i64_w, i32_w]
                      rfl
                    refine pure_ (i := 2) (N := some 55) (v := ?_) (a' := ?_) #[true, false, true, false, false, false, false, false, false, false, false, false, false, false, false, false] rfl rfl (any_of HT_.out (by kernel_rfl)) (fun _ _ _ h => h) (Or.inl ⟨by rfl, ?_⟩) ?_ ?_
                    rotate_left
                    · intro w'
                      go_simp
                      with_reducible rfl
                    rotate_left
                    · simp only [Act.put, List.setIfInBounds_toArray, List.set_cons_zero, List.set_cons_succ, i64_w, i32_w]
                      rfl
                    refine pure_ (i := 5) (N := some 58) (v := ?_) (a' := ?_) #[true, false, true, false, false, true, false, false, false, false, false, false, false, false, false, false] rfl rfl (any_of HT_.out (by kernel_rfl)) (fun _ _ _ h => h) (Or.inl ⟨by rfl, ?_⟩) ?_ ?_
                    rotate_left
                    · intro w'
                      go_simp
                      with_reducible rfl
                    rotate_left
                    · simp only [Act.put, List.setIfInBounds_toArray, List.set_cons_zero, List.set_cons_succ, i64_w, i32_w]
                      rfl
                    refine pure_ (i := 7) (N := some 60) (v := ?_) (a' := ?_) #[true, false, true, false, false, true, false, true, false, false, false, false, false, false, false, false] rfl rfl (any_of HT_.out (by kernel_rfl)) (fun _ _ _ h => h) (Or.inl ⟨by rfl, ?_⟩) ?_ ?_
                    rotate_left
                    · intro w'
                      go_simp
                      with_reducible rfl
                    rotate_left
                    · simp only [Act.put, List.setIfInBounds_toArray, List.set_cons_zero, List.set_cons_succ, i64_w, i32_w]
                      rfl
                    refine take_ (i := 1) (N := some 54) (v := ?_) (a' := ?_) #[true, true, true, false, false, true, false, true, false, false, false, false, false, false, false, false] rfl rfl (take_ofW HT_.out HW_.out (by kernel_rfl)) (fun _ _ _ h => h) (Or.inl ⟨by rfl, ?_⟩) hHeld ?_ ?_
                    rotate_left
                    · rintro w' ⟨s0, s1, s2, s3, s4, s5⟩
                      go_simp
                      with_reducible rfl
                    rotate_left
                    · simp only [Act.put, List.setIfInBounds_toArray, List.set_cons_zero, List.set_cons_succ, i64_w, i32_w]
                      rfl
                    refine take_ (i := 3) (N := some 56) (v := ?_) (a' := ?_) #[true, true, true, true, false, true, false, true, false, false, false, false, false, false, false, false] rfl rfl (take_ofW HT_.out HW_.out (by kernel_rfl)) (fun _ _ _ h => h) (Or.inl ⟨by rfl, ?_⟩) hHeld ?_ ?_
                    rotate_left
                    · rintro w' ⟨s0, s1, s2, s3, s4, s5⟩
                      go_simp
                      with_reducible rfl
                    rotate_left
                    · simp only [Act.put, List.setIfInBounds_toArray, List.set_cons_zero, List.set_cons_succ, i64_w, i32_w]
                      rfl
                    refine take_ (i := 6) (N := some 59) (v := ?_) (a' := ?_) #[true, true, true, true, false, true, true, true, false, false, false, false, false, false, false, false] rfl rfl (take_ofW HT_.out HW_.out (by kernel_rfl)) (fun _ _ _ h => h) (Or.inl ⟨by rfl, ?_⟩) hHeld ?_ ?_
                    rotate_left
                    · rintro w' ⟨s0, s1, s2, s3, s4, s5⟩
                      go_simp
                      with_reducible rfl
                    rotate_left
                    · simp only [Act.put, List.setIfInBounds_toArray, List.set_cons_zero, List.set_cons_succ, i64_w, i32_w]
                      rfl
                    refine take_ (i := 8) (N := some 61) (v := ?_) (a' := ?_) #[true, true, true, true, false, true, true, true, true, false, false, false, false, false, false, false] rfl rfl (take_ofW HT_.out HW_.out (by kernel_rfl)) (fun _ _ _ h => h) (Or.inl ⟨by rfl, ?_⟩) hHeld ?_ ?_
                    rotate_left
                    · rintro w' ⟨s0, s1, s2, s3, s4, s5⟩
                      go_simp
                      with_reducible rfl
                    rotate_left
                    · simp only [Act.put, List.setIfInBounds_toArray, List.set_cons_zero, List.set_cons_succ, i64_w, i32_w]
                      rfl
                    refine one_ (i := 4) (N := some 57) #[true, true, true, true, true, true, true, true, true, false, false, false, false, false, false, false] rfl rfl (one_of HT_.out (by kernel_rfl)) (by decide) (fun K hK => ?_)
                    refine goes_ Try.func98 (by kernel_rfl) rfl #[.int .i64 a1_1, .int .i64 a2_1] (by rfl) rfl rfl (by (try simp only [List.map_toArray, List.map_cons, List.map_nil]); first | done | rfl | (simp only [List.length_drop, List.length_take]; rfl)) ?_
                    with_reducible refine (cmp_Compare_int64.calls a1_1 a2_1 t662 _ A54.out).mono ?_
                    rintro e w' ⟨rfl, ⟨nd, rfl⟩⟩
                    refine ⟨_, rfl, ?_⟩
                    refine hK.out _ _ ⟨(blk_cell BK655.out 0).trans rfl, (blk_cell BK655.out 1).trans rfl, (blk_cell BK655.out 2).trans rfl, (blk_cell BK656.out 0).trans rfl, (blk_cell BK656.out 1).trans rfl, (blk_cell BK656.out 2).trans rfl⟩ (fun hHeld => ?_)
                    clear hK K
                    refine norm_ (a' := ?_) ?_ ?_
                    rotate_left
                    · show Act.put _ (some 57) _ = _
                      simp only [Act.put, List.setIfInBounds_toArray, List.set_cons_zero, List.set_cons_succ, i64_w, i32_w]
                      rfl
                    refine one_ (i := 9) (N := some 62) #[true, true, true, true, true, true, true, true, true, true, false, false, false, false, false, false] rfl rfl (one_of HT_.out (by kernel_rfl)) (by decide) (fun K hK => ?_)
                    refine goes_ Try.func99 (by kernel_rfl) rfl #[.string a1_2, .string a2_2] (by rfl) rfl rfl (by (try simp only [List.map_toArray, List.map_cons, List.map_nil]); first | done | rfl | (simp only [List.length_drop, List.length_take]; rfl)) ?_
                    with_reducible refine (cmp_Compare_string.calls a1_2 a2_2 t663 _ A55.out).mono ?_
                    rintro e w' ⟨rfl, ⟨nd, rfl⟩⟩
                    refine ⟨_, rfl, ?_⟩
                    refine hK.out _ _ ⟨(blk_cell BK655.out 0).trans rfl, (blk_cell BK655.out 1).trans rfl, (blk_cell BK655.out 2).trans rfl, (blk_cell BK656.out 0).trans rfl, (blk_cell BK656.out 1).trans rfl, (blk_cell BK656.out 2).trans rfl⟩ (fun hHeld => ?_)
                    clear hK K
                    refine norm_ (a' := ?_) ?_ ?_
                    rotate_left
                    · show Act.put _ (some 62) _ = _
                      simp only [Act.put, List.setIfInBounds_toArray, List.set_cons_zero, List.set_cons_succ, i64_w, i32_w]
                      rfl
                    refine one_ (i := 10) (N := some 63) #[true, true, true, true, true, true, true, true, true, true, true, false, false, false, false, false] rfl rfl (one_of HT_.out (by kernel_rfl)) (by decide) (fun K hK => ?_)
                    refine Kd.R_lit_step (Kd.int .i64) _ 3 ?hg (N := 63) ?hd (xs := ([t662, t663] : List Int)) (inner := [.int .i64 t662, .int .i64 t663]) (ok := fun _ => True) (okp := fun _ => True) ?hr ?hp (fun _ hk => hk) trivial (Below.refl _ _) (Nat.le_refl _) (by simp) ?_; (case hd => rfl); (case hg => rfl); (case hr => first | (go_simp; done) | (go_simp; rfl)); (case hp => exact (Reps.one (show Kd.M (Kd.int .i64) _ _ _ t662 [.int .i64 t662] from rfl) (Reps.one (show Kd.M (Kd.int .i64) _ _ _ t663 [.int .i64 t663] from rfl) (Reps.none _ _))))
                    intro v665 w59 ho60 hb hg_ hnew_
                    clear hg_ hnew_
                    (first | rw [← Ny664.out] at ho60 | (simp only [Int.reduceToNat] at ho60; rw [← Ny664.out] at ho60))
                    have n0_ := Aside0.mk (Kd.R_lower ho60 (below_size (by repeat (first | (with_reducible first | exact HB.out | apply below_alloc | apply pw_below_drewN | apply below_drew1 | refine below_set ?_ GE655.out | refine below_set ?_ GE656.out | refine below_set ?_ GE657.out) | exact HB.out))))
                    have n1_ := Aside0.mk (blk_below (g := gb655) (o := .cells #[.int .u8 a1_0, .int .i64 a1_1, .string a1_2] 37 (0, 0)) (by (with_reducible repeat (first | refine blk_drewN ?_ _ | refine blk_drew ?_ | refine blk_alloc ?_ _)); exact BK655.out) hb)
                    have n2_ := Aside0.mk (blk_below (g := gb656) (o := .cells #[.int .u8 a2_0, .int .i64 a2_1, .string a2_2] 37 (0, 0)) (by (with_reducible repeat (first | refine blk_drewN ?_ _ | refine blk_drew ?_ | refine blk_alloc ?_ _)); exact BK656.out) hb)
                    have n3_ := Aside0.mk (blk_below (g := gb657) (o := .cells #[.int .u8 0, .int .i64 0, .string (⟨#[]⟩ : ByteArray)] 37 (0, 0)) (by (with_reducible repeat (first | refine blk_drewN ?_ _ | refine blk_drew ?_ | refine blk_alloc ?_ _)); exact BK657.out) hb)
                    have n4_ := Aside0.mk (below_step (by repeat (first | (with_reducible first | exact HB.out | apply below_alloc | apply pw_below_drewN | apply below_drew1 | refine below_set ?_ GE655.out | refine below_set ?_ GE656.out | refine below_set ?_ GE657.out) | exact HB.out)) hb)
                    clear BK655
                    clear BK656
                    clear BK657
                    clear HB
                    have HO666 := n0_
                    have BK655 := n1_
                    have BK656 := n2_
                    have BK657 := n3_
                    have HB := n4_
                    clear n0_ n1_ n2_ n3_ n4_
                    clear hb ho60
                    obtain ⟨Ao61, co61, eo61⟩ := Kd.R_slice HO666.out
                    (first | subst eo61 | (injection eo61 with f1_ f2_ f3_; have f4_ := f1_.symm; have f5_ := f3_.symm; clear f1_ f2_ f3_; subst f4_; subst f5_))
                    refine hK.out _ _ ⟨(blk_cell BK655.out 0).trans rfl, (blk_cell BK655.out 1).trans rfl, (blk_cell BK655.out 2).trans rfl, (blk_cell BK656.out 0).trans rfl, (blk_cell BK656.out 1).trans rfl, (blk_cell BK656.out 2).trans rfl⟩ (fun hHeld => ?_)
                    clear hK K
                    refine norm_ (a' := ?_) ?_ ?_
                    rotate_left
                    · show Act.put _ (some 63) _ = _
                      simp only [Act.put, List.setIfInBounds_toArray, List.set_cons_zero, List.set_cons_succ, i64_w, i32_w]
                      rfl
                    refine one_ (i := 11) (N := some 64) #[true, true, true, true, true, true, true, true, true, true, true, true, false, false, false, false] rfl rfl (one_of HT_.out (by kernel_rfl)) (by decide) (fun K hK => ?_)
                    refine goes_ Try.func97 (by kernel_rfl) rfl #[.slice Ao61 y664.length co61] (by rfl) rfl rfl (by (try simp only [List.map_toArray, List.map_cons, List.map_nil]); first | done | rfl | (simp only [List.length_drop, List.length_take]; rfl)) ?_
                    with_reducible refine (cmp_Or_int.calls kj41 _ _ y664 t667 _ ?side1 ?side2 A56.out).mono ?_
                    (case side1 => repeat (first | exact (Kd.R_reads' HO666.out).2.2 | (with_reducible refine Kd.C_alloc ?_ _) | (with_reducible refine Kd.C_drewN ?_ _) | (with_reducible refine Kd.C_drew ?_)))
                    (case side2 => exact (Kd.R_reads' HO666.out).2.1)
                    rintro e w' ⟨rfl, ⟨nd, rfl⟩⟩
                    refine ⟨_, rfl, ?_⟩
                    refine hK.out _ _ ⟨(blk_cell BK655.out 0).trans rfl, (blk_cell BK655.out 1).trans rfl, (blk_cell BK655.out 2).trans rfl, (blk_cell BK656.out 0).trans rfl, (blk_cell BK656.out 1).trans rfl, (blk_cell BK656.out 2).trans rfl⟩ (fun hHeld => ?_)
                    clear hK K
                    refine norm_ (a' := ?_) ?_ ?_
                    rotate_left
                    · show Act.put _ (some 64) _ = _
                      simp only [Act.put, List.setIfInBounds_toArray, List.set_cons_zero, List.set_cons_succ, i64_w, i32_w]
                      rfl
                    refine pure_ (i := 12) (N := some 65) (v := ?_) (a' := ?_) #[true, true, true, true, true, true, true, true, true, true, true, true, true, false, false, false] rfl rfl (any_of HT_.out (by kernel_rfl)) (fun _ _ _ h => h) (Or.inl ⟨by rfl, ?_⟩) ?_ ?_
                    rotate_left
                    · intro w'
                      go_simp
                      with_reducible rfl
                    rotate_left
                    · simp only [Act.put, List.setIfInBounds_toArray, List.set_cons_zero, List.set_cons_succ, i64_w, i32_w]
                      rfl
                    refine one_ (i := 13) (N := some 66) #[true, true, true, true, true, true, true, true, true, true, true, true, true, true, false, false] rfl rfl (one_of HT_.out (by kernel_rfl)) (by decide) (fun K hK => ?_)
                    refine goes_ Try.func95 (by kernel_rfl) rfl #[.bool (decide (t667 < 0))] (by rfl) rfl rfl (by (try simp only [List.map_toArray, List.map_cons, List.map_nil]); first | done | rfl | (simp only [List.length_drop, List.length_take]; rfl)) ?_
                    with_reducible refine (value_Is.calls (decide (t667 < 0)) t668 t669 t670 _ A57.out).mono ?_
                    rintro e w62 ⟨rfl, hb⟩
                    refine ⟨_, rfl, ?_⟩
                    have n0_ := Aside0.mk (Kd.R_below (by (with_reducible repeat (first | apply Kd.R_alloc | apply Kd.R_drewN | apply Kd.R_drew)); exact HO666.out) hb)
                    have n1_ := Aside0.mk (blk_below (g := gb655) (o := .cells #[.int .u8 a1_0, .int .i64 a1_1, .string a1_2] 37 (0, 0)) (by (with_reducible repeat (first | refine blk_drewN ?_ _ | refine blk_drew ?_ | refine blk_alloc ?_ _)); exact BK655.out) hb)
                    have n2_ := Aside0.mk (blk_below (g := gb656) (o := .cells #[.int .u8 a2_0, .int .i64 a2_1, .string a2_2] 37 (0, 0)) (by (with_reducible repeat (first | refine blk_drewN ?_ _ | refine blk_drew ?_ | refine blk_alloc ?_ _)); exact BK656.out) hb)
                    have n3_ := Aside0.mk (blk_below (g := gb657) (o := .cells #[.int .u8 0, .int .i64 0, .string (⟨#[]⟩ : ByteArray)] 37 (0, 0)) (by (with_reducible repeat (first | refine blk_drewN ?_ _ | refine blk_drew ?_ | refine blk_alloc ?_ _)); exact BK657.out) hb)
                    have n4_ := Aside0.mk (below_step (by repeat (first | (with_reducible first | exact HB.out | apply below_alloc | apply pw_below_drewN | apply below_drew1 | refine below_set ?_ GE655.out | refine below_set ?_ GE656.out | refine below_set ?_ GE657.out) | exact HB.out)) hb)
                    clear HO666
                    clear BK655
                    clear BK656
                    clear BK657
                    clear HB
                    have HO666 := n0_
                    have BK655 := n1_
                    have BK656 := n2_
                    have BK657 := n3_
                    have HB := n4_
                    clear n0_ n1_ n2_ n3_ n4_
                    (try clear hb)
                    (try clear hb2)
                    (try clear hk)
                    (try clear hi)
                    refine hK.out _ _ ⟨(blk_cell BK655.out 0).trans rfl, (blk_cell BK655.out 1).trans rfl, (blk_cell BK655.out 2).trans rfl, (blk_cell BK656.out 0).trans rfl, (blk_cell BK656.out 1).trans rfl, (blk_cell BK656.out 2).trans rfl⟩ (fun hHeld => ?_)
                    clear hK K
                    refine norm_ (a' := ?_) ?_ ?_
                    rotate_left
                    · show Act.put _ (some 66) _ = _
                      simp only [Act.put, List.setIfInBounds_toArray, List.set_cons_zero, List.set_cons_succ, i64_w, i32_w]
                      rfl
                    refine one_ (i := 14) (N := none) #[true, true, true, true, true, true, true, true, true, true, true, true, true, true, true, false] rfl rfl (one_of HT_.out (by kernel_rfl)) (by decide) (fun K hK => ?_)
                    have hs63 : w62.cell? ⟨gb657, 0, none⟩ = some (.int .u8 0) := (blk_cell BK657.out 0).trans rfl
                    have hfs63 := blk_frozen BK657.out 0
                    have hns63_0 := NB655_657.out
                    have hns63_1 := NB656_657.out
                    have hms63_0 := NB657_655.out
                    have hms63_1 := NB657_656.out
                    have hs64 : w62.cell? ⟨gb657, 1, none⟩ = some (.int .i64 0) := (blk_cell BK657.out 1).trans rfl
                    have hfs64 := blk_frozen BK657.out 1
                    have hns64_0 := NB655_657.out
                    have hns64_1 := NB656_657.out
                    have hms64_0 := NB657_655.out
                    have hms64_1 := NB657_656.out
                    have hs65 : w62.cell? ⟨gb657, 2, none⟩ = some (.string (⟨#[]⟩ : ByteArray)) := (blk_cell BK657.out 2).trans rfl
                    have hfs65 := blk_frozen BK657.out 2
                    have hns65_0 := NB655_657.out
                    have hns65_1 := NB656_657.out
                    have hms65_0 := NB657_655.out
                    have hms65_1 := NB657_656.out
                    refine skip_ (w1 := ?_) (by rfl) rfl ?_ ?_
                    rotate_left
                    · go_simp
                      rfl
                    refine hK.out _ _ ⟨((cell_far (p := ⟨gb657, _, none⟩) NB655_657.out _).trans (((cell_far (p := ⟨gb657, _, none⟩) NB655_657.out _).trans (((cell_far (p := ⟨gb657, _, none⟩) NB655_657.out _).trans (hHeld.1)))))), ((cell_far (p := ⟨gb657, _, none⟩) NB655_657.out _).trans (((cell_far (p := ⟨gb657, _, none⟩) NB655_657.out _).trans (((cell_far (p := ⟨gb657, _, none⟩) NB655_657.out _).trans (hHeld.2.1)))))), ((cell_far (p := ⟨gb657, _, none⟩) NB655_657.out _).trans (((cell_far (p := ⟨gb657, _, none⟩) NB655_657.out _).trans (((cell_far (p := ⟨gb657, _, none⟩) NB655_657.out _).trans (hHeld.2.2.1)))))), ((cell_far (p := ⟨gb657, _, none⟩) NB656_657.out _).trans (((cell_far (p := ⟨gb657, _, none⟩) NB656_657.out _).trans (((cell_far (p := ⟨gb657, _, none⟩) NB656_657.out _).trans (hHeld.2.2.2.1)))))), ((cell_far (p := ⟨gb657, _, none⟩) NB656_657.out _).trans (((cell_far (p := ⟨gb657, _, none⟩) NB656_657.out _).trans (((cell_far (p := ⟨gb657, _, none⟩) NB656_657.out _).trans (hHeld.2.2.2.2.1)))))), ((cell_far (p := ⟨gb657, _, none⟩) NB656_657.out _).trans (((cell_far (p := ⟨gb657, _, none⟩) NB656_657.out _).trans (((cell_far (p := ⟨gb657, _, none⟩) NB656_657.out _).trans (hHeld.2.2.2.2.2))))))⟩ (fun hHeld => ?_)
                    clear hK K
                    refine pure_ (i := 15) (N := some 7) (v := ?_) (a' := ?_) #[true, true, true, true, true, true, true, true, true, true, true, true, true, true, true, true] rfl rfl (any_of HT_.out (by kernel_rfl)) (fun _ _ _ h => h) (Or.inl ⟨by rfl, ?_⟩) ?_ ?_
                    rotate_left
                    · intro w'
                      go_simp
                      with_reducible rfl
                    rotate_left
                    · simp only [Act.put, List.setIfInBounds_toArray, List.set_cons_zero, List.set_cons_succ, i64_w, i32_w]
                      rfl
                    refine done_ (done_of HT_.out (by kernel_rfl)) ?_
                    try go_wp2
                    refine bodyPost_ret (results_ct rfl _ _ gb657 37 #[.int .u8 t668, .int .i64 t669, .string t670] (0, 0) _ rfl (by (with_reducible repeat (first | refine blk_drewN ?_ _ | refine blk_drew ?_ | refine blk_alloc ?_ _)); refine blk_put (cs := #[.int .u8 t668, .int .i64 t669, .string (⟨#[]⟩ : ByteArray)]) ?_ 2 _ rfl; (with_reducible repeat (first | refine blk_drewN ?_ _ | refine blk_drew ?_ | refine blk_alloc ?_ _)); refine blk_put (cs := #[.int .u8 t668, .int .i64 0, .string (⟨#[]⟩ : ByteArray)]) ?_ 1 _ rfl; (with_reducible repeat (first | refine blk_drewN ?_ _ | refine blk_drew ?_ | refine blk_alloc ?_ _)); refine blk_put (cs := #[.int .u8 0, .int .i64 0, .string (⟨#[]⟩ : ByteArray)]) ?_ 0 _ rfl; (with_reducible repeat (first | refine blk_drewN ?_ _ | refine blk_drew ?_ | refine blk_alloc ?_ _)); exact BK657.out) Try.underlying37 rfl (by kernel_rfl)) rfl ?_
                    exact ⟨by first | rfl | (simp [errW_none, errW_some] <;> rfl) | (simp [*, errW_none, errW_some] <;> rfl), by repeat (first | (with_reducible first | exact HB.out | apply below_alloc | apply pw_below_drewN | apply below_drew1 | refine below_set ?_ GE655.out | refine below_set ?_ GE656.out | refine below_set ?_ GE657.out) | exact HB.out)⟩
                  · replace c53 := Bool.eq_false_iff.mpr c53
                    subst c53
                    have H1 : (some (0, 0, (⟨#[]⟩ : ByteArray), 2)) = some (r1, r2, r3, r4) := by rw [if_neg (show ¬ (false = true) by decide)] at H; exact H
                    clear H
                    have H := H1
                    clear H1
                    simp only [Option.some.injEq, Prod.mk.injEq] at H
                    obtain ⟨rfl, rfl, rfl, rfl⟩ := H
                    have hnb66 := NB657_655.out
                    have hnc66 := NB655_657.out
                    have hnb67 := NB657_656.out
                    have hnc67 := NB656_657.out
                    have hcz68_0 : wc.cell? ⟨gb657, 0, none⟩ = some (.int .u8 0) := (blk_cell BK657.out 0).trans rfl
                    have hcz68_1 : wc.cell? ⟨gb657, 1, none⟩ = some (.int .i64 0) := (blk_cell BK657.out 1).trans rfl
                    have hcz68_2 : wc.cell? ⟨gb657, 2, none⟩ = some (.string (⟨#[]⟩ : ByteArray)) := (blk_cell BK657.out 2).trans rfl
                    have hfz68_0 := blk_frozen BK657.out 0
                    have hfz68_1 := blk_frozen BK657.out 1
                    have hfz68_2 := blk_frozen BK657.out 2
                    go_wp2
                    refine bodyPost_ret (results_ct rfl _ _ gb657 37 #[.int .u8 0, .int .i64 0, .string (⟨#[]⟩ : ByteArray)] (0, 0) _ rfl (by (with_reducible repeat (first | refine blk_drewN ?_ _ | refine blk_drew ?_ | refine blk_alloc ?_ _)); refine blk_put (cs := #[.int .u8 0, .int .i64 0, .string (⟨#[]⟩ : ByteArray)]) ?_ 2 _ rfl; (with_reducible repeat (first | refine blk_drewN ?_ _ | refine blk_drew ?_ | refine blk_alloc ?_ _)); refine blk_put (cs := #[.int .u8 0, .int .i64 0, .string (⟨#[]⟩ : ByteArray)]) ?_ 1 _ rfl; (with_reducible repeat (first | refine blk_drewN ?_ _ | refine blk_drew ?_ | refine blk_alloc ?_ _)); refine blk_put (cs := #[.int .u8 0, .int .i64 0, .string (⟨#[]⟩ : ByteArray)]) ?_ 0 _ rfl; (with_reducible repeat (first | refine blk_drewN ?_ _ | refine blk_drew ?_ | refine blk_alloc ?_ _)); exact BK657.out) Try.underlying37 rfl (by kernel_rfl)) rfl ?_
                    exact ⟨by first | rfl | (simp [errW_none, errW_some] <;> rfl) | (simp [*, errW_none, errW_some] <;> rfl), by repeat (first | (with_reducible first | exact HB.out | apply below_alloc | apply pw_below_drewN | apply below_drew1 | refine below_set ?_ GE655.out | refine below_set ?_ GE656.out | refine below_set ?_ GE657.out) | exact HB.out)⟩
            · rw [if_neg c41] at H
              have c41b0 : (a0.toList == ([60] : List UInt8)) = false := beq_eq_false_iff_ne.mpr c41
              have c41b1 : (a0.toList != ([60] : List UInt8)) = true := bne_iff_ne.mpr c41
              by_cases c69 : a0.toList = ([61] : List UInt8)
              · rw [if_pos c69] at H
                have c69b0 : (a0.toList == ([61] : List UInt8)) = true := beq_iff_eq.mpr c69
                have c69b1 : (a0.toList != ([61] : List UInt8)) = false := bne_eq_false_iff_eq.mpr c69
                clear c69
                by_cases c70 : a1_0 = a2_0
                · rw [if_pos c70] at H
                  have c70b0 : (a1_0 == a2_0) = true := beq_iff_eq.mpr c70
                  have c70b1 : (a1_0 != a2_0) = false := bne_eq_false_iff_eq.mpr c70
                  clear c70
                  by_cases c71 : a1_0 ≤ 3
                  · rw [if_pos c71] at H
                    have c71b0 : decide (a1_0 ≤ 3) = true := decide_eq_true c71
                    clear c71
                    replace H := Option.bind_eq_some_iff.mp H
                    obtain ⟨⟨t671, t672, t673⟩, A720, H⟩ := H
                    replace H : (some (t671, t672, t673, 0)) = some (r1, r2, r3, r4) := H
                    have A72 := Aside0.mk A720
                    clear A720
                    simp only [Option.some.injEq, Prod.mk.injEq] at H
                    obtain ⟨rfl, rfl, rfl, rfl⟩ := H
                    have hnb73 := NB655_656.out
                    have hnc73 := NB656_655.out
                    have hnb74 := NB655_657.out
                    have hnc74 := NB657_655.out
                    have hcz75_0 : wc.cell? ⟨gb655, 0, none⟩ = some (.int .u8 a1_0) := (blk_cell BK655.out 0).trans rfl
                    have hcz75_1 : wc.cell? ⟨gb655, 1, none⟩ = some (.int .i64 a1_1) := (blk_cell BK655.out 1).trans rfl
                    have hcz75_2 : wc.cell? ⟨gb655, 2, none⟩ = some (.string a1_2) := (blk_cell BK655.out 2).trans rfl
                    have hfz75_0 := blk_frozen BK655.out 0
                    have hfz75_1 := blk_frozen BK655.out 1
                    have hfz75_2 := blk_frozen BK655.out 2
                    have hnb76 := NB656_657.out
                    have hnc76 := NB657_656.out
                    have hcz77_0 : wc.cell? ⟨gb656, 0, none⟩ = some (.int .u8 a2_0) := (blk_cell BK656.out 0).trans rfl
                    have hcz77_1 : wc.cell? ⟨gb656, 1, none⟩ = some (.int .i64 a2_1) := (blk_cell BK656.out 1).trans rfl
                    have hcz77_2 : wc.cell? ⟨gb656, 2, none⟩ = some (.string a2_2) := (blk_cell BK656.out 2).trans rfl
                    have hfz77_0 := blk_frozen BK656.out 0
                    have hfz77_1 := blk_frozen BK656.out 1
                    have hfz77_2 := blk_frozen BK656.out 2
                    go_wp2_with (first | ((with_reducible refine gate_callee (f := 95) rfl ?_); refine goesL_ (some 82) rfl rfl Try.func95 (by kernel_rfl) rfl #[.bool (a1_0 == a2_0 && (a1_1 == a2_1 && (a1_2.toList == a2_2.toList)))] rfl (by (try simp only [List.map_toArray, List.map_cons, List.map_nil]); first | done | (simp only [c70b0, Bool.true_and]; rfl) | rfl | (simp only [List.length_drop, List.length_take]; rfl)) ?_; (with_reducible refine (value_Is.calls (a1_0 == a2_0 && (a1_1 == a2_1 && (a1_2.toList == a2_2.toList))) t671 t672 t673 _ A72.out).mono ?_); rintro e w78 ⟨rfl, hb⟩; refine ⟨_, rfl, ?_⟩; have n0_ := Aside0.mk (blk_below (g := gb655) (o := .cells #[.int .u8 a1_0, .int .i64 a1_1, .string a1_2] 37 (0, 0)) (by (with_reducible repeat (first | refine blk_drewN ?_ _ | refine blk_drew ?_ | refine blk_alloc ?_ _)); exact BK655.out) hb); have n1_ := Aside0.mk (blk_below (g := gb656) (o := .cells #[.int .u8 a2_0, .int .i64 a2_1, .string a2_2] 37 (0, 0)) (by (with_reducible repeat (first | refine blk_drewN ?_ _ | refine blk_drew ?_ | refine blk_alloc ?_ _)); exact BK656.out) hb); have n2_ := Aside0.mk (blk_below (g := gb657) (o := .cells #[.int .u8 0, .int .i64 0, .string (⟨#[]⟩ : ByteArray)] 37 (0, 0)) (by (with_reducible repeat (first | refine blk_drewN ?_ _ | refine blk_drew ?_ | refine blk_alloc ?_ _)); exact BK657.out) hb); have n3_ := Aside0.mk (below_step (by repeat (first | (with_reducible first | exact HB.out | apply below_alloc | apply pw_below_drewN | apply below_drew1 | refine below_set ?_ GE655.out | refine below_set ?_ GE656.out | refine below_set ?_ GE657.out) | exact HB.out)) hb); clear BK655; clear BK656; clear BK657; clear HB; have BK655 := n0_; have BK656 := n1_; have BK657 := n2_; have HB := n3_; clear n0_ n1_ n2_ n3_; (try clear hb); (try clear hb2); (try clear hk); (try clear hi); have hcz79_0 : w78.cell? ⟨gb657, 0, none⟩ = some (.int .u8 0) := (blk_cell BK657.out 0).trans rfl; have hcz79_1 : w78.cell? ⟨gb657, 1, none⟩ = some (.int .i64 0) := (blk_cell BK657.out 1).trans rfl; have hcz79_2 : w78.cell? ⟨gb657, 2, none⟩ = some (.string (⟨#[]⟩ : ByteArray)) := (blk_cell BK657.out 2).trans rfl; have hfz79_0 := blk_frozen BK657.out 0; have hfz79_1 := blk_frozen BK657.out 1; have hfz79_2 := blk_frozen BK657.out 2))
                    refine bodyPost_ret (results_ct rfl _ _ gb657 37 #[.int .u8 t671, .int .i64 t672, .string t673] (0, 0) _ rfl (by (with_reducible repeat (first | refine blk_drewN ?_ _ | refine blk_drew ?_ | refine blk_alloc ?_ _)); refine blk_put (cs := #[.int .u8 t671, .int .i64 t672, .string (⟨#[]⟩ : ByteArray)]) ?_ 2 _ rfl; (with_reducible repeat (first | refine blk_drewN ?_ _ | refine blk_drew ?_ | refine blk_alloc ?_ _)); refine blk_put (cs := #[.int .u8 t671, .int .i64 0, .string (⟨#[]⟩ : ByteArray)]) ?_ 1 _ rfl; (with_reducible repeat (first | refine blk_drewN ?_ _ | refine blk_drew ?_ | refine blk_alloc ?_ _)); refine blk_put (cs := #[.int .u8 0, .int .i64 0, .string (⟨#[]⟩ : ByteArray)]) ?_ 0 _ rfl; (with_reducible repeat (first | refine blk_drewN ?_ _ | refine blk_drew ?_ | refine blk_alloc ?_ _)); exact BK657.out) Try.underlying37 rfl (by kernel_rfl)) rfl ?_
                    exact ⟨by first | rfl | (simp [errW_none, errW_some] <;> rfl) | (simp [*, errW_none, errW_some] <;> rfl), by repeat (first | (with_reducible first | exact HB.out | apply below_alloc | apply pw_below_drewN | apply below_drew1 | refine below_set ?_ GE655.out | refine below_set ?_ GE656.out | refine below_set ?_ GE657.out) | exact HB.out)⟩
                  · rw [if_neg c71] at H
                    have c71b0 : decide (a1_0 ≤ 3) = false := decide_eq_false c71
                    clear c71
                    simp only [Option.some.injEq, Prod.mk.injEq] at H
                    obtain ⟨rfl, rfl, rfl, rfl⟩ := H
                    have hnb80 := NB655_656.out
                    have hnc80 := NB656_655.out
                    have hnb81 := NB655_657.out
                    have hnc81 := NB657_655.out
                    have hcz82_0 : wc.cell? ⟨gb655, 0, none⟩ = some (.int .u8 a1_0) := (blk_cell BK655.out 0).trans rfl
                    have hcz82_1 : wc.cell? ⟨gb655, 1, none⟩ = some (.int .i64 a1_1) := (blk_cell BK655.out 1).trans rfl
                    have hcz82_2 : wc.cell? ⟨gb655, 2, none⟩ = some (.string a1_2) := (blk_cell BK655.out 2).trans rfl
                    have hfz82_0 := blk_frozen BK655.out 0
                    have hfz82_1 := blk_frozen BK655.out 1
                    have hfz82_2 := blk_frozen BK655.out 2
                    have hnb83 := NB656_657.out
                    have hnc83 := NB657_656.out
                    have hcz84_0 : wc.cell? ⟨gb656, 0, none⟩ = some (.int .u8 a2_0) := (blk_cell BK656.out 0).trans rfl
                    have hcz84_1 : wc.cell? ⟨gb656, 1, none⟩ = some (.int .i64 a2_1) := (blk_cell BK656.out 1).trans rfl
                    have hcz84_2 : wc.cell? ⟨gb656, 2, none⟩ = some (.string a2_2) := (blk_cell BK656.out 2).trans rfl
                    have hfz84_0 := blk_frozen BK656.out 0
                    have hfz84_1 := blk_frozen BK656.out 1
                    have hfz84_2 := blk_frozen BK656.out 2
                    have hcz85_0 : wc.cell? ⟨gb657, 0, none⟩ = some (.int .u8 0) := (blk_cell BK657.out 0).trans rfl
                    have hcz85_1 : wc.cell? ⟨gb657, 1, none⟩ = some (.int .i64 0) := (blk_cell BK657.out 1).trans rfl
                    have hcz85_2 : wc.cell? ⟨gb657, 2, none⟩ = some (.string (⟨#[]⟩ : ByteArray)) := (blk_cell BK657.out 2).trans rfl
                    have hfz85_0 := blk_frozen BK657.out 0
                    have hfz85_1 := blk_frozen BK657.out 1
                    have hfz85_2 := blk_frozen BK657.out 2
                    go_wp2
                    refine bodyPost_ret (results_ct rfl _ _ gb657 37 #[.int .u8 0, .int .i64 0, .string (⟨#[]⟩ : ByteArray)] (0, 0) _ rfl (by (with_reducible repeat (first | refine blk_drewN ?_ _ | refine blk_drew ?_ | refine blk_alloc ?_ _)); refine blk_put (cs := #[.int .u8 0, .int .i64 0, .string (⟨#[]⟩ : ByteArray)]) ?_ 2 _ rfl; (with_reducible repeat (first | refine blk_drewN ?_ _ | refine blk_drew ?_ | refine blk_alloc ?_ _)); refine blk_put (cs := #[.int .u8 0, .int .i64 0, .string (⟨#[]⟩ : ByteArray)]) ?_ 1 _ rfl; (with_reducible repeat (first | refine blk_drewN ?_ _ | refine blk_drew ?_ | refine blk_alloc ?_ _)); refine blk_put (cs := #[.int .u8 0, .int .i64 0, .string (⟨#[]⟩ : ByteArray)]) ?_ 0 _ rfl; (with_reducible repeat (first | refine blk_drewN ?_ _ | refine blk_drew ?_ | refine blk_alloc ?_ _)); exact BK657.out) Try.underlying37 rfl (by kernel_rfl)) rfl ?_
                    exact ⟨by first | rfl | (simp [errW_none, errW_some] <;> rfl) | (simp [*, errW_none, errW_some] <;> rfl), by repeat (first | (with_reducible first | exact HB.out | apply below_alloc | apply pw_below_drewN | apply below_drew1 | refine below_set ?_ GE655.out | refine below_set ?_ GE656.out | refine below_set ?_ GE657.out) | exact HB.out)⟩
                · rw [if_neg c70] at H
                  have c70b0 : (a1_0 == a2_0) = false := beq_eq_false_iff_ne.mpr c70
                  have c70b1 : (a1_0 != a2_0) = true := bne_iff_ne.mpr c70
                  simp only [Option.some.injEq, Prod.mk.injEq] at H
                  obtain ⟨rfl, rfl, rfl, rfl⟩ := H
                  have hnb86 := NB655_656.out
                  have hnc86 := NB656_655.out
                  have hnb87 := NB655_657.out
                  have hnc87 := NB657_655.out
                  have hcz88_0 : wc.cell? ⟨gb655, 0, none⟩ = some (.int .u8 a1_0) := (blk_cell BK655.out 0).trans rfl
                  have hcz88_1 : wc.cell? ⟨gb655, 1, none⟩ = some (.int .i64 a1_1) := (blk_cell BK655.out 1).trans rfl
                  have hcz88_2 : wc.cell? ⟨gb655, 2, none⟩ = some (.string a1_2) := (blk_cell BK655.out 2).trans rfl
                  have hfz88_0 := blk_frozen BK655.out 0
                  have hfz88_1 := blk_frozen BK655.out 1
                  have hfz88_2 := blk_frozen BK655.out 2
                  have hnb89 := NB656_657.out
                  have hnc89 := NB657_656.out
                  have hcz90_0 : wc.cell? ⟨gb656, 0, none⟩ = some (.int .u8 a2_0) := (blk_cell BK656.out 0).trans rfl
                  have hcz90_1 : wc.cell? ⟨gb656, 1, none⟩ = some (.int .i64 a2_1) := (blk_cell BK656.out 1).trans rfl
                  have hcz90_2 : wc.cell? ⟨gb656, 2, none⟩ = some (.string a2_2) := (blk_cell BK656.out 2).trans rfl
                  have hfz90_0 := blk_frozen BK656.out 0
                  have hfz90_1 := blk_frozen BK656.out 1
                  have hfz90_2 := blk_frozen BK656.out 2
                  have hcz91_0 : wc.cell? ⟨gb657, 0, none⟩ = some (.int .u8 0) := (blk_cell BK657.out 0).trans rfl
                  have hcz91_1 : wc.cell? ⟨gb657, 1, none⟩ = some (.int .i64 0) := (blk_cell BK657.out 1).trans rfl
                  have hcz91_2 : wc.cell? ⟨gb657, 2, none⟩ = some (.string (⟨#[]⟩ : ByteArray)) := (blk_cell BK657.out 2).trans rfl
                  have hfz91_0 := blk_frozen BK657.out 0
                  have hfz91_1 := blk_frozen BK657.out 1
                  have hfz91_2 := blk_frozen BK657.out 2
                  go_wp2
                  refine bodyPost_ret (results_ct rfl _ _ gb657 37 #[.int .u8 0, .int .i64 0, .string (⟨#[]⟩ : ByteArray)] (0, 0) _ rfl (by (with_reducible repeat (first | refine blk_drewN ?_ _ | refine blk_drew ?_ | refine blk_alloc ?_ _)); refine blk_put (cs := #[.int .u8 0, .int .i64 0, .string (⟨#[]⟩ : ByteArray)]) ?_ 2 _ rfl; (with_reducible repeat (first | refine blk_drewN ?_ _ | refine blk_drew ?_ | refine blk_alloc ?_ _)); refine blk_put (cs := #[.int .u8 0, .int .i64 0, .string (⟨#[]⟩ : ByteArray)]) ?_ 1 _ rfl; (with_reducible repeat (first | refine blk_drewN ?_ _ | refine blk_drew ?_ | refine blk_alloc ?_ _)); refine blk_put (cs := #[.int .u8 0, .int .i64 0, .string (⟨#[]⟩ : ByteArray)]) ?_ 0 _ rfl; (with_reducible repeat (first | refine blk_drewN ?_ _ | refine blk_drew ?_ | refine blk_alloc ?_ _)); exact BK657.out) Try.underlying37 rfl (by kernel_rfl)) rfl ?_
                  exact ⟨by first | rfl | (simp [errW_none, errW_some] <;> rfl) | (simp [*, errW_none, errW_some] <;> rfl), by repeat (first | (with_reducible first | exact HB.out | apply below_alloc | apply pw_below_drewN | apply below_drew1 | refine below_set ?_ GE655.out | refine below_set ?_ GE656.out | refine below_set ?_ GE657.out) | exact HB.out)⟩
              · rw [if_neg c69] at H
                have c69b0 : (a0.toList == ([61] : List UInt8)) = false := beq_eq_false_iff_ne.mpr c69
                have c69b1 : (a0.toList != ([61] : List UInt8)) = true := bne_iff_ne.mpr c69
                have HC92 := Aside0.mk H
                clear H
                go_upto_if 83 with (fail)
                go_cut [83] (fun v83 wc => ∃ (kq : Nat) (x83_91 : Bool), v83 = .bool x83_91 ∧ Aside0 (value_Two.j3 kq a0 x83_91 a1_0 a1_1 a1_2 a2_0 a2_1 a2_2 = some (r1, r2, r3, r4)) ∧ Aside0 (kq ≤ kj16) ∧ Aside0 (wc.heap[gb655]? = some (.cells #[.int .u8 a1_0, .int .i64 a1_1, .string a1_2] 37 (0, 0))) ∧ Aside0 (wc.heap[gb656]? = some (.cells #[.int .u8 a2_0, .int .i64 a2_1, .string a2_2] 37 (0, 0))) ∧ Aside0 (wc.heap[gb657]? = some (.cells #[.int .u8 0, .int .i64 0, .string (⟨#[]⟩ : ByteArray)] 37 (0, 0))) ∧ Aside0 (Below w.heap.size w wc))
                case first =>
                  have H := HC92.out
                  clear HC92
                  by_cases c93 : a0.toList = ([99, 97, 116] : List UInt8)
                  · rw [if_pos c93] at H
                    have c93b0 : (a0.toList == ([99, 97, 116] : List UInt8)) = true := beq_iff_eq.mpr c93
                    have c93b1 : (a0.toList != ([99, 97, 116] : List UInt8)) = false := bne_eq_false_iff_eq.mpr c93
                    clear c93
                    (first | rw [c93b0] | (simp only [i64_w, i32_w]; rw [c93b0]) | skip)
                    have H' := Aside0.mk H
                    clear H
                    go_wp2
                    go_meet
                    case rel => exact ⟨_, ((a0.toList == ([99, 97, 116] : List UInt8))), (by first | rfl | (simp; done) | (simp [*]; done)), H', ⟨by have := HJ3.out; have := HJ16.out; first | omega | exact Nat.le_refl _⟩, ⟨by (with_reducible repeat (first | refine blk_drewN ?_ _ | refine blk_drew ?_ | refine blk_alloc ?_ _)); exact BK655.out⟩, ⟨by (with_reducible repeat (first | refine blk_drewN ?_ _ | refine blk_drew ?_ | refine blk_alloc ?_ _)); exact BK656.out⟩, ⟨by (with_reducible repeat (first | refine blk_drewN ?_ _ | refine blk_drew ?_ | refine blk_alloc ?_ _)); exact BK657.out⟩, ⟨by repeat (first | (with_reducible first | exact HB.out | apply below_alloc | apply pw_below_drewN | apply below_drew1 | refine below_set ?_ GE655.out | refine below_set ?_ GE656.out | refine below_set ?_ GE657.out) | exact HB.out)⟩⟩
                  · rw [if_neg c93] at H
                    have c93b0 : (a0.toList == ([99, 97, 116] : List UInt8)) = false := beq_eq_false_iff_ne.mpr c93
                    have c93b1 : (a0.toList != ([99, 97, 116] : List UInt8)) = true := bne_iff_ne.mpr c93
                    (first | rw [c93b0] | (simp only [i64_w, i32_w]; rw [c93b0]) | skip)
                    have H' := Aside0.mk H
                    clear H
                    go_wp2
                    go_meet
                    case rel => exact ⟨_, ((a0.toList == ([97, 116] : List UInt8))), (by first | rfl | (simp; done) | (simp [*]; done)), H', ⟨by have := HJ3.out; have := HJ16.out; first | omega | exact Nat.le_refl _⟩, ⟨by (with_reducible repeat (first | refine blk_drewN ?_ _ | refine blk_drew ?_ | refine blk_alloc ?_ _)); exact BK655.out⟩, ⟨by (with_reducible repeat (first | refine blk_drewN ?_ _ | refine blk_drew ?_ | refine blk_alloc ?_ _)); exact BK656.out⟩, ⟨by (with_reducible repeat (first | refine blk_drewN ?_ _ | refine blk_drew ?_ | refine blk_alloc ?_ _)); exact BK657.out⟩, ⟨by repeat (first | (with_reducible first | exact HB.out | apply below_alloc | apply pw_below_drewN | apply below_drew1 | refine below_set ?_ GE655.out | refine below_set ?_ GE656.out | refine below_set ?_ GE657.out) | exact HB.out)⟩⟩
                case rest =>
                  clear HC92
                  try clear c1
                  try clear c2
                  try clear p2
                  try clear c3
                  try clear c4
                  try clear c5
                  try clear c6
                  try clear c7
                  try clear c8
                  try clear c8b0
                  try clear c8b1
                  try clear c9
                  try clear c10
                  try clear c12
                  try clear c14
                  try clear c15
                  try clear c18
                  try clear c18b0
                  try clear c18b1
                  try clear c19
                  try clear c19b0
                  try clear c19b1
                  try clear c20
                  try clear c20b0
                  try clear c20b1
                  try clear c21
                  try clear c21b0
                  try clear c21b1
                  try clear c22
                  try clear c22b0
                  try clear c22b1
                  try clear c23
                  try clear c23b0
                  try clear c23b1
                  try clear c24
                  try clear c24b0
                  try clear c24b1
                  try clear c25
                  try clear c25b0
                  try clear c25b1
                  try clear c26
                  try clear c26b0
                  try clear c26b1
                  try clear c27
                  try clear c27b0
                  try clear c27b1
                  try clear c28
                  try clear c29
                  try clear c31
                  try clear c32
                  try clear c34
                  try clear c38
                  try clear c39
                  try clear c41
                  try clear c41b0
                  try clear c41b1
                  try clear c43
                  try clear c44
                  try clear c44b0
                  try clear c44b1
                  try clear c45
                  try clear c46
                  try clear c48
                  try clear c50
                  try clear c51
                  try clear c53
                  try clear c66
                  try clear c67
                  try clear c69
                  try clear c69b0
                  try clear c69b1
                  try clear c70
                  try clear c70b0
                  try clear c70b1
                  try clear c71
                  try clear c71b0
                  try clear c73
                  try clear c74
                  try clear c76
                  try clear c80
                  try clear c81
                  try clear c83
                  try clear c86
                  try clear c87
                  try clear c89
                  try clear c93
                  try clear c93b0
                  try clear c93b1
                  try clear hcz11_0
                  try clear hcz11_1
                  try clear hcz11_2
                  try clear hcz13_0
                  try clear hcz13_1
                  try clear hcz13_2
                  try clear hcz16_0
                  try clear hcz16_1
                  try clear hcz16_2
                  try clear hcz33_0
                  try clear hcz33_1
                  try clear hcz33_2
                  try clear hcz35_0
                  try clear hcz35_1
                  try clear hcz35_2
                  try clear hcz37_0
                  try clear hcz37_1
                  try clear hcz37_2
                  try clear hcz40_0
                  try clear hcz40_1
                  try clear hcz40_2
                  try clear hcz47_0
                  try clear hcz47_1
                  try clear hcz47_2
                  try clear hcz49_0
                  try clear hcz49_1
                  try clear hcz49_2
                  try clear hcz52_0
                  try clear hcz52_1
                  try clear hcz52_2
                  try clear hcz68_0
                  try clear hcz68_1
                  try clear hcz68_2
                  try clear hcz75_0
                  try clear hcz75_1
                  try clear hcz75_2
                  try clear hcz77_0
                  try clear hcz77_1
                  try clear hcz77_2
                  try clear hcz79_0
                  try clear hcz79_1
                  try clear hcz79_2
                  try clear hcz82_0
                  try clear hcz82_1
                  try clear hcz82_2
                  try clear hcz84_0
                  try clear hcz84_1
                  try clear hcz84_2
                  try clear hcz85_0
                  try clear hcz85_1
                  try clear hcz85_2
                  try clear hcz88_0
                  try clear hcz88_1
                  try clear hcz88_2
                  try clear hcz90_0
                  try clear hcz90_1
                  try clear hcz90_2
                  try clear hcz91_0
                  try clear hcz91_1
                  try clear hcz91_2
                  try clear hfz11_0
                  try clear hfz11_1
                  try clear hfz11_2
                  try clear hfz13_0
                  try clear hfz13_1
                  try clear hfz13_2
                  try clear hfz16_0
                  try clear hfz16_1
                  try clear hfz16_2
                  try clear hfz33_0
                  try clear hfz33_1
                  try clear hfz33_2
                  try clear hfz35_0
                  try clear hfz35_1
                  try clear hfz35_2
                  try clear hfz37_0
                  try clear hfz37_1
                  try clear hfz37_2
                  try clear hfz40_0
                  try clear hfz40_1
                  try clear hfz40_2
                  try clear hfz47_0
                  try clear hfz47_1
                  try clear hfz47_2
                  try clear hfz49_0
                  try clear hfz49_1
                  try clear hfz49_2
                  try clear hfz52_0
                  try clear hfz52_1
                  try clear hfz52_2
                  try clear hfz68_0
                  try clear hfz68_1
                  try clear hfz68_2
                  try clear hfz75_0
                  try clear hfz75_1
                  try clear hfz75_2
                  try clear hfz77_0
                  try clear hfz77_1
                  try clear hfz77_2
                  try clear hfz79_0
                  try clear hfz79_1
                  try clear hfz79_2
                  try clear hfz82_0
                  try clear hfz82_1
                  try clear hfz82_2
                  try clear hfz84_0
                  try clear hfz84_1
                  try clear hfz84_2
                  try clear hfz85_0
                  try clear hfz85_1
                  try clear hfz85_2
                  try clear hfz88_0
                  try clear hfz88_1
                  try clear hfz88_2
                  try clear hfz90_0
                  try clear hfz90_1
                  try clear hfz90_2
                  try clear hfz91_0
                  try clear hfz91_1
                  try clear hfz91_2
                  try clear p2
                  obtain ⟨kq, x83_91, rfl, HA, HJ91, BK655, BK656, BK657, HB⟩ := hcut
                  cases kq with
                  | zero => exact absurd HA.out (by simp [value_Two.j3])
                  | succ kj91 =>
                    have H := HA.out
                    clear HA
                    simp only [value_Two.j3] at H
                    by_cases c94 : x83_91 = true
                    · subst c94
                      have H1 : (if a1_0 = 3 then (if a0.toList = ([99, 97, 116] : List UInt8) then (if a2_0 = 3 then (value_Two.j4 kj91 a0 true a1_0 a1_1 a1_2 a2_0 a2_1 a2_2) else (if a0.toList = ([97, 116] : List UInt8) then (value_Two.j4 kj91 a0 (a2_0 == 1) a1_0 a1_1 a1_2 a2_0 a2_1 a2_2) else (value_Two.j4 kj91 a0 false a1_0 a1_1 a1_2 a2_0 a2_1 a2_2))) else (if a0.toList = ([97, 116] : List UInt8) then (value_Two.j4 kj91 a0 (a2_0 == 1) a1_0 a1_1 a1_2 a2_0 a2_1 a2_2) else (value_Two.j4 kj91 a0 false a1_0 a1_1 a1_2 a2_0 a2_1 a2_2))) else (value_Two.j4 kj91 a0 false a1_0 a1_1 a1_2 a2_0 a2_1 a2_2)) = some (r1, r2, r3, r4) := by rw [if_pos rfl] at H; exact H
                      clear H
                      have H := H1
                      clear H1
                      have HC95 := Aside0.mk H
                      clear H
                      go_upto_region 25 with (fail)
                      go_cut [106] (fun v106 wc => ∃ (kq : Nat) (x106_94 : Bool), v106 = .bool x106_94 ∧ Aside0 (value_Two.j4 kq a0 x106_94 a1_0 a1_1 a1_2 a2_0 a2_1 a2_2 = some (r1, r2, r3, r4)) ∧ Aside0 (kq ≤ kj91) ∧ Aside0 (wc.heap[gb655]? = some (.cells #[.int .u8 a1_0, .int .i64 a1_1, .string a1_2] 37 (0, 0))) ∧ Aside0 (wc.heap[gb656]? = some (.cells #[.int .u8 a2_0, .int .i64 a2_1, .string a2_2] 37 (0, 0))) ∧ Aside0 (wc.heap[gb657]? = some (.cells #[.int .u8 0, .int .i64 0, .string (⟨#[]⟩ : ByteArray)] 37 (0, 0))) ∧ Aside0 (Below w.heap.size w wc))
                      case first =>
                        have H := HC95.out
                        clear HC95
                        by_cases c96 : a1_0 = 3
                        · rw [if_pos c96] at H
                          have c96b0 : (a1_0 == 3) = true := beq_iff_eq.mpr c96
                          have c96b1 : (a1_0 != 3) = false := bne_eq_false_iff_eq.mpr c96
                          clear c96
                          (first | rw [c96b0] | (simp only [i64_w, i32_w]; rw [c96b0]) | skip)
                          by_cases c97 : a0.toList = ([99, 97, 116] : List UInt8)
                          · rw [if_pos c97] at H
                            have c97b0 : (a0.toList == ([99, 97, 116] : List UInt8)) = true := beq_iff_eq.mpr c97
                            have c97b1 : (a0.toList != ([99, 97, 116] : List UInt8)) = false := bne_eq_false_iff_eq.mpr c97
                            clear c97
                            by_cases c98 : a2_0 = 3
                            · rw [if_pos c98] at H
                              have c98b0 : (a2_0 == 3) = true := beq_iff_eq.mpr c98
                              have c98b1 : (a2_0 != 3) = false := bne_eq_false_iff_eq.mpr c98
                              clear c98
                              have H' := Aside0.mk H
                              clear H
                              have hnb99 := NB655_656.out
                              have hnc99 := NB656_655.out
                              have hnb100 := NB655_657.out
                              have hnc100 := NB657_655.out
                              have hcz101_0 : wc.cell? ⟨gb655, 0, none⟩ = some (.int .u8 a1_0) := (blk_cell BK655.out 0).trans rfl
                              have hcz101_1 : wc.cell? ⟨gb655, 1, none⟩ = some (.int .i64 a1_1) := (blk_cell BK655.out 1).trans rfl
                              have hcz101_2 : wc.cell? ⟨gb655, 2, none⟩ = some (.string a1_2) := (blk_cell BK655.out 2).trans rfl
                              have hfz101_0 := blk_frozen BK655.out 0
                              have hfz101_1 := blk_frozen BK655.out 1
                              have hfz101_2 := blk_frozen BK655.out 2
                              have hnb102 := NB656_657.out
                              have hnc102 := NB657_656.out
                              have hcz103_0 : wc.cell? ⟨gb656, 0, none⟩ = some (.int .u8 a2_0) := (blk_cell BK656.out 0).trans rfl
                              have hcz103_1 : wc.cell? ⟨gb656, 1, none⟩ = some (.int .i64 a2_1) := (blk_cell BK656.out 1).trans rfl
                              have hcz103_2 : wc.cell? ⟨gb656, 2, none⟩ = some (.string a2_2) := (blk_cell BK656.out 2).trans rfl
                              have hfz103_0 := blk_frozen BK656.out 0
                              have hfz103_1 := blk_frozen BK656.out 1
                              have hfz103_2 := blk_frozen BK656.out 2
                              go_wp2
                              go_meet
                              case rel => exact ⟨_, (true), (by first | rfl | (simp; done) | (simp [*]; done)), H', ⟨by have := HJ3.out; have := HJ16.out; have := HJ91.out; first | omega | exact Nat.le_refl _⟩, ⟨by (with_reducible repeat (first | refine blk_drewN ?_ _ | refine blk_drew ?_ | refine blk_alloc ?_ _)); exact BK655.out⟩, ⟨by (with_reducible repeat (first | refine blk_drewN ?_ _ | refine blk_drew ?_ | refine blk_alloc ?_ _)); exact BK656.out⟩, ⟨by (with_reducible repeat (first | refine blk_drewN ?_ _ | refine blk_drew ?_ | refine blk_alloc ?_ _)); exact BK657.out⟩, ⟨by repeat (first | (with_reducible first | exact HB.out | apply below_alloc | apply pw_below_drewN | apply below_drew1 | refine below_set ?_ GE655.out | refine below_set ?_ GE656.out | refine below_set ?_ GE657.out) | exact HB.out)⟩⟩
                            · rw [if_neg c98] at H
                              have c98b0 : (a2_0 == 3) = false := beq_eq_false_iff_ne.mpr c98
                              have c98b1 : (a2_0 != 3) = true := bne_iff_ne.mpr c98
                              by_cases c104 : a0.toList = ([97, 116] : List UInt8)
                              · rw [if_pos c104] at H
                                have c104b0 : (a0.toList == ([97, 116] : List UInt8)) = true := beq_iff_eq.mpr c104
                                have c104b1 : (a0.toList != ([97, 116] : List UInt8)) = false := bne_eq_false_iff_eq.mpr c104
                                clear c104
                                have H' := Aside0.mk H
                                clear H
                                have hnb105 := NB655_656.out
                                have hnc105 := NB656_655.out
                                have hnb106 := NB655_657.out
                                have hnc106 := NB657_655.out
                                have hcz107_0 : wc.cell? ⟨gb655, 0, none⟩ = some (.int .u8 a1_0) := (blk_cell BK655.out 0).trans rfl
                                have hcz107_1 : wc.cell? ⟨gb655, 1, none⟩ = some (.int .i64 a1_1) := (blk_cell BK655.out 1).trans rfl
                                have hcz107_2 : wc.cell? ⟨gb655, 2, none⟩ = some (.string a1_2) := (blk_cell BK655.out 2).trans rfl
                                have hfz107_0 := blk_frozen BK655.out 0
                                have hfz107_1 := blk_frozen BK655.out 1
                                have hfz107_2 := blk_frozen BK655.out 2
                                have hnb108 := NB656_657.out
                                have hnc108 := NB657_656.out
                                have hcz109_0 : wc.cell? ⟨gb656, 0, none⟩ = some (.int .u8 a2_0) := (blk_cell BK656.out 0).trans rfl
                                have hcz109_1 : wc.cell? ⟨gb656, 1, none⟩ = some (.int .i64 a2_1) := (blk_cell BK656.out 1).trans rfl
                                have hcz109_2 : wc.cell? ⟨gb656, 2, none⟩ = some (.string a2_2) := (blk_cell BK656.out 2).trans rfl
                                have hfz109_0 := blk_frozen BK656.out 0
                                have hfz109_1 := blk_frozen BK656.out 1
                                have hfz109_2 := blk_frozen BK656.out 2
                                go_wp2
                                go_meet
                                case rel => exact ⟨_, ((a2_0 == 1)), (by first | rfl | (simp; done) | (simp [*]; done)), H', ⟨by have := HJ3.out; have := HJ16.out; have := HJ91.out; first | omega | exact Nat.le_refl _⟩, ⟨by (with_reducible repeat (first | refine blk_drewN ?_ _ | refine blk_drew ?_ | refine blk_alloc ?_ _)); exact BK655.out⟩, ⟨by (with_reducible repeat (first | refine blk_drewN ?_ _ | refine blk_drew ?_ | refine blk_alloc ?_ _)); exact BK656.out⟩, ⟨by (with_reducible repeat (first | refine blk_drewN ?_ _ | refine blk_drew ?_ | refine blk_alloc ?_ _)); exact BK657.out⟩, ⟨by repeat (first | (with_reducible first | exact HB.out | apply below_alloc | apply pw_below_drewN | apply below_drew1 | refine below_set ?_ GE655.out | refine below_set ?_ GE656.out | refine below_set ?_ GE657.out) | exact HB.out)⟩⟩
                              · rw [if_neg c104] at H
                                have c104b0 : (a0.toList == ([97, 116] : List UInt8)) = false := beq_eq_false_iff_ne.mpr c104
                                have c104b1 : (a0.toList != ([97, 116] : List UInt8)) = true := bne_iff_ne.mpr c104
                                have H' := Aside0.mk H
                                clear H
                                have hnb110 := NB655_656.out
                                have hnc110 := NB656_655.out
                                have hnb111 := NB655_657.out
                                have hnc111 := NB657_655.out
                                have hcz112_0 : wc.cell? ⟨gb655, 0, none⟩ = some (.int .u8 a1_0) := (blk_cell BK655.out 0).trans rfl
                                have hcz112_1 : wc.cell? ⟨gb655, 1, none⟩ = some (.int .i64 a1_1) := (blk_cell BK655.out 1).trans rfl
                                have hcz112_2 : wc.cell? ⟨gb655, 2, none⟩ = some (.string a1_2) := (blk_cell BK655.out 2).trans rfl
                                have hfz112_0 := blk_frozen BK655.out 0
                                have hfz112_1 := blk_frozen BK655.out 1
                                have hfz112_2 := blk_frozen BK655.out 2
                                have hnb113 := NB656_657.out
                                have hnc113 := NB657_656.out
                                have hcz114_0 : wc.cell? ⟨gb656, 0, none⟩ = some (.int .u8 a2_0) := (blk_cell BK656.out 0).trans rfl
                                have hcz114_1 : wc.cell? ⟨gb656, 1, none⟩ = some (.int .i64 a2_1) := (blk_cell BK656.out 1).trans rfl
                                have hcz114_2 : wc.cell? ⟨gb656, 2, none⟩ = some (.string a2_2) := (blk_cell BK656.out 2).trans rfl
                                have hfz114_0 := blk_frozen BK656.out 0
                                have hfz114_1 := blk_frozen BK656.out 1
                                have hfz114_2 := blk_frozen BK656.out 2
                                go_wp2
                                go_meet
                                case rel => exact ⟨_, (false), (by first | rfl | (simp; done) | (simp [*]; done)), H', ⟨by have := HJ3.out; have := HJ16.out; have := HJ91.out; first | omega | exact Nat.le_refl _⟩, ⟨by (with_reducible repeat (first | refine blk_drewN ?_ _ | refine blk_drew ?_ | refine blk_alloc ?_ _)); exact BK655.out⟩, ⟨by (with_reducible repeat (first | refine blk_drewN ?_ _ | refine blk_drew ?_ | refine blk_alloc ?_ _)); exact BK656.out⟩, ⟨by (with_reducible repeat (first | refine blk_drewN ?_ _ | refine blk_drew ?_ | refine blk_alloc ?_ _)); exact BK657.out⟩, ⟨by repeat (first | (with_reducible first | exact HB.out | apply below_alloc | apply pw_below_drewN | apply below_drew1 | refine below_set ?_ GE655.out | refine below_set ?_ GE656.out | refine below_set ?_ GE657.out) | exact HB.out)⟩⟩
                          · rw [if_neg c97] at H
                            have c97b0 : (a0.toList == ([99, 97, 116] : List UInt8)) = false := beq_eq_false_iff_ne.mpr c97
                            have c97b1 : (a0.toList != ([99, 97, 116] : List UInt8)) = true := bne_iff_ne.mpr c97
                            by_cases c115 : a0.toList = ([97, 116] : List UInt8)
                            · rw [if_pos c115] at H
                              have c115b0 : (a0.toList == ([97, 116] : List UInt8)) = true := beq_iff_eq.mpr c115
                              have c115b1 : (a0.toList != ([97, 116] : List UInt8)) = false := bne_eq_false_iff_eq.mpr c115
                              clear c115
                              have H' := Aside0.mk H
                              clear H
                              have hnb116 := NB655_656.out
                              have hnc116 := NB656_655.out
                              have hnb117 := NB655_657.out
                              have hnc117 := NB657_655.out
                              have hcz118_0 : wc.cell? ⟨gb655, 0, none⟩ = some (.int .u8 a1_0) := (blk_cell BK655.out 0).trans rfl
                              have hcz118_1 : wc.cell? ⟨gb655, 1, none⟩ = some (.int .i64 a1_1) := (blk_cell BK655.out 1).trans rfl
                              have hcz118_2 : wc.cell? ⟨gb655, 2, none⟩ = some (.string a1_2) := (blk_cell BK655.out 2).trans rfl
                              have hfz118_0 := blk_frozen BK655.out 0
                              have hfz118_1 := blk_frozen BK655.out 1
                              have hfz118_2 := blk_frozen BK655.out 2
                              have hnb119 := NB656_657.out
                              have hnc119 := NB657_656.out
                              have hcz120_0 : wc.cell? ⟨gb656, 0, none⟩ = some (.int .u8 a2_0) := (blk_cell BK656.out 0).trans rfl
                              have hcz120_1 : wc.cell? ⟨gb656, 1, none⟩ = some (.int .i64 a2_1) := (blk_cell BK656.out 1).trans rfl
                              have hcz120_2 : wc.cell? ⟨gb656, 2, none⟩ = some (.string a2_2) := (blk_cell BK656.out 2).trans rfl
                              have hfz120_0 := blk_frozen BK656.out 0
                              have hfz120_1 := blk_frozen BK656.out 1
                              have hfz120_2 := blk_frozen BK656.out 2
                              go_wp2
                              go_meet
                              case rel => exact ⟨_, ((a2_0 == 1)), (by first | rfl | (simp; done) | (simp [*]; done)), H', ⟨by have := HJ3.out; have := HJ16.out; have := HJ91.out; first | omega | exact Nat.le_refl _⟩, ⟨by (with_reducible repeat (first | refine blk_drewN ?_ _ | refine blk_drew ?_ | refine blk_alloc ?_ _)); exact BK655.out⟩, ⟨by (with_reducible repeat (first | refine blk_drewN ?_ _ | refine blk_drew ?_ | refine blk_alloc ?_ _)); exact BK656.out⟩, ⟨by (with_reducible repeat (first | refine blk_drewN ?_ _ | refine blk_drew ?_ | refine blk_alloc ?_ _)); exact BK657.out⟩, ⟨by repeat (first | (with_reducible first | exact HB.out | apply below_alloc | apply pw_below_drewN | apply below_drew1 | refine below_set ?_ GE655.out | refine below_set ?_ GE656.out | refine below_set ?_ GE657.out) | exact HB.out)⟩⟩
                            · rw [if_neg c115] at H
                              have c115b0 : (a0.toList == ([97, 116] : List UInt8)) = false := beq_eq_false_iff_ne.mpr c115
                              have c115b1 : (a0.toList != ([97, 116] : List UInt8)) = true := bne_iff_ne.mpr c115
                              have H' := Aside0.mk H
                              clear H
                              have hnb121 := NB655_656.out
                              have hnc121 := NB656_655.out
                              have hnb122 := NB655_657.out
                              have hnc122 := NB657_655.out
                              have hcz123_0 : wc.cell? ⟨gb655, 0, none⟩ = some (.int .u8 a1_0) := (blk_cell BK655.out 0).trans rfl
                              have hcz123_1 : wc.cell? ⟨gb655, 1, none⟩ = some (.int .i64 a1_1) := (blk_cell BK655.out 1).trans rfl
                              have hcz123_2 : wc.cell? ⟨gb655, 2, none⟩ = some (.string a1_2) := (blk_cell BK655.out 2).trans rfl
                              have hfz123_0 := blk_frozen BK655.out 0
                              have hfz123_1 := blk_frozen BK655.out 1
                              have hfz123_2 := blk_frozen BK655.out 2
                              go_wp2
                              go_meet
                              case rel => exact ⟨_, (false), (by first | rfl | (simp; done) | (simp [*]; done)), H', ⟨by have := HJ3.out; have := HJ16.out; have := HJ91.out; first | omega | exact Nat.le_refl _⟩, ⟨by (with_reducible repeat (first | refine blk_drewN ?_ _ | refine blk_drew ?_ | refine blk_alloc ?_ _)); exact BK655.out⟩, ⟨by (with_reducible repeat (first | refine blk_drewN ?_ _ | refine blk_drew ?_ | refine blk_alloc ?_ _)); exact BK656.out⟩, ⟨by (with_reducible repeat (first | refine blk_drewN ?_ _ | refine blk_drew ?_ | refine blk_alloc ?_ _)); exact BK657.out⟩, ⟨by repeat (first | (with_reducible first | exact HB.out | apply below_alloc | apply pw_below_drewN | apply below_drew1 | refine below_set ?_ GE655.out | refine below_set ?_ GE656.out | refine below_set ?_ GE657.out) | exact HB.out)⟩⟩
                        · rw [if_neg c96] at H
                          have c96b0 : (a1_0 == 3) = false := beq_eq_false_iff_ne.mpr c96
                          have c96b1 : (a1_0 != 3) = true := bne_iff_ne.mpr c96
                          (first | rw [c96b0] | (simp only [i64_w, i32_w]; rw [c96b0]) | skip)
                          have H' := Aside0.mk H
                          clear H
                          have hnb124 := NB655_656.out
                          have hnc124 := NB656_655.out
                          have hnb125 := NB655_657.out
                          have hnc125 := NB657_655.out
                          have hcz126_0 : wc.cell? ⟨gb655, 0, none⟩ = some (.int .u8 a1_0) := (blk_cell BK655.out 0).trans rfl
                          have hcz126_1 : wc.cell? ⟨gb655, 1, none⟩ = some (.int .i64 a1_1) := (blk_cell BK655.out 1).trans rfl
                          have hcz126_2 : wc.cell? ⟨gb655, 2, none⟩ = some (.string a1_2) := (blk_cell BK655.out 2).trans rfl
                          have hfz126_0 := blk_frozen BK655.out 0
                          have hfz126_1 := blk_frozen BK655.out 1
                          have hfz126_2 := blk_frozen BK655.out 2
                          go_wp2
                          go_meet
                          case rel => exact ⟨_, (false), (by first | rfl | (simp; done) | (simp [*]; done)), H', ⟨by have := HJ3.out; have := HJ16.out; have := HJ91.out; first | omega | exact Nat.le_refl _⟩, ⟨by (with_reducible repeat (first | refine blk_drewN ?_ _ | refine blk_drew ?_ | refine blk_alloc ?_ _)); exact BK655.out⟩, ⟨by (with_reducible repeat (first | refine blk_drewN ?_ _ | refine blk_drew ?_ | refine blk_alloc ?_ _)); exact BK656.out⟩, ⟨by (with_reducible repeat (first | refine blk_drewN ?_ _ | refine blk_drew ?_ | refine blk_alloc ?_ _)); exact BK657.out⟩, ⟨by repeat (first | (with_reducible first | exact HB.out | apply below_alloc | apply pw_below_drewN | apply below_drew1 | refine below_set ?_ GE655.out | refine below_set ?_ GE656.out | refine below_set ?_ GE657.out) | exact HB.out)⟩⟩
                      case rest =>
                        clear HC95
                        try clear c1
                        try clear c2
                        try clear p2
                        try clear c3
                        try clear c4
                        try clear c5
                        try clear c6
                        try clear c7
                        try clear c8
                        try clear c8b0
                        try clear c8b1
                        try clear c9
                        try clear c10
                        try clear c11
                        try clear c12
                        try clear c14
                        try clear c15
                        try clear c18
                        try clear c18b0
                        try clear c18b1
                        try clear c19
                        try clear c19b0
                        try clear c19b1
                        try clear c20
                        try clear c20b0
                        try clear c20b1
                        try clear c21
                        try clear c21b0
                        try clear c21b1
                        try clear c22
                        try clear c22b0
                        try clear c22b1
                        try clear c23
                        try clear c23b0
                        try clear c23b1
                        try clear c24
                        try clear c24b0
                        try clear c24b1
                        try clear c25
                        try clear c25b0
                        try clear c25b1
                        try clear c26
                        try clear c26b0
                        try clear c26b1
                        try clear c27
                        try clear c27b0
                        try clear c27b1
                        try clear c28
                        try clear c29
                        try clear c31
                        try clear c32
                        try clear c34
                        try clear c38
                        try clear c39
                        try clear c41
                        try clear c41b0
                        try clear c41b1
                        try clear c43
                        try clear c44
                        try clear c44b0
                        try clear c44b1
                        try clear c45
                        try clear c46
                        try clear c48
                        try clear c50
                        try clear c51
                        try clear c53
                        try clear c66
                        try clear c67
                        try clear c69
                        try clear c69b0
                        try clear c69b1
                        try clear c70
                        try clear c70b0
                        try clear c70b1
                        try clear c71
                        try clear c71b0
                        try clear c73
                        try clear c74
                        try clear c76
                        try clear c80
                        try clear c81
                        try clear c83
                        try clear c86
                        try clear c87
                        try clear c89
                        try clear c93
                        try clear c93b0
                        try clear c93b1
                        try clear c94
                        try clear c95
                        try clear c96
                        try clear c96b0
                        try clear c96b1
                        try clear c97
                        try clear c97b0
                        try clear c97b1
                        try clear c98
                        try clear c98b0
                        try clear c98b1
                        try clear c99
                        try clear c100
                        try clear c102
                        try clear c104
                        try clear c104b0
                        try clear c104b1
                        try clear c105
                        try clear c106
                        try clear c108
                        try clear c110
                        try clear c111
                        try clear c113
                        try clear c115
                        try clear c115b0
                        try clear c115b1
                        try clear c116
                        try clear c117
                        try clear c119
                        try clear c121
                        try clear c122
                        try clear c124
                        try clear c125
                        try clear hcz101_0
                        try clear hcz101_1
                        try clear hcz101_2
                        try clear hcz103_0
                        try clear hcz103_1
                        try clear hcz103_2
                        try clear hcz107_0
                        try clear hcz107_1
                        try clear hcz107_2
                        try clear hcz109_0
                        try clear hcz109_1
                        try clear hcz109_2
                        try clear hcz112_0
                        try clear hcz112_1
                        try clear hcz112_2
                        try clear hcz114_0
                        try clear hcz114_1
                        try clear hcz114_2
                        try clear hcz118_0
                        try clear hcz118_1
                        try clear hcz118_2
                        try clear hcz11_0
                        try clear hcz11_1
                        try clear hcz11_2
                        try clear hcz120_0
                        try clear hcz120_1
                        try clear hcz120_2
                        try clear hcz123_0
                        try clear hcz123_1
                        try clear hcz123_2
                        try clear hcz126_0
                        try clear hcz126_1
                        try clear hcz126_2
                        try clear hcz13_0
                        try clear hcz13_1
                        try clear hcz13_2
                        try clear hcz16_0
                        try clear hcz16_1
                        try clear hcz16_2
                        try clear hcz33_0
                        try clear hcz33_1
                        try clear hcz33_2
                        try clear hcz35_0
                        try clear hcz35_1
                        try clear hcz35_2
                        try clear hcz37_0
                        try clear hcz37_1
                        try clear hcz37_2
                        try clear hcz40_0
                        try clear hcz40_1
                        try clear hcz40_2
                        try clear hcz47_0
                        try clear hcz47_1
                        try clear hcz47_2
                        try clear hcz49_0
                        try clear hcz49_1
                        try clear hcz49_2
                        try clear hcz52_0
                        try clear hcz52_1
                        try clear hcz52_2
                        try clear hcz68_0
                        try clear hcz68_1
                        try clear hcz68_2
                        try clear hcz75_0
                        try clear hcz75_1
                        try clear hcz75_2
                        try clear hcz77_0
                        try clear hcz77_1
                        try clear hcz77_2
                        try clear hcz79_0
                        try clear hcz79_1
                        try clear hcz79_2
                        try clear hcz82_0
                        try clear hcz82_1
                        try clear hcz82_2
                        try clear hcz84_0
                        try clear hcz84_1
                        try clear hcz84_2
                        try clear hcz85_0
                        try clear hcz85_1
                        try clear hcz85_2
                        try clear hcz88_0
                        try clear hcz88_1
                        try clear hcz88_2
                        try clear hcz90_0
                        try clear hcz90_1
                        try clear hcz90_2
                        try clear hcz91_0
                        try clear hcz91_1
                        try clear hcz91_2
                        try clear hfz101_0
                        try clear hfz101_1
                        try clear hfz101_2
                        try clear hfz103_0
                        try clear hfz103_1
                        try clear hfz103_2
                        try clear hfz107_0
                        try clear hfz107_1
                        try clear hfz107_2
                        try clear hfz109_0
                        try clear hfz109_1
                        try clear hfz109_2
                        try clear hfz112_0
                        try clear hfz112_1
                        try clear hfz112_2
                        try clear hfz114_0
                        try clear hfz114_1
                        try clear hfz114_2
                        try clear hfz118_0
                        try clear hfz118_1
                        try clear hfz118_2
                        try clear hfz11_0
                        try clear hfz11_1
                        try clear hfz11_2
                        try clear hfz120_0
                        try clear hfz120_1
                        try clear hfz120_2
                        try clear hfz123_0
                        try clear hfz123_1
                        try clear hfz123_2
                        try clear hfz126_0
                        try clear hfz126_1
                        try clear hfz126_2
                        try clear hfz13_0
                        try clear hfz13_1
                        try clear hfz13_2
                        try clear hfz16_0
                        try clear hfz16_1
                        try clear hfz16_2
                        try clear hfz33_0
                        try clear hfz33_1
                        try clear hfz33_2
                        try clear hfz35_0
                        try clear hfz35_1
                        try clear hfz35_2
                        try clear hfz37_0
                        try clear hfz37_1
                        try clear hfz37_2
                        try clear hfz40_0
                        try clear hfz40_1
                        try clear hfz40_2
                        try clear hfz47_0
                        try clear hfz47_1
                        try clear hfz47_2
                        try clear hfz49_0
                        try clear hfz49_1
                        try clear hfz49_2
                        try clear hfz52_0
                        try clear hfz52_1
                        try clear hfz52_2
                        try clear hfz68_0
                        try clear hfz68_1
                        try clear hfz68_2
                        try clear hfz75_0
                        try clear hfz75_1
                        try clear hfz75_2
                        try clear hfz77_0
                        try clear hfz77_1
                        try clear hfz77_2
                        try clear hfz79_0
                        try clear hfz79_1
                        try clear hfz79_2
                        try clear hfz82_0
                        try clear hfz82_1
                        try clear hfz82_2
                        try clear hfz84_0
                        try clear hfz84_1
                        try clear hfz84_2
                        try clear hfz85_0
                        try clear hfz85_1
                        try clear hfz85_2
                        try clear hfz88_0
                        try clear hfz88_1
                        try clear hfz88_2
                        try clear hfz90_0
                        try clear hfz90_1
                        try clear hfz90_2
                        try clear hfz91_0
                        try clear hfz91_1
                        try clear hfz91_2
                        try clear p2
                        obtain ⟨kq, x106_94, rfl, HA, HJ94, BK655, BK656, BK657, HB⟩ := hcut
                        cases kq with
                        | zero => exact absurd HA.out (by simp [value_Two.j4])
                        | succ kj94 =>
                          have H := HA.out
                          clear HA
                          simp only [value_Two.j4] at H
                          by_cases c127 : x106_94 = true
                          · subst c127
                            have H1 : ((value_texts.f a0 a1_0 a1_1 a1_2 a2_0 a2_1 a2_2).bind fun bt674 => (some (bt674.1, bt674.2.1, bt674.2.2.1, bt674.2.2.2))) = some (r1, r2, r3, r4) := by rw [if_pos rfl] at H; exact H
                            clear H
                            have H := H1
                            clear H1
                            replace H := Option.bind_eq_some_iff.mp H
                            obtain ⟨⟨t674, t675, t676, t677⟩, A1280, H⟩ := H
                            replace H : (some (t674, t675, t676, t677)) = some (r1, r2, r3, r4) := H
                            have A128 := Aside0.mk A1280
                            clear A1280
                            simp only [Option.some.injEq, Prod.mk.injEq] at H
                            obtain ⟨rfl, rfl, rfl, rfl⟩ := H
                            have hnb129 := NB655_656.out
                            have hnc129 := NB656_655.out
                            have hnb130 := NB655_657.out
                            have hnc130 := NB657_655.out
                            have hcz131_0 : wc.cell? ⟨gb655, 0, none⟩ = some (.int .u8 a1_0) := (blk_cell BK655.out 0).trans rfl
                            have hcz131_1 : wc.cell? ⟨gb655, 1, none⟩ = some (.int .i64 a1_1) := (blk_cell BK655.out 1).trans rfl
                            have hcz131_2 : wc.cell? ⟨gb655, 2, none⟩ = some (.string a1_2) := (blk_cell BK655.out 2).trans rfl
                            have hfz131_0 := blk_frozen BK655.out 0
                            have hfz131_1 := blk_frozen BK655.out 1
                            have hfz131_2 := blk_frozen BK655.out 2
                            have hnb132 := NB656_657.out
                            have hnc132 := NB657_656.out
                            have hcz133_0 : wc.cell? ⟨gb656, 0, none⟩ = some (.int .u8 a2_0) := (blk_cell BK656.out 0).trans rfl
                            have hcz133_1 : wc.cell? ⟨gb656, 1, none⟩ = some (.int .i64 a2_1) := (blk_cell BK656.out 1).trans rfl
                            have hcz133_2 : wc.cell? ⟨gb656, 2, none⟩ = some (.string a2_2) := (blk_cell BK656.out 2).trans rfl
                            have hfz133_0 := blk_frozen BK656.out 0
                            have hfz133_1 := blk_frozen BK656.out 1
                            have hfz133_2 := blk_frozen BK656.out 2
                            go_wp2_with (first | ((with_reducible refine gate_callee (f := 100) rfl ?_); refine goesL_ (some 110) rfl rfl Try.func100 (by kernel_rfl) rfl #[.string a0, .agg #[.int .u8 a1_0, .int .i64 a1_1, .string a1_2], .agg #[.int .u8 a2_0, .int .i64 a2_1, .string a2_2]] rfl (by (try simp only [List.map_toArray, List.map_cons, List.map_nil]); first | done | rfl | (simp only [List.length_drop, List.length_take]; rfl)) ?_; (with_reducible refine (value_texts.calls a0 a1_0 a1_1 a1_2 a2_0 a2_1 a2_2 t674 t675 t676 t677 _ A128.out).mono ?_); rintro e w134 ⟨rfl, hb⟩; refine ⟨_, rfl, ?_⟩; have n0_ := Aside0.mk (blk_below (g := gb655) (o := .cells #[.int .u8 a1_0, .int .i64 a1_1, .string a1_2] 37 (0, 0)) (by (with_reducible repeat (first | refine blk_drewN ?_ _ | refine blk_drew ?_ | refine blk_alloc ?_ _)); exact BK655.out) hb); have n1_ := Aside0.mk (blk_below (g := gb656) (o := .cells #[.int .u8 a2_0, .int .i64 a2_1, .string a2_2] 37 (0, 0)) (by (with_reducible repeat (first | refine blk_drewN ?_ _ | refine blk_drew ?_ | refine blk_alloc ?_ _)); exact BK656.out) hb); have n2_ := Aside0.mk (blk_below (g := gb657) (o := .cells #[.int .u8 0, .int .i64 0, .string (⟨#[]⟩ : ByteArray)] 37 (0, 0)) (by (with_reducible repeat (first | refine blk_drewN ?_ _ | refine blk_drew ?_ | refine blk_alloc ?_ _)); exact BK657.out) hb); have n3_ := Aside0.mk (below_step (by repeat (first | (with_reducible first | exact HB.out | apply below_alloc | apply pw_below_drewN | apply below_drew1 | refine below_set ?_ GE655.out | refine below_set ?_ GE656.out | refine below_set ?_ GE657.out) | exact HB.out)) hb); clear BK655; clear BK656; clear BK657; clear HB; have BK655 := n0_; have BK656 := n1_; have BK657 := n2_; have HB := n3_; clear n0_ n1_ n2_ n3_; (try clear hb); (try clear hb2); (try clear hk); (try clear hi); have hcz135_0 : w134.cell? ⟨gb657, 0, none⟩ = some (.int .u8 0) := (blk_cell BK657.out 0).trans rfl; have hcz135_1 : w134.cell? ⟨gb657, 1, none⟩ = some (.int .i64 0) := (blk_cell BK657.out 1).trans rfl; have hcz135_2 : w134.cell? ⟨gb657, 2, none⟩ = some (.string (⟨#[]⟩ : ByteArray)) := (blk_cell BK657.out 2).trans rfl; have hfz135_0 := blk_frozen BK657.out 0; have hfz135_1 := blk_frozen BK657.out 1; have hfz135_2 := blk_frozen BK657.out 2))
                            refine bodyPost_ret (results_ct rfl _ _ gb657 37 #[.int .u8 t674, .int .i64 t675, .string t676] (0, 0) _ rfl (by (with_reducible repeat (first | refine blk_drewN ?_ _ | refine blk_drew ?_ | refine blk_alloc ?_ _)); refine blk_put (cs := #[.int .u8 t674, .int .i64 t675, .string (⟨#[]⟩ : ByteArray)]) ?_ 2 _ rfl; (with_reducible repeat (first | refine blk_drewN ?_ _ | refine blk_drew ?_ | refine blk_alloc ?_ _)); refine blk_put (cs := #[.int .u8 t674, .int .i64 0, .string (⟨#[]⟩ : ByteArray)]) ?_ 1 _ rfl; (with_reducible repeat (first | refine blk_drewN ?_ _ | refine blk_drew ?_ | refine blk_alloc ?_ _)); refine blk_put (cs := #[.int .u8 0, .int .i64 0, .string (⟨#[]⟩ : ByteArray)]) ?_ 0 _ rfl; (with_reducible repeat (first | refine blk_drewN ?_ _ | refine blk_drew ?_ | refine blk_alloc ?_ _)); exact BK657.out) Try.underlying37 rfl (by kernel_rfl)) rfl ?_
                            exact ⟨by first | rfl | (simp [errW_none, errW_some] <;> rfl) | (simp [*, errW_none, errW_some] <;> rfl), by repeat (first | (with_reducible first | exact HB.out | apply below_alloc | apply pw_below_drewN | apply below_drew1 | refine below_set ?_ GE655.out | refine below_set ?_ GE656.out | refine below_set ?_ GE657.out) | exact HB.out)⟩
                          · replace c127 := Bool.eq_false_iff.mpr c127
                            subst c127
                            have H1 : (some (0, 0, (⟨#[]⟩ : ByteArray), 2)) = some (r1, r2, r3, r4) := by rw [if_neg (show ¬ (false = true) by decide)] at H; exact H
                            clear H
                            have H := H1
                            clear H1
                            simp only [Option.some.injEq, Prod.mk.injEq] at H
                            obtain ⟨rfl, rfl, rfl, rfl⟩ := H
                            have hnb136 := NB657_655.out
                            have hnc136 := NB655_657.out
                            have hnb137 := NB657_656.out
                            have hnc137 := NB656_657.out
                            have hcz138_0 : wc.cell? ⟨gb657, 0, none⟩ = some (.int .u8 0) := (blk_cell BK657.out 0).trans rfl
                            have hcz138_1 : wc.cell? ⟨gb657, 1, none⟩ = some (.int .i64 0) := (blk_cell BK657.out 1).trans rfl
                            have hcz138_2 : wc.cell? ⟨gb657, 2, none⟩ = some (.string (⟨#[]⟩ : ByteArray)) := (blk_cell BK657.out 2).trans rfl
                            have hfz138_0 := blk_frozen BK657.out 0
                            have hfz138_1 := blk_frozen BK657.out 1
                            have hfz138_2 := blk_frozen BK657.out 2
                            go_wp2
                            refine bodyPost_ret (results_ct rfl _ _ gb657 37 #[.int .u8 0, .int .i64 0, .string (⟨#[]⟩ : ByteArray)] (0, 0) _ rfl (by (with_reducible repeat (first | refine blk_drewN ?_ _ | refine blk_drew ?_ | refine blk_alloc ?_ _)); refine blk_put (cs := #[.int .u8 0, .int .i64 0, .string (⟨#[]⟩ : ByteArray)]) ?_ 2 _ rfl; (with_reducible repeat (first | refine blk_drewN ?_ _ | refine blk_drew ?_ | refine blk_alloc ?_ _)); refine blk_put (cs := #[.int .u8 0, .int .i64 0, .string (⟨#[]⟩ : ByteArray)]) ?_ 1 _ rfl; (with_reducible repeat (first | refine blk_drewN ?_ _ | refine blk_drew ?_ | refine blk_alloc ?_ _)); refine blk_put (cs := #[.int .u8 0, .int .i64 0, .string (⟨#[]⟩ : ByteArray)]) ?_ 0 _ rfl; (with_reducible repeat (first | refine blk_drewN ?_ _ | refine blk_drew ?_ | refine blk_alloc ?_ _)); exact BK657.out) Try.underlying37 rfl (by kernel_rfl)) rfl ?_
                            exact ⟨by first | rfl | (simp [errW_none, errW_some] <;> rfl) | (simp [*, errW_none, errW_some] <;> rfl), by repeat (first | (with_reducible first | exact HB.out | apply below_alloc | apply pw_below_drewN | apply below_drew1 | refine below_set ?_ GE655.out | refine below_set ?_ GE656.out | refine below_set ?_ GE657.out) | exact HB.out)⟩
                    · replace c94 := Bool.eq_false_iff.mpr c94
                      subst c94
                      have H1 : (some (0, 0, (⟨#[]⟩ : ByteArray), 1)) = some (r1, r2, r3, r4) := by rw [if_neg (show ¬ (false = true) by decide)] at H; exact H
                      clear H
                      have H := H1
                      clear H1
                      simp only [Option.some.injEq, Prod.mk.injEq] at H
                      obtain ⟨rfl, rfl, rfl, rfl⟩ := H
                      have hnb139 := NB657_655.out
                      have hnc139 := NB655_657.out
                      have hnb140 := NB657_656.out
                      have hnc140 := NB656_657.out
                      have hcz141_0 : wc.cell? ⟨gb657, 0, none⟩ = some (.int .u8 0) := (blk_cell BK657.out 0).trans rfl
                      have hcz141_1 : wc.cell? ⟨gb657, 1, none⟩ = some (.int .i64 0) := (blk_cell BK657.out 1).trans rfl
                      have hcz141_2 : wc.cell? ⟨gb657, 2, none⟩ = some (.string (⟨#[]⟩ : ByteArray)) := (blk_cell BK657.out 2).trans rfl
                      have hfz141_0 := blk_frozen BK657.out 0
                      have hfz141_1 := blk_frozen BK657.out 1
                      have hfz141_2 := blk_frozen BK657.out 2
                      go_wp2
                      refine bodyPost_ret (results_ct rfl _ _ gb657 37 #[.int .u8 0, .int .i64 0, .string (⟨#[]⟩ : ByteArray)] (0, 0) _ rfl (by (with_reducible repeat (first | refine blk_drewN ?_ _ | refine blk_drew ?_ | refine blk_alloc ?_ _)); refine blk_put (cs := #[.int .u8 0, .int .i64 0, .string (⟨#[]⟩ : ByteArray)]) ?_ 2 _ rfl; (with_reducible repeat (first | refine blk_drewN ?_ _ | refine blk_drew ?_ | refine blk_alloc ?_ _)); refine blk_put (cs := #[.int .u8 0, .int .i64 0, .string (⟨#[]⟩ : ByteArray)]) ?_ 1 _ rfl; (with_reducible repeat (first | refine blk_drewN ?_ _ | refine blk_drew ?_ | refine blk_alloc ?_ _)); refine blk_put (cs := #[.int .u8 0, .int .i64 0, .string (⟨#[]⟩ : ByteArray)]) ?_ 0 _ rfl; (with_reducible repeat (first | refine blk_drewN ?_ _ | refine blk_drew ?_ | refine blk_alloc ?_ _)); exact BK657.out) Try.underlying37 rfl (by kernel_rfl)) rfl ?_
                      exact ⟨by first | rfl | (simp [errW_none, errW_some] <;> rfl) | (simp [*, errW_none, errW_some] <;> rfl), by repeat (first | (with_reducible first | exact HB.out | apply below_alloc | apply pw_below_drewN | apply below_drew1 | refine below_set ?_ GE655.out | refine below_set ?_ GE656.out | refine below_set ?_ GE657.out) | exact HB.out)⟩

end Go.Proofs.Ytjkjbfhhfdbnoaa.PB
