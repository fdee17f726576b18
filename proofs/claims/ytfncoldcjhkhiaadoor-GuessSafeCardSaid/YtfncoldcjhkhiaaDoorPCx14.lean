-- Own text: made by this session's variant of the printer (wip/mkpp.py); Lean checks it.
import Derived.Test.YtfncoldcjhkhiaaDoorPCx0
import Derived.Test.YtfncoldcjhkhiaaDoorPCx12
import Derived.Test.YtfncoldcjhkhiaaDoorPCx13
namespace Go.Proofs.YtfncoldcjhkhiaaDoor.PC
open Go.RowKit Go.Proofs.YtfncoldcjhkhiaaDoorW.PrintWords Go.Proofs.YtfncoldcjhkhiaaDoorW.PrintLast Go.Proofs.YtfncoldcjhkhiaaDoorW.PrintMore Go.Proofs.YtfncoldcjhkhiaaDoorW.Own
attribute [local go_sem high] own_gtr own_leq own_geq
attribute [local go_sem] max2_int min2_int max_two min_two max_three min_three max_four min_four   -- for this text's walks alone
set_option linter.unusedVariables false
set_option linter.unusedSimpArgs false

/-! ### sacristanref09_May: function 25 -/
mutual
def sacristanref09_May.j0 : Nat → Bool → List Int → List ByteArray → List (S44) → List (S41) → Option (Bool)
  | 0, _, _, _, _, _ => none
  | k + 1, x51, x283000, x283001, x283002, x283003 => if x51 = true then (some false) else (sacristanref09_May.l0 k (x283001.length : Int) 0 x283000 x283001 x283002 x283003)
def sacristanref09_May.l0 : Nat → Int → Int → List Int → List ByteArray → List (S44) → List (S41) → Option (Bool)
  | 0, _, _, _, _, _, _ => none
  | k + 1, x54, x55, x283000, x283001, x283002, x283003 => if x55 < x54 then (if 0 ≤ x55 then (if x55 < (x283001.length : Int) then (if ((rdOf ByteArray.empty x283001 x55).size : Int) > 65536 then (some false) else (sacristanref09_May.l0 k x54 (wrap64 (x55 + 1)) x283000 x283001 x283002 x283003)) else (none)) else (none)) else (sacristanref09_May.l1 k (x283003.length : Int) 0 x283000 x283001 x283002 x283003)
def sacristanref09_May.l1 : Nat → Int → Int → List Int → List ByteArray → List (S44) → List (S41) → Option (Bool)
  | 0, _, _, _, _, _, _ => none
  | k + 1, x68, x69, x283000, x283001, x283002, x283003 => if x69 < x68 then (if 0 ≤ x69 then (if x69 < (x283003.length : Int) then ((sacristanref09_table.f k x283000 x283001 x283002 x283003 ((rd_T41 x283003 x69).f0) ((rd_T41 x283003 x69).f1) ((rd_T41 x283003 x69).f2)).bind fun t287 => (if t287 = true then (sacristanref09_May.l1 k x68 (wrap64 (x69 + 1)) x283000 x283001 x283002 x283003) else (some false))) else (none)) else (none)) else (sacristanref09_May.l2 k (x283002.length : Int) 0 x283000 x283001 x283002 x283003)
def sacristanref09_May.l2 : Nat → Int → Int → List Int → List ByteArray → List (S44) → List (S41) → Option (Bool)
  | 0, _, _, _, _, _, _ => none
  | k + 1, x83, x84, x283000, x283001, x283002, x283003 => if x84 < x83 then (if 0 ≤ x84 then (if x84 < (x283002.length : Int) then (if ((rd_T44 x283002 x84).f0) < 0 then (sacristanref09_May.j4 k x83 x84 true x283000 x283001 x283002 x283003 ((rd_T44 x283002 x84).f0) ((rd_T44 x283002 x84).f1) ((rd_T44 x283002 x84).f2) ((rd_T44 x283002 x84).f3)) else (if ((rd_T44 x283002 x84).f0) > 200 then (sacristanref09_May.j4 k x83 x84 true x283000 x283001 x283002 x283003 ((rd_T44 x283002 x84).f0) ((rd_T44 x283002 x84).f1) ((rd_T44 x283002 x84).f2) ((rd_T44 x283002 x84).f3)) else (if ((rd_T44 x283002 x84).f2) < 0 then (sacristanref09_May.j4 k x83 x84 true x283000 x283001 x283002 x283003 ((rd_T44 x283002 x84).f0) ((rd_T44 x283002 x84).f1) ((rd_T44 x283002 x84).f2) ((rd_T44 x283002 x84).f3)) else (if ((rd_T44 x283002 x84).f2) > 200 then (sacristanref09_May.j4 k x83 x84 true x283000 x283001 x283002 x283003 ((rd_T44 x283002 x84).f0) ((rd_T44 x283002 x84).f1) ((rd_T44 x283002 x84).f2) ((rd_T44 x283002 x84).f3)) else (if ((rd_T44 x283002 x84).f1) < (wrap64 (((rd_T44 x283002 x84).f0) + 1)) then (sacristanref09_May.j4 k x83 x84 true x283000 x283001 x283002 x283003 ((rd_T44 x283002 x84).f0) ((rd_T44 x283002 x84).f1) ((rd_T44 x283002 x84).f2) ((rd_T44 x283002 x84).f3)) else (if ((rd_T44 x283002 x84).f1) > 256 then (sacristanref09_May.j4 k x83 x84 true x283000 x283001 x283002 x283003 ((rd_T44 x283002 x84).f0) ((rd_T44 x283002 x84).f1) ((rd_T44 x283002 x84).f2) ((rd_T44 x283002 x84).f3)) else (if (((rd_T44 x283002 x84).f3).length : Int) = 0 then (sacristanref09_May.j4 k x83 x84 true x283000 x283001 x283002 x283003 ((rd_T44 x283002 x84).f0) ((rd_T44 x283002 x84).f1) ((rd_T44 x283002 x84).f2) ((rd_T44 x283002 x84).f3)) else (sacristanref09_May.j4 k x83 x84 (decide ((((rd_T44 x283002 x84).f3).length : Int) > 16384)) x283000 x283001 x283002 x283003 ((rd_T44 x283002 x84).f0) ((rd_T44 x283002 x84).f1) ((rd_T44 x283002 x84).f2) ((rd_T44 x283002 x84).f3))))))))) else (none)) else (none)) else (some true)
def sacristanref09_May.j4 : Nat → Int → Int → Bool → List Int → List ByteArray → List (S44) → List (S41) → Int → Int → Int → List (S32) → Option (Bool)
  | 0, _, _, _, _, _, _, _, _, _, _, _ => none
  | k + 1, x83, x84, x134, x283000, x283001, x283002, x283003, x290000, x290001, x290002, x290003 => if x134 = true then (some false) else (sacristanref09_May.l3 k x83 x84 (x290003.length : Int) 0 x283000 x283001 x283002 x283003 x290000 x290001 x290002 x290003)
def sacristanref09_May.l3 : Nat → Int → Int → Int → Int → List Int → List ByteArray → List (S44) → List (S41) → Int → Int → Int → List (S32) → Option (Bool)
  | 0, _, _, _, _, _, _, _, _, _, _, _, _ => none
  | k + 1, x83, x84, x137, x138, x283000, x283001, x283002, x283003, x290000, x290001, x290002, x290003 => if x138 < x137 then (if 0 ≤ x138 then (if x138 < (x290003.length : Int) then ((sacristanref09_instr.f k x283000 x283001 x283002 x283003 x290000 x290001 x290002 x290003 ((rd_T32 x290003 x138).f0) ((rd_T32 x290003 x138).f1)).bind fun t291 => (if t291 = true then (sacristanref09_May.l3 k x83 x84 x137 (wrap64 (x138 + 1)) x283000 x283001 x283002 x283003 x290000 x290001 x290002 x290003) else (some false))) else (none)) else (none)) else (sacristanref09_May.l2 k x83 (wrap64 (x84 + 1)) x283000 x283001 x283002 x283003)
end
def sacristanref09_May.f (k : Nat) (l0_0 : List Int) (l0_1 : List ByteArray) (l0_2 : List (S44)) (l0_3 : List (S41)) : Option (Bool) := if (l0_0.length : Int) > 4096 then (sacristanref09_May.j0 k true l0_0 l0_1 l0_2 l0_3) else (if (l0_1.length : Int) > 4096 then (sacristanref09_May.j0 k true l0_0 l0_1 l0_2 l0_3) else (if (l0_2.length : Int) > 4096 then (sacristanref09_May.j0 k true l0_0 l0_1 l0_2 l0_3) else (if (l0_3.length : Int) > 4096 then (sacristanref09_May.j0 k true l0_0 l0_1 l0_2 l0_3) else (if (l0_2.length : Int) = 0 then (sacristanref09_May.j0 k true l0_0 l0_1 l0_2 l0_3) else (if 0 < (l0_2.length : Int) then (if ((rd_T44 l0_2 0).f0) = 0 then (sacristanref09_May.j0 k (((rd_T44 l0_2 0).f2) != 0) l0_0 l0_1 l0_2 l0_3) else (sacristanref09_May.j0 k true l0_0 l0_1 l0_2 l0_3)) else (none))))))
theorem sacristanref09_May.mono_l : ∀ k, (∀ y0 y1 y2 y3 y4, LeO (sacristanref09_May.j0 k y0 y1 y2 y3 y4) (sacristanref09_May.j0 (k + 1) y0 y1 y2 y3 y4)) ∧ (∀ y0 y1 y2 y3 y4 y5, LeO (sacristanref09_May.l0 k y0 y1 y2 y3 y4 y5) (sacristanref09_May.l0 (k + 1) y0 y1 y2 y3 y4 y5)) ∧ (∀ y0 y1 y2 y3 y4 y5, LeO (sacristanref09_May.l1 k y0 y1 y2 y3 y4 y5) (sacristanref09_May.l1 (k + 1) y0 y1 y2 y3 y4 y5)) ∧ (∀ y0 y1 y2 y3 y4 y5, LeO (sacristanref09_May.l2 k y0 y1 y2 y3 y4 y5) (sacristanref09_May.l2 (k + 1) y0 y1 y2 y3 y4 y5)) ∧ (∀ y0 y1 y2 y3 y4 y5 y6 y7 y8 y9 y10, LeO (sacristanref09_May.j4 k y0 y1 y2 y3 y4 y5 y6 y7 y8 y9 y10) (sacristanref09_May.j4 (k + 1) y0 y1 y2 y3 y4 y5 y6 y7 y8 y9 y10)) ∧ (∀ y0 y1 y2 y3 y4 y5 y6 y7 y8 y9 y10 y11, LeO (sacristanref09_May.l3 k y0 y1 y2 y3 y4 y5 y6 y7 y8 y9 y10 y11) (sacristanref09_May.l3 (k + 1) y0 y1 y2 y3 y4 y5 y6 y7 y8 y9 y10 y11))
  | 0 => ⟨fun _ _ _ _ _ r h => by simp [sacristanref09_May.j0] at h, fun _ _ _ _ _ _ r h => by simp [sacristanref09_May.l0] at h, fun _ _ _ _ _ _ r h => by simp [sacristanref09_May.l1] at h, fun _ _ _ _ _ _ r h => by simp [sacristanref09_May.l2] at h, fun _ _ _ _ _ _ _ _ _ _ _ r h => by simp [sacristanref09_May.j4] at h, fun _ _ _ _ _ _ _ _ _ _ _ _ r h => by simp [sacristanref09_May.l3] at h⟩
  | k + 1 => by
    obtain ⟨ih0, ih1, ih2, ih3, ih4, ih5⟩ := sacristanref09_May.mono_l k
    refine ⟨?_, ?_, ?_, ?_, ?_, ?_⟩
    · intro y0 y1 y2 y3 y4
      unfold sacristanref09_May.j0
      repeat' first | (with_reducible exact ih1 _ _ _ _ _ _) | (with_reducible exact LeO.refl _) | (with_reducible refine LeO.ite ?_ ?_)
    · intro y0 y1 y2 y3 y4 y5
      unfold sacristanref09_May.l0
      repeat' first | (with_reducible exact ih1 _ _ _ _ _ _) | (with_reducible exact ih2 _ _ _ _ _ _) | (with_reducible exact LeO.refl _) | (with_reducible refine LeO.ite ?_ ?_)
    · intro y0 y1 y2 y3 y4 y5
      unfold sacristanref09_May.l1
      repeat' first | (with_reducible exact ih2 _ _ _ _ _ _) | (with_reducible exact ih3 _ _ _ _ _ _) | (with_reducible exact sacristanref09_table.mono _ _ _ _ _ _ _ _) | (with_reducible exact LeO.refl _) | (with_reducible refine LeO.ite ?_ ?_) | (with_reducible refine LeO.bind ?_ (fun _ => ?_))
    · intro y0 y1 y2 y3 y4 y5
      unfold sacristanref09_May.l2
      repeat' first | (with_reducible exact ih4 _ _ _ _ _ _ _ _ _ _ _) | (with_reducible exact LeO.refl _) | (with_reducible refine LeO.ite ?_ ?_)
    · intro y0 y1 y2 y3 y4 y5 y6 y7 y8 y9 y10
      unfold sacristanref09_May.j4
      repeat' first | (with_reducible exact ih5 _ _ _ _ _ _ _ _ _ _ _ _) | (with_reducible exact LeO.refl _) | (with_reducible refine LeO.ite ?_ ?_)
    · intro y0 y1 y2 y3 y4 y5 y6 y7 y8 y9 y10 y11
      unfold sacristanref09_May.l3
      repeat' first | (with_reducible exact ih3 _ _ _ _ _ _) | (with_reducible exact ih5 _ _ _ _ _ _ _ _ _ _ _ _) | (with_reducible exact sacristanref09_instr.mono _ _ _ _ _ _ _ _ _ _ _) | (with_reducible exact LeO.refl _) | (with_reducible refine LeO.ite ?_ ?_) | (with_reducible refine LeO.bind ?_ (fun _ => ?_))
theorem sacristanref09_May.mono : ∀ a0 a1 a2 a3 k, LeO (sacristanref09_May.f k a0 a1 a2 a3) (sacristanref09_May.f (k + 1) a0 a1 a2 a3) := by
  intro a0 a1 a2 a3 k
  obtain ⟨ih0, ih1, ih2, ih3, ih4, ih5⟩ := sacristanref09_May.mono_l k
  unfold sacristanref09_May.f
  repeat' first | (with_reducible exact ih0 _ _ _ _ _) | (with_reducible exact LeO.refl _) | (with_reducible refine LeO.ite ?_ ?_)
def sacristanref09_May.T12 : Bool × List (List Nat × List Nat) := (true, [([], []), ([], []), ([1], [1]), ([], []), ([2, 3], [2, 3]), ([4], [4]), ([0, 5], [0, 5]), ([6], [6])])
def sacristanref09_May.B12 : List Nat := [0, 0, 2, 0, 14, 30, 63, 127]
theorem sacristanref09_May.tab12 : rtab .any (opsOf Tryd.f25 12) = sacristanref09_May.T12 := by kernel_rfl
theorem sacristanref09_May.bits12 : waitsOk sacristanref09_May.T12.2 sacristanref09_May.B12 = true := by kernel_rfl
def sacristanref09_May.T24 : Bool × List (List Nat × List Nat) := (true, [([], []), ([], []), ([], []), ([2], [2]), ([], []), ([3, 4], [3, 4]), ([5], [5]), ([0, 1, 6], [0, 1, 6]), ([7], [7])])
def sacristanref09_May.B24 : List Nat := [0, 0, 0, 4, 0, 28, 60, 127, 255]
theorem sacristanref09_May.tab24 : rtab .any (opsOf Tryd.f25 24) = sacristanref09_May.T24 := by kernel_rfl
theorem sacristanref09_May.bits24 : waitsOk sacristanref09_May.T24.2 sacristanref09_May.B24 = true := by kernel_rfl
set_option maxHeartbeats 8000000 in
set_option maxRecDepth 100000 in
theorem sacristanref09_May.calls (k : Nat) (A0_0 : Option Addr) (c0_0 : Nat) (l0_0 : List Int) (A0_1 : Option Addr) (c0_1 : Nat) (l0_1 : List ByteArray) (A0_2 : Option Addr) (c0_2 : Nat) (l0_2 : List (S44)) (A0_3 : Option Addr) (c0_3 : Nat) (l0_3 : List (S41)) (r : Bool) (w : World) (hr0_0 : Kd.C (Kd.int .i64) w A0_0 l0_0.length l0_0) (hc0_0 : l0_0.length ≤ c0_0) (hr0_1 : Kd.C Kd.string w A0_1 l0_1.length l0_1) (hc0_1 : l0_1.length ≤ c0_1) (hr0_2 : Kd.C k44 w A0_2 l0_2.length l0_2) (hc0_2 : l0_2.length ≤ c0_2) (hr0_3 : Kd.C k41 w A0_3 l0_3.length l0_3) (hc0_3 : l0_3.length ≤ c0_3) (h : sacristanref09_May.f k l0_0 l0_1 l0_2 l0_3 = some r) :
    Calls Tryd.prog 25 #[.agg #[.slice A0_0 l0_0.length c0_0, .slice A0_1 l0_1.length c0_1, .slice A0_2 l0_2.length c0_2, .slice A0_3 l0_3.length c0_3]] w fun e w' => e = .returned (.bool r) ∧ Below w.heap.size w w' := by
  have hu30 := Tryd.underlying30
  have hu41 := Tryd.underlying41
  have hu44 := Tryd.underlying44
  have hu32 := Tryd.underlying32
  have HR0_0 := Aside0.mk hr0_0
  have HC0_0 := Aside0.mk hc0_0
  clear hr0_0 hc0_0
  have HR0_1 := Aside0.mk hr0_1
  have HC0_1 := Aside0.mk hc0_1
  clear hr0_1 hc0_1
  have HR0_2 := Aside0.mk hr0_2
  have HC0_2 := Aside0.mk hc0_2
  clear hr0_2 hc0_2
  have HR0_3 := Aside0.mk hr0_3
  have HC0_3 := Aside0.mk hc0_3
  clear hr0_3 hc0_3
  have HB := Aside0.mk (Below.refl w.heap.size w)
  have H : (if (l0_0.length : Int) > 4096 then (sacristanref09_May.j0 k true l0_0 l0_1 l0_2 l0_3) else (if (l0_1.length : Int) > 4096 then (sacristanref09_May.j0 k true l0_0 l0_1 l0_2 l0_3) else (if (l0_2.length : Int) > 4096 then (sacristanref09_May.j0 k true l0_0 l0_1 l0_2 l0_3) else (if (l0_3.length : Int) > 4096 then (sacristanref09_May.j0 k true l0_0 l0_1 l0_2 l0_3) else (if (l0_2.length : Int) = 0 then (sacristanref09_May.j0 k true l0_0 l0_1 l0_2 l0_3) else (if 0 < (l0_2.length : Int) then (if ((rd_T44 l0_2 0).f0) = 0 then (sacristanref09_May.j0 k (((rd_T44 l0_2 0).f2) != 0) l0_0 l0_1 l0_2 l0_3) else (sacristanref09_May.j0 k true l0_0 l0_1 l0_2 l0_3)) else (none))))))) = some r := h
  clear h
  have HC2 := Aside0.mk H
  clear H
  go_enter Tryd.func25, Tryd.ntmps25
  go_upto_region 1 with (((with_reducible refine gate_dst (N := 1) rfl ?_); (try (refine gate_guard (by rfl) ?_; dsimp only)); refine box_event ?hg (N := 1) ?hd (cs := #[.slice A0_0 l0_0.length c0_0, .slice A0_1 l0_1.length c0_1, .slice A0_2 l0_2.length c0_2, .slice A0_3 l0_3.length c0_3]) (t := 30) ?hr ?_; (case hd => rfl); (case hg => rfl); (case hr => ((go_simp; done))); intro gb282 hg w3 hbox hb; have n0_ := Aside0.mk (below_step (by repeat ((with_reducible exact HB.out))) hb); have n1_ := Aside0.mk (hbox); have n2_ := Aside0.mk ((by rw [hg]; exact (below_size (by repeat ((with_reducible exact HB.out)))) : w.heap.size ≤ gb282)); have n3_ := Aside0.mk ((by rw [hg]; exact (below_size (by repeat ((with_reducible exact HB.out)))) : w.heap.size ≤ gb282)); clear HB; have HB := n0_; have BK282 := n1_; have GW282 := n2_; have GE282 := n3_; clear n0_ n1_ n2_ n3_; clear hb hbox hg))
  go_cut [51] (fun v51 wc => ∃ (kq : Nat) (x51_1 : Bool), v51 = .bool x51_1 ∧ Aside0 (sacristanref09_May.j0 kq x51_1 l0_0 l0_1 l0_2 l0_3 = some r) ∧ Aside0 (kq ≤ k) ∧ Aside0 (wc.heap[gb282]? = some (.cells #[(.slice A0_0 l0_0.length c0_0), (.slice A0_1 l0_1.length c0_1), (.slice A0_2 l0_2.length c0_2), (.slice A0_3 l0_3.length c0_3)] 30 (0, 0))) ∧ Aside0 (Below w.heap.size w wc))
  case first =>
    have H := HC2.out
    clear HC2
    by_cases c4 : (l0_0.length : Int) > 4096
    · rw [if_pos c4] at H
      have c4b0 : decide (4096 < (l0_0.length : Int)) = true := decide_eq_true c4
      have c4b1 : decide (4096 < l0_0.length) = true := decide_eq_true (by omega)
      clear c4
      (skip)
      have H' := Aside0.mk H
      clear H
      have hcz5_0 : w3.cell? ⟨gb282, 0, none⟩ = some (.slice A0_0 l0_0.length c0_0) := (blk_cell BK282.out 0).trans rfl
      have hcz5_1 : w3.cell? ⟨gb282, 1, none⟩ = some (.slice A0_1 l0_1.length c0_1) := (blk_cell BK282.out 1).trans rfl
      have hcz5_2 : w3.cell? ⟨gb282, 2, none⟩ = some (.slice A0_2 l0_2.length c0_2) := (blk_cell BK282.out 2).trans rfl
      have hcz5_3 : w3.cell? ⟨gb282, 3, none⟩ = some (.slice A0_3 l0_3.length c0_3) := (blk_cell BK282.out 3).trans rfl
      have hfz5_0 := blk_frozen BK282.out 0
      have hfz5_1 := blk_frozen BK282.out 1
      have hfz5_2 := blk_frozen BK282.out 2
      have hfz5_3 := blk_frozen BK282.out 3
      go_wp2
      go_meet
      case rel => exact ⟨_, (true), (by rfl), H', ⟨by omega⟩, ⟨by (with_reducible repeat (fail)); exact BK282.out⟩, ⟨by repeat ((with_reducible exact HB.out))⟩⟩
    rw [if_neg c4] at H
    have c4b0 : decide (4096 < (l0_0.length : Int)) = false := decide_eq_false c4
    have c4b1 : decide (4096 < l0_0.length) = false := decide_eq_false (by omega)
    clear c4
    (skip)
    by_cases c6 : (l0_1.length : Int) > 4096
    · rw [if_pos c6] at H
      have c6b0 : decide (4096 < (l0_1.length : Int)) = true := decide_eq_true c6
      have c6b1 : decide (4096 < l0_1.length) = true := decide_eq_true (by omega)
      clear c6
      have H' := Aside0.mk H
      clear H
      have hcz7_0 : w3.cell? ⟨gb282, 0, none⟩ = some (.slice A0_0 l0_0.length c0_0) := (blk_cell BK282.out 0).trans rfl
      have hcz7_1 : w3.cell? ⟨gb282, 1, none⟩ = some (.slice A0_1 l0_1.length c0_1) := (blk_cell BK282.out 1).trans rfl
      have hcz7_2 : w3.cell? ⟨gb282, 2, none⟩ = some (.slice A0_2 l0_2.length c0_2) := (blk_cell BK282.out 2).trans rfl
      have hcz7_3 : w3.cell? ⟨gb282, 3, none⟩ = some (.slice A0_3 l0_3.length c0_3) := (blk_cell BK282.out 3).trans rfl
      have hfz7_0 := blk_frozen BK282.out 0
      have hfz7_1 := blk_frozen BK282.out 1
      have hfz7_2 := blk_frozen BK282.out 2
      have hfz7_3 := blk_frozen BK282.out 3
      go_wp2
      go_meet
      case rel => exact ⟨_, (true), (by rfl), H', ⟨by omega⟩, ⟨by (with_reducible repeat (fail)); exact BK282.out⟩, ⟨by repeat ((with_reducible exact HB.out))⟩⟩
    rw [if_neg c6] at H
    have c6b0 : decide (4096 < (l0_1.length : Int)) = false := decide_eq_false c6
    have c6b1 : decide (4096 < l0_1.length) = false := decide_eq_false (by omega)
    clear c6
    by_cases c8 : (l0_2.length : Int) > 4096
    · rw [if_pos c8] at H
      have c8b0 : decide (4096 < (l0_2.length : Int)) = true := decide_eq_true c8
      have c8b1 : decide (4096 < l0_2.length) = true := decide_eq_true (by omega)
      clear c8
      have H' := Aside0.mk H
      clear H
      have hcz9_0 : w3.cell? ⟨gb282, 0, none⟩ = some (.slice A0_0 l0_0.length c0_0) := (blk_cell BK282.out 0).trans rfl
      have hcz9_1 : w3.cell? ⟨gb282, 1, none⟩ = some (.slice A0_1 l0_1.length c0_1) := (blk_cell BK282.out 1).trans rfl
      have hcz9_2 : w3.cell? ⟨gb282, 2, none⟩ = some (.slice A0_2 l0_2.length c0_2) := (blk_cell BK282.out 2).trans rfl
      have hcz9_3 : w3.cell? ⟨gb282, 3, none⟩ = some (.slice A0_3 l0_3.length c0_3) := (blk_cell BK282.out 3).trans rfl
      have hfz9_0 := blk_frozen BK282.out 0
      have hfz9_1 := blk_frozen BK282.out 1
      have hfz9_2 := blk_frozen BK282.out 2
      have hfz9_3 := blk_frozen BK282.out 3
      go_wp2
      go_meet
      case rel => exact ⟨_, (true), (by rfl), H', ⟨by omega⟩, ⟨by (with_reducible repeat (fail)); exact BK282.out⟩, ⟨by repeat ((with_reducible exact HB.out))⟩⟩
    rw [if_neg c8] at H
    have c8b0 : decide (4096 < (l0_2.length : Int)) = false := decide_eq_false c8
    have c8b1 : decide (4096 < l0_2.length) = false := decide_eq_false (by omega)
    clear c8
    by_cases c10 : (l0_3.length : Int) > 4096
    · rw [if_pos c10] at H
      have c10b0 : decide (4096 < (l0_3.length : Int)) = true := decide_eq_true c10
      have c10b1 : decide (4096 < l0_3.length) = true := decide_eq_true (by omega)
      clear c10
      have H' := Aside0.mk H
      clear H
      have hcz11_0 : w3.cell? ⟨gb282, 0, none⟩ = some (.slice A0_0 l0_0.length c0_0) := (blk_cell BK282.out 0).trans rfl
      have hcz11_1 : w3.cell? ⟨gb282, 1, none⟩ = some (.slice A0_1 l0_1.length c0_1) := (blk_cell BK282.out 1).trans rfl
      have hcz11_2 : w3.cell? ⟨gb282, 2, none⟩ = some (.slice A0_2 l0_2.length c0_2) := (blk_cell BK282.out 2).trans rfl
      have hcz11_3 : w3.cell? ⟨gb282, 3, none⟩ = some (.slice A0_3 l0_3.length c0_3) := (blk_cell BK282.out 3).trans rfl
      have hfz11_0 := blk_frozen BK282.out 0
      have hfz11_1 := blk_frozen BK282.out 1
      have hfz11_2 := blk_frozen BK282.out 2
      have hfz11_3 := blk_frozen BK282.out 3
      go_wp2
      go_meet
      case rel => exact ⟨_, (true), (by rfl), H', ⟨by omega⟩, ⟨by (with_reducible repeat (fail)); exact BK282.out⟩, ⟨by repeat ((with_reducible exact HB.out))⟩⟩
    rw [if_neg c10] at H
    have c10b0 : decide (4096 < (l0_3.length : Int)) = false := decide_eq_false c10
    have c10b1 : decide (4096 < l0_3.length) = false := decide_eq_false (by omega)
    clear c10
    by_cases c12 : (l0_2.length : Int) = 0
    · rw [if_pos c12] at H
      have c12b0 : ((l0_2.length : Int) == 0) = true := beq_iff_eq.mpr c12
      have c12b1 : ((l0_2.length : Int) != 0) = false := bne_eq_false_iff_eq.mpr c12
      clear c12
      have H' := Aside0.mk H
      clear H
      have hcz13_0 : w3.cell? ⟨gb282, 0, none⟩ = some (.slice A0_0 l0_0.length c0_0) := (blk_cell BK282.out 0).trans rfl
      have hcz13_1 : w3.cell? ⟨gb282, 1, none⟩ = some (.slice A0_1 l0_1.length c0_1) := (blk_cell BK282.out 1).trans rfl
      have hcz13_2 : w3.cell? ⟨gb282, 2, none⟩ = some (.slice A0_2 l0_2.length c0_2) := (blk_cell BK282.out 2).trans rfl
      have hcz13_3 : w3.cell? ⟨gb282, 3, none⟩ = some (.slice A0_3 l0_3.length c0_3) := (blk_cell BK282.out 3).trans rfl
      have hfz13_0 := blk_frozen BK282.out 0
      have hfz13_1 := blk_frozen BK282.out 1
      have hfz13_2 := blk_frozen BK282.out 2
      have hfz13_3 := blk_frozen BK282.out 3
      go_wp2
      go_meet
      case rel => exact ⟨_, (true), (by rfl), H', ⟨by omega⟩, ⟨by (with_reducible repeat (fail)); exact BK282.out⟩, ⟨by repeat ((with_reducible exact HB.out))⟩⟩
    rw [if_neg c12] at H
    have c12b0 : ((l0_2.length : Int) == 0) = false := beq_eq_false_iff_ne.mpr c12
    have c12b1 : ((l0_2.length : Int) != 0) = true := bne_iff_ne.mpr c12
    have c12b2 : ¬ (l0_2 = []) := fun h_ => c12 (by rw [h_]; rfl)
    by_cases c14 : 0 < (l0_2.length : Int)
    · rw [if_pos c14] at H
      have c14b0 : decide (0 < (l0_2.length : Int)) = true := decide_eq_true c14
      have c14b1 : decide (0 < l0_2.length) = true := decide_eq_true (by omega)
      clear c14
      by_cases c15 : ((rd_T44 l0_2 0).f0) = 0
      · rw [if_pos c15] at H
        have c15b0 : (((rd_T44 l0_2 0).f0) == 0) = true := beq_iff_eq.mpr c15
        have c15b1 : (((rd_T44 l0_2 0).f0) != 0) = false := bne_eq_false_iff_eq.mpr c15
        clear c15
        have H' := Aside0.mk H
        clear H
        have hcz16_0 : w3.cell? ⟨gb282, 0, none⟩ = some (.slice A0_0 l0_0.length c0_0) := (blk_cell BK282.out 0).trans rfl
        have hcz16_1 : w3.cell? ⟨gb282, 1, none⟩ = some (.slice A0_1 l0_1.length c0_1) := (blk_cell BK282.out 1).trans rfl
        have hcz16_2 : w3.cell? ⟨gb282, 2, none⟩ = some (.slice A0_2 l0_2.length c0_2) := (blk_cell BK282.out 2).trans rfl
        have hcz16_3 : w3.cell? ⟨gb282, 3, none⟩ = some (.slice A0_3 l0_3.length c0_3) := (blk_cell BK282.out 3).trans rfl
        have hfz16_0 := blk_frozen BK282.out 0
        have hfz16_1 := blk_frozen BK282.out 1
        have hfz16_2 := blk_frozen BK282.out 2
        have hfz16_3 := blk_frozen BK282.out 3
        have p283 : 0 ≤ (0 : Int) := (by omega)
        have q283 : 0 < (l0_2.length : Int) := of_decide_eq_true (by (with_reducible assumption))
        obtain ⟨ad283, A283_3, c283_3, e283, hx283_0, hx283_1, hx283_2, hx283_3, hl283_3, hi283_3⟩ := at_T44 HR0_2.out 0 p283 q283
        cases e283
        have qi283 : (0 < l0_2.length) = True := eq_true (by omega)
        (try rw [show ((0 : Int)).toNat = 0 from rfl] at hx283_0)
        (try rw [show 0 * 4 = 0 from rfl] at hx283_0)
        (try rw [Addr.add_zero'] at hx283_0)
        (try rw [show ((0 : Int)).toNat = 0 from rfl] at hx283_1)
        (try rw [show 0 * 4 = 0 from rfl] at hx283_1)
        (try rw [Addr.add_zero'] at hx283_1)
        (try rw [show ((0 : Int)).toNat = 0 from rfl] at hx283_2)
        (try rw [show 0 * 4 = 0 from rfl] at hx283_2)
        (try rw [Addr.add_zero'] at hx283_2)
        (try rw [show ((0 : Int)).toNat = 0 from rfl] at hx283_3)
        (try rw [show 0 * 4 = 0 from rfl] at hx283_3)
        (try rw [Addr.add_zero'] at hx283_3)
        replace hx283_0 := (HB.out.cell (World.block_lt_of_cell? w _ hx283_0)).trans hx283_0
        replace hx283_1 := (HB.out.cell (World.block_lt_of_cell? w _ hx283_1)).trans hx283_1
        replace hx283_2 := (HB.out.cell (World.block_lt_of_cell? w _ hx283_2)).trans hx283_2
        replace hx283_3 := (HB.out.cell (World.block_lt_of_cell? w _ hx283_3)).trans hx283_3
        have HR283_3 := Aside0.mk hi283_3
        have HC283_3 := Aside0.mk hl283_3
        clear hi283_3 hl283_3
        replace p283 := eq_true p283
        replace q283 := eq_true q283
        have p284 : 0 ≤ (0 : Int) := (by omega)
        have q284 : 0 < (l0_2.length : Int) := of_decide_eq_true (by (with_reducible assumption))
        obtain ⟨ad284, A284_3, c284_3, e284, hx284_0, hx284_1, hx284_2, hx284_3, hl284_3, hi284_3⟩ := at_T44 HR0_2.out 0 p284 q284
        obtain rfl : ad283 = ad284 := (by injection e284)
        have qi284 : (0 < l0_2.length) = True := eq_true (by omega)
        (try rw [show ((0 : Int)).toNat = 0 from rfl] at hx284_0)
        (try rw [show 0 * 4 = 0 from rfl] at hx284_0)
        (try rw [Addr.add_zero'] at hx284_0)
        (try rw [show ((0 : Int)).toNat = 0 from rfl] at hx284_1)
        (try rw [show 0 * 4 = 0 from rfl] at hx284_1)
        (try rw [Addr.add_zero'] at hx284_1)
        (try rw [show ((0 : Int)).toNat = 0 from rfl] at hx284_2)
        (try rw [show 0 * 4 = 0 from rfl] at hx284_2)
        (try rw [Addr.add_zero'] at hx284_2)
        (try rw [show ((0 : Int)).toNat = 0 from rfl] at hx284_3)
        (try rw [show 0 * 4 = 0 from rfl] at hx284_3)
        (try rw [Addr.add_zero'] at hx284_3)
        replace hx284_0 := (HB.out.cell (World.block_lt_of_cell? w _ hx284_0)).trans hx284_0
        replace hx284_1 := (HB.out.cell (World.block_lt_of_cell? w _ hx284_1)).trans hx284_1
        replace hx284_2 := (HB.out.cell (World.block_lt_of_cell? w _ hx284_2)).trans hx284_2
        replace hx284_3 := (HB.out.cell (World.block_lt_of_cell? w _ hx284_3)).trans hx284_3
        have HR284_3 := Aside0.mk hi284_3
        have HC284_3 := Aside0.mk hl284_3
        clear hi284_3 hl284_3
        replace p284 := eq_true p284
        replace q284 := eq_true q284
        have ea_ := Option.some.inj (hx283_3.symm.trans hx284_3)
        injection ea_ with ea_ en_ ec_
        subst ea_
        subst ec_
        clear en_
        go_wp2
        go_meet
        case rel => exact ⟨_, ((((rd_T44 l0_2 0).f2) != 0)), (by rfl), H', ⟨by omega⟩, ⟨by (with_reducible repeat (fail)); exact BK282.out⟩, ⟨by repeat ((with_reducible exact HB.out))⟩⟩
      rw [if_neg c15] at H
      have c15b0 : (((rd_T44 l0_2 0).f0) == 0) = false := beq_eq_false_iff_ne.mpr c15
      have c15b1 : (((rd_T44 l0_2 0).f0) != 0) = true := bne_iff_ne.mpr c15
      have H' := Aside0.mk H
      clear H
      have hcz17_0 : w3.cell? ⟨gb282, 0, none⟩ = some (.slice A0_0 l0_0.length c0_0) := (blk_cell BK282.out 0).trans rfl
      have hcz17_1 : w3.cell? ⟨gb282, 1, none⟩ = some (.slice A0_1 l0_1.length c0_1) := (blk_cell BK282.out 1).trans rfl
      have hcz17_2 : w3.cell? ⟨gb282, 2, none⟩ = some (.slice A0_2 l0_2.length c0_2) := (blk_cell BK282.out 2).trans rfl
      have hcz17_3 : w3.cell? ⟨gb282, 3, none⟩ = some (.slice A0_3 l0_3.length c0_3) := (blk_cell BK282.out 3).trans rfl
      have hfz17_0 := blk_frozen BK282.out 0
      have hfz17_1 := blk_frozen BK282.out 1
      have hfz17_2 := blk_frozen BK282.out 2
      have hfz17_3 := blk_frozen BK282.out 3
      have p283 : 0 ≤ (0 : Int) := (by omega)
      have q283 : 0 < (l0_2.length : Int) := of_decide_eq_true (by (with_reducible assumption))
      obtain ⟨ad283, A283_3, c283_3, e283, hx283_0, hx283_1, hx283_2, hx283_3, hl283_3, hi283_3⟩ := at_T44 HR0_2.out 0 p283 q283
      cases e283
      have qi283 : (0 < l0_2.length) = True := eq_true (by omega)
      (try rw [show ((0 : Int)).toNat = 0 from rfl] at hx283_0)
      (try rw [show 0 * 4 = 0 from rfl] at hx283_0)
      (try rw [Addr.add_zero'] at hx283_0)
      (try rw [show ((0 : Int)).toNat = 0 from rfl] at hx283_1)
      (try rw [show 0 * 4 = 0 from rfl] at hx283_1)
      (try rw [Addr.add_zero'] at hx283_1)
      (try rw [show ((0 : Int)).toNat = 0 from rfl] at hx283_2)
      (try rw [show 0 * 4 = 0 from rfl] at hx283_2)
      (try rw [Addr.add_zero'] at hx283_2)
      (try rw [show ((0 : Int)).toNat = 0 from rfl] at hx283_3)
      (try rw [show 0 * 4 = 0 from rfl] at hx283_3)
      (try rw [Addr.add_zero'] at hx283_3)
      replace hx283_0 := (HB.out.cell (World.block_lt_of_cell? w _ hx283_0)).trans hx283_0
      replace hx283_1 := (HB.out.cell (World.block_lt_of_cell? w _ hx283_1)).trans hx283_1
      replace hx283_2 := (HB.out.cell (World.block_lt_of_cell? w _ hx283_2)).trans hx283_2
      replace hx283_3 := (HB.out.cell (World.block_lt_of_cell? w _ hx283_3)).trans hx283_3
      have HR283_3 := Aside0.mk hi283_3
      have HC283_3 := Aside0.mk hl283_3
      clear hi283_3 hl283_3
      replace p283 := eq_true p283
      replace q283 := eq_true q283
      go_wp2
      go_meet
      case rel => exact ⟨_, (true), (by rfl), H', ⟨by omega⟩, ⟨by (with_reducible repeat (fail)); exact BK282.out⟩, ⟨by repeat ((with_reducible exact HB.out))⟩⟩
    rw [if_neg c14] at H
    exact absurd H (by simp)
  case rest =>
    clear HC2
    obtain ⟨kq, x51_1, rfl, HA, HJ1, BK282, HB⟩ := hcut
    cases kq with
    | zero => exact absurd HA.out (by simp [sacristanref09_May.j0])
    | succ kj1 =>
      have H := HA.out
      clear HA
      simp only [sacristanref09_May.j0] at H
      by_cases c18 : x51_1 = true
      · subst c18
        have H1 : (some false) = some r := by rw [if_pos rfl] at H; exact H
        clear H
        have H := H1
        clear H1
        obtain rfl := Option.some.inj H
        go_wp2
        go_ret
        exact ⟨by rfl, by repeat ((with_reducible exact HB.out))⟩
      replace c18 := Bool.eq_false_iff.mpr c18
      subst c18
      have H1 : (sacristanref09_May.l0 kj1 (l0_1.length : Int) 0 l0_0 l0_1 l0_2 l0_3) = some r := by rw [if_neg (show ¬ (false = true) by decide)] at H; exact H
      clear H
      have H := H1
      clear H1
      have H' := Aside0.mk H
      clear H
      have hcz19_0 : wc.cell? ⟨gb282, 0, none⟩ = some (.slice A0_0 l0_0.length c0_0) := (blk_cell BK282.out 0).trans rfl
      have hcz19_1 : wc.cell? ⟨gb282, 1, none⟩ = some (.slice A0_1 l0_1.length c0_1) := (blk_cell BK282.out 1).trans rfl
      have hcz19_2 : wc.cell? ⟨gb282, 2, none⟩ = some (.slice A0_2 l0_2.length c0_2) := (blk_cell BK282.out 2).trans rfl
      have hcz19_3 : wc.cell? ⟨gb282, 3, none⟩ = some (.slice A0_3 l0_3.length c0_3) := (blk_cell BK282.out 3).trans rfl
      have hfz19_0 := blk_frozen BK282.out 0
      have hfz19_1 := blk_frozen BK282.out 1
      have hfz19_2 := blk_frozen BK282.out 2
      have hfz19_3 := blk_frozen BK282.out 3
      go_wp2
      go_loopg [55] kj1 (fun kq v55 w' => ∃ (x55_2 : Int), v55 = .int .i64 x55_2 ∧ Aside0 (sacristanref09_May.l0 kq (l0_1.length : Int) x55_2 l0_0 l0_1 l0_2 l0_3 = some r) ∧ Aside0 (kq ≤ kj1) ∧ Aside0 (w'.heap[gb282]? = some (.cells #[(.slice A0_0 l0_0.length c0_0), (.slice A0_1 l0_1.length c0_1), (.slice A0_2 l0_2.length c0_2), (.slice A0_3 l0_3.length c0_3)] 30 (0, 0))) ∧ Aside0 (Below w.heap.size w w'))
      case atStart => exact ⟨(0), (by rfl), H', ⟨Nat.le_refl _⟩, ⟨by (with_reducible repeat (fail)); exact BK282.out⟩, ⟨by repeat ((with_reducible exact HB.out))⟩⟩
      case round =>
        clear H' hcz19_0 hcz19_1 hcz19_2 hcz19_3 hfz19_0 hfz19_1 hfz19_2 hfz19_3
        obtain ⟨x55_2, rfl, HA, HK2, BK282, HB⟩ := hrel
        cases gk with
        | zero => exact absurd HA.out (by simp [sacristanref09_May.l0])
        | succ k2 =>
          have H := HA.out
          clear HA
          simp only [sacristanref09_May.l0] at H
          by_cases c20 : x55_2 < (l0_1.length : Int)
          · rw [if_pos c20] at H
            have c20b0 : decide (x55_2 < (l0_1.length : Int)) = true := decide_eq_true c20
            clear c20
            by_cases c21 : 0 ≤ x55_2
            · rw [if_pos c21] at H
              have c21b0 : decide (0 ≤ x55_2) = true := decide_eq_true c21
              clear c21
              by_cases c22 : x55_2 < (l0_1.length : Int)
              · rw [if_pos c22] at H
                have c22b0 : decide (x55_2 < (l0_1.length : Int)) = true := decide_eq_true c22
                clear c22
                by_cases c23 : ((rdOf ByteArray.empty l0_1 x55_2).size : Int) > 65536
                · rw [if_pos c23] at H
                  have c23b0 : decide (65536 < ((rdOf ByteArray.empty l0_1 x55_2).size : Int)) = true := decide_eq_true c23
                  have c23b1 : decide (65536 < (rdOf ByteArray.empty l0_1 x55_2).size) = true := decide_eq_true (by omega)
                  clear c23
                  obtain rfl := Option.some.inj H
                  have hcz24_0 : wr.cell? ⟨gb282, 0, none⟩ = some (.slice A0_0 l0_0.length c0_0) := (blk_cell BK282.out 0).trans rfl
                  have hcz24_1 : wr.cell? ⟨gb282, 1, none⟩ = some (.slice A0_1 l0_1.length c0_1) := (blk_cell BK282.out 1).trans rfl
                  have hcz24_2 : wr.cell? ⟨gb282, 2, none⟩ = some (.slice A0_2 l0_2.length c0_2) := (blk_cell BK282.out 2).trans rfl
                  have hcz24_3 : wr.cell? ⟨gb282, 3, none⟩ = some (.slice A0_3 l0_3.length c0_3) := (blk_cell BK282.out 3).trans rfl
                  have hfz24_0 := blk_frozen BK282.out 0
                  have hfz24_1 := blk_frozen BK282.out 1
                  have hfz24_2 := blk_frozen BK282.out 2
                  have hfz24_3 := blk_frozen BK282.out 3
                  have p285 : 0 ≤ (x55_2 : Int) := of_decide_eq_true (by (with_reducible assumption))
                  have q285 : x55_2 < (l0_1.length : Int) := of_decide_eq_true (by (with_reducible assumption))
                  obtain ⟨ad285, e285, hx285_0⟩ := Kd.at_string HR0_1.out x55_2 p285 q285
                  cases e285
                  replace hx285_0 := (HB.out.cell (World.block_lt_of_cell? w _ hx285_0)).trans hx285_0
                  replace p285 := eq_true p285
                  replace q285 := eq_true q285
                  go_wp2
                  go_ret
                  exact ⟨by rfl, by repeat ((with_reducible exact HB.out))⟩
                rw [if_neg c23] at H
                have c23b0 : decide (65536 < ((rdOf ByteArray.empty l0_1 x55_2).size : Int)) = false := decide_eq_false c23
                have c23b1 : decide (65536 < (rdOf ByteArray.empty l0_1 x55_2).size) = false := decide_eq_false (by omega)
                clear c23
                have H' := Aside0.mk H
                clear H
                have hcz25_0 : wr.cell? ⟨gb282, 0, none⟩ = some (.slice A0_0 l0_0.length c0_0) := (blk_cell BK282.out 0).trans rfl
                have hcz25_1 : wr.cell? ⟨gb282, 1, none⟩ = some (.slice A0_1 l0_1.length c0_1) := (blk_cell BK282.out 1).trans rfl
                have hcz25_2 : wr.cell? ⟨gb282, 2, none⟩ = some (.slice A0_2 l0_2.length c0_2) := (blk_cell BK282.out 2).trans rfl
                have hcz25_3 : wr.cell? ⟨gb282, 3, none⟩ = some (.slice A0_3 l0_3.length c0_3) := (blk_cell BK282.out 3).trans rfl
                have hfz25_0 := blk_frozen BK282.out 0
                have hfz25_1 := blk_frozen BK282.out 1
                have hfz25_2 := blk_frozen BK282.out 2
                have hfz25_3 := blk_frozen BK282.out 3
                have p285 : 0 ≤ (x55_2 : Int) := of_decide_eq_true (by (with_reducible assumption))
                have q285 : x55_2 < (l0_1.length : Int) := of_decide_eq_true (by (with_reducible assumption))
                obtain ⟨ad285, e285, hx285_0⟩ := Kd.at_string HR0_1.out x55_2 p285 q285
                cases e285
                replace hx285_0 := (HB.out.cell (World.block_lt_of_cell? w _ hx285_0)).trans hx285_0
                replace p285 := eq_true p285
                replace q285 := eq_true q285
                go_wp2
                go_roundg k2
                case measure => have := HJ1.out; have := HK2.out; omega
                case rel => exact ⟨(wrap64 (x55_2 + 1)), (by rfl), H', ⟨by have := HJ1.out; have := HK2.out; omega⟩, ⟨by (with_reducible repeat (fail)); exact BK282.out⟩, ⟨by repeat ((with_reducible exact HB.out))⟩⟩
              rw [if_neg c22] at H
              exact absurd H (by simp)
            rw [if_neg c21] at H
            exact absurd H (by simp)
          rw [if_neg c20] at H
          have c20b0 : decide (x55_2 < (l0_1.length : Int)) = false := decide_eq_false c20
          clear c20
          have H' := Aside0.mk H
          clear H
          have hcz26_0 : wr.cell? ⟨gb282, 0, none⟩ = some (.slice A0_0 l0_0.length c0_0) := (blk_cell BK282.out 0).trans rfl
          have hcz26_1 : wr.cell? ⟨gb282, 1, none⟩ = some (.slice A0_1 l0_1.length c0_1) := (blk_cell BK282.out 1).trans rfl
          have hcz26_2 : wr.cell? ⟨gb282, 2, none⟩ = some (.slice A0_2 l0_2.length c0_2) := (blk_cell BK282.out 2).trans rfl
          have hcz26_3 : wr.cell? ⟨gb282, 3, none⟩ = some (.slice A0_3 l0_3.length c0_3) := (blk_cell BK282.out 3).trans rfl
          have hfz26_0 := blk_frozen BK282.out 0
          have hfz26_1 := blk_frozen BK282.out 1
          have hfz26_2 := blk_frozen BK282.out 2
          have hfz26_3 := blk_frozen BK282.out 3
          go_wp2
          go_loopg [69] k2 (fun kq v69 w' => ∃ (x69_3 : Int), v69 = .int .i64 x69_3 ∧ Aside0 (sacristanref09_May.l1 kq (l0_3.length : Int) x69_3 l0_0 l0_1 l0_2 l0_3 = some r) ∧ Aside0 (kq ≤ k2) ∧ Aside0 (w'.heap[gb282]? = some (.cells #[(.slice A0_0 l0_0.length c0_0), (.slice A0_1 l0_1.length c0_1), (.slice A0_2 l0_2.length c0_2), (.slice A0_3 l0_3.length c0_3)] 30 (0, 0))) ∧ Aside0 (Below w.heap.size w w'))
          case atStart => exact ⟨(0), (by rfl), H', ⟨Nat.le_refl _⟩, ⟨by (with_reducible repeat (fail)); exact BK282.out⟩, ⟨by repeat ((with_reducible exact HB.out))⟩⟩
          case round =>
            clear H' c20b0 hcz26_0 hcz26_1 hcz26_2 hcz26_3 hfz26_0 hfz26_1 hfz26_2 hfz26_3
            obtain ⟨x69_3, rfl, HA, HK3, BK282, HB⟩ := hrel
            cases gk with
            | zero => exact absurd HA.out (by simp [sacristanref09_May.l1])
            | succ k3 =>
              have H := HA.out
              clear HA
              simp only [sacristanref09_May.l1] at H
              by_cases c27 : x69_3 < (l0_3.length : Int)
              · rw [if_pos c27] at H
                have c27b0 : decide (x69_3 < (l0_3.length : Int)) = true := decide_eq_true c27
                clear c27
                by_cases c28 : 0 ≤ x69_3
                · rw [if_pos c28] at H
                  have c28b0 : decide (0 ≤ x69_3) = true := decide_eq_true c28
                  clear c28
                  by_cases c29 : x69_3 < (l0_3.length : Int)
                  · rw [if_pos c29] at H
                    have c29b0 : decide (x69_3 < (l0_3.length : Int)) = true := decide_eq_true c29
                    clear c29
                    replace H := Option.bind_eq_some_iff.mp H
                    obtain ⟨t287, A300, H⟩ := H
                    have A30 := Aside0.mk A300
                    clear A300
                    by_cases c31 : t287 = true
                    · subst c31
                      have H1 : (sacristanref09_May.l1 k3 (l0_3.length : Int) (wrap64 (x69_3 + 1)) l0_0 l0_1 l0_2 l0_3) = some r := by rw [if_pos rfl] at H; exact H
                      clear H
                      have H := H1
                      clear H1
                      have H' := Aside0.mk H
                      clear H
                      try go_wp2
                      have n0_ := Aside0.mk (blk_drew BK282.out)
                      have n1_ := Aside0.mk (below_drew1 HB.out)
                      clear BK282 HB
                      have BK282 := n0_
                      have HB := n1_
                      clear n0_ n1_
                      have p286 : 0 ≤ (x69_3 : Int) := of_decide_eq_true (by (with_reducible assumption))
                      have q286 : x69_3 < (l0_3.length : Int) := of_decide_eq_true (by (with_reducible assumption))
                      obtain ⟨ad286, A286_0, c286_0, e286, hx286_0, hx286_1, hx286_2, hl286_0, hi286_0⟩ := at_T41 HR0_3.out x69_3 p286 q286
                      have hw286_2 := hx286_2
                      have hw286_1 := hx286_1
                      have hw286_0 := hx286_0
                      cases e286
                      replace hx286_0 := (HB.out.cell (World.block_lt_of_cell? w _ hx286_0)).trans hx286_0
                      replace hx286_1 := (HB.out.cell (World.block_lt_of_cell? w _ hx286_1)).trans hx286_1
                      replace hx286_2 := (HB.out.cell (World.block_lt_of_cell? w _ hx286_2)).trans hx286_2
                      have HR286_0 := Aside0.mk hi286_0
                      have HC286_0 := Aside0.mk hl286_0
                      clear hi286_0 hl286_0
                      replace p286 := eq_true p286
                      replace q286 := eq_true q286
                      refine start_ (n := 8) (S := fun w' => w'.cell? ⟨gb282, 0, none⟩ = some (.slice A0_0 l0_0.length c0_0) ∧ w'.cell? ⟨gb282, 1, none⟩ = some (.slice A0_1 l0_1.length c0_1) ∧ w'.cell? ⟨gb282, 2, none⟩ = some (.slice A0_2 l0_2.length c0_2) ∧ w'.cell? ⟨gb282, 3, none⟩ = some (.slice (some ad286) l0_3.length c0_3) ∧ w'.cell? (ad286.add ((x69_3).toNat * 3)) = some (.slice A286_0 ((rd_T41 l0_3 x69_3).f0).length c286_0) ∧ w'.cell? ⟨(ad286.add ((x69_3).toNat * 3)).block, (ad286.add ((x69_3).toNat * 3)).off + 1, none⟩ = some (.bool ((rd_T41 l0_3 x69_3).f1)) ∧ w'.cell? ⟨(ad286.add ((x69_3).toNat * 3)).block, (ad286.add ((x69_3).toNat * 3)).off + 2, none⟩ = some (.bool ((rd_T41 l0_3 x69_3).f2))) (ds := []) #[false, false, false, false, false, false, false, false] (by kernel_rfl) rfl rfl ⟨(blk_cell BK282.out 0).trans rfl, (blk_cell BK282.out 1).trans rfl, (blk_cell BK282.out 2).trans rfl, (blk_cell BK282.out 3).trans rfl, ((HB.out.cell (World.block_lt_of_cell? w _ hw286_0)).trans hw286_0), ((HB.out.cell (World.block_lt_of_cell? w _ hw286_1)).trans hw286_1), ((HB.out.cell (World.block_lt_of_cell? w _ hw286_2)).trans hw286_2)⟩ (fun hHeld => ?_); refine with_tabW sacristanref09_May.tab12 sacristanref09_May.bits12 (fun HT_ HW_ => ?_)
                      generalize wr.drew = w32 at BK282 HB HR286_0 hx286_0 hx286_1 hx286_2 hHeld ⊢
                      refine pure_ (i := 1) (N := some 73) (v := ?_) (a' := ?_) #[false, true, false, false, false, false, false, false] rfl rfl (any_of HT_.out (by kernel_rfl)) (fun _ _ _ h => h) (Or.inl ⟨by rfl, ?_⟩) ?_ ?_
                      rotate_left
                      · intro w'
                        go_simp
                        with_reducible rfl
                      rotate_left
                      · simp only [Act.put, List.setIfInBounds_toArray, List.set_cons_zero, List.set_cons_succ, i64_w, i32_w]
                        rfl
                      refine pure_ (i := 3) (N := some 75) (v := ?_) (a' := ?_) #[false, true, false, true, false, false, false, false] rfl rfl (any_of HT_.out (by kernel_rfl)) (fun _ _ _ h => h) (Or.inl ⟨by rfl, ?_⟩) ?_ ?_
                      rotate_left
                      · intro w'
                        go_simp
                        with_reducible rfl
                      rotate_left
                      · simp only [Act.put, List.setIfInBounds_toArray, List.set_cons_zero, List.set_cons_succ, i64_w, i32_w]
                        rfl
                      refine take_ (i := 0) (N := some 72) (v := ?_) (a' := ?_) #[true, true, false, true, false, false, false, false] rfl rfl (take_ofW HT_.out HW_.out (by kernel_rfl)) (fun _ _ _ h => h) (Or.inl ⟨by rfl, ?_⟩) hHeld ?_ ?_
                      rotate_left
                      · rintro w' ⟨s0, s1, s2, s3, s4, s5, s6⟩
                        go_simp
                        with_reducible rfl
                      rotate_left
                      · simp only [Act.put, List.setIfInBounds_toArray, List.set_cons_zero, List.set_cons_succ, i64_w, i32_w]
                        rfl
                      refine take_ (i := 2) (N := some 74) (v := ?_) (a' := ?_) #[true, true, true, true, false, false, false, false] rfl rfl (take_ofW HT_.out HW_.out (by kernel_rfl)) (fun _ _ _ h => h) (Or.inl ⟨by rfl, ?_⟩) hHeld ?_ ?_
                      rotate_left
                      · rintro w' ⟨s0, s1, s2, s3, s4, s5, s6⟩
                        go_simp
                        with_reducible rfl
                      rotate_left
                      · simp only [Act.put, List.setIfInBounds_toArray, List.set_cons_zero, List.set_cons_succ, i64_w, i32_w]
                        rfl
                      refine pure_ (i := 4) (N := some 76) (v := ?_) (a' := ?_) #[true, true, true, true, true, false, false, false] rfl rfl (any_of HT_.out (by kernel_rfl)) (fun _ _ _ h => h) (Or.inl ⟨by rfl, ?_⟩) ?_ ?_
                      rotate_left
                      · intro w'
                        go_simp
                        with_reducible rfl
                      rotate_left
                      · simp only [Act.put, List.setIfInBounds_toArray, List.set_cons_zero, List.set_cons_succ, i64_w, i32_w]
                        rfl
                      refine take_ (i := 5) (N := some 77) (v := ?_) (a' := ?_) #[true, true, true, true, true, true, false, false] rfl rfl (take_ofW HT_.out HW_.out (by kernel_rfl)) (fun _ _ _ h => h) (Or.inl ⟨by rfl, ?_⟩) hHeld ?_ ?_
                      rotate_left
                      · rintro w' ⟨s0, s1, s2, s3, s4, s5, s6⟩
                        go_simp
                        with_reducible rfl
                      rotate_left
                      · simp only [Act.put, List.setIfInBounds_toArray, List.set_cons_zero, List.set_cons_succ, i64_w, i32_w]
                        rfl
                      refine one_ (i := 6) (N := some 78) #[true, true, true, true, true, true, true, false] rfl rfl (one_of HT_.out (by kernel_rfl)) (by decide) (fun K hK => ?_)
                      refine goes_ Tryd.func56 (by kernel_rfl) rfl #[.agg #[.slice A0_0 l0_0.length c0_0, .slice A0_1 l0_1.length c0_1, .slice A0_2 l0_2.length c0_2, .slice (some ad286) l0_3.length c0_3], .agg #[.slice A286_0 ((rd_T41 l0_3 x69_3).f0).length c286_0, .bool ((rd_T41 l0_3 x69_3).f1), .bool ((rd_T41 l0_3 x69_3).f2)]] (by rfl) rfl rfl (by (try simp only [List.map_toArray, List.map_cons, List.map_nil]); rfl) ?_
                      with_reducible refine (sacristanref09_table.calls k3 _ _ l0_0 _ _ l0_1 _ _ l0_2 _ _ l0_3 _ _ ((rd_T41 l0_3 x69_3).f0) ((rd_T41 l0_3 x69_3).f1) ((rd_T41 l0_3 x69_3).f2) true _ ?side1 ?side2 ?side3 ?side4 ?side5 ?side6 ?side7 ?side8 ?side9 ?side10 A30.out).mono ?_
                      (case side1 => repeat (exact (Kd.C_below HR0_0.out HB.out)))
                      (case side2 => exact HC0_0.out)
                      (case side3 => repeat (exact (Kd.C_below HR0_1.out HB.out)))
                      (case side4 => exact HC0_1.out)
                      (case side5 => repeat (exact (Kd.C_below HR0_2.out HB.out)))
                      (case side6 => exact HC0_2.out)
                      (case side7 => repeat (exact (Kd.C_below HR0_3.out HB.out)))
                      (case side8 => exact HC0_3.out)
                      (case side9 => repeat (exact (Kd.C_below HR286_0.out HB.out)))
                      (case side10 => exact HC286_0.out)
                      rintro e w33 ⟨rfl, hb⟩
                      refine ⟨_, rfl, ?_⟩
                      have n0_ := Aside0.mk (blk_below (g := gb282) (o := .cells #[.slice A0_0 l0_0.length c0_0, .slice A0_1 l0_1.length c0_1, .slice A0_2 l0_2.length c0_2, .slice (some ad286) l0_3.length c0_3] 30 (0, 0)) (by (with_reducible repeat (fail)); exact BK282.out) hb)
                      have n1_ := Aside0.mk (below_step (by repeat ((with_reducible exact HB.out))) hb)
                      clear BK282 HB
                      have BK282 := n0_
                      have HB := n1_
                      clear n0_ n1_
                      (try clear hb)
                      refine hK.out _ _ ⟨(blk_cell BK282.out 0).trans rfl, (blk_cell BK282.out 1).trans rfl, (blk_cell BK282.out 2).trans rfl, (blk_cell BK282.out 3).trans rfl, ((HB.out.cell (World.block_lt_of_cell? w _ hw286_0)).trans hw286_0), ((HB.out.cell (World.block_lt_of_cell? w _ hw286_1)).trans hw286_1), ((HB.out.cell (World.block_lt_of_cell? w _ hw286_2)).trans hw286_2)⟩ (fun hHeld => ?_)
                      clear hK K
                      refine norm_ (a' := ?_) ?_ ?_
                      rotate_left
                      · show Act.put _ (some 78) _ = _
                        simp only [Act.put, List.setIfInBounds_toArray, List.set_cons_zero, List.set_cons_succ, i64_w, i32_w]
                        rfl
                      refine pure_ (i := 7) (N := some 79) (v := ?_) (a' := ?_) #[true, true, true, true, true, true, true, true] rfl rfl (any_of HT_.out (by kernel_rfl)) (fun _ _ _ h => h) (Or.inl ⟨by rfl, ?_⟩) ?_ ?_
                      rotate_left
                      · intro w'
                        go_simp
                        with_reducible rfl
                      rotate_left
                      · simp only [Act.put, List.setIfInBounds_toArray, List.set_cons_zero, List.set_cons_succ, i64_w, i32_w]
                        rfl
                      refine done_ (done_of HT_.out (by kernel_rfl)) ?_
                      try go_wp2
                      go_roundg k3
                      case measure => have := HJ1.out; have := HK2.out; have := HK3.out; omega
                      case rel => exact ⟨(wrap64 (x69_3 + 1)), (by rfl), H', ⟨by have := HJ1.out; have := HK2.out; have := HK3.out; omega⟩, ⟨by (with_reducible repeat (fail)); exact BK282.out⟩, ⟨by repeat ((with_reducible exact HB.out))⟩⟩
                    replace c31 := Bool.eq_false_iff.mpr c31
                    subst c31
                    have H1 : (some false) = some r := by rw [if_neg (show ¬ (false = true) by decide)] at H; exact H
                    clear H
                    have H := H1
                    clear H1
                    obtain rfl := Option.some.inj H
                    try go_wp2
                    have n0_ := Aside0.mk (blk_drew BK282.out)
                    have n1_ := Aside0.mk (below_drew1 HB.out)
                    clear BK282 HB
                    have BK282 := n0_
                    have HB := n1_
                    clear n0_ n1_
                    have p286 : 0 ≤ (x69_3 : Int) := of_decide_eq_true (by (with_reducible assumption))
                    have q286 : x69_3 < (l0_3.length : Int) := of_decide_eq_true (by (with_reducible assumption))
                    obtain ⟨ad286, A286_0, c286_0, e286, hx286_0, hx286_1, hx286_2, hl286_0, hi286_0⟩ := at_T41 HR0_3.out x69_3 p286 q286
                    have hw286_2 := hx286_2
                    have hw286_1 := hx286_1
                    have hw286_0 := hx286_0
                    cases e286
                    replace hx286_0 := (HB.out.cell (World.block_lt_of_cell? w _ hx286_0)).trans hx286_0
                    replace hx286_1 := (HB.out.cell (World.block_lt_of_cell? w _ hx286_1)).trans hx286_1
                    replace hx286_2 := (HB.out.cell (World.block_lt_of_cell? w _ hx286_2)).trans hx286_2
                    have HR286_0 := Aside0.mk hi286_0
                    have HC286_0 := Aside0.mk hl286_0
                    clear hi286_0 hl286_0
                    replace p286 := eq_true p286
                    replace q286 := eq_true q286
                    refine start_ (n := 8) (S := fun w' => w'.cell? ⟨gb282, 0, none⟩ = some (.slice A0_0 l0_0.length c0_0) ∧ w'.cell? ⟨gb282, 1, none⟩ = some (.slice A0_1 l0_1.length c0_1) ∧ w'.cell? ⟨gb282, 2, none⟩ = some (.slice A0_2 l0_2.length c0_2) ∧ w'.cell? ⟨gb282, 3, none⟩ = some (.slice (some ad286) l0_3.length c0_3) ∧ w'.cell? (ad286.add ((x69_3).toNat * 3)) = some (.slice A286_0 ((rd_T41 l0_3 x69_3).f0).length c286_0) ∧ w'.cell? ⟨(ad286.add ((x69_3).toNat * 3)).block, (ad286.add ((x69_3).toNat * 3)).off + 1, none⟩ = some (.bool ((rd_T41 l0_3 x69_3).f1)) ∧ w'.cell? ⟨(ad286.add ((x69_3).toNat * 3)).block, (ad286.add ((x69_3).toNat * 3)).off + 2, none⟩ = some (.bool ((rd_T41 l0_3 x69_3).f2))) (ds := []) #[false, false, false, false, false, false, false, false] (by kernel_rfl) rfl rfl ⟨(blk_cell BK282.out 0).trans rfl, (blk_cell BK282.out 1).trans rfl, (blk_cell BK282.out 2).trans rfl, (blk_cell BK282.out 3).trans rfl, ((HB.out.cell (World.block_lt_of_cell? w _ hw286_0)).trans hw286_0), ((HB.out.cell (World.block_lt_of_cell? w _ hw286_1)).trans hw286_1), ((HB.out.cell (World.block_lt_of_cell? w _ hw286_2)).trans hw286_2)⟩ (fun hHeld => ?_); refine with_tabW sacristanref09_May.tab12 sacristanref09_May.bits12 (fun HT_ HW_ => ?_)
                    generalize wr.drew = w34 at BK282 HB HR286_0 hx286_0 hx286_1 hx286_2 hHeld ⊢
                    refine pure_ (i := 1) (N := some 73) (v := ?_) (a' := ?_) #[false, true, false, false, false, false, false, false] rfl rfl (any_of HT_.out (by kernel_rfl)) (fun _ _ _ h => h) (Or.inl ⟨by rfl, ?_⟩) ?_ ?_
                    rotate_left
                    · intro w'
                      go_simp
                      with_reducible rfl
                    rotate_left
                    · simp only [Act.put, List.setIfInBounds_toArray, List.set_cons_zero, List.set_cons_succ, i64_w, i32_w]
                      rfl
                    refine pure_ (i := 3) (N := some 75) (v := ?_) (a' := ?_) #[false, true, false, true, false, false, false, false] rfl rfl (any_of HT_.out (by kernel_rfl)) (fun _ _ _ h => h) (Or.inl ⟨by rfl, ?_⟩) ?_ ?_
                    rotate_left
                    · intro w'
                      go_simp
                      with_reducible rfl
                    rotate_left
                    · simp only [Act.put, List.setIfInBounds_toArray, List.set_cons_zero, List.set_cons_succ, i64_w, i32_w]
                      rfl
                    refine take_ (i := 0) (N := some 72) (v := ?_) (a' := ?_) #[true, true, false, true, false, false, false, false] rfl rfl (take_ofW HT_.out HW_.out (by kernel_rfl)) (fun _ _ _ h => h) (Or.inl ⟨by rfl, ?_⟩) hHeld ?_ ?_
                    rotate_left
                    · rintro w' ⟨s0, s1, s2, s3, s4, s5, s6⟩
                      go_simp
                      with_reducible rfl
                    rotate_left
                    · simp only [Act.put, List.setIfInBounds_toArray, List.set_cons_zero, List.set_cons_succ, i64_w, i32_w]
                      rfl
                    refine take_ (i := 2) (N := some 74) (v := ?_) (a' := ?_) #[true, true, true, true, false, false, false, false] rfl rfl (take_ofW HT_.out HW_.out (by kernel_rfl)) (fun _ _ _ h => h) (Or.inl ⟨by rfl, ?_⟩) hHeld ?_ ?_
                    rotate_left
                    · rintro w' ⟨s0, s1, s2, s3, s4, s5, s6⟩
                      go_simp
                      with_reducible rfl
                    rotate_left
                    · simp only [Act.put, List.setIfInBounds_toArray, List.set_cons_zero, List.set_cons_succ, i64_w, i32_w]
                      rfl
                    refine pure_ (i := 4) (N := some 76) (v := ?_) (a' := ?_) #[true, true, true, true, true, false, false, false] rfl rfl (any_of HT_.out (by kernel_rfl)) (fun _ _ _ h => h) (Or.inl ⟨by rfl, ?_⟩) ?_ ?_
                    rotate_left
                    · intro w'
                      go_simp
                      with_reducible rfl
                    rotate_left
                    · simp only [Act.put, List.setIfInBounds_toArray, List.set_cons_zero, List.set_cons_succ, i64_w, i32_w]
                      rfl
                    refine take_ (i := 5) (N := some 77) (v := ?_) (a' := ?_) #[true, true, true, true, true, true, false, false] rfl rfl (take_ofW HT_.out HW_.out (by kernel_rfl)) (fun _ _ _ h => h) (Or.inl ⟨by rfl, ?_⟩) hHeld ?_ ?_
                    rotate_left
                    · rintro w' ⟨s0, s1, s2, s3, s4, s5, s6⟩
                      go_simp
                      with_reducible rfl
                    rotate_left
                    · simp only [Act.put, List.setIfInBounds_toArray, List.set_cons_zero, List.set_cons_succ, i64_w, i32_w]
                      rfl
                    refine one_ (i := 6) (N := some 78) #[true, true, true, true, true, true, true, false] rfl rfl (one_of HT_.out (by kernel_rfl)) (by decide) (fun K hK => ?_)
                    refine goes_ Tryd.func56 (by kernel_rfl) rfl #[.agg #[.slice A0_0 l0_0.length c0_0, .slice A0_1 l0_1.length c0_1, .slice A0_2 l0_2.length c0_2, .slice (some ad286) l0_3.length c0_3], .agg #[.slice A286_0 ((rd_T41 l0_3 x69_3).f0).length c286_0, .bool ((rd_T41 l0_3 x69_3).f1), .bool ((rd_T41 l0_3 x69_3).f2)]] (by rfl) rfl rfl (by (try simp only [List.map_toArray, List.map_cons, List.map_nil]); rfl) ?_
                    with_reducible refine (sacristanref09_table.calls k3 _ _ l0_0 _ _ l0_1 _ _ l0_2 _ _ l0_3 _ _ ((rd_T41 l0_3 x69_3).f0) ((rd_T41 l0_3 x69_3).f1) ((rd_T41 l0_3 x69_3).f2) false _ ?side1 ?side2 ?side3 ?side4 ?side5 ?side6 ?side7 ?side8 ?side9 ?side10 A30.out).mono ?_
                    (case side1 => repeat (exact (Kd.C_below HR0_0.out HB.out)))
                    (case side2 => exact HC0_0.out)
                    (case side3 => repeat (exact (Kd.C_below HR0_1.out HB.out)))
                    (case side4 => exact HC0_1.out)
                    (case side5 => repeat (exact (Kd.C_below HR0_2.out HB.out)))
                    (case side6 => exact HC0_2.out)
                    (case side7 => repeat (exact (Kd.C_below HR0_3.out HB.out)))
                    (case side8 => exact HC0_3.out)
                    (case side9 => repeat (exact (Kd.C_below HR286_0.out HB.out)))
                    (case side10 => exact HC286_0.out)
                    rintro e w35 ⟨rfl, hb⟩
                    refine ⟨_, rfl, ?_⟩
                    have n0_ := Aside0.mk (blk_below (g := gb282) (o := .cells #[.slice A0_0 l0_0.length c0_0, .slice A0_1 l0_1.length c0_1, .slice A0_2 l0_2.length c0_2, .slice (some ad286) l0_3.length c0_3] 30 (0, 0)) (by (with_reducible repeat (fail)); exact BK282.out) hb)
                    have n1_ := Aside0.mk (below_step (by repeat ((with_reducible exact HB.out))) hb)
                    clear BK282 HB
                    have BK282 := n0_
                    have HB := n1_
                    clear n0_ n1_
                    (try clear hb)
                    refine hK.out _ _ ⟨(blk_cell BK282.out 0).trans rfl, (blk_cell BK282.out 1).trans rfl, (blk_cell BK282.out 2).trans rfl, (blk_cell BK282.out 3).trans rfl, ((HB.out.cell (World.block_lt_of_cell? w _ hw286_0)).trans hw286_0), ((HB.out.cell (World.block_lt_of_cell? w _ hw286_1)).trans hw286_1), ((HB.out.cell (World.block_lt_of_cell? w _ hw286_2)).trans hw286_2)⟩ (fun hHeld => ?_)
                    clear hK K
                    refine norm_ (a' := ?_) ?_ ?_
                    rotate_left
                    · show Act.put _ (some 78) _ = _
                      simp only [Act.put, List.setIfInBounds_toArray, List.set_cons_zero, List.set_cons_succ, i64_w, i32_w]
                      rfl
                    refine pure_ (i := 7) (N := some 79) (v := ?_) (a' := ?_) #[true, true, true, true, true, true, true, true] rfl rfl (any_of HT_.out (by kernel_rfl)) (fun _ _ _ h => h) (Or.inl ⟨by rfl, ?_⟩) ?_ ?_
                    rotate_left
                    · intro w'
                      go_simp
                      with_reducible rfl
                    rotate_left
                    · simp only [Act.put, List.setIfInBounds_toArray, List.set_cons_zero, List.set_cons_succ, i64_w, i32_w]
                      rfl
                    refine done_ (done_of HT_.out (by kernel_rfl)) ?_
                    try go_wp2
                    go_ret
                    exact ⟨by rfl, by repeat ((with_reducible exact HB.out))⟩
                  rw [if_neg c29] at H
                  exact absurd H (by simp)
                rw [if_neg c28] at H
                exact absurd H (by simp)
              rw [if_neg c27] at H
              have c27b0 : decide (x69_3 < (l0_3.length : Int)) = false := decide_eq_false c27
              clear c27
              have H' := Aside0.mk H
              clear H
              have hcz36_0 : wr.cell? ⟨gb282, 0, none⟩ = some (.slice A0_0 l0_0.length c0_0) := (blk_cell BK282.out 0).trans rfl
              have hcz36_1 : wr.cell? ⟨gb282, 1, none⟩ = some (.slice A0_1 l0_1.length c0_1) := (blk_cell BK282.out 1).trans rfl
              have hcz36_2 : wr.cell? ⟨gb282, 2, none⟩ = some (.slice A0_2 l0_2.length c0_2) := (blk_cell BK282.out 2).trans rfl
              have hcz36_3 : wr.cell? ⟨gb282, 3, none⟩ = some (.slice A0_3 l0_3.length c0_3) := (blk_cell BK282.out 3).trans rfl
              have hfz36_0 := blk_frozen BK282.out 0
              have hfz36_1 := blk_frozen BK282.out 1
              have hfz36_2 := blk_frozen BK282.out 2
              have hfz36_3 := blk_frozen BK282.out 3
              go_wp2
              go_loopg [84] k3 (fun kq v84 w' => ∃ (x84_4 : Int), v84 = .int .i64 x84_4 ∧ Aside0 (sacristanref09_May.l2 kq (l0_2.length : Int) x84_4 l0_0 l0_1 l0_2 l0_3 = some r) ∧ Aside0 (kq ≤ k3) ∧ Aside0 (w'.heap[gb282]? = some (.cells #[(.slice A0_0 l0_0.length c0_0), (.slice A0_1 l0_1.length c0_1), (.slice A0_2 l0_2.length c0_2), (.slice A0_3 l0_3.length c0_3)] 30 (0, 0))) ∧ Aside0 (Below w.heap.size w w'))
              case atStart => exact ⟨(0), (by rfl), H', ⟨Nat.le_refl _⟩, ⟨by (with_reducible repeat (fail)); exact BK282.out⟩, ⟨by repeat ((with_reducible exact HB.out))⟩⟩
              case round =>
                clear H' c27b0 hcz36_0 hcz36_1 hcz36_2 hcz36_3 hfz36_0 hfz36_1 hfz36_2 hfz36_3
                obtain ⟨x84_4, rfl, HA, HK4, BK282, HB⟩ := hrel
                cases gk with
                | zero => exact absurd HA.out (by simp [sacristanref09_May.l2])
                | succ k4 =>
                  have H := HA.out
                  clear HA
                  simp only [sacristanref09_May.l2] at H
                  by_cases c37 : x84_4 < (l0_2.length : Int)
                  · rw [if_pos c37] at H
                    have c37b0 : decide (x84_4 < (l0_2.length : Int)) = true := decide_eq_true c37
                    clear c37
                    by_cases c38 : 0 ≤ x84_4
                    · rw [if_pos c38] at H
                      have c38b0 : decide (0 ≤ x84_4) = true := decide_eq_true c38
                      clear c38
                      by_cases c39 : x84_4 < (l0_2.length : Int)
                      · rw [if_pos c39] at H
                        have c39b0 : decide (x84_4 < (l0_2.length : Int)) = true := decide_eq_true c39
                        clear c39
                        have HC40 := Aside0.mk H
                        clear H
                        have hcz41_0 : wr.cell? ⟨gb282, 0, none⟩ = some (.slice A0_0 l0_0.length c0_0) := (blk_cell BK282.out 0).trans rfl
                        have hcz41_1 : wr.cell? ⟨gb282, 1, none⟩ = some (.slice A0_1 l0_1.length c0_1) := (blk_cell BK282.out 1).trans rfl
                        have hcz41_2 : wr.cell? ⟨gb282, 2, none⟩ = some (.slice A0_2 l0_2.length c0_2) := (blk_cell BK282.out 2).trans rfl
                        have hcz41_3 : wr.cell? ⟨gb282, 3, none⟩ = some (.slice A0_3 l0_3.length c0_3) := (blk_cell BK282.out 3).trans rfl
                        have hfz41_0 := blk_frozen BK282.out 0
                        have hfz41_1 := blk_frozen BK282.out 1
                        have hfz41_2 := blk_frozen BK282.out 2
                        have hfz41_3 := blk_frozen BK282.out 3
                        have p288 : 0 ≤ (x84_4 : Int) := of_decide_eq_true (by (with_reducible assumption))
                        have q288 : x84_4 < (l0_2.length : Int) := of_decide_eq_true (by (with_reducible assumption))
                        obtain ⟨ad288, A288_3, c288_3, e288, hx288_0, hx288_1, hx288_2, hx288_3, hl288_3, hi288_3⟩ := at_T44 HR0_2.out x84_4 p288 q288
                        cases e288
                        replace hx288_0 := (HB.out.cell (World.block_lt_of_cell? w _ hx288_0)).trans hx288_0
                        replace hx288_1 := (HB.out.cell (World.block_lt_of_cell? w _ hx288_1)).trans hx288_1
                        replace hx288_2 := (HB.out.cell (World.block_lt_of_cell? w _ hx288_2)).trans hx288_2
                        replace hx288_3 := (HB.out.cell (World.block_lt_of_cell? w _ hx288_3)).trans hx288_3
                        have HR288_3 := Aside0.mk hi288_3
                        have HC288_3 := Aside0.mk hl288_3
                        clear hi288_3 hl288_3
                        replace p288 := eq_true p288
                        replace q288 := eq_true q288
                        go_upto_region 19 with (((with_reducible refine gate_dst (N := 6) rfl ?_); (try (refine gate_guard (by rfl) ?_; dsimp only)); refine box_event ?hg (N := 6) ?hd (cs := #[.int .i64 0, .int .i64 0, .int .i64 0, .slice none 0 0]) (t := 44) ?hr ?_; (case hd => rfl); (case hg => rfl); (case hr => ((go_simp; done))); intro gb289 hg w42 hbox hb; have n0_ := Aside0.mk (blk_below (g := gb282) (o := .cells #[.slice A0_0 l0_0.length c0_0, .slice A0_1 l0_1.length c0_1, .slice (some ad288) l0_2.length c0_2, .slice A0_3 l0_3.length c0_3] 30 (0, 0)) (by (with_reducible repeat (fail)); exact BK282.out) hb); have n1_ := Aside0.mk (below_step (by repeat ((with_reducible exact HB.out))) hb); have n2_ := Aside0.mk (hbox); have n3_ := Aside0.mk ((by rw [hg]; exact (below_size (by repeat ((with_reducible exact HB.out)))) : w.heap.size ≤ gb289)); have n4_ := Aside0.mk ((by rw [hg]; exact (below_size (by repeat ((with_reducible exact HB.out)))) : w.heap.size ≤ gb289)); have n5_ := Aside0.mk ((by rw [hg]; exact Nat.ne_of_lt (blk_lt (g := gb282) (o := .cells #[.slice A0_0 l0_0.length c0_0, .slice A0_1 l0_1.length c0_1, .slice (some ad288) l0_2.length c0_2, .slice A0_3 l0_3.length c0_3] 30 (0, 0)) (by (with_reducible repeat (fail)); exact BK282.out)) : gb282 ≠ gb289)); have n6_ := Aside0.mk ((by rw [hg]; exact Nat.ne_of_gt (blk_lt (g := gb282) (o := .cells #[.slice A0_0 l0_0.length c0_0, .slice A0_1 l0_1.length c0_1, .slice (some ad288) l0_2.length c0_2, .slice A0_3 l0_3.length c0_3] 30 (0, 0)) (by (with_reducible repeat (fail)); exact BK282.out)) : gb289 ≠ gb282)); clear BK282; clear HB; have BK282 := n0_; have HB := n1_; have BK289 := n2_; have GW289 := n3_; have GE289 := n4_; have NB282_289 := n5_; have NB289_282 := n6_; clear n0_ n1_ n2_ n3_ n4_ n5_ n6_; clear hb hbox hg; have hnb43 := NB289_282.out; have hnc43 := NB282_289.out; have hcz44_0 : w42.cell? ⟨gb289, 0, none⟩ = some (.int .i64 0) := (blk_cell BK289.out 0).trans rfl; have hcz44_1 : w42.cell? ⟨gb289, 1, none⟩ = some (.int .i64 0) := (blk_cell BK289.out 1).trans rfl; have hcz44_2 : w42.cell? ⟨gb289, 2, none⟩ = some (.int .i64 0) := (blk_cell BK289.out 2).trans rfl; have hcz44_3 : w42.cell? ⟨gb289, 3, none⟩ = some (.slice none 0 0) := (blk_cell BK289.out 3).trans rfl; have hfz44_0 := blk_frozen BK289.out 0; have hfz44_1 := blk_frozen BK289.out 1; have hfz44_2 := blk_frozen BK289.out 2; have hfz44_3 := blk_frozen BK289.out 3))
                        go_cut [134] (fun v134 wc => ∃ (kq : Nat) (x134_39 : Bool), v134 = .bool x134_39 ∧ Aside0 (sacristanref09_May.j4 kq (l0_2.length : Int) x84_4 x134_39 l0_0 l0_1 l0_2 l0_3 ((rd_T44 l0_2 x84_4).f0) ((rd_T44 l0_2 x84_4).f1) ((rd_T44 l0_2 x84_4).f2) ((rd_T44 l0_2 x84_4).f3) = some r) ∧ Aside0 (kq ≤ k4) ∧ Aside0 (wc.heap[gb282]? = some (.cells #[(.slice A0_0 l0_0.length c0_0), (.slice A0_1 l0_1.length c0_1), (.slice (some ad288) l0_2.length c0_2), (.slice A0_3 l0_3.length c0_3)] 30 (0, 0))) ∧ Aside0 (wc.heap[gb289]? = some (.cells #[.int .i64 ((rd_T44 l0_2 x84_4).f0), .int .i64 ((rd_T44 l0_2 x84_4).f1), .int .i64 ((rd_T44 l0_2 x84_4).f2), (.slice A288_3 ((rd_T44 l0_2 x84_4).f3).length c288_3)] 44 (0, 0))) ∧ Aside0 (Below w.heap.size w wc))
                        case first =>
                          have H := HC40.out
                          clear HC40
                          by_cases c45 : ((rd_T44 l0_2 x84_4).f0) < 0
                          · rw [if_pos c45] at H
                            have c45b0 : decide (((rd_T44 l0_2 x84_4).f0) < 0) = true := decide_eq_true c45
                            clear c45
                            (skip)
                            have H' := Aside0.mk H
                            clear H
                            have hnb46 := NB289_282.out
                            have hnc46 := NB282_289.out
                            have hcz47_0 : w42.cell? ⟨gb289, 0, none⟩ = some (.int .i64 0) := (blk_cell BK289.out 0).trans rfl
                            have hcz47_1 : w42.cell? ⟨gb289, 1, none⟩ = some (.int .i64 0) := (blk_cell BK289.out 1).trans rfl
                            have hcz47_2 : w42.cell? ⟨gb289, 2, none⟩ = some (.int .i64 0) := (blk_cell BK289.out 2).trans rfl
                            have hcz47_3 : w42.cell? ⟨gb289, 3, none⟩ = some (.slice none 0 0) := (blk_cell BK289.out 3).trans rfl
                            have hfz47_0 := blk_frozen BK289.out 0
                            have hfz47_1 := blk_frozen BK289.out 1
                            have hfz47_2 := blk_frozen BK289.out 2
                            have hfz47_3 := blk_frozen BK289.out 3
                            go_wp2
                            go_meet
                            case rel => exact ⟨_, (true), (by rfl), H', ⟨by have := HJ1.out; have := HK2.out; have := HK3.out; have := HK4.out; omega⟩, ⟨by (with_reducible repeat (fail)); refine blk_far ?_ NB282_289.out _; (with_reducible repeat (fail)); refine blk_far ?_ NB282_289.out _; (with_reducible repeat (fail)); refine blk_far ?_ NB282_289.out _; (with_reducible repeat (fail)); refine blk_far ?_ NB282_289.out _; (with_reducible repeat (fail)); exact BK282.out⟩, ⟨by (with_reducible repeat (fail)); refine blk_put (cs := #[.int .i64 ((rd_T44 l0_2 x84_4).f0), .int .i64 ((rd_T44 l0_2 x84_4).f1), .int .i64 ((rd_T44 l0_2 x84_4).f2), .slice none 0 0]) ?_ 3 _ rfl; (with_reducible repeat (fail)); refine blk_put (cs := #[.int .i64 ((rd_T44 l0_2 x84_4).f0), .int .i64 ((rd_T44 l0_2 x84_4).f1), .int .i64 0, .slice none 0 0]) ?_ 2 _ rfl; (with_reducible repeat (fail)); refine blk_put (cs := #[.int .i64 ((rd_T44 l0_2 x84_4).f0), .int .i64 0, .int .i64 0, .slice none 0 0]) ?_ 1 _ rfl; (with_reducible repeat (fail)); refine blk_put (cs := #[.int .i64 0, .int .i64 0, .int .i64 0, .slice none 0 0]) ?_ 0 _ rfl; (with_reducible repeat (fail)); exact BK289.out⟩, ⟨by repeat ((with_reducible first | exact HB.out | refine below_set ?_ GE289.out))⟩⟩
                          rw [if_neg c45] at H
                          have c45b0 : decide (((rd_T44 l0_2 x84_4).f0) < 0) = false := decide_eq_false c45
                          clear c45
                          (skip)
                          by_cases c48 : ((rd_T44 l0_2 x84_4).f0) > 200
                          · rw [if_pos c48] at H
                            have c48b0 : decide (200 < ((rd_T44 l0_2 x84_4).f0)) = true := decide_eq_true c48
                            clear c48
                            have H' := Aside0.mk H
                            clear H
                            have hnb49 := NB289_282.out
                            have hnc49 := NB282_289.out
                            have hcz50_0 : w42.cell? ⟨gb289, 0, none⟩ = some (.int .i64 0) := (blk_cell BK289.out 0).trans rfl
                            have hcz50_1 : w42.cell? ⟨gb289, 1, none⟩ = some (.int .i64 0) := (blk_cell BK289.out 1).trans rfl
                            have hcz50_2 : w42.cell? ⟨gb289, 2, none⟩ = some (.int .i64 0) := (blk_cell BK289.out 2).trans rfl
                            have hcz50_3 : w42.cell? ⟨gb289, 3, none⟩ = some (.slice none 0 0) := (blk_cell BK289.out 3).trans rfl
                            have hfz50_0 := blk_frozen BK289.out 0
                            have hfz50_1 := blk_frozen BK289.out 1
                            have hfz50_2 := blk_frozen BK289.out 2
                            have hfz50_3 := blk_frozen BK289.out 3
                            go_wp2
                            go_meet
                            case rel => exact ⟨_, (true), (by rfl), H', ⟨by have := HJ1.out; have := HK2.out; have := HK3.out; have := HK4.out; omega⟩, ⟨by (with_reducible repeat (fail)); refine blk_far ?_ NB282_289.out _; (with_reducible repeat (fail)); refine blk_far ?_ NB282_289.out _; (with_reducible repeat (fail)); refine blk_far ?_ NB282_289.out _; (with_reducible repeat (fail)); refine blk_far ?_ NB282_289.out _; (with_reducible repeat (fail)); exact BK282.out⟩, ⟨by (with_reducible repeat (fail)); refine blk_put (cs := #[.int .i64 ((rd_T44 l0_2 x84_4).f0), .int .i64 ((rd_T44 l0_2 x84_4).f1), .int .i64 ((rd_T44 l0_2 x84_4).f2), .slice none 0 0]) ?_ 3 _ rfl; (with_reducible repeat (fail)); refine blk_put (cs := #[.int .i64 ((rd_T44 l0_2 x84_4).f0), .int .i64 ((rd_T44 l0_2 x84_4).f1), .int .i64 0, .slice none 0 0]) ?_ 2 _ rfl; (with_reducible repeat (fail)); refine blk_put (cs := #[.int .i64 ((rd_T44 l0_2 x84_4).f0), .int .i64 0, .int .i64 0, .slice none 0 0]) ?_ 1 _ rfl; (with_reducible repeat (fail)); refine blk_put (cs := #[.int .i64 0, .int .i64 0, .int .i64 0, .slice none 0 0]) ?_ 0 _ rfl; (with_reducible repeat (fail)); exact BK289.out⟩, ⟨by repeat ((with_reducible first | exact HB.out | refine below_set ?_ GE289.out))⟩⟩
                          rw [if_neg c48] at H
                          have c48b0 : decide (200 < ((rd_T44 l0_2 x84_4).f0)) = false := decide_eq_false c48
                          clear c48
                          by_cases c51 : ((rd_T44 l0_2 x84_4).f2) < 0
                          · rw [if_pos c51] at H
                            have c51b0 : decide (((rd_T44 l0_2 x84_4).f2) < 0) = true := decide_eq_true c51
                            clear c51
                            have H' := Aside0.mk H
                            clear H
                            have hnb52 := NB289_282.out
                            have hnc52 := NB282_289.out
                            have hcz53_0 : w42.cell? ⟨gb289, 0, none⟩ = some (.int .i64 0) := (blk_cell BK289.out 0).trans rfl
                            have hcz53_1 : w42.cell? ⟨gb289, 1, none⟩ = some (.int .i64 0) := (blk_cell BK289.out 1).trans rfl
                            have hcz53_2 : w42.cell? ⟨gb289, 2, none⟩ = some (.int .i64 0) := (blk_cell BK289.out 2).trans rfl
                            have hcz53_3 : w42.cell? ⟨gb289, 3, none⟩ = some (.slice none 0 0) := (blk_cell BK289.out 3).trans rfl
                            have hfz53_0 := blk_frozen BK289.out 0
                            have hfz53_1 := blk_frozen BK289.out 1
                            have hfz53_2 := blk_frozen BK289.out 2
                            have hfz53_3 := blk_frozen BK289.out 3
                            go_wp2
                            go_meet
                            case rel => exact ⟨_, (true), (by rfl), H', ⟨by have := HJ1.out; have := HK2.out; have := HK3.out; have := HK4.out; omega⟩, ⟨by (with_reducible repeat (fail)); refine blk_far ?_ NB282_289.out _; (with_reducible repeat (fail)); refine blk_far ?_ NB282_289.out _; (with_reducible repeat (fail)); refine blk_far ?_ NB282_289.out _; (with_reducible repeat (fail)); refine blk_far ?_ NB282_289.out _; (with_reducible repeat (fail)); exact BK282.out⟩, ⟨by (with_reducible repeat (fail)); refine blk_put (cs := #[.int .i64 ((rd_T44 l0_2 x84_4).f0), .int .i64 ((rd_T44 l0_2 x84_4).f1), .int .i64 ((rd_T44 l0_2 x84_4).f2), .slice none 0 0]) ?_ 3 _ rfl; (with_reducible repeat (fail)); refine blk_put (cs := #[.int .i64 ((rd_T44 l0_2 x84_4).f0), .int .i64 ((rd_T44 l0_2 x84_4).f1), .int .i64 0, .slice none 0 0]) ?_ 2 _ rfl; (with_reducible repeat (fail)); refine blk_put (cs := #[.int .i64 ((rd_T44 l0_2 x84_4).f0), .int .i64 0, .int .i64 0, .slice none 0 0]) ?_ 1 _ rfl; (with_reducible repeat (fail)); refine blk_put (cs := #[.int .i64 0, .int .i64 0, .int .i64 0, .slice none 0 0]) ?_ 0 _ rfl; (with_reducible repeat (fail)); exact BK289.out⟩, ⟨by repeat ((with_reducible first | exact HB.out | refine below_set ?_ GE289.out))⟩⟩
                          rw [if_neg c51] at H
                          have c51b0 : decide (((rd_T44 l0_2 x84_4).f2) < 0) = false := decide_eq_false c51
                          clear c51
                          by_cases c54 : ((rd_T44 l0_2 x84_4).f2) > 200
                          · rw [if_pos c54] at H
                            have c54b0 : decide (200 < ((rd_T44 l0_2 x84_4).f2)) = true := decide_eq_true c54
                            clear c54
                            have H' := Aside0.mk H
                            clear H
                            have hnb55 := NB289_282.out
                            have hnc55 := NB282_289.out
                            have hcz56_0 : w42.cell? ⟨gb289, 0, none⟩ = some (.int .i64 0) := (blk_cell BK289.out 0).trans rfl
                            have hcz56_1 : w42.cell? ⟨gb289, 1, none⟩ = some (.int .i64 0) := (blk_cell BK289.out 1).trans rfl
                            have hcz56_2 : w42.cell? ⟨gb289, 2, none⟩ = some (.int .i64 0) := (blk_cell BK289.out 2).trans rfl
                            have hcz56_3 : w42.cell? ⟨gb289, 3, none⟩ = some (.slice none 0 0) := (blk_cell BK289.out 3).trans rfl
                            have hfz56_0 := blk_frozen BK289.out 0
                            have hfz56_1 := blk_frozen BK289.out 1
                            have hfz56_2 := blk_frozen BK289.out 2
                            have hfz56_3 := blk_frozen BK289.out 3
                            go_wp2
                            go_meet
                            case rel => exact ⟨_, (true), (by rfl), H', ⟨by have := HJ1.out; have := HK2.out; have := HK3.out; have := HK4.out; omega⟩, ⟨by (with_reducible repeat (fail)); refine blk_far ?_ NB282_289.out _; (with_reducible repeat (fail)); refine blk_far ?_ NB282_289.out _; (with_reducible repeat (fail)); refine blk_far ?_ NB282_289.out _; (with_reducible repeat (fail)); refine blk_far ?_ NB282_289.out _; (with_reducible repeat (fail)); exact BK282.out⟩, ⟨by (with_reducible repeat (fail)); refine blk_put (cs := #[.int .i64 ((rd_T44 l0_2 x84_4).f0), .int .i64 ((rd_T44 l0_2 x84_4).f1), .int .i64 ((rd_T44 l0_2 x84_4).f2), .slice none 0 0]) ?_ 3 _ rfl; (with_reducible repeat (fail)); refine blk_put (cs := #[.int .i64 ((rd_T44 l0_2 x84_4).f0), .int .i64 ((rd_T44 l0_2 x84_4).f1), .int .i64 0, .slice none 0 0]) ?_ 2 _ rfl; (with_reducible repeat (fail)); refine blk_put (cs := #[.int .i64 ((rd_T44 l0_2 x84_4).f0), .int .i64 0, .int .i64 0, .slice none 0 0]) ?_ 1 _ rfl; (with_reducible repeat (fail)); refine blk_put (cs := #[.int .i64 0, .int .i64 0, .int .i64 0, .slice none 0 0]) ?_ 0 _ rfl; (with_reducible repeat (fail)); exact BK289.out⟩, ⟨by repeat ((with_reducible first | exact HB.out | refine below_set ?_ GE289.out))⟩⟩
                          rw [if_neg c54] at H
                          have c54b0 : decide (200 < ((rd_T44 l0_2 x84_4).f2)) = false := decide_eq_false c54
                          clear c54
                          by_cases c57 : ((rd_T44 l0_2 x84_4).f1) < (wrap64 (((rd_T44 l0_2 x84_4).f0) + 1))
                          · rw [if_pos c57] at H
                            have c57b0 : decide (((rd_T44 l0_2 x84_4).f1) < (wrap64 (((rd_T44 l0_2 x84_4).f0) + 1))) = true := decide_eq_true c57
                            clear c57
                            have H' := Aside0.mk H
                            clear H
                            have hnb58 := NB289_282.out
                            have hnc58 := NB282_289.out
                            have hcz59_0 : w42.cell? ⟨gb289, 0, none⟩ = some (.int .i64 0) := (blk_cell BK289.out 0).trans rfl
                            have hcz59_1 : w42.cell? ⟨gb289, 1, none⟩ = some (.int .i64 0) := (blk_cell BK289.out 1).trans rfl
                            have hcz59_2 : w42.cell? ⟨gb289, 2, none⟩ = some (.int .i64 0) := (blk_cell BK289.out 2).trans rfl
                            have hcz59_3 : w42.cell? ⟨gb289, 3, none⟩ = some (.slice none 0 0) := (blk_cell BK289.out 3).trans rfl
                            have hfz59_0 := blk_frozen BK289.out 0
                            have hfz59_1 := blk_frozen BK289.out 1
                            have hfz59_2 := blk_frozen BK289.out 2
                            have hfz59_3 := blk_frozen BK289.out 3
                            go_wp2
                            go_meet
                            case rel => exact ⟨_, (true), (by rfl), H', ⟨by have := HJ1.out; have := HK2.out; have := HK3.out; have := HK4.out; omega⟩, ⟨by (with_reducible repeat (fail)); refine blk_far ?_ NB282_289.out _; (with_reducible repeat (fail)); refine blk_far ?_ NB282_289.out _; (with_reducible repeat (fail)); refine blk_far ?_ NB282_289.out _; (with_reducible repeat (fail)); refine blk_far ?_ NB282_289.out _; (with_reducible repeat (fail)); exact BK282.out⟩, ⟨by (with_reducible repeat (fail)); refine blk_put (cs := #[.int .i64 ((rd_T44 l0_2 x84_4).f0), .int .i64 ((rd_T44 l0_2 x84_4).f1), .int .i64 ((rd_T44 l0_2 x84_4).f2), .slice none 0 0]) ?_ 3 _ rfl; (with_reducible repeat (fail)); refine blk_put (cs := #[.int .i64 ((rd_T44 l0_2 x84_4).f0), .int .i64 ((rd_T44 l0_2 x84_4).f1), .int .i64 0, .slice none 0 0]) ?_ 2 _ rfl; (with_reducible repeat (fail)); refine blk_put (cs := #[.int .i64 ((rd_T44 l0_2 x84_4).f0), .int .i64 0, .int .i64 0, .slice none 0 0]) ?_ 1 _ rfl; (with_reducible repeat (fail)); refine blk_put (cs := #[.int .i64 0, .int .i64 0, .int .i64 0, .slice none 0 0]) ?_ 0 _ rfl; (with_reducible repeat (fail)); exact BK289.out⟩, ⟨by repeat ((with_reducible first | exact HB.out | refine below_set ?_ GE289.out))⟩⟩
                          rw [if_neg c57] at H
                          have c57b0 : decide (((rd_T44 l0_2 x84_4).f1) < (wrap64 (((rd_T44 l0_2 x84_4).f0) + 1))) = false := decide_eq_false c57
                          clear c57
                          by_cases c60 : ((rd_T44 l0_2 x84_4).f1) > 256
                          · rw [if_pos c60] at H
                            have c60b0 : decide (256 < ((rd_T44 l0_2 x84_4).f1)) = true := decide_eq_true c60
                            clear c60
                            have H' := Aside0.mk H
                            clear H
                            have hnb61 := NB289_282.out
                            have hnc61 := NB282_289.out
                            have hcz62_0 : w42.cell? ⟨gb289, 0, none⟩ = some (.int .i64 0) := (blk_cell BK289.out 0).trans rfl
                            have hcz62_1 : w42.cell? ⟨gb289, 1, none⟩ = some (.int .i64 0) := (blk_cell BK289.out 1).trans rfl
                            have hcz62_2 : w42.cell? ⟨gb289, 2, none⟩ = some (.int .i64 0) := (blk_cell BK289.out 2).trans rfl
                            have hcz62_3 : w42.cell? ⟨gb289, 3, none⟩ = some (.slice none 0 0) := (blk_cell BK289.out 3).trans rfl
                            have hfz62_0 := blk_frozen BK289.out 0
                            have hfz62_1 := blk_frozen BK289.out 1
                            have hfz62_2 := blk_frozen BK289.out 2
                            have hfz62_3 := blk_frozen BK289.out 3
                            go_wp2
                            go_meet
                            case rel => exact ⟨_, (true), (by rfl), H', ⟨by have := HJ1.out; have := HK2.out; have := HK3.out; have := HK4.out; omega⟩, ⟨by (with_reducible repeat (fail)); refine blk_far ?_ NB282_289.out _; (with_reducible repeat (fail)); refine blk_far ?_ NB282_289.out _; (with_reducible repeat (fail)); refine blk_far ?_ NB282_289.out _; (with_reducible repeat (fail)); refine blk_far ?_ NB282_289.out _; (with_reducible repeat (fail)); exact BK282.out⟩, ⟨by (with_reducible repeat (fail)); refine blk_put (cs := #[.int .i64 ((rd_T44 l0_2 x84_4).f0), .int .i64 ((rd_T44 l0_2 x84_4).f1), .int .i64 ((rd_T44 l0_2 x84_4).f2), .slice none 0 0]) ?_ 3 _ rfl; (with_reducible repeat (fail)); refine blk_put (cs := #[.int .i64 ((rd_T44 l0_2 x84_4).f0), .int .i64 ((rd_T44 l0_2 x84_4).f1), .int .i64 0, .slice none 0 0]) ?_ 2 _ rfl; (with_reducible repeat (fail)); refine blk_put (cs := #[.int .i64 ((rd_T44 l0_2 x84_4).f0), .int .i64 0, .int .i64 0, .slice none 0 0]) ?_ 1 _ rfl; (with_reducible repeat (fail)); refine blk_put (cs := #[.int .i64 0, .int .i64 0, .int .i64 0, .slice none 0 0]) ?_ 0 _ rfl; (with_reducible repeat (fail)); exact BK289.out⟩, ⟨by repeat ((with_reducible first | exact HB.out | refine below_set ?_ GE289.out))⟩⟩
                          rw [if_neg c60] at H
                          have c60b0 : decide (256 < ((rd_T44 l0_2 x84_4).f1)) = false := decide_eq_false c60
                          clear c60
                          by_cases c63 : (((rd_T44 l0_2 x84_4).f3).length : Int) = 0
                          · rw [if_pos c63] at H
                            have c63b0 : ((((rd_T44 l0_2 x84_4).f3).length : Int) == 0) = true := beq_iff_eq.mpr c63
                            have c63b1 : ((((rd_T44 l0_2 x84_4).f3).length : Int) != 0) = false := bne_eq_false_iff_eq.mpr c63
                            clear c63
                            have H' := Aside0.mk H
                            clear H
                            have hnb64 := NB289_282.out
                            have hnc64 := NB282_289.out
                            have hcz65_0 : w42.cell? ⟨gb289, 0, none⟩ = some (.int .i64 0) := (blk_cell BK289.out 0).trans rfl
                            have hcz65_1 : w42.cell? ⟨gb289, 1, none⟩ = some (.int .i64 0) := (blk_cell BK289.out 1).trans rfl
                            have hcz65_2 : w42.cell? ⟨gb289, 2, none⟩ = some (.int .i64 0) := (blk_cell BK289.out 2).trans rfl
                            have hcz65_3 : w42.cell? ⟨gb289, 3, none⟩ = some (.slice none 0 0) := (blk_cell BK289.out 3).trans rfl
                            have hfz65_0 := blk_frozen BK289.out 0
                            have hfz65_1 := blk_frozen BK289.out 1
                            have hfz65_2 := blk_frozen BK289.out 2
                            have hfz65_3 := blk_frozen BK289.out 3
                            go_wp2
                            go_meet
                            case rel => exact ⟨_, (true), (by rfl), H', ⟨by have := HJ1.out; have := HK2.out; have := HK3.out; have := HK4.out; omega⟩, ⟨by (with_reducible repeat (fail)); refine blk_far ?_ NB282_289.out _; (with_reducible repeat (fail)); refine blk_far ?_ NB282_289.out _; (with_reducible repeat (fail)); refine blk_far ?_ NB282_289.out _; (with_reducible repeat (fail)); refine blk_far ?_ NB282_289.out _; (with_reducible repeat (fail)); exact BK282.out⟩, ⟨by (with_reducible repeat (fail)); refine blk_put (cs := #[.int .i64 ((rd_T44 l0_2 x84_4).f0), .int .i64 ((rd_T44 l0_2 x84_4).f1), .int .i64 ((rd_T44 l0_2 x84_4).f2), .slice none 0 0]) ?_ 3 _ rfl; (with_reducible repeat (fail)); refine blk_put (cs := #[.int .i64 ((rd_T44 l0_2 x84_4).f0), .int .i64 ((rd_T44 l0_2 x84_4).f1), .int .i64 0, .slice none 0 0]) ?_ 2 _ rfl; (with_reducible repeat (fail)); refine blk_put (cs := #[.int .i64 ((rd_T44 l0_2 x84_4).f0), .int .i64 0, .int .i64 0, .slice none 0 0]) ?_ 1 _ rfl; (with_reducible repeat (fail)); refine blk_put (cs := #[.int .i64 0, .int .i64 0, .int .i64 0, .slice none 0 0]) ?_ 0 _ rfl; (with_reducible repeat (fail)); exact BK289.out⟩, ⟨by repeat ((with_reducible first | exact HB.out | refine below_set ?_ GE289.out))⟩⟩
                          rw [if_neg c63] at H
                          have c63b0 : ((((rd_T44 l0_2 x84_4).f3).length : Int) == 0) = false := beq_eq_false_iff_ne.mpr c63
                          have c63b1 : ((((rd_T44 l0_2 x84_4).f3).length : Int) != 0) = true := bne_iff_ne.mpr c63
                          have c63b2 : ¬ (((rd_T44 l0_2 x84_4).f3) = []) := fun h_ => c63 (by rw [h_]; rfl)
                          have H' := Aside0.mk H
                          clear H
                          have hnb66 := NB289_282.out
                          have hnc66 := NB282_289.out
                          have hcz67_0 : w42.cell? ⟨gb289, 0, none⟩ = some (.int .i64 0) := (blk_cell BK289.out 0).trans rfl
                          have hcz67_1 : w42.cell? ⟨gb289, 1, none⟩ = some (.int .i64 0) := (blk_cell BK289.out 1).trans rfl
                          have hcz67_2 : w42.cell? ⟨gb289, 2, none⟩ = some (.int .i64 0) := (blk_cell BK289.out 2).trans rfl
                          have hcz67_3 : w42.cell? ⟨gb289, 3, none⟩ = some (.slice none 0 0) := (blk_cell BK289.out 3).trans rfl
                          have hfz67_0 := blk_frozen BK289.out 0
                          have hfz67_1 := blk_frozen BK289.out 1
                          have hfz67_2 := blk_frozen BK289.out 2
                          have hfz67_3 := blk_frozen BK289.out 3
                          go_wp2
                          go_meet
                          case rel => exact ⟨_, (decide ((((rd_T44 l0_2 x84_4).f3).length : Int) > 16384)), (by rfl), H', ⟨by have := HJ1.out; have := HK2.out; have := HK3.out; have := HK4.out; omega⟩, ⟨by (with_reducible repeat (fail)); refine blk_far ?_ NB282_289.out _; (with_reducible repeat (fail)); refine blk_far ?_ NB282_289.out _; (with_reducible repeat (fail)); refine blk_far ?_ NB282_289.out _; (with_reducible repeat (fail)); refine blk_far ?_ NB282_289.out _; (with_reducible repeat (fail)); exact BK282.out⟩, ⟨by (with_reducible repeat (fail)); refine blk_put (cs := #[.int .i64 ((rd_T44 l0_2 x84_4).f0), .int .i64 ((rd_T44 l0_2 x84_4).f1), .int .i64 ((rd_T44 l0_2 x84_4).f2), .slice none 0 0]) ?_ 3 _ rfl; (with_reducible repeat (fail)); refine blk_put (cs := #[.int .i64 ((rd_T44 l0_2 x84_4).f0), .int .i64 ((rd_T44 l0_2 x84_4).f1), .int .i64 0, .slice none 0 0]) ?_ 2 _ rfl; (with_reducible repeat (fail)); refine blk_put (cs := #[.int .i64 ((rd_T44 l0_2 x84_4).f0), .int .i64 0, .int .i64 0, .slice none 0 0]) ?_ 1 _ rfl; (with_reducible repeat (fail)); refine blk_put (cs := #[.int .i64 0, .int .i64 0, .int .i64 0, .slice none 0 0]) ?_ 0 _ rfl; (with_reducible repeat (fail)); exact BK289.out⟩, ⟨by repeat ((with_reducible first | exact HB.out | refine below_set ?_ GE289.out))⟩⟩
                        case rest =>
                          clear HC40 c37b0 c38b0 c39b0 hcz41_0 hcz41_1 hcz41_2 hcz41_3 hcz44_0 hcz44_1 hcz44_2 hcz44_3 hfz41_0 hfz41_1 hfz41_2 hfz41_3 hfz44_0 hfz44_1 hfz44_2 hfz44_3 hx288_0 hx288_1 hx288_2 hx288_3 p288 q288
                          obtain ⟨kq, x134_39, rfl, HA, HJ39, BK282, BK289, HB⟩ := hcut
                          cases kq with
                          | zero => exact absurd HA.out (by simp [sacristanref09_May.j4])
                          | succ kj39 =>
                            have H := HA.out
                            clear HA
                            simp only [sacristanref09_May.j4] at H
                            by_cases c68 : x134_39 = true
                            · subst c68
                              have H1 : (some false) = some r := by rw [if_pos rfl] at H; exact H
                              clear H
                              have H := H1
                              clear H1
                              obtain rfl := Option.some.inj H
                              go_wp2
                              go_ret
                              exact ⟨by rfl, by repeat ((with_reducible exact HB.out))⟩
                            replace c68 := Bool.eq_false_iff.mpr c68
                            subst c68
                            have H1 : (sacristanref09_May.l3 kj39 (l0_2.length : Int) x84_4 (((rd_T44 l0_2 x84_4).f3).length : Int) 0 l0_0 l0_1 l0_2 l0_3 ((rd_T44 l0_2 x84_4).f0) ((rd_T44 l0_2 x84_4).f1) ((rd_T44 l0_2 x84_4).f2) ((rd_T44 l0_2 x84_4).f3)) = some r := by rw [if_neg (show ¬ (false = true) by decide)] at H; exact H
                            clear H
                            have H := H1
                            clear H1
                            have H' := Aside0.mk H
                            clear H
                            have hnb69 := NB289_282.out
                            have hnc69 := NB282_289.out
                            have hcz70_0 : wc.cell? ⟨gb289, 0, none⟩ = some (.int .i64 ((rd_T44 l0_2 x84_4).f0)) := (blk_cell BK289.out 0).trans rfl
                            have hcz70_1 : wc.cell? ⟨gb289, 1, none⟩ = some (.int .i64 ((rd_T44 l0_2 x84_4).f1)) := (blk_cell BK289.out 1).trans rfl
                            have hcz70_2 : wc.cell? ⟨gb289, 2, none⟩ = some (.int .i64 ((rd_T44 l0_2 x84_4).f2)) := (blk_cell BK289.out 2).trans rfl
                            have hcz70_3 : wc.cell? ⟨gb289, 3, none⟩ = some (.slice A288_3 ((rd_T44 l0_2 x84_4).f3).length c288_3) := (blk_cell BK289.out 3).trans rfl
                            have hfz70_0 := blk_frozen BK289.out 0
                            have hfz70_1 := blk_frozen BK289.out 1
                            have hfz70_2 := blk_frozen BK289.out 2
                            have hfz70_3 := blk_frozen BK289.out 3
                            go_wp2
                            go_loopg [138] kj39 (fun kq v138 w' => ∃ (x138_6 : Int), v138 = .int .i64 x138_6 ∧ Aside0 (sacristanref09_May.l3 kq (l0_2.length : Int) x84_4 (((rd_T44 l0_2 x84_4).f3).length : Int) x138_6 l0_0 l0_1 l0_2 l0_3 ((rd_T44 l0_2 x84_4).f0) ((rd_T44 l0_2 x84_4).f1) ((rd_T44 l0_2 x84_4).f2) ((rd_T44 l0_2 x84_4).f3) = some r) ∧ Aside0 (kq ≤ kj39) ∧ Aside0 (w'.heap[gb282]? = some (.cells #[(.slice A0_0 l0_0.length c0_0), (.slice A0_1 l0_1.length c0_1), (.slice (some ad288) l0_2.length c0_2), (.slice A0_3 l0_3.length c0_3)] 30 (0, 0))) ∧ Aside0 (w'.heap[gb289]? = some (.cells #[.int .i64 ((rd_T44 l0_2 x84_4).f0), .int .i64 ((rd_T44 l0_2 x84_4).f1), .int .i64 ((rd_T44 l0_2 x84_4).f2), (.slice A288_3 ((rd_T44 l0_2 x84_4).f3).length c288_3)] 44 (0, 0))) ∧ Aside0 (Below w.heap.size w w'))
                            case atStart => exact ⟨(0), (by rfl), H', ⟨Nat.le_refl _⟩, ⟨by (with_reducible repeat (fail)); exact BK282.out⟩, ⟨by (with_reducible repeat (fail)); exact BK289.out⟩, ⟨by repeat ((with_reducible exact HB.out))⟩⟩
                            case round =>
                              clear H' hcz70_0 hcz70_1 hcz70_2 hcz70_3 hfz70_0 hfz70_1 hfz70_2 hfz70_3
                              obtain ⟨x138_6, rfl, HA, HK6, BK282, BK289, HB⟩ := hrel
                              cases gk with
                              | zero => exact absurd HA.out (by simp [sacristanref09_May.l3])
                              | succ k6 =>
                                have H := HA.out
                                clear HA
                                simp only [sacristanref09_May.l3] at H
                                by_cases c71 : x138_6 < (((rd_T44 l0_2 x84_4).f3).length : Int)
                                · rw [if_pos c71] at H
                                  have c71b0 : decide (x138_6 < (((rd_T44 l0_2 x84_4).f3).length : Int)) = true := decide_eq_true c71
                                  clear c71
                                  by_cases c72 : 0 ≤ x138_6
                                  · rw [if_pos c72] at H
                                    have c72b0 : decide (0 ≤ x138_6) = true := decide_eq_true c72
                                    clear c72
                                    by_cases c73 : x138_6 < (((rd_T44 l0_2 x84_4).f3).length : Int)
                                    · rw [if_pos c73] at H
                                      have c73b0 : decide (x138_6 < (((rd_T44 l0_2 x84_4).f3).length : Int)) = true := decide_eq_true c73
                                      clear c73
                                      replace H := Option.bind_eq_some_iff.mp H
                                      obtain ⟨t291, A740, H⟩ := H
                                      have A74 := Aside0.mk A740
                                      clear A740
                                      by_cases c75 : t291 = true
                                      · subst c75
                                        have H1 : (sacristanref09_May.l3 k6 (l0_2.length : Int) x84_4 (((rd_T44 l0_2 x84_4).f3).length : Int) (wrap64 (x138_6 + 1)) l0_0 l0_1 l0_2 l0_3 ((rd_T44 l0_2 x84_4).f0) ((rd_T44 l0_2 x84_4).f1) ((rd_T44 l0_2 x84_4).f2) ((rd_T44 l0_2 x84_4).f3)) = some r := by rw [if_pos rfl] at H; exact H
                                        clear H
                                        have H := H1
                                        clear H1
                                        have H' := Aside0.mk H
                                        clear H
                                        try go_wp2
                                        have n0_ := Aside0.mk (blk_drew BK282.out)
                                        have n1_ := Aside0.mk (blk_drew BK289.out)
                                        have n2_ := Aside0.mk (below_drew1 HB.out)
                                        clear BK282 BK289 HB
                                        have BK282 := n0_
                                        have BK289 := n1_
                                        have HB := n2_
                                        clear n0_ n1_ n2_
                                        have p290 : 0 ≤ (x138_6 : Int) := of_decide_eq_true (by (with_reducible assumption))
                                        have q290 : x138_6 < (((rd_T44 l0_2 x84_4).f3).length : Int) := of_decide_eq_true (by (with_reducible assumption))
                                        obtain ⟨ad290, e290, hx290_0, hx290_1⟩ := at_T32 HR288_3.out x138_6 p290 q290
                                        have hw290_1 := hx290_1
                                        have hw290_0 := hx290_0
                                        cases e290
                                        replace hx290_0 := (HB.out.cell (World.block_lt_of_cell? w _ hx290_0)).trans hx290_0
                                        replace hx290_1 := (HB.out.cell (World.block_lt_of_cell? w _ hx290_1)).trans hx290_1
                                        replace p290 := eq_true p290
                                        replace q290 := eq_true q290
                                        refine start_ (n := 9) (S := fun w' => w'.cell? ⟨gb282, 0, none⟩ = some (.slice A0_0 l0_0.length c0_0) ∧ w'.cell? ⟨gb282, 1, none⟩ = some (.slice A0_1 l0_1.length c0_1) ∧ w'.cell? ⟨gb282, 2, none⟩ = some (.slice (some ad288) l0_2.length c0_2) ∧ w'.cell? ⟨gb282, 3, none⟩ = some (.slice A0_3 l0_3.length c0_3) ∧ w'.cell? ⟨gb289, 0, none⟩ = some (.int .i64 ((rd_T44 l0_2 x84_4).f0)) ∧ w'.cell? ⟨gb289, 1, none⟩ = some (.int .i64 ((rd_T44 l0_2 x84_4).f1)) ∧ w'.cell? ⟨gb289, 2, none⟩ = some (.int .i64 ((rd_T44 l0_2 x84_4).f2)) ∧ w'.cell? ⟨gb289, 3, none⟩ = some (.slice (some ad290) ((rd_T44 l0_2 x84_4).f3).length c288_3) ∧ w'.cell? (ad290.add ((x138_6).toNat * 2)) = some (.int .u8 ((rd_T32 ((rd_T44 l0_2 x84_4).f3) x138_6).f0)) ∧ w'.cell? ⟨(ad290.add ((x138_6).toNat * 2)).block, (ad290.add ((x138_6).toNat * 2)).off + 1, none⟩ = some (.int .i64 ((rd_T32 ((rd_T44 l0_2 x84_4).f3) x138_6).f1))) (ds := []) #[false, false, false, false, false, false, false, false, false] (by kernel_rfl) rfl rfl ⟨(blk_cell BK282.out 0).trans rfl, (blk_cell BK282.out 1).trans rfl, (blk_cell BK282.out 2).trans rfl, (blk_cell BK282.out 3).trans rfl, (blk_cell BK289.out 0).trans rfl, (blk_cell BK289.out 1).trans rfl, (blk_cell BK289.out 2).trans rfl, (blk_cell BK289.out 3).trans rfl, ((HB.out.cell (World.block_lt_of_cell? w _ hw290_0)).trans hw290_0), ((HB.out.cell (World.block_lt_of_cell? w _ hw290_1)).trans hw290_1)⟩ (fun hHeld => ?_); refine with_tabW sacristanref09_May.tab24 sacristanref09_May.bits24 (fun HT_ HW_ => ?_)
                                        generalize wr.drew = w76 at BK282 BK289 HB hx290_0 hx290_1 hHeld ⊢
                                        refine pure_ (i := 2) (N := some 143) (v := ?_) (a' := ?_) #[false, false, true, false, false, false, false, false, false] rfl rfl (any_of HT_.out (by kernel_rfl)) (fun _ _ _ h => h) (Or.inl ⟨by rfl, ?_⟩) ?_ ?_
                                        rotate_left
                                        · intro w'
                                          go_simp
                                          with_reducible rfl
                                        rotate_left
                                        · simp only [Act.put, List.setIfInBounds_toArray, List.set_cons_zero, List.set_cons_succ, i64_w, i32_w]
                                          rfl
                                        refine pure_ (i := 4) (N := some 145) (v := ?_) (a' := ?_) #[false, false, true, false, true, false, false, false, false] rfl rfl (any_of HT_.out (by kernel_rfl)) (fun _ _ _ h => h) (Or.inl ⟨by rfl, ?_⟩) ?_ ?_
                                        rotate_left
                                        · intro w'
                                          go_simp
                                          with_reducible rfl
                                        rotate_left
                                        · simp only [Act.put, List.setIfInBounds_toArray, List.set_cons_zero, List.set_cons_succ, i64_w, i32_w]
                                          rfl
                                        refine take_ (i := 0) (N := some 141) (v := ?_) (a' := ?_) #[true, false, true, false, true, false, false, false, false] rfl rfl (take_ofW HT_.out HW_.out (by kernel_rfl)) (fun _ _ _ h => h) (Or.inl ⟨by rfl, ?_⟩) hHeld ?_ ?_
                                        rotate_left
                                        · rintro w' ⟨s0, s1, s2, s3, s4, s5, s6, s7, s8, s9⟩
                                          go_simp
                                          with_reducible rfl
                                        rotate_left
                                        · simp only [Act.put, List.setIfInBounds_toArray, List.set_cons_zero, List.set_cons_succ, i64_w, i32_w]
                                          rfl
                                        refine take_ (i := 1) (N := some 142) (v := ?_) (a' := ?_) #[true, true, true, false, true, false, false, false, false] rfl rfl (take_ofW HT_.out HW_.out (by kernel_rfl)) (fun _ _ _ h => h) (Or.inl ⟨by rfl, ?_⟩) hHeld ?_ ?_
                                        rotate_left
                                        · rintro w' ⟨s0, s1, s2, s3, s4, s5, s6, s7, s8, s9⟩
                                          go_simp
                                          with_reducible rfl
                                        rotate_left
                                        · simp only [Act.put, List.setIfInBounds_toArray, List.set_cons_zero, List.set_cons_succ, i64_w, i32_w]
                                          rfl
                                        refine take_ (i := 3) (N := some 144) (v := ?_) (a' := ?_) #[true, true, true, true, true, false, false, false, false] rfl rfl (take_ofW HT_.out HW_.out (by kernel_rfl)) (fun _ _ _ h => h) (Or.inl ⟨by rfl, ?_⟩) hHeld ?_ ?_
                                        rotate_left
                                        · rintro w' ⟨s0, s1, s2, s3, s4, s5, s6, s7, s8, s9⟩
                                          go_simp
                                          with_reducible rfl
                                        rotate_left
                                        · simp only [Act.put, List.setIfInBounds_toArray, List.set_cons_zero, List.set_cons_succ, i64_w, i32_w]
                                          rfl
                                        refine pure_ (i := 5) (N := some 146) (v := ?_) (a' := ?_) #[true, true, true, true, true, true, false, false, false] rfl rfl (any_of HT_.out (by kernel_rfl)) (fun _ _ _ h => h) (Or.inl ⟨by rfl, ?_⟩) ?_ ?_
                                        rotate_left
                                        · intro w'
                                          go_simp
                                          with_reducible rfl
                                        rotate_left
                                        · simp only [Act.put, List.setIfInBounds_toArray, List.set_cons_zero, List.set_cons_succ, i64_w, i32_w]
                                          rfl
                                        refine take_ (i := 6) (N := some 147) (v := ?_) (a' := ?_) #[true, true, true, true, true, true, true, false, false] rfl rfl (take_ofW HT_.out HW_.out (by kernel_rfl)) (fun _ _ _ h => h) (Or.inl ⟨by rfl, ?_⟩) hHeld ?_ ?_
                                        rotate_left
                                        · rintro w' ⟨s0, s1, s2, s3, s4, s5, s6, s7, s8, s9⟩
                                          go_simp
                                          with_reducible rfl
                                        rotate_left
                                        · simp only [Act.put, List.setIfInBounds_toArray, List.set_cons_zero, List.set_cons_succ, i64_w, i32_w]
                                          rfl
                                        refine one_ (i := 7) (N := some 148) #[true, true, true, true, true, true, true, true, false] rfl rfl (one_of HT_.out (by kernel_rfl)) (by decide) (fun K hK => ?_)
                                        refine goes_ Tryd.func57 (by kernel_rfl) rfl #[.agg #[.slice A0_0 l0_0.length c0_0, .slice A0_1 l0_1.length c0_1, .slice (some ad288) l0_2.length c0_2, .slice A0_3 l0_3.length c0_3], .agg #[.int .i64 ((rd_T44 l0_2 x84_4).f0), .int .i64 ((rd_T44 l0_2 x84_4).f1), .int .i64 ((rd_T44 l0_2 x84_4).f2), .slice (some ad290) ((rd_T44 l0_2 x84_4).f3).length c288_3], .agg #[.int .u8 ((rd_T32 ((rd_T44 l0_2 x84_4).f3) x138_6).f0), .int .i64 ((rd_T32 ((rd_T44 l0_2 x84_4).f3) x138_6).f1)]] (by rfl) rfl rfl (by (try simp only [List.map_toArray, List.map_cons, List.map_nil]); rfl) ?_
                                        with_reducible refine (sacristanref09_instr.calls k6 _ _ l0_0 _ _ l0_1 _ _ l0_2 _ _ l0_3 ((rd_T44 l0_2 x84_4).f0) ((rd_T44 l0_2 x84_4).f1) ((rd_T44 l0_2 x84_4).f2) _ _ ((rd_T44 l0_2 x84_4).f3) ((rd_T32 ((rd_T44 l0_2 x84_4).f3) x138_6).f0) ((rd_T32 ((rd_T44 l0_2 x84_4).f3) x138_6).f1) true _ ?side1 ?side2 ?side3 ?side4 ?side5 ?side6 ?side7 ?side8 ?side9 ?side10 A74.out).mono ?_
                                        (case side1 => repeat (exact (Kd.C_below HR0_0.out HB.out)))
                                        (case side2 => exact HC0_0.out)
                                        (case side3 => repeat (exact (Kd.C_below HR0_1.out HB.out)))
                                        (case side4 => exact HC0_1.out)
                                        (case side5 => repeat (exact (Kd.C_below HR0_2.out HB.out)))
                                        (case side6 => exact HC0_2.out)
                                        (case side7 => repeat (exact (Kd.C_below HR0_3.out HB.out)))
                                        (case side8 => exact HC0_3.out)
                                        (case side9 => repeat (exact (Kd.C_below HR288_3.out HB.out)))
                                        (case side10 => exact HC288_3.out)
                                        rintro e w77 ⟨rfl, hb⟩
                                        refine ⟨_, rfl, ?_⟩
                                        have n0_ := Aside0.mk (blk_below (g := gb282) (o := .cells #[.slice A0_0 l0_0.length c0_0, .slice A0_1 l0_1.length c0_1, .slice (some ad288) l0_2.length c0_2, .slice A0_3 l0_3.length c0_3] 30 (0, 0)) (by (with_reducible repeat (fail)); exact BK282.out) hb)
                                        have n1_ := Aside0.mk (blk_below (g := gb289) (o := .cells #[.int .i64 ((rd_T44 l0_2 x84_4).f0), .int .i64 ((rd_T44 l0_2 x84_4).f1), .int .i64 ((rd_T44 l0_2 x84_4).f2), .slice (some ad290) ((rd_T44 l0_2 x84_4).f3).length c288_3] 44 (0, 0)) (by (with_reducible repeat (fail)); exact BK289.out) hb)
                                        have n2_ := Aside0.mk (below_step (by repeat ((with_reducible exact HB.out))) hb)
                                        clear BK282 BK289 HB
                                        have BK282 := n0_
                                        have BK289 := n1_
                                        have HB := n2_
                                        clear n0_ n1_ n2_
                                        (try clear hb)
                                        refine hK.out _ _ ⟨(blk_cell BK282.out 0).trans rfl, (blk_cell BK282.out 1).trans rfl, (blk_cell BK282.out 2).trans rfl, (blk_cell BK282.out 3).trans rfl, (blk_cell BK289.out 0).trans rfl, (blk_cell BK289.out 1).trans rfl, (blk_cell BK289.out 2).trans rfl, (blk_cell BK289.out 3).trans rfl, ((HB.out.cell (World.block_lt_of_cell? w _ hw290_0)).trans hw290_0), ((HB.out.cell (World.block_lt_of_cell? w _ hw290_1)).trans hw290_1)⟩ (fun hHeld => ?_)
                                        clear hK K
                                        refine norm_ (a' := ?_) ?_ ?_
                                        rotate_left
                                        · show Act.put _ (some 148) _ = _
                                          simp only [Act.put, List.setIfInBounds_toArray, List.set_cons_zero, List.set_cons_succ, i64_w, i32_w]
                                          rfl
                                        refine pure_ (i := 8) (N := some 149) (v := ?_) (a' := ?_) #[true, true, true, true, true, true, true, true, true] rfl rfl (any_of HT_.out (by kernel_rfl)) (fun _ _ _ h => h) (Or.inl ⟨by rfl, ?_⟩) ?_ ?_
                                        rotate_left
                                        · intro w'
                                          go_simp
                                          with_reducible rfl
                                        rotate_left
                                        · simp only [Act.put, List.setIfInBounds_toArray, List.set_cons_zero, List.set_cons_succ, i64_w, i32_w]
                                          rfl
                                        refine done_ (done_of HT_.out (by kernel_rfl)) ?_
                                        try go_wp2
                                        go_roundg k6
                                        case measure => have := HJ1.out; have := HK2.out; have := HK3.out; have := HK4.out; have := HJ39.out; have := HK6.out; omega
                                        case rel => exact ⟨(wrap64 (x138_6 + 1)), (by rfl), H', ⟨by have := HJ1.out; have := HK2.out; have := HK3.out; have := HK4.out; have := HJ39.out; have := HK6.out; omega⟩, ⟨by (with_reducible repeat (fail)); exact BK282.out⟩, ⟨by (with_reducible repeat (fail)); exact BK289.out⟩, ⟨by repeat ((with_reducible exact HB.out))⟩⟩
                                      replace c75 := Bool.eq_false_iff.mpr c75
                                      subst c75
                                      have H1 : (some false) = some r := by rw [if_neg (show ¬ (false = true) by decide)] at H; exact H
                                      clear H
                                      have H := H1
                                      clear H1
                                      obtain rfl := Option.some.inj H
                                      try go_wp2
                                      have n0_ := Aside0.mk (blk_drew BK282.out)
                                      have n1_ := Aside0.mk (blk_drew BK289.out)
                                      have n2_ := Aside0.mk (below_drew1 HB.out)
                                      clear BK282 BK289 HB
                                      have BK282 := n0_
                                      have BK289 := n1_
                                      have HB := n2_
                                      clear n0_ n1_ n2_
                                      have p290 : 0 ≤ (x138_6 : Int) := of_decide_eq_true (by (with_reducible assumption))
                                      have q290 : x138_6 < (((rd_T44 l0_2 x84_4).f3).length : Int) := of_decide_eq_true (by (with_reducible assumption))
                                      obtain ⟨ad290, e290, hx290_0, hx290_1⟩ := at_T32 HR288_3.out x138_6 p290 q290
                                      have hw290_1 := hx290_1
                                      have hw290_0 := hx290_0
                                      cases e290
                                      replace hx290_0 := (HB.out.cell (World.block_lt_of_cell? w _ hx290_0)).trans hx290_0
                                      replace hx290_1 := (HB.out.cell (World.block_lt_of_cell? w _ hx290_1)).trans hx290_1
                                      replace p290 := eq_true p290
                                      replace q290 := eq_true q290
                                      refine start_ (n := 9) (S := fun w' => w'.cell? ⟨gb282, 0, none⟩ = some (.slice A0_0 l0_0.length c0_0) ∧ w'.cell? ⟨gb282, 1, none⟩ = some (.slice A0_1 l0_1.length c0_1) ∧ w'.cell? ⟨gb282, 2, none⟩ = some (.slice (some ad288) l0_2.length c0_2) ∧ w'.cell? ⟨gb282, 3, none⟩ = some (.slice A0_3 l0_3.length c0_3) ∧ w'.cell? ⟨gb289, 0, none⟩ = some (.int .i64 ((rd_T44 l0_2 x84_4).f0)) ∧ w'.cell? ⟨gb289, 1, none⟩ = some (.int .i64 ((rd_T44 l0_2 x84_4).f1)) ∧ w'.cell? ⟨gb289, 2, none⟩ = some (.int .i64 ((rd_T44 l0_2 x84_4).f2)) ∧ w'.cell? ⟨gb289, 3, none⟩ = some (.slice (some ad290) ((rd_T44 l0_2 x84_4).f3).length c288_3) ∧ w'.cell? (ad290.add ((x138_6).toNat * 2)) = some (.int .u8 ((rd_T32 ((rd_T44 l0_2 x84_4).f3) x138_6).f0)) ∧ w'.cell? ⟨(ad290.add ((x138_6).toNat * 2)).block, (ad290.add ((x138_6).toNat * 2)).off + 1, none⟩ = some (.int .i64 ((rd_T32 ((rd_T44 l0_2 x84_4).f3) x138_6).f1))) (ds := []) #[false, false, false, false, false, false, false, false, false] (by kernel_rfl) rfl rfl ⟨(blk_cell BK282.out 0).trans rfl, (blk_cell BK282.out 1).trans rfl, (blk_cell BK282.out 2).trans rfl, (blk_cell BK282.out 3).trans rfl, (blk_cell BK289.out 0).trans rfl, (blk_cell BK289.out 1).trans rfl, (blk_cell BK289.out 2).trans rfl, (blk_cell BK289.out 3).trans rfl, ((HB.out.cell (World.block_lt_of_cell? w _ hw290_0)).trans hw290_0), ((HB.out.cell (World.block_lt_of_cell? w _ hw290_1)).trans hw290_1)⟩ (fun hHeld => ?_); refine with_tabW sacristanref09_May.tab24 sacristanref09_May.bits24 (fun HT_ HW_ => ?_)
                                      generalize wr.drew = w78 at BK282 BK289 HB hx290_0 hx290_1 hHeld ⊢
                                      refine pure_ (i := 2) (N := some 143) (v := ?_) (a' := ?_) #[false, false, true, false, false, false, false, false, false] rfl rfl (any_of HT_.out (by kernel_rfl)) (fun _ _ _ h => h) (Or.inl ⟨by rfl, ?_⟩) ?_ ?_
                                      rotate_left
                                      · intro w'
                                        go_simp
                                        with_reducible rfl
                                      rotate_left
                                      · simp only [Act.put, List.setIfInBounds_toArray, List.set_cons_zero, List.set_cons_succ, i64_w, i32_w]
                                        rfl
                                      refine pure_ (i := 4) (N := some 145) (v := ?_) (a' := ?_) #[false, false, true, false, true, false, false, false, false] rfl rfl (any_of HT_.out (by kernel_rfl)) (fun _ _ _ h => h) (Or.inl ⟨by rfl, ?_⟩) ?_ ?_
                                      rotate_left
                                      · intro w'
                                        go_simp
                                        with_reducible rfl
                                      rotate_left
                                      · simp only [Act.put, List.setIfInBounds_toArray, List.set_cons_zero, List.set_cons_succ, i64_w, i32_w]
                                        rfl
                                      refine take_ (i := 0) (N := some 141) (v := ?_) (a' := ?_) #[true, false, true, false, true, false, false, false, false] rfl rfl (take_ofW HT_.out HW_.out (by kernel_rfl)) (fun _ _ _ h => h) (Or.inl ⟨by rfl, ?_⟩) hHeld ?_ ?_
                                      rotate_left
                                      · rintro w' ⟨s0, s1, s2, s3, s4, s5, s6, s7, s8, s9⟩
                                        go_simp
                                        with_reducible rfl
                                      rotate_left
                                      · simp only [Act.put, List.setIfInBounds_toArray, List.set_cons_zero, List.set_cons_succ, i64_w, i32_w]
                                        rfl
                                      refine take_ (i := 1) (N := some 142) (v := ?_) (a' := ?_) #[true, true, true, false, true, false, false, false, false] rfl rfl (take_ofW HT_.out HW_.out (by kernel_rfl)) (fun _ _ _ h => h) (Or.inl ⟨by rfl, ?_⟩) hHeld ?_ ?_
                                      rotate_left
                                      · rintro w' ⟨s0, s1, s2, s3, s4, s5, s6, s7, s8, s9⟩
                                        go_simp
                                        with_reducible rfl
                                      rotate_left
                                      · simp only [Act.put, List.setIfInBounds_toArray, List.set_cons_zero, List.set_cons_succ, i64_w, i32_w]
                                        rfl
                                      refine take_ (i := 3) (N := some 144) (v := ?_) (a' := ?_) #[true, true, true, true, true, false, false, false, false] rfl rfl (take_ofW HT_.out HW_.out (by kernel_rfl)) (fun _ _ _ h => h) (Or.inl ⟨by rfl, ?_⟩) hHeld ?_ ?_
                                      rotate_left
                                      · rintro w' ⟨s0, s1, s2, s3, s4, s5, s6, s7, s8, s9⟩
                                        go_simp
                                        with_reducible rfl
                                      rotate_left
                                      · simp only [Act.put, List.setIfInBounds_toArray, List.set_cons_zero, List.set_cons_succ, i64_w, i32_w]
                                        rfl
                                      refine pure_ (i := 5) (N := some 146) (v := ?_) (a' := ?_) #[true, true, true, true, true, true, false, false, false] rfl rfl (any_of HT_.out (by kernel_rfl)) (fun _ _ _ h => h) (Or.inl ⟨by rfl, ?_⟩) ?_ ?_
                                      rotate_left
                                      · intro w'
                                        go_simp
                                        with_reducible rfl
                                      rotate_left
                                      · simp only [Act.put, List.setIfInBounds_toArray, List.set_cons_zero, List.set_cons_succ, i64_w, i32_w]
                                        rfl
                                      refine take_ (i := 6) (N := some 147) (v := ?_) (a' := ?_) #[true, true, true, true, true, true, true, false, false] rfl rfl (take_ofW HT_.out HW_.out (by kernel_rfl)) (fun _ _ _ h => h) (Or.inl ⟨by rfl, ?_⟩) hHeld ?_ ?_
                                      rotate_left
                                      · rintro w' ⟨s0, s1, s2, s3, s4, s5, s6, s7, s8, s9⟩
                                        go_simp
                                        with_reducible rfl
                                      rotate_left
                                      · simp only [Act.put, List.setIfInBounds_toArray, List.set_cons_zero, List.set_cons_succ, i64_w, i32_w]
                                        rfl
                                      refine one_ (i := 7) (N := some 148) #[true, true, true, true, true, true, true, true, false] rfl rfl (one_of HT_.out (by kernel_rfl)) (by decide) (fun K hK => ?_)
                                      refine goes_ Tryd.func57 (by kernel_rfl) rfl #[.agg #[.slice A0_0 l0_0.length c0_0, .slice A0_1 l0_1.length c0_1, .slice (some ad288) l0_2.length c0_2, .slice A0_3 l0_3.length c0_3], .agg #[.int .i64 ((rd_T44 l0_2 x84_4).f0), .int .i64 ((rd_T44 l0_2 x84_4).f1), .int .i64 ((rd_T44 l0_2 x84_4).f2), .slice (some ad290) ((rd_T44 l0_2 x84_4).f3).length c288_3], .agg #[.int .u8 ((rd_T32 ((rd_T44 l0_2 x84_4).f3) x138_6).f0), .int .i64 ((rd_T32 ((rd_T44 l0_2 x84_4).f3) x138_6).f1)]] (by rfl) rfl rfl (by (try simp only [List.map_toArray, List.map_cons, List.map_nil]); rfl) ?_
                                      with_reducible refine (sacristanref09_instr.calls k6 _ _ l0_0 _ _ l0_1 _ _ l0_2 _ _ l0_3 ((rd_T44 l0_2 x84_4).f0) ((rd_T44 l0_2 x84_4).f1) ((rd_T44 l0_2 x84_4).f2) _ _ ((rd_T44 l0_2 x84_4).f3) ((rd_T32 ((rd_T44 l0_2 x84_4).f3) x138_6).f0) ((rd_T32 ((rd_T44 l0_2 x84_4).f3) x138_6).f1) false _ ?side1 ?side2 ?side3 ?side4 ?side5 ?side6 ?side7 ?side8 ?side9 ?side10 A74.out).mono ?_
                                      (case side1 => repeat (exact (Kd.C_below HR0_0.out HB.out)))
                                      (case side2 => exact HC0_0.out)
                                      (case side3 => repeat (exact (Kd.C_below HR0_1.out HB.out)))
                                      (case side4 => exact HC0_1.out)
                                      (case side5 => repeat (exact (Kd.C_below HR0_2.out HB.out)))
                                      (case side6 => exact HC0_2.out)
                                      (case side7 => repeat (exact (Kd.C_below HR0_3.out HB.out)))
                                      (case side8 => exact HC0_3.out)
                                      (case side9 => repeat (exact (Kd.C_below HR288_3.out HB.out)))
                                      (case side10 => exact HC288_3.out)
                                      rintro e w79 ⟨rfl, hb⟩
                                      refine ⟨_, rfl, ?_⟩
                                      have n0_ := Aside0.mk (blk_below (g := gb282) (o := .cells #[.slice A0_0 l0_0.length c0_0, .slice A0_1 l0_1.length c0_1, .slice (some ad288) l0_2.length c0_2, .slice A0_3 l0_3.length c0_3] 30 (0, 0)) (by (with_reducible repeat (fail)); exact BK282.out) hb)
                                      have n1_ := Aside0.mk (blk_below (g := gb289) (o := .cells #[.int .i64 ((rd_T44 l0_2 x84_4).f0), .int .i64 ((rd_T44 l0_2 x84_4).f1), .int .i64 ((rd_T44 l0_2 x84_4).f2), .slice (some ad290) ((rd_T44 l0_2 x84_4).f3).length c288_3] 44 (0, 0)) (by (with_reducible repeat (fail)); exact BK289.out) hb)
                                      have n2_ := Aside0.mk (below_step (by repeat ((with_reducible exact HB.out))) hb)
                                      clear BK282 BK289 HB
                                      have BK282 := n0_
                                      have BK289 := n1_
                                      have HB := n2_
                                      clear n0_ n1_ n2_
                                      (try clear hb)
                                      refine hK.out _ _ ⟨(blk_cell BK282.out 0).trans rfl, (blk_cell BK282.out 1).trans rfl, (blk_cell BK282.out 2).trans rfl, (blk_cell BK282.out 3).trans rfl, (blk_cell BK289.out 0).trans rfl, (blk_cell BK289.out 1).trans rfl, (blk_cell BK289.out 2).trans rfl, (blk_cell BK289.out 3).trans rfl, ((HB.out.cell (World.block_lt_of_cell? w _ hw290_0)).trans hw290_0), ((HB.out.cell (World.block_lt_of_cell? w _ hw290_1)).trans hw290_1)⟩ (fun hHeld => ?_)
                                      clear hK K
                                      refine norm_ (a' := ?_) ?_ ?_
                                      rotate_left
                                      · show Act.put _ (some 148) _ = _
                                        simp only [Act.put, List.setIfInBounds_toArray, List.set_cons_zero, List.set_cons_succ, i64_w, i32_w]
                                        rfl
                                      refine pure_ (i := 8) (N := some 149) (v := ?_) (a' := ?_) #[true, true, true, true, true, true, true, true, true] rfl rfl (any_of HT_.out (by kernel_rfl)) (fun _ _ _ h => h) (Or.inl ⟨by rfl, ?_⟩) ?_ ?_
                                      rotate_left
                                      · intro w'
                                        go_simp
                                        with_reducible rfl
                                      rotate_left
                                      · simp only [Act.put, List.setIfInBounds_toArray, List.set_cons_zero, List.set_cons_succ, i64_w, i32_w]
                                        rfl
                                      refine done_ (done_of HT_.out (by kernel_rfl)) ?_
                                      try go_wp2
                                      go_ret
                                      exact ⟨by rfl, by repeat ((with_reducible exact HB.out))⟩
                                    rw [if_neg c73] at H
                                    exact absurd H (by simp)
                                  rw [if_neg c72] at H
                                  exact absurd H (by simp)
                                rw [if_neg c71] at H
                                have c71b0 : decide (x138_6 < (((rd_T44 l0_2 x84_4).f3).length : Int)) = false := decide_eq_false c71
                                clear c71
                                have H' := Aside0.mk H
                                clear H
                                go_wp2
                                go_roundg k6
                                case measure => have := HJ1.out; have := HK2.out; have := HK3.out; have := HK4.out; have := HJ39.out; have := HK6.out; omega
                                case rel => exact ⟨(wrap64 (x84_4 + 1)), (by rfl), H', ⟨by have := HJ1.out; have := HK2.out; have := HK3.out; have := HK4.out; have := HJ39.out; have := HK6.out; omega⟩, ⟨by (with_reducible repeat (fail)); exact BK282.out⟩, ⟨by repeat ((with_reducible exact HB.out))⟩⟩
                      rw [if_neg c39] at H
                      exact absurd H (by simp)
                    rw [if_neg c38] at H
                    exact absurd H (by simp)
                  rw [if_neg c37] at H
                  have c37b0 : decide (x84_4 < (l0_2.length : Int)) = false := decide_eq_false c37
                  clear c37
                  obtain rfl := Option.some.inj H
                  go_wp2
                  go_ret
                  exact ⟨by rfl, by repeat ((with_reducible exact HB.out))⟩

end Go.Proofs.YtfncoldcjhkhiaaDoor.PC
