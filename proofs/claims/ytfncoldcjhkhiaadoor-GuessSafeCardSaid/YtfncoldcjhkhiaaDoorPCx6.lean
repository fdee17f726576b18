-- Own text: made by this session's variant of the printer (wip/mkpp.py); Lean checks it.
import Derived.Test.YtfncoldcjhkhiaaDoorPCx0
namespace Go.Proofs.YtfncoldcjhkhiaaDoor.PC
open Go.RowKit Go.Proofs.YtfncoldcjhkhiaaDoorW.PrintWords Go.Proofs.YtfncoldcjhkhiaaDoorW.PrintLast Go.Proofs.YtfncoldcjhkhiaaDoorW.PrintMore Go.Proofs.YtfncoldcjhkhiaaDoorW.Own
attribute [local go_sem high] own_gtr own_leq own_geq
attribute [local go_sem] max2_int min2_int max_two min_two max_three min_three max_four min_four   -- for this text's walks alone
set_option linter.unusedVariables false
set_option linter.unusedSimpArgs false

/-! ### sacristanref09_Great: function 19 -/
mutual
def sacristanref09_Great.j0 : Nat → Bool → List Int → List ByteArray → List (S44) → List (S41) → Option (Bool)
  | 0, _, _, _, _, _ => none
  | k + 1, x28, x198000, x198001, x198002, x198003 => if x28 = true then (some true) else (sacristanref09_Great.l0 k 0 (x198001.length : Int) 0 x198000 x198001 x198002 x198003)
def sacristanref09_Great.l0 : Nat → Int → Int → Int → List Int → List ByteArray → List (S44) → List (S41) → Option (Bool)
  | 0, _, _, _, _, _, _, _ => none
  | k + 1, x3, x31, x32, x198000, x198001, x198002, x198003 => if x32 < x31 then (if 0 ≤ x32 then (if x32 < (x198001.length : Int) then (sacristanref09_Great.l0 k (wrap64 (x3 + (mn ((rdOf ByteArray.empty x198001 x32).size : Int) 70000))) x31 (wrap64 (x32 + 1)) x198000 x198001 x198002 x198003) else (none)) else (none)) else (sacristanref09_Great.l1 k x3 (x198002.length : Int) 0 x198000 x198001 x198002 x198003)
def sacristanref09_Great.l1 : Nat → Int → Int → Int → List Int → List ByteArray → List (S44) → List (S41) → Option (Bool)
  | 0, _, _, _, _, _, _, _ => none
  | k + 1, x3, x47, x48, x198000, x198001, x198002, x198003 => if x48 < x47 then (if 0 ≤ x48 then (if x48 < (x198002.length : Int) then (sacristanref09_Great.l1 k (wrap64 (x3 + (mn (((rd_T44 x198002 x48).f3).length : Int) 70000))) x47 (wrap64 (x48 + 1)) x198000 x198001 x198002 x198003) else (none)) else (none)) else (sacristanref09_Great.l2 k x3 (x198003.length : Int) 0 x198000 x198001 x198002 x198003)
def sacristanref09_Great.l2 : Nat → Int → Int → Int → List Int → List ByteArray → List (S44) → List (S41) → Option (Bool)
  | 0, _, _, _, _, _, _, _ => none
  | k + 1, x3, x64, x65, x198000, x198001, x198002, x198003 => if x65 < x64 then (if 0 ≤ x65 then (if x65 < (x198003.length : Int) then (sacristanref09_Great.l2 k (wrap64 (x3 + (mn (((rd_T41 x198003 x65).f0).length : Int) 70000))) x64 (wrap64 (x65 + 1)) x198000 x198001 x198002 x198003) else (none)) else (none)) else (some (decide (x3 > 70000)))
end
def sacristanref09_Great.f (k : Nat) (l0_0 : List Int) (l0_1 : List ByteArray) (l0_2 : List (S44)) (l0_3 : List (S41)) : Option (Bool) := if (l0_0.length : Int) > 300 then (sacristanref09_Great.j0 k true l0_0 l0_1 l0_2 l0_3) else (if (l0_1.length : Int) > 300 then (sacristanref09_Great.j0 k true l0_0 l0_1 l0_2 l0_3) else (if (l0_2.length : Int) > 300 then (sacristanref09_Great.j0 k true l0_0 l0_1 l0_2 l0_3) else (sacristanref09_Great.j0 k (decide ((l0_3.length : Int) > 300)) l0_0 l0_1 l0_2 l0_3)))
theorem sacristanref09_Great.mono_l : ∀ k, (∀ y0 y1 y2 y3 y4, LeO (sacristanref09_Great.j0 k y0 y1 y2 y3 y4) (sacristanref09_Great.j0 (k + 1) y0 y1 y2 y3 y4)) ∧ (∀ y0 y1 y2 y3 y4 y5 y6, LeO (sacristanref09_Great.l0 k y0 y1 y2 y3 y4 y5 y6) (sacristanref09_Great.l0 (k + 1) y0 y1 y2 y3 y4 y5 y6)) ∧ (∀ y0 y1 y2 y3 y4 y5 y6, LeO (sacristanref09_Great.l1 k y0 y1 y2 y3 y4 y5 y6) (sacristanref09_Great.l1 (k + 1) y0 y1 y2 y3 y4 y5 y6)) ∧ (∀ y0 y1 y2 y3 y4 y5 y6, LeO (sacristanref09_Great.l2 k y0 y1 y2 y3 y4 y5 y6) (sacristanref09_Great.l2 (k + 1) y0 y1 y2 y3 y4 y5 y6))
  | 0 => ⟨fun _ _ _ _ _ r h => by simp [sacristanref09_Great.j0] at h, fun _ _ _ _ _ _ _ r h => by simp [sacristanref09_Great.l0] at h, fun _ _ _ _ _ _ _ r h => by simp [sacristanref09_Great.l1] at h, fun _ _ _ _ _ _ _ r h => by simp [sacristanref09_Great.l2] at h⟩
  | k + 1 => by
    obtain ⟨ih0, ih1, ih2, ih3⟩ := sacristanref09_Great.mono_l k
    refine ⟨?_, ?_, ?_, ?_⟩
    · intro y0 y1 y2 y3 y4
      unfold sacristanref09_Great.j0
      repeat' first | (with_reducible exact ih1 _ _ _ _ _ _ _) | (with_reducible exact LeO.refl _) | (with_reducible refine LeO.ite ?_ ?_)
    · intro y0 y1 y2 y3 y4 y5 y6
      unfold sacristanref09_Great.l0
      repeat' first | (with_reducible exact ih1 _ _ _ _ _ _ _) | (with_reducible exact ih2 _ _ _ _ _ _ _) | (with_reducible exact LeO.refl _) | (with_reducible refine LeO.ite ?_ ?_)
    · intro y0 y1 y2 y3 y4 y5 y6
      unfold sacristanref09_Great.l1
      repeat' first | (with_reducible exact ih2 _ _ _ _ _ _ _) | (with_reducible exact ih3 _ _ _ _ _ _ _) | (with_reducible exact LeO.refl _) | (with_reducible refine LeO.ite ?_ ?_)
    · intro y0 y1 y2 y3 y4 y5 y6
      unfold sacristanref09_Great.l2
      repeat' first | (with_reducible exact ih3 _ _ _ _ _ _ _) | (with_reducible exact LeO.refl _) | (with_reducible refine LeO.ite ?_ ?_)
theorem sacristanref09_Great.mono : ∀ a0 a1 a2 a3 k, LeO (sacristanref09_Great.f k a0 a1 a2 a3) (sacristanref09_Great.f (k + 1) a0 a1 a2 a3) := by
  intro a0 a1 a2 a3 k
  obtain ⟨ih0, ih1, ih2, ih3⟩ := sacristanref09_Great.mono_l k
  unfold sacristanref09_Great.f
  repeat' first | (with_reducible exact ih0 _ _ _ _ _) | (with_reducible refine LeO.ite ?_ ?_)
set_option maxHeartbeats 8000000 in
set_option maxRecDepth 100000 in
theorem sacristanref09_Great.calls (k : Nat) (A0_0 : Option Addr) (c0_0 : Nat) (l0_0 : List Int) (A0_1 : Option Addr) (c0_1 : Nat) (l0_1 : List ByteArray) (A0_2 : Option Addr) (c0_2 : Nat) (l0_2 : List (S44)) (A0_3 : Option Addr) (c0_3 : Nat) (l0_3 : List (S41)) (r : Bool) (w : World) (hr0_0 : Kd.C (Kd.int .i64) w A0_0 l0_0.length l0_0) (hc0_0 : l0_0.length ≤ c0_0) (hr0_1 : Kd.C Kd.string w A0_1 l0_1.length l0_1) (hc0_1 : l0_1.length ≤ c0_1) (hr0_2 : Kd.C k44 w A0_2 l0_2.length l0_2) (hc0_2 : l0_2.length ≤ c0_2) (hr0_3 : Kd.C k41 w A0_3 l0_3.length l0_3) (hc0_3 : l0_3.length ≤ c0_3) (h : sacristanref09_Great.f k l0_0 l0_1 l0_2 l0_3 = some r) :
    Calls Tryd.prog 19 #[.agg #[.slice A0_0 l0_0.length c0_0, .slice A0_1 l0_1.length c0_1, .slice A0_2 l0_2.length c0_2, .slice A0_3 l0_3.length c0_3]] w fun e w' => e = .returned (.bool r) ∧ Below w.heap.size w w' := by
  have hu30 := Tryd.underlying30
  have HR0_0 := Aside0.mk hr0_0
  have HC0_0 := Aside0.mk hc0_0
  clear hr0_0 hc0_0
  have HR0_1 := Aside0.mk hr0_1
  have HC0_1 := Aside0.mk hc0_1
  clear hr0_1 hc0_1
  have HR0_2 := Aside0.mk hr0_2
  have HC0_2 := Aside0.mk hc0_2
  clear hr0_2 hc0_2
  have HR0_3 := Aside0.mk hr0_3
  have HC0_3 := Aside0.mk hc0_3
  clear hr0_3 hc0_3
  have HB := Aside0.mk (Below.refl w.heap.size w)
  have H : (if (l0_0.length : Int) > 300 then (sacristanref09_Great.j0 k true l0_0 l0_1 l0_2 l0_3) else (if (l0_1.length : Int) > 300 then (sacristanref09_Great.j0 k true l0_0 l0_1 l0_2 l0_3) else (if (l0_2.length : Int) > 300 then (sacristanref09_Great.j0 k true l0_0 l0_1 l0_2 l0_3) else (sacristanref09_Great.j0 k (decide ((l0_3.length : Int) > 300)) l0_0 l0_1 l0_2 l0_3)))) = some r := h
  clear h
  have HC2 := Aside0.mk H
  clear H
  go_enter Tryd.func19, Tryd.ntmps19
  go_upto_region 1 with (((with_reducible refine gate_dst (N := 1) rfl ?_); (try (refine gate_guard (by rfl) ?_; dsimp only)); refine box_event ?hg (N := 1) ?hd (cs := #[.slice A0_0 l0_0.length c0_0, .slice A0_1 l0_1.length c0_1, .slice A0_2 l0_2.length c0_2, .slice A0_3 l0_3.length c0_3]) (t := 30) ?hr ?_; (case hd => rfl); (case hg => rfl); (case hr => ((go_simp; done))); intro gb197 hg w3 hbox hb; have n0_ := Aside0.mk (below_step (by repeat ((with_reducible exact HB.out))) hb); have n1_ := Aside0.mk (hbox); have n2_ := Aside0.mk ((by rw [hg]; exact (below_size (by repeat ((with_reducible exact HB.out)))) : w.heap.size ≤ gb197)); have n3_ := Aside0.mk ((by rw [hg]; exact (below_size (by repeat ((with_reducible exact HB.out)))) : w.heap.size ≤ gb197)); clear HB; have HB := n0_; have BK197 := n1_; have GW197 := n2_; have GE197 := n3_; clear n0_ n1_ n2_ n3_; clear hb hbox hg))
  go_cut [28] (fun v28 wc => ∃ (kq : Nat) (x28_1 : Bool), v28 = .bool x28_1 ∧ Aside0 (sacristanref09_Great.j0 kq x28_1 l0_0 l0_1 l0_2 l0_3 = some r) ∧ Aside0 (kq ≤ k) ∧ Aside0 (wc.heap[gb197]? = some (.cells #[(.slice A0_0 l0_0.length c0_0), (.slice A0_1 l0_1.length c0_1), (.slice A0_2 l0_2.length c0_2), (.slice A0_3 l0_3.length c0_3)] 30 (0, 0))) ∧ Aside0 (Below w.heap.size w wc))
  case first =>
    have H := HC2.out
    clear HC2
    by_cases c4 : (l0_0.length : Int) > 300
    · rw [if_pos c4] at H
      have c4b0 : decide (300 < (l0_0.length : Int)) = true := decide_eq_true c4
      have c4b1 : decide (300 < l0_0.length) = true := decide_eq_true (by omega)
      clear c4
      (skip)
      have H' := Aside0.mk H
      clear H
      have hcz5_0 : w3.cell? ⟨gb197, 0, none⟩ = some (.slice A0_0 l0_0.length c0_0) := (blk_cell BK197.out 0).trans rfl
      have hcz5_1 : w3.cell? ⟨gb197, 1, none⟩ = some (.slice A0_1 l0_1.length c0_1) := (blk_cell BK197.out 1).trans rfl
      have hcz5_2 : w3.cell? ⟨gb197, 2, none⟩ = some (.slice A0_2 l0_2.length c0_2) := (blk_cell BK197.out 2).trans rfl
      have hcz5_3 : w3.cell? ⟨gb197, 3, none⟩ = some (.slice A0_3 l0_3.length c0_3) := (blk_cell BK197.out 3).trans rfl
      have hfz5_0 := blk_frozen BK197.out 0
      have hfz5_1 := blk_frozen BK197.out 1
      have hfz5_2 := blk_frozen BK197.out 2
      have hfz5_3 := blk_frozen BK197.out 3
      go_wp2
      go_meet
      case rel => exact ⟨_, (true), (by rfl), H', ⟨by omega⟩, ⟨by (with_reducible repeat (fail)); exact BK197.out⟩, ⟨by repeat ((with_reducible exact HB.out))⟩⟩
    rw [if_neg c4] at H
    have c4b0 : decide (300 < (l0_0.length : Int)) = false := decide_eq_false c4
    have c4b1 : decide (300 < l0_0.length) = false := decide_eq_false (by omega)
    clear c4
    (skip)
    by_cases c6 : (l0_1.length : Int) > 300
    · rw [if_pos c6] at H
      have c6b0 : decide (300 < (l0_1.length : Int)) = true := decide_eq_true c6
      have c6b1 : decide (300 < l0_1.length) = true := decide_eq_true (by omega)
      clear c6
      have H' := Aside0.mk H
      clear H
      have hcz7_0 : w3.cell? ⟨gb197, 0, none⟩ = some (.slice A0_0 l0_0.length c0_0) := (blk_cell BK197.out 0).trans rfl
      have hcz7_1 : w3.cell? ⟨gb197, 1, none⟩ = some (.slice A0_1 l0_1.length c0_1) := (blk_cell BK197.out 1).trans rfl
      have hcz7_2 : w3.cell? ⟨gb197, 2, none⟩ = some (.slice A0_2 l0_2.length c0_2) := (blk_cell BK197.out 2).trans rfl
      have hcz7_3 : w3.cell? ⟨gb197, 3, none⟩ = some (.slice A0_3 l0_3.length c0_3) := (blk_cell BK197.out 3).trans rfl
      have hfz7_0 := blk_frozen BK197.out 0
      have hfz7_1 := blk_frozen BK197.out 1
      have hfz7_2 := blk_frozen BK197.out 2
      have hfz7_3 := blk_frozen BK197.out 3
      go_wp2
      go_meet
      case rel => exact ⟨_, (true), (by rfl), H', ⟨by omega⟩, ⟨by (with_reducible repeat (fail)); exact BK197.out⟩, ⟨by repeat ((with_reducible exact HB.out))⟩⟩
    rw [if_neg c6] at H
    have c6b0 : decide (300 < (l0_1.length : Int)) = false := decide_eq_false c6
    have c6b1 : decide (300 < l0_1.length) = false := decide_eq_false (by omega)
    clear c6
    by_cases c8 : (l0_2.length : Int) > 300
    · rw [if_pos c8] at H
      have c8b0 : decide (300 < (l0_2.length : Int)) = true := decide_eq_true c8
      have c8b1 : decide (300 < l0_2.length) = true := decide_eq_true (by omega)
      clear c8
      have H' := Aside0.mk H
      clear H
      have hcz9_0 : w3.cell? ⟨gb197, 0, none⟩ = some (.slice A0_0 l0_0.length c0_0) := (blk_cell BK197.out 0).trans rfl
      have hcz9_1 : w3.cell? ⟨gb197, 1, none⟩ = some (.slice A0_1 l0_1.length c0_1) := (blk_cell BK197.out 1).trans rfl
      have hcz9_2 : w3.cell? ⟨gb197, 2, none⟩ = some (.slice A0_2 l0_2.length c0_2) := (blk_cell BK197.out 2).trans rfl
      have hcz9_3 : w3.cell? ⟨gb197, 3, none⟩ = some (.slice A0_3 l0_3.length c0_3) := (blk_cell BK197.out 3).trans rfl
      have hfz9_0 := blk_frozen BK197.out 0
      have hfz9_1 := blk_frozen BK197.out 1
      have hfz9_2 := blk_frozen BK197.out 2
      have hfz9_3 := blk_frozen BK197.out 3
      go_wp2
      go_meet
      case rel => exact ⟨_, (true), (by rfl), H', ⟨by omega⟩, ⟨by (with_reducible repeat (fail)); exact BK197.out⟩, ⟨by repeat ((with_reducible exact HB.out))⟩⟩
    rw [if_neg c8] at H
    have c8b0 : decide (300 < (l0_2.length : Int)) = false := decide_eq_false c8
    have c8b1 : decide (300 < l0_2.length) = false := decide_eq_false (by omega)
    clear c8
    have H' := Aside0.mk H
    clear H
    have hcz10_0 : w3.cell? ⟨gb197, 0, none⟩ = some (.slice A0_0 l0_0.length c0_0) := (blk_cell BK197.out 0).trans rfl
    have hcz10_1 : w3.cell? ⟨gb197, 1, none⟩ = some (.slice A0_1 l0_1.length c0_1) := (blk_cell BK197.out 1).trans rfl
    have hcz10_2 : w3.cell? ⟨gb197, 2, none⟩ = some (.slice A0_2 l0_2.length c0_2) := (blk_cell BK197.out 2).trans rfl
    have hcz10_3 : w3.cell? ⟨gb197, 3, none⟩ = some (.slice A0_3 l0_3.length c0_3) := (blk_cell BK197.out 3).trans rfl
    have hfz10_0 := blk_frozen BK197.out 0
    have hfz10_1 := blk_frozen BK197.out 1
    have hfz10_2 := blk_frozen BK197.out 2
    have hfz10_3 := blk_frozen BK197.out 3
    go_wp2
    go_meet
    case rel => exact ⟨_, (decide ((l0_3.length : Int) > 300)), (by rfl), H', ⟨by omega⟩, ⟨by (with_reducible repeat (fail)); exact BK197.out⟩, ⟨by repeat ((with_reducible exact HB.out))⟩⟩
  case rest =>
    clear HC2
    obtain ⟨kq, x28_1, rfl, HA, HJ1, BK197, HB⟩ := hcut
    cases kq with
    | zero => exact absurd HA.out (by simp [sacristanref09_Great.j0])
    | succ kj1 =>
      have H := HA.out
      clear HA
      simp only [sacristanref09_Great.j0] at H
      by_cases c11 : x28_1 = true
      · subst c11
        have H1 : (some true) = some r := by rw [if_pos rfl] at H; exact H
        clear H
        have H := H1
        clear H1
        obtain rfl := Option.some.inj H
        go_wp2
        go_ret
        exact ⟨by rfl, by repeat ((with_reducible exact HB.out))⟩
      replace c11 := Bool.eq_false_iff.mpr c11
      subst c11
      have H1 : (sacristanref09_Great.l0 kj1 0 (l0_1.length : Int) 0 l0_0 l0_1 l0_2 l0_3) = some r := by rw [if_neg (show ¬ (false = true) by decide)] at H; exact H
      clear H
      have H := H1
      clear H1
      have H' := Aside0.mk H
      clear H
      have hcz12_0 : wc.cell? ⟨gb197, 0, none⟩ = some (.slice A0_0 l0_0.length c0_0) := (blk_cell BK197.out 0).trans rfl
      have hcz12_1 : wc.cell? ⟨gb197, 1, none⟩ = some (.slice A0_1 l0_1.length c0_1) := (blk_cell BK197.out 1).trans rfl
      have hcz12_2 : wc.cell? ⟨gb197, 2, none⟩ = some (.slice A0_2 l0_2.length c0_2) := (blk_cell BK197.out 2).trans rfl
      have hcz12_3 : wc.cell? ⟨gb197, 3, none⟩ = some (.slice A0_3 l0_3.length c0_3) := (blk_cell BK197.out 3).trans rfl
      have hfz12_0 := blk_frozen BK197.out 0
      have hfz12_1 := blk_frozen BK197.out 1
      have hfz12_2 := blk_frozen BK197.out 2
      have hfz12_3 := blk_frozen BK197.out 3
      go_wp2
      go_loopg [3, 32] kj1 (fun kq v3 v32 w' => ∃ (x3_2 : Int) (x32_2 : Int), v3 = .int .i64 x3_2 ∧ v32 = .int .i64 x32_2 ∧ Aside0 (sacristanref09_Great.l0 kq x3_2 (l0_1.length : Int) x32_2 l0_0 l0_1 l0_2 l0_3 = some r) ∧ Aside0 (kq ≤ kj1) ∧ Aside0 (w'.heap[gb197]? = some (.cells #[(.slice A0_0 l0_0.length c0_0), (.slice A0_1 l0_1.length c0_1), (.slice A0_2 l0_2.length c0_2), (.slice A0_3 l0_3.length c0_3)] 30 (0, 0))) ∧ Aside0 (Below w.heap.size w w'))
      case atStart => exact ⟨(0), (0), (by rfl), (by rfl), H', ⟨Nat.le_refl _⟩, ⟨by (with_reducible repeat (fail)); exact BK197.out⟩, ⟨by repeat ((with_reducible exact HB.out))⟩⟩
      case round =>
        clear H' hcz12_0 hcz12_1 hcz12_2 hcz12_3 hfz12_0 hfz12_1 hfz12_2 hfz12_3
        obtain ⟨x3_2, x32_2, rfl, rfl, HA, HK2, BK197, HB⟩ := hrel
        cases gk with
        | zero => exact absurd HA.out (by simp [sacristanref09_Great.l0])
        | succ k2 =>
          have H := HA.out
          clear HA
          simp only [sacristanref09_Great.l0] at H
          by_cases c13 : x32_2 < (l0_1.length : Int)
          · rw [if_pos c13] at H
            have c13b0 : decide (x32_2 < (l0_1.length : Int)) = true := decide_eq_true c13
            clear c13
            by_cases c14 : 0 ≤ x32_2
            · rw [if_pos c14] at H
              have c14b0 : decide (0 ≤ x32_2) = true := decide_eq_true c14
              clear c14
              by_cases c15 : x32_2 < (l0_1.length : Int)
              · rw [if_pos c15] at H
                have c15b0 : decide (x32_2 < (l0_1.length : Int)) = true := decide_eq_true c15
                clear c15
                obtain ⟨ji16, hji16⟩ : ∃ j_ : Int, (mn ((rdOf ByteArray.empty l0_1 x32_2).size : Int) 70000) = j_ := ⟨_, rfl⟩
                replace H : (sacristanref09_Great.l0 k2 (wrap64 (x3_2 + (ji16))) (l0_1.length : Int) (wrap64 (x32_2 + 1)) l0_0 l0_1 l0_2 l0_3) = some r := by ((rw [hji16] at H; exact H))
                have hji16_ : (if 70000 < ((rdOf ByteArray.empty l0_1 x32_2).size : Int) then 70000 else ((rdOf ByteArray.empty l0_1 x32_2).size : Int)) = ji16 := hji16
                have H' := Aside0.mk H
                clear H
                have hcz17_0 : wr.cell? ⟨gb197, 0, none⟩ = some (.slice A0_0 l0_0.length c0_0) := (blk_cell BK197.out 0).trans rfl
                have hcz17_1 : wr.cell? ⟨gb197, 1, none⟩ = some (.slice A0_1 l0_1.length c0_1) := (blk_cell BK197.out 1).trans rfl
                have hcz17_2 : wr.cell? ⟨gb197, 2, none⟩ = some (.slice A0_2 l0_2.length c0_2) := (blk_cell BK197.out 2).trans rfl
                have hcz17_3 : wr.cell? ⟨gb197, 3, none⟩ = some (.slice A0_3 l0_3.length c0_3) := (blk_cell BK197.out 3).trans rfl
                have hfz17_0 := blk_frozen BK197.out 0
                have hfz17_1 := blk_frozen BK197.out 1
                have hfz17_2 := blk_frozen BK197.out 2
                have hfz17_3 := blk_frozen BK197.out 3
                have p198 : 0 ≤ (x32_2 : Int) := of_decide_eq_true (by (with_reducible assumption))
                have q198 : x32_2 < (l0_1.length : Int) := of_decide_eq_true (by (with_reducible assumption))
                obtain ⟨ad198, e198, hx198_0⟩ := Kd.at_string HR0_1.out x32_2 p198 q198
                cases e198
                replace hx198_0 := (HB.out.cell (World.block_lt_of_cell? w _ hx198_0)).trans hx198_0
                replace p198 := eq_true p198
                replace q198 := eq_true q198
                go_wp2
                go_roundg k2
                case measure => have := HJ1.out; have := HK2.out; omega
                case rel => exact ⟨(wrap64 (x3_2 + (ji16))), (wrap64 (x32_2 + 1)), (by rfl), (by rfl), H', ⟨by have := HJ1.out; have := HK2.out; omega⟩, ⟨by (with_reducible repeat (fail)); exact BK197.out⟩, ⟨by repeat ((with_reducible exact HB.out))⟩⟩
              rw [if_neg c15] at H
              exact absurd H (by simp)
            rw [if_neg c14] at H
            exact absurd H (by simp)
          rw [if_neg c13] at H
          have c13b0 : decide (x32_2 < (l0_1.length : Int)) = false := decide_eq_false c13
          clear c13
          have H' := Aside0.mk H
          clear H
          have hcz18_0 : wr.cell? ⟨gb197, 0, none⟩ = some (.slice A0_0 l0_0.length c0_0) := (blk_cell BK197.out 0).trans rfl
          have hcz18_1 : wr.cell? ⟨gb197, 1, none⟩ = some (.slice A0_1 l0_1.length c0_1) := (blk_cell BK197.out 1).trans rfl
          have hcz18_2 : wr.cell? ⟨gb197, 2, none⟩ = some (.slice A0_2 l0_2.length c0_2) := (blk_cell BK197.out 2).trans rfl
          have hcz18_3 : wr.cell? ⟨gb197, 3, none⟩ = some (.slice A0_3 l0_3.length c0_3) := (blk_cell BK197.out 3).trans rfl
          have hfz18_0 := blk_frozen BK197.out 0
          have hfz18_1 := blk_frozen BK197.out 1
          have hfz18_2 := blk_frozen BK197.out 2
          have hfz18_3 := blk_frozen BK197.out 3
          go_wp2
          go_loopg [3, 48] k2 (fun kq v3 v48 w' => ∃ (x3_3 : Int) (x48_3 : Int), v3 = .int .i64 x3_3 ∧ v48 = .int .i64 x48_3 ∧ Aside0 (sacristanref09_Great.l1 kq x3_3 (l0_2.length : Int) x48_3 l0_0 l0_1 l0_2 l0_3 = some r) ∧ Aside0 (kq ≤ k2) ∧ Aside0 (w'.heap[gb197]? = some (.cells #[(.slice A0_0 l0_0.length c0_0), (.slice A0_1 l0_1.length c0_1), (.slice A0_2 l0_2.length c0_2), (.slice A0_3 l0_3.length c0_3)] 30 (0, 0))) ∧ Aside0 (Below w.heap.size w w'))
          case atStart => exact ⟨(x3_2), (0), (by rfl), (by rfl), H', ⟨Nat.le_refl _⟩, ⟨by (with_reducible repeat (fail)); exact BK197.out⟩, ⟨by repeat ((with_reducible exact HB.out))⟩⟩
          case round =>
            clear H' c13b0 hcz18_0 hcz18_1 hcz18_2 hcz18_3 hfz18_0 hfz18_1 hfz18_2 hfz18_3
            obtain ⟨x3_3, x48_3, rfl, rfl, HA, HK3, BK197, HB⟩ := hrel
            cases gk with
            | zero => exact absurd HA.out (by simp [sacristanref09_Great.l1])
            | succ k3 =>
              have H := HA.out
              clear HA
              simp only [sacristanref09_Great.l1] at H
              by_cases c19 : x48_3 < (l0_2.length : Int)
              · rw [if_pos c19] at H
                have c19b0 : decide (x48_3 < (l0_2.length : Int)) = true := decide_eq_true c19
                clear c19
                by_cases c20 : 0 ≤ x48_3
                · rw [if_pos c20] at H
                  have c20b0 : decide (0 ≤ x48_3) = true := decide_eq_true c20
                  clear c20
                  by_cases c21 : x48_3 < (l0_2.length : Int)
                  · rw [if_pos c21] at H
                    have c21b0 : decide (x48_3 < (l0_2.length : Int)) = true := decide_eq_true c21
                    clear c21
                    obtain ⟨ji22, hji22⟩ : ∃ j_ : Int, (mn (((rd_T44 l0_2 x48_3).f3).length : Int) 70000) = j_ := ⟨_, rfl⟩
                    replace H : (sacristanref09_Great.l1 k3 (wrap64 (x3_3 + (ji22))) (l0_2.length : Int) (wrap64 (x48_3 + 1)) l0_0 l0_1 l0_2 l0_3) = some r := by ((rw [hji22] at H; exact H))
                    have hji22_ : (if 70000 < (((rd_T44 l0_2 x48_3).f3).length : Int) then 70000 else (((rd_T44 l0_2 x48_3).f3).length : Int)) = ji22 := hji22
                    have H' := Aside0.mk H
                    clear H
                    have hcz23_0 : wr.cell? ⟨gb197, 0, none⟩ = some (.slice A0_0 l0_0.length c0_0) := (blk_cell BK197.out 0).trans rfl
                    have hcz23_1 : wr.cell? ⟨gb197, 1, none⟩ = some (.slice A0_1 l0_1.length c0_1) := (blk_cell BK197.out 1).trans rfl
                    have hcz23_2 : wr.cell? ⟨gb197, 2, none⟩ = some (.slice A0_2 l0_2.length c0_2) := (blk_cell BK197.out 2).trans rfl
                    have hcz23_3 : wr.cell? ⟨gb197, 3, none⟩ = some (.slice A0_3 l0_3.length c0_3) := (blk_cell BK197.out 3).trans rfl
                    have hfz23_0 := blk_frozen BK197.out 0
                    have hfz23_1 := blk_frozen BK197.out 1
                    have hfz23_2 := blk_frozen BK197.out 2
                    have hfz23_3 := blk_frozen BK197.out 3
                    have p199 : 0 ≤ (x48_3 : Int) := of_decide_eq_true (by (with_reducible assumption))
                    have q199 : x48_3 < (l0_2.length : Int) := of_decide_eq_true (by (with_reducible assumption))
                    obtain ⟨ad199, A199_3, c199_3, e199, hx199_0, hx199_1, hx199_2, hx199_3, hl199_3, hi199_3⟩ := at_T44 HR0_2.out x48_3 p199 q199
                    cases e199
                    replace hx199_0 := (HB.out.cell (World.block_lt_of_cell? w _ hx199_0)).trans hx199_0
                    replace hx199_1 := (HB.out.cell (World.block_lt_of_cell? w _ hx199_1)).trans hx199_1
                    replace hx199_2 := (HB.out.cell (World.block_lt_of_cell? w _ hx199_2)).trans hx199_2
                    replace hx199_3 := (HB.out.cell (World.block_lt_of_cell? w _ hx199_3)).trans hx199_3
                    have HR199_3 := Aside0.mk hi199_3
                    have HC199_3 := Aside0.mk hl199_3
                    clear hi199_3 hl199_3
                    replace p199 := eq_true p199
                    replace q199 := eq_true q199
                    go_wp2
                    go_roundg k3
                    case measure => have := HJ1.out; have := HK2.out; have := HK3.out; omega
                    case rel => exact ⟨(wrap64 (x3_3 + (ji22))), (wrap64 (x48_3 + 1)), (by rfl), (by rfl), H', ⟨by have := HJ1.out; have := HK2.out; have := HK3.out; omega⟩, ⟨by (with_reducible repeat (fail)); exact BK197.out⟩, ⟨by repeat ((with_reducible exact HB.out))⟩⟩
                  rw [if_neg c21] at H
                  exact absurd H (by simp)
                rw [if_neg c20] at H
                exact absurd H (by simp)
              rw [if_neg c19] at H
              have c19b0 : decide (x48_3 < (l0_2.length : Int)) = false := decide_eq_false c19
              clear c19
              have H' := Aside0.mk H
              clear H
              have hcz24_0 : wr.cell? ⟨gb197, 0, none⟩ = some (.slice A0_0 l0_0.length c0_0) := (blk_cell BK197.out 0).trans rfl
              have hcz24_1 : wr.cell? ⟨gb197, 1, none⟩ = some (.slice A0_1 l0_1.length c0_1) := (blk_cell BK197.out 1).trans rfl
              have hcz24_2 : wr.cell? ⟨gb197, 2, none⟩ = some (.slice A0_2 l0_2.length c0_2) := (blk_cell BK197.out 2).trans rfl
              have hcz24_3 : wr.cell? ⟨gb197, 3, none⟩ = some (.slice A0_3 l0_3.length c0_3) := (blk_cell BK197.out 3).trans rfl
              have hfz24_0 := blk_frozen BK197.out 0
              have hfz24_1 := blk_frozen BK197.out 1
              have hfz24_2 := blk_frozen BK197.out 2
              have hfz24_3 := blk_frozen BK197.out 3
              go_wp2
              go_loopg [3, 65] k3 (fun kq v3 v65 w' => ∃ (x3_4 : Int) (x65_4 : Int), v3 = .int .i64 x3_4 ∧ v65 = .int .i64 x65_4 ∧ Aside0 (sacristanref09_Great.l2 kq x3_4 (l0_3.length : Int) x65_4 l0_0 l0_1 l0_2 l0_3 = some r) ∧ Aside0 (kq ≤ k3) ∧ Aside0 (w'.heap[gb197]? = some (.cells #[(.slice A0_0 l0_0.length c0_0), (.slice A0_1 l0_1.length c0_1), (.slice A0_2 l0_2.length c0_2), (.slice A0_3 l0_3.length c0_3)] 30 (0, 0))) ∧ Aside0 (Below w.heap.size w w'))
              case atStart => exact ⟨(x3_3), (0), (by rfl), (by rfl), H', ⟨Nat.le_refl _⟩, ⟨by (with_reducible repeat (fail)); exact BK197.out⟩, ⟨by repeat ((with_reducible exact HB.out))⟩⟩
              case round =>
                clear H' c19b0 hcz24_0 hcz24_1 hcz24_2 hcz24_3 hfz24_0 hfz24_1 hfz24_2 hfz24_3
                obtain ⟨x3_4, x65_4, rfl, rfl, HA, HK4, BK197, HB⟩ := hrel
                cases gk with
                | zero => exact absurd HA.out (by simp [sacristanref09_Great.l2])
                | succ k4 =>
                  have H := HA.out
                  clear HA
                  simp only [sacristanref09_Great.l2] at H
                  by_cases c25 : x65_4 < (l0_3.length : Int)
                  · rw [if_pos c25] at H
                    have c25b0 : decide (x65_4 < (l0_3.length : Int)) = true := decide_eq_true c25
                    clear c25
                    by_cases c26 : 0 ≤ x65_4
                    · rw [if_pos c26] at H
                      have c26b0 : decide (0 ≤ x65_4) = true := decide_eq_true c26
                      clear c26
                      by_cases c27 : x65_4 < (l0_3.length : Int)
                      · rw [if_pos c27] at H
                        have c27b0 : decide (x65_4 < (l0_3.length : Int)) = true := decide_eq_true c27
                        clear c27
                        obtain ⟨ji28, hji28⟩ : ∃ j_ : Int, (mn (((rd_T41 l0_3 x65_4).f0).length : Int) 70000) = j_ := ⟨_, rfl⟩
                        replace H : (sacristanref09_Great.l2 k4 (wrap64 (x3_4 + (ji28))) (l0_3.length : Int) (wrap64 (x65_4 + 1)) l0_0 l0_1 l0_2 l0_3) = some r := by ((rw [hji28] at H; exact H))
                        have hji28_ : (if 70000 < (((rd_T41 l0_3 x65_4).f0).length : Int) then 70000 else (((rd_T41 l0_3 x65_4).f0).length : Int)) = ji28 := hji28
                        have H' := Aside0.mk H
                        clear H
                        have hcz29_0 : wr.cell? ⟨gb197, 0, none⟩ = some (.slice A0_0 l0_0.length c0_0) := (blk_cell BK197.out 0).trans rfl
                        have hcz29_1 : wr.cell? ⟨gb197, 1, none⟩ = some (.slice A0_1 l0_1.length c0_1) := (blk_cell BK197.out 1).trans rfl
                        have hcz29_2 : wr.cell? ⟨gb197, 2, none⟩ = some (.slice A0_2 l0_2.length c0_2) := (blk_cell BK197.out 2).trans rfl
                        have hcz29_3 : wr.cell? ⟨gb197, 3, none⟩ = some (.slice A0_3 l0_3.length c0_3) := (blk_cell BK197.out 3).trans rfl
                        have hfz29_0 := blk_frozen BK197.out 0
                        have hfz29_1 := blk_frozen BK197.out 1
                        have hfz29_2 := blk_frozen BK197.out 2
                        have hfz29_3 := blk_frozen BK197.out 3
                        have p200 : 0 ≤ (x65_4 : Int) := of_decide_eq_true (by (with_reducible assumption))
                        have q200 : x65_4 < (l0_3.length : Int) := of_decide_eq_true (by (with_reducible assumption))
                        obtain ⟨ad200, A200_0, c200_0, e200, hx200_0, hx200_1, hx200_2, hl200_0, hi200_0⟩ := at_T41 HR0_3.out x65_4 p200 q200
                        cases e200
                        replace hx200_0 := (HB.out.cell (World.block_lt_of_cell? w _ hx200_0)).trans hx200_0
                        replace hx200_1 := (HB.out.cell (World.block_lt_of_cell? w _ hx200_1)).trans hx200_1
                        replace hx200_2 := (HB.out.cell (World.block_lt_of_cell? w _ hx200_2)).trans hx200_2
                        have HR200_0 := Aside0.mk hi200_0
                        have HC200_0 := Aside0.mk hl200_0
                        clear hi200_0 hl200_0
                        replace p200 := eq_true p200
                        replace q200 := eq_true q200
                        go_wp2
                        go_roundg k4
                        case measure => have := HJ1.out; have := HK2.out; have := HK3.out; have := HK4.out; omega
                        case rel => exact ⟨(wrap64 (x3_4 + (ji28))), (wrap64 (x65_4 + 1)), (by rfl), (by rfl), H', ⟨by have := HJ1.out; have := HK2.out; have := HK3.out; have := HK4.out; omega⟩, ⟨by (with_reducible repeat (fail)); exact BK197.out⟩, ⟨by repeat ((with_reducible exact HB.out))⟩⟩
                      rw [if_neg c27] at H
                      exact absurd H (by simp)
                    rw [if_neg c26] at H
                    exact absurd H (by simp)
                  rw [if_neg c25] at H
                  have c25b0 : decide (x65_4 < (l0_3.length : Int)) = false := decide_eq_false c25
                  clear c25
                  obtain rfl := Option.some.inj H
                  go_wp2
                  go_ret
                  exact ⟨by rfl, by repeat ((with_reducible exact HB.out))⟩

/-! ### sacristanref09_place: function 46 -/
def sacristanref09_place.f (a0 : Int) (a1 : Int) : Option (Bool) := if a0 ≥ 0 then (some (decide (a0 < a1))) else (some false)
set_option maxHeartbeats 8000000 in
set_option maxRecDepth 100000 in
theorem sacristanref09_place.calls (a0 : Int) (a1 : Int) (r : Bool) (w : World) (h : sacristanref09_place.f a0 a1 = some r) :
    Calls Tryd.prog 46 #[.int .i64 a0, .int .i64 a1] w fun e w' => e = .returned (.bool r) ∧ Drawn0 w w' := by
  have H : (if a0 ≥ 0 then (some (decide (a0 < a1))) else (some false)) = some r := h
  clear h
  by_cases c3 : a0 ≥ 0
  · rw [if_pos c3] at H
    have c3b0 : decide (0 ≤ a0) = true := decide_eq_true c3
    clear c3
    obtain rfl := Option.some.inj H
    go_enter Tryd.func46, Tryd.ntmps46
    go_wp2
    go_ret
    exact ⟨by rfl, by repeat (exact Drawn0.refl _)⟩
  rw [if_neg c3] at H
  have c3b0 : decide (0 ≤ a0) = false := decide_eq_false c3
  clear c3
  obtain rfl := Option.some.inj H
  go_enter Tryd.func46, Tryd.ntmps46
  go_wp2
  go_ret
  exact ⟨by rfl, by repeat (exact Drawn0.refl _)⟩

/-! ### sacristanref05_in: function 78 -/
def sacristanref05_in.l0 : Nat → ByteArray → List ByteArray → Int → Int → Option (Bool)
  | 0, _, _, _, _ => none
  | k + 1, x0, x1, x7, x8 => if x8 < x7 then (if 0 ≤ x8 then (if x8 < (x1.length : Int) then (if (rdOf ByteArray.empty x1 x8).toList = x0.toList then (some true) else (sacristanref05_in.l0 k x0 x1 x7 (wrap64 (x8 + 1)))) else (none)) else (none)) else (some false)
def sacristanref05_in.f (k : Nat) (a0 : ByteArray) (l1 : List ByteArray) : Option (Bool) := sacristanref05_in.l0 k a0 l1 (l1.length : Int) 0
theorem sacristanref05_in.mono_l : ∀ k, (∀ y0 y1 y2 y3, LeO (sacristanref05_in.l0 k y0 y1 y2 y3) (sacristanref05_in.l0 (k + 1) y0 y1 y2 y3))
  | 0 => fun _ _ _ _ r h => by simp [sacristanref05_in.l0] at h
  | k + 1 => by
    have ih0 := sacristanref05_in.mono_l k
    · intro y0 y1 y2 y3
      unfold sacristanref05_in.l0
      repeat' first | (with_reducible exact ih0 _ _ _ _) | (with_reducible exact LeO.refl _) | (with_reducible refine LeO.ite ?_ ?_)
theorem sacristanref05_in.mono : ∀ a0 a1 k, LeO (sacristanref05_in.f k a0 a1) (sacristanref05_in.f (k + 1) a0 a1) := by
  intro a0 a1 k
  have ih0 := sacristanref05_in.mono_l k
  unfold sacristanref05_in.f
  repeat' (with_reducible exact ih0 _ _ _ _)
set_option maxHeartbeats 8000000 in
set_option maxRecDepth 100000 in
theorem sacristanref05_in.calls (k : Nat) (a0 : ByteArray) (A1 : Option Addr) (c1 : Nat) (l1 : List ByteArray) (r : Bool) (w : World) (hr1 : Kd.C Kd.string w A1 l1.length l1) (hc1 : l1.length ≤ c1) (h : sacristanref05_in.f k a0 l1 = some r) :
    Calls Tryd.prog 78 #[.string a0, .slice A1 l1.length c1] w fun e w' => e = .returned (.bool r) ∧ Drawn0 w w' := by
  have HR1 := Aside0.mk hr1
  have HC1 := Aside0.mk hc1
  clear hr1 hc1
  have H : (sacristanref05_in.l0 k a0 l1 (l1.length : Int) 0) = some r := h
  clear h
  have H' := Aside0.mk H
  clear H
  go_enter Tryd.func78, Tryd.ntmps78
  go_wp2
  go_loopg [8] k (fun kq v8 w' => ∃ (x8_1 : Int), v8 = .int .i64 x8_1 ∧ Aside0 (sacristanref05_in.l0 kq a0 l1 (l1.length : Int) x8_1 = some r) ∧ Aside0 (kq ≤ k) ∧ Drawn0 w w')
  case atStart => exact ⟨(0), (by rfl), H', ⟨Nat.le_refl _⟩, by repeat (exact Drawn0.refl _)⟩
  case round =>
    clear H'
    obtain ⟨x8_1, rfl, HA, HK1, ⟨m1, rfl⟩⟩ := hrel
    cases gk with
    | zero => exact absurd HA.out (by simp [sacristanref05_in.l0])
    | succ k1 =>
      have H := HA.out
      clear HA
      simp only [sacristanref05_in.l0] at H
      by_cases c3 : x8_1 < (l1.length : Int)
      · rw [if_pos c3] at H
        have c3b0 : decide (x8_1 < (l1.length : Int)) = true := decide_eq_true c3
        clear c3
        by_cases c4 : 0 ≤ x8_1
        · rw [if_pos c4] at H
          have c4b0 : decide (0 ≤ x8_1) = true := decide_eq_true c4
          clear c4
          by_cases c5 : x8_1 < (l1.length : Int)
          · rw [if_pos c5] at H
            have c5b0 : decide (x8_1 < (l1.length : Int)) = true := decide_eq_true c5
            clear c5
            by_cases c6 : (rdOf ByteArray.empty l1 x8_1).toList = a0.toList
            · rw [if_pos c6] at H
              have c6b0 : ((rdOf ByteArray.empty l1 x8_1).toList == a0.toList) = true := beq_iff_eq.mpr c6
              have c6b1 : ((rdOf ByteArray.empty l1 x8_1).toList != a0.toList) = false := bne_eq_false_iff_eq.mpr c6
              clear c6
              obtain rfl := Option.some.inj H
              have p201 : 0 ≤ (x8_1 : Int) := of_decide_eq_true (by (with_reducible assumption))
              have q201 : x8_1 < (l1.length : Int) := of_decide_eq_true (by (with_reducible assumption))
              obtain ⟨ad201, e201, hx201_0⟩ := Kd.at_string HR1.out x8_1 p201 q201
              cases e201
              replace p201 := eq_true p201
              replace q201 := eq_true q201
              go_wp2
              go_ret
              exact ⟨by rfl, by repeat (first | exact Drawn0.refl _ | apply Drawn0.step)⟩
            rw [if_neg c6] at H
            have c6b0 : ((rdOf ByteArray.empty l1 x8_1).toList == a0.toList) = false := beq_eq_false_iff_ne.mpr c6
            have c6b1 : ((rdOf ByteArray.empty l1 x8_1).toList != a0.toList) = true := bne_iff_ne.mpr c6
            have H' := Aside0.mk H
            clear H
            have p201 : 0 ≤ (x8_1 : Int) := of_decide_eq_true (by (with_reducible assumption))
            have q201 : x8_1 < (l1.length : Int) := of_decide_eq_true (by (with_reducible assumption))
            obtain ⟨ad201, e201, hx201_0⟩ := Kd.at_string HR1.out x8_1 p201 q201
            cases e201
            replace p201 := eq_true p201
            replace q201 := eq_true q201
            go_wp2
            go_roundg k1
            case measure => have := HK1.out; omega
            case rel => exact ⟨(wrap64 (x8_1 + 1)), (by rfl), H', ⟨by have := HK1.out; omega⟩, by repeat (first | exact Drawn0.refl _ | apply Drawn0.step)⟩
          rw [if_neg c5] at H
          exact absurd H (by simp)
        rw [if_neg c4] at H
        exact absurd H (by simp)
      rw [if_neg c3] at H
      have c3b0 : decide (x8_1 < (l1.length : Int)) = false := decide_eq_false c3
      clear c3
      obtain rfl := Option.some.inj H
      go_wp2
      go_ret
      exact ⟨by rfl, by repeat (first | exact Drawn0.refl _ | apply Drawn0.step)⟩

end Go.Proofs.YtfncoldcjhkhiaaDoor.PC
