-- Own text: made by this session's variant of the printer (wip/mkpp.py); Lean checks it.
import Derived.Deep.RegionWith
import Derived.Test.YtfncoldcjhkhiaaDoorPCx0
import Derived.Test.YtfncoldcjhkhiaaDoorPCx2
import Derived.Test.YtfncoldcjhkhiaaDoorPCx6
import Derived.Test.YtfncoldcjhkhiaaDoorPCx7
namespace Go.Proofs.YtfncoldcjhkhiaaDoor.PC
open Go.RowKit Go.Proofs.YtfncoldcjhkhiaaDoorW.PrintWords Go.Proofs.YtfncoldcjhkhiaaDoorW.PrintLast Go.Proofs.YtfncoldcjhkhiaaDoorW.PrintMore Go.Proofs.YtfncoldcjhkhiaaDoorW.Own
attribute [local go_sem high] own_gtr own_leq own_geq
attribute [local go_sem] max2_int min2_int max_two min_two max_three min_three max_four min_four   -- for this text's walks alone
set_option linter.unusedVariables false
set_option linter.unusedSimpArgs false

/-! ### sacristanref09_Effect: function 21 -/
mutual
def sacristanref09_Effect.j7 : Nat → Int → Int → Option (Int × Int × Bool)
  | 0, _, _ => none
  | k + 1, x7, x8 => if x7 < 0 then (some (0, 0, false)) else (some (x7, x8, true))
def sacristanref09_Effect.j0 : Nat → Int → Int → Int → Bool → List Int → List ByteArray → List (S44) → List (S41) → Int → Int → Option (Int × Int × Bool)
  | 0, _, _, _, _, _, _, _, _, _, _ => none
  | k + 1, x7, x8, x10, x27, x215000, x215001, x215002, x215003, x216000, x216001 => if x27 = true then (sacristanref09_Effect.j7 k 0 x8) else (if x10 = 7 then (sacristanref09_Effect.j1 k x7 x8 x10 (x10 == 7) x215000 x215001 x215002 x215003 x216000 x216001) else (if x10 = 12 then (sacristanref09_Effect.j1 k x7 x8 x10 (x10 == 12) x215000 x215001 x215002 x215003 x216000 x216001) else (if x10 = 14 then (sacristanref09_Effect.j1 k x7 x8 x10 (x10 == 14) x215000 x215001 x215002 x215003 x216000 x216001) else (sacristanref09_Effect.j1 k x7 x8 x10 (x10 == 15) x215000 x215001 x215002 x215003 x216000 x216001))))
def sacristanref09_Effect.j1 : Nat → Int → Int → Int → Bool → List Int → List ByteArray → List (S44) → List (S41) → Int → Int → Option (Int × Int × Bool)
  | 0, _, _, _, _, _, _, _, _, _, _ => none
  | k + 1, x7, x8, x10, x33, x215000, x215001, x215002, x215003, x216000, x216001 => if x33 = true then (sacristanref09_Effect.j7 k 1 0) else (if x10 = 9 then ((sacristanref09_place.f x216001 (x215002.length : Int)).bind fun t218 => (if t218 = true then (if 0 ≤ x216001 then (if x216001 < (x215002.length : Int) then (sacristanref09_Effect.j7 k ((rd_T44 x215002 x216001).f2) x8) else (none)) else (none)) else (sacristanref09_Effect.j7 k x7 x8))) else (if x10 = 10 then (sacristanref09_Effect.j2 k x7 x8 x10 (x10 == 10) x215000 x215001 x215002 x215003 x216000 x216001) else (sacristanref09_Effect.j2 k x7 x8 x10 (x10 == 11) x215000 x215001 x215002 x215003 x216000 x216001)))
def sacristanref09_Effect.j2 : Nat → Int → Int → Int → Bool → List Int → List ByteArray → List (S44) → List (S41) → Int → Int → Option (Int × Int × Bool)
  | 0, _, _, _, _, _, _, _, _, _, _ => none
  | k + 1, x7, x8, x10, x53, x215000, x215001, x215002, x215003, x216000, x216001 => if x53 = true then (if x216001 ≥ 0 then (sacristanref09_Effect.j3 k x7 x8 (decide (x216001 ≤ 200)) x216000 x216001) else (sacristanref09_Effect.j3 k x7 x8 false x216000 x216001)) else (if x10 = 13 then (sacristanref09_Effect.j7 k 0 0) else (if x10 = 16 then ((sacristanref09_place.f x216001 32).bind fun t220 => (if t220 = true then ((sacristanref09_Words.f).bind fun t221 => (if 0 ≤ x216001 then (if x216001 < (t221.length : Int) then ((sacristanref05_Takes.f k (rdOf ByteArray.empty t221 x216001)).bind fun t225 => (sacristanref09_Effect.j7 k t225 x8)) else (none)) else (none))) else (sacristanref09_Effect.j7 k x7 x8))) else (if x10 = 17 then ((sacristanref09_place.f x216001 (x215001.length : Int)).bind fun t226 => (if t226 = true then (sacristanref09_Effect.j7 k 1 x8) else (sacristanref09_Effect.j7 k x7 x8))) else (if x10 = 18 then ((sacristanref09_place.f x216001 (x215003.length : Int)).bind fun t227 => (if t227 = true then (if 0 ≤ x216001 then (if x216001 < (x215003.length : Int) then (if (rd_T41 x215003 x216001).f1 = true then (sacristanref09_Effect.j5 k (wrap64 ((wrap64 (1 + (((rd_T41 x215003 x216001).f0).length : Int))) + 1)) x8 x215000 x215001 x215002 x215003 x216000 x216001) else (sacristanref09_Effect.j5 k (wrap64 (1 + (((rd_T41 x215003 x216001).f0).length : Int))) x8 x215000 x215001 x215002 x215003 x216000 x216001)) else (none)) else (none)) else (sacristanref09_Effect.j7 k x7 x8))) else (if x10 = 19 then (sacristanref09_Effect.j6 k x7 x8 x10 (x10 == 19)) else (sacristanref09_Effect.j6 k x7 x8 x10 (x10 == 20)))))))
def sacristanref09_Effect.j3 : Nat → Int → Int → Bool → Int → Int → Option (Int × Int × Bool)
  | 0, _, _, _, _, _ => none
  | k + 1, x7, x8, x63, x216000, x216001 => if x63 = true then (sacristanref09_Effect.j4 k (wrap64 (x216001 + 1)) x8 x216000 x216001) else (sacristanref09_Effect.j4 k x7 x8 x216000 x216001)
def sacristanref09_Effect.j4 : Nat → Int → Int → Int → Int → Option (Int × Int × Bool)
  | 0, _, _, _, _ => none
  | k + 1, x7, x8, x216000, x216001 => if x216000 = 11 then (sacristanref09_Effect.j7 k x7 0) else (sacristanref09_Effect.j7 k x7 x8)
def sacristanref09_Effect.j5 : Nat → Int → Int → List Int → List ByteArray → List (S44) → List (S41) → Int → Int → Option (Int × Int × Bool)
  | 0, _, _, _, _, _, _, _, _ => none
  | k + 1, x7, x8, x215000, x215001, x215002, x215003, x216000, x216001 => if 0 ≤ x216001 then (if x216001 < (x215003.length : Int) then (if (rd_T41 x215003 x216001).f2 = true then (sacristanref09_Effect.j7 k (wrap64 (x7 + 1)) x8) else (sacristanref09_Effect.j7 k x7 x8)) else (none)) else (none)
def sacristanref09_Effect.j6 : Nat → Int → Int → Int → Bool → Option (Int × Int × Bool)
  | 0, _, _, _, _ => none
  | k + 1, x7, x8, x10, x126 => if x126 = true then (sacristanref09_Effect.j7 k 2 x8) else (if x10 = 21 then (sacristanref09_Effect.j7 k 3 x8) else (if x10 = 22 then (sacristanref09_Effect.j7 k 2 0) else (sacristanref09_Effect.j7 k x7 x8)))
end
def sacristanref09_Effect.f (k : Nat) (l0_0 : List Int) (l0_1 : List ByteArray) (l0_2 : List (S44)) (l0_3 : List (S41)) (a1_0 : Int) (a1_1 : Int) : Option (Int × Int × Bool) := if a1_0 = 1 then ((sacristanref09_place.f a1_1 (l0_0.length : Int)).bind fun t216 => (if t216 = true then (sacristanref09_Effect.j7 k 0 1) else (sacristanref09_Effect.j7 k (-1) 1))) else (if a1_0 = 2 then ((sacristanref09_place.f a1_1 (l0_1.length : Int)).bind fun t217 => (if t217 = true then (sacristanref09_Effect.j7 k 0 1) else (sacristanref09_Effect.j7 k (-1) 1))) else (if a1_0 = 3 then (sacristanref09_Effect.j0 k (-1) 1 a1_0 (a1_0 == 3) l0_0 l0_1 l0_2 l0_3 a1_0 a1_1) else (if a1_0 = 4 then (sacristanref09_Effect.j0 k (-1) 1 a1_0 (a1_0 == 4) l0_0 l0_1 l0_2 l0_3 a1_0 a1_1) else (if a1_0 = 5 then (sacristanref09_Effect.j0 k (-1) 1 a1_0 (a1_0 == 5) l0_0 l0_1 l0_2 l0_3 a1_0 a1_1) else (if a1_0 = 6 then (sacristanref09_Effect.j0 k (-1) 1 a1_0 (a1_0 == 6) l0_0 l0_1 l0_2 l0_3 a1_0 a1_1) else (sacristanref09_Effect.j0 k (-1) 1 a1_0 (a1_0 == 8) l0_0 l0_1 l0_2 l0_3 a1_0 a1_1))))))
theorem sacristanref09_Effect.mono_l : ∀ k, (∀ y0 y1, LeO (sacristanref09_Effect.j7 k y0 y1) (sacristanref09_Effect.j7 (k + 1) y0 y1)) ∧ (∀ y0 y1 y2 y3 y4 y5 y6 y7 y8 y9, LeO (sacristanref09_Effect.j0 k y0 y1 y2 y3 y4 y5 y6 y7 y8 y9) (sacristanref09_Effect.j0 (k + 1) y0 y1 y2 y3 y4 y5 y6 y7 y8 y9)) ∧ (∀ y0 y1 y2 y3 y4 y5 y6 y7 y8 y9, LeO (sacristanref09_Effect.j1 k y0 y1 y2 y3 y4 y5 y6 y7 y8 y9) (sacristanref09_Effect.j1 (k + 1) y0 y1 y2 y3 y4 y5 y6 y7 y8 y9)) ∧ (∀ y0 y1 y2 y3 y4 y5 y6 y7 y8 y9, LeO (sacristanref09_Effect.j2 k y0 y1 y2 y3 y4 y5 y6 y7 y8 y9) (sacristanref09_Effect.j2 (k + 1) y0 y1 y2 y3 y4 y5 y6 y7 y8 y9)) ∧ (∀ y0 y1 y2 y3 y4, LeO (sacristanref09_Effect.j3 k y0 y1 y2 y3 y4) (sacristanref09_Effect.j3 (k + 1) y0 y1 y2 y3 y4)) ∧ (∀ y0 y1 y2 y3, LeO (sacristanref09_Effect.j4 k y0 y1 y2 y3) (sacristanref09_Effect.j4 (k + 1) y0 y1 y2 y3)) ∧ (∀ y0 y1 y2 y3 y4 y5 y6 y7, LeO (sacristanref09_Effect.j5 k y0 y1 y2 y3 y4 y5 y6 y7) (sacristanref09_Effect.j5 (k + 1) y0 y1 y2 y3 y4 y5 y6 y7)) ∧ (∀ y0 y1 y2 y3, LeO (sacristanref09_Effect.j6 k y0 y1 y2 y3) (sacristanref09_Effect.j6 (k + 1) y0 y1 y2 y3))
  | 0 => ⟨fun _ _ r h => by simp [sacristanref09_Effect.j7] at h, fun _ _ _ _ _ _ _ _ _ _ r h => by simp [sacristanref09_Effect.j0] at h, fun _ _ _ _ _ _ _ _ _ _ r h => by simp [sacristanref09_Effect.j1] at h, fun _ _ _ _ _ _ _ _ _ _ r h => by simp [sacristanref09_Effect.j2] at h, fun _ _ _ _ _ r h => by simp [sacristanref09_Effect.j3] at h, fun _ _ _ _ r h => by simp [sacristanref09_Effect.j4] at h, fun _ _ _ _ _ _ _ _ r h => by simp [sacristanref09_Effect.j5] at h, fun _ _ _ _ r h => by simp [sacristanref09_Effect.j6] at h⟩
  | k + 1 => by
    obtain ⟨ih0, ih1, ih2, ih3, ih4, ih5, ih6, ih7⟩ := sacristanref09_Effect.mono_l k
    refine ⟨?_, ?_, ?_, ?_, ?_, ?_, ?_, ?_⟩
    · intro y0 y1
      unfold sacristanref09_Effect.j7
      repeat' (with_reducible exact LeO.refl _)
    · intro y0 y1 y2 y3 y4 y5 y6 y7 y8 y9
      unfold sacristanref09_Effect.j0
      repeat' first | (with_reducible exact ih0 _ _) | (with_reducible exact ih2 _ _ _ _ _ _ _ _ _ _) | (with_reducible refine LeO.ite ?_ ?_)
    · intro y0 y1 y2 y3 y4 y5 y6 y7 y8 y9
      unfold sacristanref09_Effect.j1
      repeat' first | (with_reducible exact ih0 _ _) | (with_reducible exact ih3 _ _ _ _ _ _ _ _ _ _) | (with_reducible exact LeO.refl _) | (with_reducible refine LeO.ite ?_ ?_) | (with_reducible refine LeO.bind ?_ (fun _ => ?_))
    · intro y0 y1 y2 y3 y4 y5 y6 y7 y8 y9
      unfold sacristanref09_Effect.j2
      repeat' first | (with_reducible exact ih0 _ _) | (with_reducible exact ih4 _ _ _ _ _) | (with_reducible exact ih6 _ _ _ _ _ _ _ _) | (with_reducible exact ih7 _ _ _ _) | (with_reducible exact sacristanref05_Takes.mono _ _) | (with_reducible exact LeO.refl _) | (with_reducible refine LeO.ite ?_ ?_) | (with_reducible refine LeO.bind ?_ (fun _ => ?_))
    · intro y0 y1 y2 y3 y4
      unfold sacristanref09_Effect.j3
      repeat' first | (with_reducible exact ih5 _ _ _ _) | (with_reducible refine LeO.ite ?_ ?_)
    · intro y0 y1 y2 y3
      unfold sacristanref09_Effect.j4
      repeat' first | (with_reducible exact ih0 _ _) | (with_reducible refine LeO.ite ?_ ?_)
    · intro y0 y1 y2 y3 y4 y5 y6 y7
      unfold sacristanref09_Effect.j5
      repeat' first | (with_reducible exact ih0 _ _) | (with_reducible exact LeO.refl _) | (with_reducible refine LeO.ite ?_ ?_)
    · intro y0 y1 y2 y3
      unfold sacristanref09_Effect.j6
      repeat' first | (with_reducible exact ih0 _ _) | (with_reducible refine LeO.ite ?_ ?_)
theorem sacristanref09_Effect.mono : ∀ a0 a1 a2 a3 a4 a5 k, LeO (sacristanref09_Effect.f k a0 a1 a2 a3 a4 a5) (sacristanref09_Effect.f (k + 1) a0 a1 a2 a3 a4 a5) := by
  intro a0 a1 a2 a3 a4 a5 k
  obtain ⟨ih0, ih1, ih2, ih3, ih4, ih5, ih6, ih7⟩ := sacristanref09_Effect.mono_l k
  unfold sacristanref09_Effect.f
  repeat' first | (with_reducible exact ih0 _ _) | (with_reducible exact ih1 _ _ _ _ _ _ _ _ _ _) | (with_reducible exact LeO.refl _) | (with_reducible refine LeO.ite ?_ ?_) | (with_reducible refine LeO.bind ?_ (fun _ => ?_))
set_option maxHeartbeats 8000000 in
set_option maxRecDepth 100000 in
theorem sacristanref09_Effect.calls (k : Nat) (A0_0 : Option Addr) (c0_0 : Nat) (l0_0 : List Int) (A0_1 : Option Addr) (c0_1 : Nat) (l0_1 : List ByteArray) (A0_2 : Option Addr) (c0_2 : Nat) (l0_2 : List (S44)) (A0_3 : Option Addr) (c0_3 : Nat) (l0_3 : List (S41)) (a1_0 : Int) (a1_1 : Int) (r1 : Int) (r2 : Int) (r3 : Bool) (w : World) (hr0_0 : Kd.C (Kd.int .i64) w A0_0 l0_0.length l0_0) (hc0_0 : l0_0.length ≤ c0_0) (hr0_1 : Kd.C Kd.string w A0_1 l0_1.length l0_1) (hc0_1 : l0_1.length ≤ c0_1) (hr0_2 : Kd.C k44 w A0_2 l0_2.length l0_2) (hc0_2 : l0_2.length ≤ c0_2) (hr0_3 : Kd.C k41 w A0_3 l0_3.length l0_3) (hc0_3 : l0_3.length ≤ c0_3) (h : sacristanref09_Effect.f k l0_0 l0_1 l0_2 l0_3 a1_0 a1_1 = some (r1, r2, r3)) :
    Calls Tryd.prog 21 #[.agg #[.slice A0_0 l0_0.length c0_0, .slice A0_1 l0_1.length c0_1, .slice A0_2 l0_2.length c0_2, .slice A0_3 l0_3.length c0_3], .agg #[.int .u8 a1_0, .int .i64 a1_1]] w fun e w' => e = .returned (.tuple #[.int .i64 r1, .int .i64 r2, .bool r3]) ∧ Below w.heap.size w w' := by
  have hu30 := Tryd.underlying30
  have hu32 := Tryd.underlying32
  have HR0_0 := Aside0.mk hr0_0
  have HC0_0 := Aside0.mk hc0_0
  clear hr0_0 hc0_0
  have HR0_1 := Aside0.mk hr0_1
  have HC0_1 := Aside0.mk hc0_1
  clear hr0_1 hc0_1
  have HR0_2 := Aside0.mk hr0_2
  have HC0_2 := Aside0.mk hc0_2
  clear hr0_2 hc0_2
  have HR0_3 := Aside0.mk hr0_3
  have HC0_3 := Aside0.mk hc0_3
  clear hr0_3 hc0_3
  have HB := Aside0.mk (Below.refl w.heap.size w)
  have H : (if a1_0 = 1 then ((sacristanref09_place.f a1_1 (l0_0.length : Int)).bind fun t216 => (if t216 = true then (sacristanref09_Effect.j7 k 0 1) else (sacristanref09_Effect.j7 k (-1) 1))) else (if a1_0 = 2 then ((sacristanref09_place.f a1_1 (l0_1.length : Int)).bind fun t217 => (if t217 = true then (sacristanref09_Effect.j7 k 0 1) else (sacristanref09_Effect.j7 k (-1) 1))) else (if a1_0 = 3 then (sacristanref09_Effect.j0 k (-1) 1 a1_0 (a1_0 == 3) l0_0 l0_1 l0_2 l0_3 a1_0 a1_1) else (if a1_0 = 4 then (sacristanref09_Effect.j0 k (-1) 1 a1_0 (a1_0 == 4) l0_0 l0_1 l0_2 l0_3 a1_0 a1_1) else (if a1_0 = 5 then (sacristanref09_Effect.j0 k (-1) 1 a1_0 (a1_0 == 5) l0_0 l0_1 l0_2 l0_3 a1_0 a1_1) else (if a1_0 = 6 then (sacristanref09_Effect.j0 k (-1) 1 a1_0 (a1_0 == 6) l0_0 l0_1 l0_2 l0_3 a1_0 a1_1) else (sacristanref09_Effect.j0 k (-1) 1 a1_0 (a1_0 == 8) l0_0 l0_1 l0_2 l0_3 a1_0 a1_1))))))) = some (r1, r2, r3) := h
  clear h
  have HC3 := Aside0.mk H
  clear H
  go_enter Tryd.func21, Tryd.ntmps21
  go_upto_block 0 with (first | ((with_reducible refine gate_dst (N := 2) rfl ?_); refine box_event ?hg (N := 2) ?hd (cs := #[.slice A0_0 l0_0.length c0_0, .slice A0_1 l0_1.length c0_1, .slice A0_2 l0_2.length c0_2, .slice A0_3 l0_3.length c0_3]) (t := 30) ?hr ?_; (case hd => rfl); (case hg => rfl); (case hr => ((go_simp; done))); intro gb214 hg w4 hbox hb; have n0_ := Aside0.mk (below_step (by repeat ((with_reducible exact HB.out))) hb); have n1_ := Aside0.mk (hbox); have n2_ := Aside0.mk ((by rw [hg]; exact (below_size (by repeat ((with_reducible exact HB.out)))) : w.heap.size ≤ gb214)); have n3_ := Aside0.mk ((by rw [hg]; exact (below_size (by repeat ((with_reducible exact HB.out)))) : w.heap.size ≤ gb214)); clear HB; have HB := n0_; have BK214 := n1_; have GW214 := n2_; have GE214 := n3_; clear n0_ n1_ n2_ n3_; clear hb hbox hg) | ((with_reducible refine gate_dst (N := 3) rfl ?_); refine box_event ?hg (N := 3) ?hd (cs := #[.int .u8 a1_0, .int .i64 a1_1]) (t := 32) ?hr ?_; (case hd => rfl); (case hg => rfl); (case hr => ((go_simp; done))); intro gb215 hg w5 hbox hb; have n0_ := Aside0.mk (blk_below (g := gb214) (o := .cells #[.slice A0_0 l0_0.length c0_0, .slice A0_1 l0_1.length c0_1, .slice A0_2 l0_2.length c0_2, .slice A0_3 l0_3.length c0_3] 30 (0, 0)) (by (with_reducible repeat (fail)); exact BK214.out) hb); have n1_ := Aside0.mk (below_step (by repeat ((with_reducible exact HB.out))) hb); have n2_ := Aside0.mk (hbox); have n3_ := Aside0.mk ((by rw [hg]; exact (below_size (by repeat ((with_reducible exact HB.out)))) : w.heap.size ≤ gb215)); have n4_ := Aside0.mk ((by rw [hg]; exact (below_size (by repeat ((with_reducible exact HB.out)))) : w.heap.size ≤ gb215)); have n5_ := Aside0.mk ((by rw [hg]; exact Nat.ne_of_lt (blk_lt (g := gb214) (o := .cells #[.slice A0_0 l0_0.length c0_0, .slice A0_1 l0_1.length c0_1, .slice A0_2 l0_2.length c0_2, .slice A0_3 l0_3.length c0_3] 30 (0, 0)) (by (with_reducible repeat (fail)); exact BK214.out)) : gb214 ≠ gb215)); have n6_ := Aside0.mk ((by rw [hg]; exact Nat.ne_of_gt (blk_lt (g := gb214) (o := .cells #[.slice A0_0 l0_0.length c0_0, .slice A0_1 l0_1.length c0_1, .slice A0_2 l0_2.length c0_2, .slice A0_3 l0_3.length c0_3] 30 (0, 0)) (by (with_reducible repeat (fail)); exact BK214.out)) : gb215 ≠ gb214)); clear BK214; clear HB; have BK214 := n0_; have HB := n1_; have BK215 := n2_; have GW215 := n3_; have GE215 := n4_; have NB214_215 := n5_; have NB215_214 := n6_; clear n0_ n1_ n2_ n3_ n4_ n5_ n6_; clear hb hbox hg; have hnb6 := NB215_214.out; have hnc6 := NB214_215.out; have hcz7_0 : w5.cell? ⟨gb215, 0, none⟩ = some (.int .u8 a1_0) := (blk_cell BK215.out 0).trans rfl; have hcz7_1 : w5.cell? ⟨gb215, 1, none⟩ = some (.int .i64 a1_1) := (blk_cell BK215.out 1).trans rfl; have hfz7_0 := blk_frozen BK215.out 0; have hfz7_1 := blk_frozen BK215.out 1))
  go_cut [7, 8] (fun v7 v8 wc => ∃ (kq : Nat) (x7_2 : Int) (x8_2 : Int), v7 = .int .i64 x7_2 ∧ v8 = .int .i64 x8_2 ∧ Aside0 (sacristanref09_Effect.j7 kq x7_2 x8_2 = some (r1, r2, r3)) ∧ Aside0 (kq ≤ k) ∧ Aside0 (wc.heap[gb215]? = some (.cells #[.int .u8 a1_0, .int .i64 a1_1] 32 (0, 0))) ∧ Aside0 (Below w.heap.size w wc))
  case first =>
    have H := HC3.out
    clear HC3
    by_cases c8 : a1_0 = 1
    · rw [if_pos c8] at H
      have c8b0 : (a1_0 == 1) = true := beq_iff_eq.mpr c8
      have c8b1 : (a1_0 != 1) = false := bne_eq_false_iff_eq.mpr c8
      clear c8
      (skip)
      replace H := Option.bind_eq_some_iff.mp H
      obtain ⟨t216, A90, H⟩ := H
      replace H : (if t216 = true then (sacristanref09_Effect.j7 k 0 1) else (sacristanref09_Effect.j7 k (-1) 1)) = some (r1, r2, r3) := H
      have A9 := Aside0.mk A90
      clear A90
      by_cases c10 : t216 = true
      · subst c10
        have H1 : (sacristanref09_Effect.j7 k 0 1) = some (r1, r2, r3) := by rw [if_pos rfl] at H; exact H
        clear H
        have H := H1
        clear H1
        have H' := Aside0.mk H
        clear H
        have hnb11 := NB215_214.out
        have hnc11 := NB214_215.out
        have hcz12_0 : w5.cell? ⟨gb215, 0, none⟩ = some (.int .u8 a1_0) := (blk_cell BK215.out 0).trans rfl
        have hcz12_1 : w5.cell? ⟨gb215, 1, none⟩ = some (.int .i64 a1_1) := (blk_cell BK215.out 1).trans rfl
        have hfz12_0 := blk_frozen BK215.out 0
        have hfz12_1 := blk_frozen BK215.out 1
        have hcz13_0 : w5.cell? ⟨gb214, 0, none⟩ = some (.slice A0_0 l0_0.length c0_0) := (blk_cell BK214.out 0).trans rfl
        have hcz13_1 : w5.cell? ⟨gb214, 1, none⟩ = some (.slice A0_1 l0_1.length c0_1) := (blk_cell BK214.out 1).trans rfl
        have hcz13_2 : w5.cell? ⟨gb214, 2, none⟩ = some (.slice A0_2 l0_2.length c0_2) := (blk_cell BK214.out 2).trans rfl
        have hcz13_3 : w5.cell? ⟨gb214, 3, none⟩ = some (.slice A0_3 l0_3.length c0_3) := (blk_cell BK214.out 3).trans rfl
        have hfz13_0 := blk_frozen BK214.out 0
        have hfz13_1 := blk_frozen BK214.out 1
        have hfz13_2 := blk_frozen BK214.out 2
        have hfz13_3 := blk_frozen BK214.out 3
        go_wp2_with (((with_reducible refine gate_callee (f := 46) rfl ?_); refine goesL_ (some 18) rfl rfl Tryd.func46 (by kernel_rfl) rfl #[.int .i64 a1_1, .int .i64 (l0_0.length : Int)] rfl (by (try simp only [List.map_toArray, List.map_cons, List.map_nil]); rfl) ?_; (with_reducible refine (sacristanref09_place.calls a1_1 (l0_0.length : Int) true _ A9.out).mono ?_); rintro e w' ⟨rfl, ⟨nd, rfl⟩⟩; refine ⟨_, rfl, ?_⟩))
        go_meet
        case rel => exact ⟨_, (0), (1), (by rfl), (by rfl), H', ⟨by omega⟩, ⟨by (with_reducible repeat (refine blk_drewN ?_ _)); exact BK215.out⟩, ⟨by repeat ((with_reducible first | exact HB.out | apply pw_below_drewN))⟩⟩
      replace c10 := Bool.eq_false_iff.mpr c10
      subst c10
      have H1 : (sacristanref09_Effect.j7 k (-1) 1) = some (r1, r2, r3) := by rw [if_neg (show ¬ (false = true) by decide)] at H; exact H
      clear H
      have H := H1
      clear H1
      have H' := Aside0.mk H
      clear H
      have hnb14 := NB215_214.out
      have hnc14 := NB214_215.out
      have hcz15_0 : w5.cell? ⟨gb215, 0, none⟩ = some (.int .u8 a1_0) := (blk_cell BK215.out 0).trans rfl
      have hcz15_1 : w5.cell? ⟨gb215, 1, none⟩ = some (.int .i64 a1_1) := (blk_cell BK215.out 1).trans rfl
      have hfz15_0 := blk_frozen BK215.out 0
      have hfz15_1 := blk_frozen BK215.out 1
      have hcz16_0 : w5.cell? ⟨gb214, 0, none⟩ = some (.slice A0_0 l0_0.length c0_0) := (blk_cell BK214.out 0).trans rfl
      have hcz16_1 : w5.cell? ⟨gb214, 1, none⟩ = some (.slice A0_1 l0_1.length c0_1) := (blk_cell BK214.out 1).trans rfl
      have hcz16_2 : w5.cell? ⟨gb214, 2, none⟩ = some (.slice A0_2 l0_2.length c0_2) := (blk_cell BK214.out 2).trans rfl
      have hcz16_3 : w5.cell? ⟨gb214, 3, none⟩ = some (.slice A0_3 l0_3.length c0_3) := (blk_cell BK214.out 3).trans rfl
      have hfz16_0 := blk_frozen BK214.out 0
      have hfz16_1 := blk_frozen BK214.out 1
      have hfz16_2 := blk_frozen BK214.out 2
      have hfz16_3 := blk_frozen BK214.out 3
      go_wp2_with (((with_reducible refine gate_callee (f := 46) rfl ?_); refine goesL_ (some 18) rfl rfl Tryd.func46 (by kernel_rfl) rfl #[.int .i64 a1_1, .int .i64 (l0_0.length : Int)] rfl (by (try simp only [List.map_toArray, List.map_cons, List.map_nil]); rfl) ?_; (with_reducible refine (sacristanref09_place.calls a1_1 (l0_0.length : Int) false _ A9.out).mono ?_); rintro e w' ⟨rfl, ⟨nd, rfl⟩⟩; refine ⟨_, rfl, ?_⟩))
      go_meet
      case rel => exact ⟨_, ((-1)), (1), (by rfl), (by rfl), H', ⟨by omega⟩, ⟨by (with_reducible repeat (refine blk_drewN ?_ _)); exact BK215.out⟩, ⟨by repeat ((with_reducible first | exact HB.out | apply pw_below_drewN))⟩⟩
    rw [if_neg c8] at H
    have c8b0 : (a1_0 == 1) = false := beq_eq_false_iff_ne.mpr c8
    have c8b1 : (a1_0 != 1) = true := bne_iff_ne.mpr c8
    (skip)
    by_cases c17 : a1_0 = 2
    · rw [if_pos c17] at H
      have c17b0 : (a1_0 == 2) = true := beq_iff_eq.mpr c17
      have c17b1 : (a1_0 != 2) = false := bne_eq_false_iff_eq.mpr c17
      clear c17
      replace H := Option.bind_eq_some_iff.mp H
      obtain ⟨t217, A180, H⟩ := H
      replace H : (if t217 = true then (sacristanref09_Effect.j7 k 0 1) else (sacristanref09_Effect.j7 k (-1) 1)) = some (r1, r2, r3) := H
      have A18 := Aside0.mk A180
      clear A180
      by_cases c19 : t217 = true
      · subst c19
        have H1 : (sacristanref09_Effect.j7 k 0 1) = some (r1, r2, r3) := by rw [if_pos rfl] at H; exact H
        clear H
        have H := H1
        clear H1
        have H' := Aside0.mk H
        clear H
        have hnb20 := NB215_214.out
        have hnc20 := NB214_215.out
        have hcz21_0 : w5.cell? ⟨gb215, 0, none⟩ = some (.int .u8 a1_0) := (blk_cell BK215.out 0).trans rfl
        have hcz21_1 : w5.cell? ⟨gb215, 1, none⟩ = some (.int .i64 a1_1) := (blk_cell BK215.out 1).trans rfl
        have hfz21_0 := blk_frozen BK215.out 0
        have hfz21_1 := blk_frozen BK215.out 1
        have hcz22_0 : w5.cell? ⟨gb214, 0, none⟩ = some (.slice A0_0 l0_0.length c0_0) := (blk_cell BK214.out 0).trans rfl
        have hcz22_1 : w5.cell? ⟨gb214, 1, none⟩ = some (.slice A0_1 l0_1.length c0_1) := (blk_cell BK214.out 1).trans rfl
        have hcz22_2 : w5.cell? ⟨gb214, 2, none⟩ = some (.slice A0_2 l0_2.length c0_2) := (blk_cell BK214.out 2).trans rfl
        have hcz22_3 : w5.cell? ⟨gb214, 3, none⟩ = some (.slice A0_3 l0_3.length c0_3) := (blk_cell BK214.out 3).trans rfl
        have hfz22_0 := blk_frozen BK214.out 0
        have hfz22_1 := blk_frozen BK214.out 1
        have hfz22_2 := blk_frozen BK214.out 2
        have hfz22_3 := blk_frozen BK214.out 3
        go_wp2_with (((with_reducible refine gate_callee (f := 46) rfl ?_); refine goesL_ (some 26) rfl rfl Tryd.func46 (by kernel_rfl) rfl #[.int .i64 a1_1, .int .i64 (l0_1.length : Int)] rfl (by (try simp only [List.map_toArray, List.map_cons, List.map_nil]); rfl) ?_; (with_reducible refine (sacristanref09_place.calls a1_1 (l0_1.length : Int) true _ A18.out).mono ?_); rintro e w' ⟨rfl, ⟨nd, rfl⟩⟩; refine ⟨_, rfl, ?_⟩))
        go_meet
        case rel => exact ⟨_, (0), (1), (by rfl), (by rfl), H', ⟨by omega⟩, ⟨by (with_reducible repeat (refine blk_drewN ?_ _)); exact BK215.out⟩, ⟨by repeat ((with_reducible first | exact HB.out | apply pw_below_drewN))⟩⟩
      replace c19 := Bool.eq_false_iff.mpr c19
      subst c19
      have H1 : (sacristanref09_Effect.j7 k (-1) 1) = some (r1, r2, r3) := by rw [if_neg (show ¬ (false = true) by decide)] at H; exact H
      clear H
      have H := H1
      clear H1
      have H' := Aside0.mk H
      clear H
      have hnb23 := NB215_214.out
      have hnc23 := NB214_215.out
      have hcz24_0 : w5.cell? ⟨gb215, 0, none⟩ = some (.int .u8 a1_0) := (blk_cell BK215.out 0).trans rfl
      have hcz24_1 : w5.cell? ⟨gb215, 1, none⟩ = some (.int .i64 a1_1) := (blk_cell BK215.out 1).trans rfl
      have hfz24_0 := blk_frozen BK215.out 0
      have hfz24_1 := blk_frozen BK215.out 1
      have hcz25_0 : w5.cell? ⟨gb214, 0, none⟩ = some (.slice A0_0 l0_0.length c0_0) := (blk_cell BK214.out 0).trans rfl
      have hcz25_1 : w5.cell? ⟨gb214, 1, none⟩ = some (.slice A0_1 l0_1.length c0_1) := (blk_cell BK214.out 1).trans rfl
      have hcz25_2 : w5.cell? ⟨gb214, 2, none⟩ = some (.slice A0_2 l0_2.length c0_2) := (blk_cell BK214.out 2).trans rfl
      have hcz25_3 : w5.cell? ⟨gb214, 3, none⟩ = some (.slice A0_3 l0_3.length c0_3) := (blk_cell BK214.out 3).trans rfl
      have hfz25_0 := blk_frozen BK214.out 0
      have hfz25_1 := blk_frozen BK214.out 1
      have hfz25_2 := blk_frozen BK214.out 2
      have hfz25_3 := blk_frozen BK214.out 3
      go_wp2_with (((with_reducible refine gate_callee (f := 46) rfl ?_); refine goesL_ (some 26) rfl rfl Tryd.func46 (by kernel_rfl) rfl #[.int .i64 a1_1, .int .i64 (l0_1.length : Int)] rfl (by (try simp only [List.map_toArray, List.map_cons, List.map_nil]); rfl) ?_; (with_reducible refine (sacristanref09_place.calls a1_1 (l0_1.length : Int) false _ A18.out).mono ?_); rintro e w' ⟨rfl, ⟨nd, rfl⟩⟩; refine ⟨_, rfl, ?_⟩))
      go_meet
      case rel => exact ⟨_, ((-1)), (1), (by rfl), (by rfl), H', ⟨by omega⟩, ⟨by (with_reducible repeat (refine blk_drewN ?_ _)); exact BK215.out⟩, ⟨by repeat ((with_reducible first | exact HB.out | apply pw_below_drewN))⟩⟩
    rw [if_neg c17] at H
    have c17b0 : (a1_0 == 2) = false := beq_eq_false_iff_ne.mpr c17
    have c17b1 : (a1_0 != 2) = true := bne_iff_ne.mpr c17
    have HC26 := Aside0.mk H
    clear H
    go_upto_if 27 with (fail)
    go_cut [27] (fun v27 wc => ∃ (kq : Nat) (x27_25 : Bool), v27 = .bool x27_25 ∧ Aside0 (sacristanref09_Effect.j0 kq (-1) 1 a1_0 x27_25 l0_0 l0_1 l0_2 l0_3 a1_0 a1_1 = some (r1, r2, r3)) ∧ Aside0 (kq ≤ k) ∧ Aside0 (wc.heap[gb214]? = some (.cells #[(.slice A0_0 l0_0.length c0_0), (.slice A0_1 l0_1.length c0_1), (.slice A0_2 l0_2.length c0_2), (.slice A0_3 l0_3.length c0_3)] 30 (0, 0))) ∧ Aside0 (wc.heap[gb215]? = some (.cells #[.int .u8 a1_0, .int .i64 a1_1] 32 (0, 0))) ∧ Aside0 (Below w.heap.size w wc))
    case first =>
      have H := HC26.out
      clear HC26
      by_cases c27 : a1_0 = 3
      · rw [if_pos c27] at H
        have c27b0 : (a1_0 == 3) = true := beq_iff_eq.mpr c27
        have c27b1 : (a1_0 != 3) = false := bne_eq_false_iff_eq.mpr c27
        clear c27
        (rw [c27b0])
        have H' := Aside0.mk H
        clear H
        go_wp2
        go_meet
        case rel => exact ⟨_, ((a1_0 == 3)), (by ((simp [*]; done))), H', ⟨by omega⟩, ⟨by (with_reducible repeat (fail)); exact BK214.out⟩, ⟨by (with_reducible repeat (fail)); exact BK215.out⟩, ⟨by repeat ((with_reducible exact HB.out))⟩⟩
      rw [if_neg c27] at H
      have c27b0 : (a1_0 == 3) = false := beq_eq_false_iff_ne.mpr c27
      have c27b1 : (a1_0 != 3) = true := bne_iff_ne.mpr c27
      (rw [c27b0])
      by_cases c28 : a1_0 = 4
      · rw [if_pos c28] at H
        have c28b0 : (a1_0 == 4) = true := beq_iff_eq.mpr c28
        have c28b1 : (a1_0 != 4) = false := bne_eq_false_iff_eq.mpr c28
        clear c28
        have H' := Aside0.mk H
        clear H
        go_wp2
        go_meet
        case rel => exact ⟨_, ((a1_0 == 4)), (by ((simp [*]; done))), H', ⟨by omega⟩, ⟨by (with_reducible repeat (fail)); exact BK214.out⟩, ⟨by (with_reducible repeat (fail)); exact BK215.out⟩, ⟨by repeat ((with_reducible exact HB.out))⟩⟩
      rw [if_neg c28] at H
      have c28b0 : (a1_0 == 4) = false := beq_eq_false_iff_ne.mpr c28
      have c28b1 : (a1_0 != 4) = true := bne_iff_ne.mpr c28
      by_cases c29 : a1_0 = 5
      · rw [if_pos c29] at H
        have c29b0 : (a1_0 == 5) = true := beq_iff_eq.mpr c29
        have c29b1 : (a1_0 != 5) = false := bne_eq_false_iff_eq.mpr c29
        clear c29
        have H' := Aside0.mk H
        clear H
        go_wp2
        go_meet
        case rel => exact ⟨_, ((a1_0 == 5)), (by ((simp [*]; done))), H', ⟨by omega⟩, ⟨by (with_reducible repeat (fail)); exact BK214.out⟩, ⟨by (with_reducible repeat (fail)); exact BK215.out⟩, ⟨by repeat ((with_reducible exact HB.out))⟩⟩
      rw [if_neg c29] at H
      have c29b0 : (a1_0 == 5) = false := beq_eq_false_iff_ne.mpr c29
      have c29b1 : (a1_0 != 5) = true := bne_iff_ne.mpr c29
      by_cases c30 : a1_0 = 6
      · rw [if_pos c30] at H
        have c30b0 : (a1_0 == 6) = true := beq_iff_eq.mpr c30
        have c30b1 : (a1_0 != 6) = false := bne_eq_false_iff_eq.mpr c30
        clear c30
        have H' := Aside0.mk H
        clear H
        go_wp2
        go_meet
        case rel => exact ⟨_, ((a1_0 == 6)), (by ((simp [*]; done))), H', ⟨by omega⟩, ⟨by (with_reducible repeat (fail)); exact BK214.out⟩, ⟨by (with_reducible repeat (fail)); exact BK215.out⟩, ⟨by repeat ((with_reducible exact HB.out))⟩⟩
      rw [if_neg c30] at H
      have c30b0 : (a1_0 == 6) = false := beq_eq_false_iff_ne.mpr c30
      have c30b1 : (a1_0 != 6) = true := bne_iff_ne.mpr c30
      have H' := Aside0.mk H
      clear H
      go_wp2
      go_meet
      case rel => exact ⟨_, ((a1_0 == 8)), (by rfl), H', ⟨by omega⟩, ⟨by (with_reducible repeat (fail)); exact BK214.out⟩, ⟨by (with_reducible repeat (fail)); exact BK215.out⟩, ⟨by repeat ((with_reducible exact HB.out))⟩⟩
    case rest =>
      clear HC26 c8 c8b0 c8b1 c17 c17b0 c17b1 hcz7_0 hcz7_1 hfz7_0 hfz7_1
      obtain ⟨kq, x27_25, rfl, HA, HJ25, BK214, BK215, HB⟩ := hcut
      cases kq with
      | zero => exact absurd HA.out (by simp [sacristanref09_Effect.j0])
      | succ kj25 =>
        have H := HA.out
        clear HA
        simp only [sacristanref09_Effect.j0] at H
        by_cases c31 : x27_25 = true
        · subst c31
          have H1 : (sacristanref09_Effect.j7 kj25 0 1) = some (r1, r2, r3) := by rw [if_pos rfl] at H; exact H
          clear H
          have H := H1
          clear H1
          have H' := Aside0.mk H
          clear H
          go_wp2
          go_meet
          case rel => exact ⟨_, (0), (1), (by rfl), (by rfl), H', ⟨by have := HJ25.out; omega⟩, ⟨by (with_reducible repeat (fail)); exact BK215.out⟩, ⟨by repeat ((with_reducible exact HB.out))⟩⟩
        replace c31 := Bool.eq_false_iff.mpr c31
        subst c31
        have H1 : (if a1_0 = 7 then (sacristanref09_Effect.j1 kj25 (-1) 1 a1_0 (a1_0 == 7) l0_0 l0_1 l0_2 l0_3 a1_0 a1_1) else (if a1_0 = 12 then (sacristanref09_Effect.j1 kj25 (-1) 1 a1_0 (a1_0 == 12) l0_0 l0_1 l0_2 l0_3 a1_0 a1_1) else (if a1_0 = 14 then (sacristanref09_Effect.j1 kj25 (-1) 1 a1_0 (a1_0 == 14) l0_0 l0_1 l0_2 l0_3 a1_0 a1_1) else (sacristanref09_Effect.j1 kj25 (-1) 1 a1_0 (a1_0 == 15) l0_0 l0_1 l0_2 l0_3 a1_0 a1_1)))) = some (r1, r2, r3) := by rw [if_neg (show ¬ (false = true) by decide)] at H; exact H
        clear H
        have H := H1
        clear H1
        have HC32 := Aside0.mk H
        clear H
        go_upto_if 33 with (fail)
        go_cut [33] (fun v33 wc => ∃ (kq : Nat) (x33_31 : Bool), v33 = .bool x33_31 ∧ Aside0 (sacristanref09_Effect.j1 kq (-1) 1 a1_0 x33_31 l0_0 l0_1 l0_2 l0_3 a1_0 a1_1 = some (r1, r2, r3)) ∧ Aside0 (kq ≤ kj25) ∧ Aside0 (wc.heap[gb214]? = some (.cells #[(.slice A0_0 l0_0.length c0_0), (.slice A0_1 l0_1.length c0_1), (.slice A0_2 l0_2.length c0_2), (.slice A0_3 l0_3.length c0_3)] 30 (0, 0))) ∧ Aside0 (wc.heap[gb215]? = some (.cells #[.int .u8 a1_0, .int .i64 a1_1] 32 (0, 0))) ∧ Aside0 (Below w.heap.size w wc))
        case first =>
          have H := HC32.out
          clear HC32
          by_cases c33 : a1_0 = 7
          · rw [if_pos c33] at H
            have c33b0 : (a1_0 == 7) = true := beq_iff_eq.mpr c33
            have c33b1 : (a1_0 != 7) = false := bne_eq_false_iff_eq.mpr c33
            clear c33
            (rw [c33b0])
            have H' := Aside0.mk H
            clear H
            go_wp2
            go_meet
            case rel => exact ⟨_, ((a1_0 == 7)), (by ((simp [*]; done))), H', ⟨by have := HJ25.out; omega⟩, ⟨by (with_reducible repeat (fail)); exact BK214.out⟩, ⟨by (with_reducible repeat (fail)); exact BK215.out⟩, ⟨by repeat ((with_reducible exact HB.out))⟩⟩
          rw [if_neg c33] at H
          have c33b0 : (a1_0 == 7) = false := beq_eq_false_iff_ne.mpr c33
          have c33b1 : (a1_0 != 7) = true := bne_iff_ne.mpr c33
          (rw [c33b0])
          by_cases c34 : a1_0 = 12
          · rw [if_pos c34] at H
            have c34b0 : (a1_0 == 12) = true := beq_iff_eq.mpr c34
            have c34b1 : (a1_0 != 12) = false := bne_eq_false_iff_eq.mpr c34
            clear c34
            have H' := Aside0.mk H
            clear H
            go_wp2
            go_meet
            case rel => exact ⟨_, ((a1_0 == 12)), (by ((simp [*]; done))), H', ⟨by have := HJ25.out; omega⟩, ⟨by (with_reducible repeat (fail)); exact BK214.out⟩, ⟨by (with_reducible repeat (fail)); exact BK215.out⟩, ⟨by repeat ((with_reducible exact HB.out))⟩⟩
          rw [if_neg c34] at H
          have c34b0 : (a1_0 == 12) = false := beq_eq_false_iff_ne.mpr c34
          have c34b1 : (a1_0 != 12) = true := bne_iff_ne.mpr c34
          by_cases c35 : a1_0 = 14
          · rw [if_pos c35] at H
            have c35b0 : (a1_0 == 14) = true := beq_iff_eq.mpr c35
            have c35b1 : (a1_0 != 14) = false := bne_eq_false_iff_eq.mpr c35
            clear c35
            have H' := Aside0.mk H
            clear H
            go_wp2
            go_meet
            case rel => exact ⟨_, ((a1_0 == 14)), (by ((simp [*]; done))), H', ⟨by have := HJ25.out; omega⟩, ⟨by (with_reducible repeat (fail)); exact BK214.out⟩, ⟨by (with_reducible repeat (fail)); exact BK215.out⟩, ⟨by repeat ((with_reducible exact HB.out))⟩⟩
          rw [if_neg c35] at H
          have c35b0 : (a1_0 == 14) = false := beq_eq_false_iff_ne.mpr c35
          have c35b1 : (a1_0 != 14) = true := bne_iff_ne.mpr c35
          have H' := Aside0.mk H
          clear H
          go_wp2
          go_meet
          case rel => exact ⟨_, ((a1_0 == 15)), (by rfl), H', ⟨by have := HJ25.out; omega⟩, ⟨by (with_reducible repeat (fail)); exact BK214.out⟩, ⟨by (with_reducible repeat (fail)); exact BK215.out⟩, ⟨by repeat ((with_reducible exact HB.out))⟩⟩
        case rest =>
          clear HC32
          obtain ⟨kq, x33_31, rfl, HA, HJ31, BK214, BK215, HB⟩ := hcut
          cases kq with
          | zero => exact absurd HA.out (by simp [sacristanref09_Effect.j1])
          | succ kj31 =>
            have H := HA.out
            clear HA
            simp only [sacristanref09_Effect.j1] at H
            by_cases c36 : x33_31 = true
            · subst c36
              have H1 : (sacristanref09_Effect.j7 kj31 1 0) = some (r1, r2, r3) := by rw [if_pos rfl] at H; exact H
              clear H
              have H := H1
              clear H1
              have H' := Aside0.mk H
              clear H
              go_wp2
              go_meet
              case rel => exact ⟨_, (1), (0), (by rfl), (by rfl), H', ⟨by have := HJ25.out; have := HJ31.out; omega⟩, ⟨by (with_reducible repeat (fail)); exact BK215.out⟩, ⟨by repeat ((with_reducible exact HB.out))⟩⟩
            replace c36 := Bool.eq_false_iff.mpr c36
            subst c36
            have H1 : (if a1_0 = 9 then ((sacristanref09_place.f a1_1 (l0_2.length : Int)).bind fun t218 => (if t218 = true then (if 0 ≤ a1_1 then (if a1_1 < (l0_2.length : Int) then (sacristanref09_Effect.j7 kj31 ((rd_T44 l0_2 a1_1).f2) 1) else (none)) else (none)) else (sacristanref09_Effect.j7 kj31 (-1) 1))) else (if a1_0 = 10 then (sacristanref09_Effect.j2 kj31 (-1) 1 a1_0 (a1_0 == 10) l0_0 l0_1 l0_2 l0_3 a1_0 a1_1) else (sacristanref09_Effect.j2 kj31 (-1) 1 a1_0 (a1_0 == 11) l0_0 l0_1 l0_2 l0_3 a1_0 a1_1))) = some (r1, r2, r3) := by rw [if_neg (show ¬ (false = true) by decide)] at H; exact H
            clear H
            have H := H1
            clear H1
            by_cases c37 : a1_0 = 9
            · rw [if_pos c37] at H
              have c37b0 : (a1_0 == 9) = true := beq_iff_eq.mpr c37
              have c37b1 : (a1_0 != 9) = false := bne_eq_false_iff_eq.mpr c37
              clear c37
              replace H := Option.bind_eq_some_iff.mp H
              obtain ⟨t218, A380, H⟩ := H
              have A38 := Aside0.mk A380
              clear A380
              by_cases c39 : t218 = true
              · subst c39
                have H1 : (if 0 ≤ a1_1 then (if a1_1 < (l0_2.length : Int) then (sacristanref09_Effect.j7 kj31 ((rd_T44 l0_2 a1_1).f2) 1) else (none)) else (none)) = some (r1, r2, r3) := by rw [if_pos rfl] at H; exact H
                clear H
                have H := H1
                clear H1
                by_cases c40 : 0 ≤ a1_1
                · rw [if_pos c40] at H
                  have c40b0 : decide (0 ≤ a1_1) = true := decide_eq_true c40
                  clear c40
                  by_cases c41 : a1_1 < (l0_2.length : Int)
                  · rw [if_pos c41] at H
                    have c41b0 : decide (a1_1 < (l0_2.length : Int)) = true := decide_eq_true c41
                    clear c41
                    have H' := Aside0.mk H
                    clear H
                    have hnb42 := NB215_214.out
                    have hnc42 := NB214_215.out
                    have hcz43_0 : wc.cell? ⟨gb215, 0, none⟩ = some (.int .u8 a1_0) := (blk_cell BK215.out 0).trans rfl
                    have hcz43_1 : wc.cell? ⟨gb215, 1, none⟩ = some (.int .i64 a1_1) := (blk_cell BK215.out 1).trans rfl
                    have hfz43_0 := blk_frozen BK215.out 0
                    have hfz43_1 := blk_frozen BK215.out 1
                    have hcz44_0 : wc.cell? ⟨gb214, 0, none⟩ = some (.slice A0_0 l0_0.length c0_0) := (blk_cell BK214.out 0).trans rfl
                    have hcz44_1 : wc.cell? ⟨gb214, 1, none⟩ = some (.slice A0_1 l0_1.length c0_1) := (blk_cell BK214.out 1).trans rfl
                    have hcz44_2 : wc.cell? ⟨gb214, 2, none⟩ = some (.slice A0_2 l0_2.length c0_2) := (blk_cell BK214.out 2).trans rfl
                    have hcz44_3 : wc.cell? ⟨gb214, 3, none⟩ = some (.slice A0_3 l0_3.length c0_3) := (blk_cell BK214.out 3).trans rfl
                    have hfz44_0 := blk_frozen BK214.out 0
                    have hfz44_1 := blk_frozen BK214.out 1
                    have hfz44_2 := blk_frozen BK214.out 2
                    have hfz44_3 := blk_frozen BK214.out 3
                    go_wp2_with (((with_reducible refine gate_callee (f := 46) rfl ?_); refine goesL_ (some 45) rfl rfl Tryd.func46 (by kernel_rfl) rfl #[.int .i64 a1_1, .int .i64 (l0_2.length : Int)] rfl (by (try simp only [List.map_toArray, List.map_cons, List.map_nil]); rfl) ?_; (with_reducible refine (sacristanref09_place.calls a1_1 (l0_2.length : Int) true _ A38.out).mono ?_); rintro e w' ⟨rfl, ⟨nd, rfl⟩⟩; refine ⟨_, rfl, ?_⟩; have p219 : 0 ≤ (a1_1 : Int) := of_decide_eq_true (by (with_reducible assumption)); have q219 : a1_1 < (l0_2.length : Int) := of_decide_eq_true (by (with_reducible assumption)); obtain ⟨ad219, A219_3, c219_3, e219, hx219_0, hx219_1, hx219_2, hx219_3, hl219_3, hi219_3⟩ := at_T44 HR0_2.out a1_1 p219 q219; cases e219; replace hx219_0 := (HB.out.cell (World.block_lt_of_cell? w _ hx219_0)).trans hx219_0; replace hx219_1 := (HB.out.cell (World.block_lt_of_cell? w _ hx219_1)).trans hx219_1; replace hx219_2 := (HB.out.cell (World.block_lt_of_cell? w _ hx219_2)).trans hx219_2; replace hx219_3 := (HB.out.cell (World.block_lt_of_cell? w _ hx219_3)).trans hx219_3; have HR219_3 := Aside0.mk hi219_3; have HC219_3 := Aside0.mk hl219_3; clear hi219_3 hl219_3; replace p219 := eq_true p219; replace q219 := eq_true q219))
                    go_meet
                    case rel => exact ⟨_, ((rd_T44 l0_2 a1_1).f2), (1), (by rfl), (by rfl), H', ⟨by have := HJ25.out; have := HJ31.out; omega⟩, ⟨by (with_reducible repeat (refine blk_drewN ?_ _)); exact BK215.out⟩, ⟨by repeat ((with_reducible first | exact HB.out | apply pw_below_drewN))⟩⟩
                  rw [if_neg c41] at H
                  exact absurd H (by simp)
                rw [if_neg c40] at H
                exact absurd H (by simp)
              replace c39 := Bool.eq_false_iff.mpr c39
              subst c39
              have H1 : (sacristanref09_Effect.j7 kj31 (-1) 1) = some (r1, r2, r3) := by rw [if_neg (show ¬ (false = true) by decide)] at H; exact H
              clear H
              have H := H1
              clear H1
              have H' := Aside0.mk H
              clear H
              have hnb45 := NB215_214.out
              have hnc45 := NB214_215.out
              have hcz46_0 : wc.cell? ⟨gb215, 0, none⟩ = some (.int .u8 a1_0) := (blk_cell BK215.out 0).trans rfl
              have hcz46_1 : wc.cell? ⟨gb215, 1, none⟩ = some (.int .i64 a1_1) := (blk_cell BK215.out 1).trans rfl
              have hfz46_0 := blk_frozen BK215.out 0
              have hfz46_1 := blk_frozen BK215.out 1
              have hcz47_0 : wc.cell? ⟨gb214, 0, none⟩ = some (.slice A0_0 l0_0.length c0_0) := (blk_cell BK214.out 0).trans rfl
              have hcz47_1 : wc.cell? ⟨gb214, 1, none⟩ = some (.slice A0_1 l0_1.length c0_1) := (blk_cell BK214.out 1).trans rfl
              have hcz47_2 : wc.cell? ⟨gb214, 2, none⟩ = some (.slice A0_2 l0_2.length c0_2) := (blk_cell BK214.out 2).trans rfl
              have hcz47_3 : wc.cell? ⟨gb214, 3, none⟩ = some (.slice A0_3 l0_3.length c0_3) := (blk_cell BK214.out 3).trans rfl
              have hfz47_0 := blk_frozen BK214.out 0
              have hfz47_1 := blk_frozen BK214.out 1
              have hfz47_2 := blk_frozen BK214.out 2
              have hfz47_3 := blk_frozen BK214.out 3
              go_wp2_with (((with_reducible refine gate_callee (f := 46) rfl ?_); refine goesL_ (some 45) rfl rfl Tryd.func46 (by kernel_rfl) rfl #[.int .i64 a1_1, .int .i64 (l0_2.length : Int)] rfl (by (try simp only [List.map_toArray, List.map_cons, List.map_nil]); rfl) ?_; (with_reducible refine (sacristanref09_place.calls a1_1 (l0_2.length : Int) false _ A38.out).mono ?_); rintro e w' ⟨rfl, ⟨nd, rfl⟩⟩; refine ⟨_, rfl, ?_⟩))
              go_meet
              case rel => exact ⟨_, ((-1)), (1), (by rfl), (by rfl), H', ⟨by have := HJ25.out; have := HJ31.out; omega⟩, ⟨by (with_reducible repeat (refine blk_drewN ?_ _)); exact BK215.out⟩, ⟨by repeat ((with_reducible first | exact HB.out | apply pw_below_drewN))⟩⟩
            rw [if_neg c37] at H
            have c37b0 : (a1_0 == 9) = false := beq_eq_false_iff_ne.mpr c37
            have c37b1 : (a1_0 != 9) = true := bne_iff_ne.mpr c37
            have HC48 := Aside0.mk H
            clear H
            go_upto_if 53 with (fail)
            go_cut [53] (fun v53 wc => ∃ (kq : Nat) (x53_47 : Bool), v53 = .bool x53_47 ∧ Aside0 (sacristanref09_Effect.j2 kq (-1) 1 a1_0 x53_47 l0_0 l0_1 l0_2 l0_3 a1_0 a1_1 = some (r1, r2, r3)) ∧ Aside0 (kq ≤ kj31) ∧ Aside0 (wc.heap[gb214]? = some (.cells #[(.slice A0_0 l0_0.length c0_0), (.slice A0_1 l0_1.length c0_1), (.slice A0_2 l0_2.length c0_2), (.slice A0_3 l0_3.length c0_3)] 30 (0, 0))) ∧ Aside0 (wc.heap[gb215]? = some (.cells #[.int .u8 a1_0, .int .i64 a1_1] 32 (0, 0))) ∧ Aside0 (Below w.heap.size w wc))
            case first =>
              have H := HC48.out
              clear HC48
              by_cases c49 : a1_0 = 10
              · rw [if_pos c49] at H
                have c49b0 : (a1_0 == 10) = true := beq_iff_eq.mpr c49
                have c49b1 : (a1_0 != 10) = false := bne_eq_false_iff_eq.mpr c49
                clear c49
                (rw [c49b0])
                have H' := Aside0.mk H
                clear H
                go_wp2
                go_meet
                case rel => exact ⟨_, ((a1_0 == 10)), (by ((simp [*]; done))), H', ⟨by have := HJ25.out; have := HJ31.out; omega⟩, ⟨by (with_reducible repeat (fail)); exact BK214.out⟩, ⟨by (with_reducible repeat (fail)); exact BK215.out⟩, ⟨by repeat ((with_reducible exact HB.out))⟩⟩
              rw [if_neg c49] at H
              have c49b0 : (a1_0 == 10) = false := beq_eq_false_iff_ne.mpr c49
              have c49b1 : (a1_0 != 10) = true := bne_iff_ne.mpr c49
              (rw [c49b0])
              have H' := Aside0.mk H
              clear H
              go_wp2
              go_meet
              case rel => exact ⟨_, ((a1_0 == 11)), (by rfl), H', ⟨by have := HJ25.out; have := HJ31.out; omega⟩, ⟨by (with_reducible repeat (fail)); exact BK214.out⟩, ⟨by (with_reducible repeat (fail)); exact BK215.out⟩, ⟨by repeat ((with_reducible exact HB.out))⟩⟩
            case rest =>
              clear HC48 c37 c37b0 c37b1
              obtain ⟨kq, x53_47, rfl, HA, HJ47, BK214, BK215, HB⟩ := hcut
              cases kq with
              | zero => exact absurd HA.out (by simp [sacristanref09_Effect.j2])
              | succ kj47 =>
                have H := HA.out
                clear HA
                simp only [sacristanref09_Effect.j2] at H
                by_cases c50 : x53_47 = true
                · subst c50
                  have H1 : (if a1_1 ≥ 0 then (sacristanref09_Effect.j3 kj47 (-1) 1 (decide (a1_1 ≤ 200)) a1_0 a1_1) else (sacristanref09_Effect.j3 kj47 (-1) 1 false a1_0 a1_1)) = some (r1, r2, r3) := by rw [if_pos rfl] at H; exact H
                  clear H
                  have H := H1
                  clear H1
                  have HC51 := Aside0.mk H
                  clear H
                  go_upto_region 27 with (fail)
                  go_cut [63] (fun v63 wc => ∃ (kq : Nat) (x63_50 : Bool), v63 = .bool x63_50 ∧ Aside0 (sacristanref09_Effect.j3 kq (-1) 1 x63_50 a1_0 a1_1 = some (r1, r2, r3)) ∧ Aside0 (kq ≤ kj47) ∧ Aside0 (wc.heap[gb214]? = some (.cells #[(.slice A0_0 l0_0.length c0_0), (.slice A0_1 l0_1.length c0_1), (.slice A0_2 l0_2.length c0_2), (.slice A0_3 l0_3.length c0_3)] 30 (0, 0))) ∧ Aside0 (wc.heap[gb215]? = some (.cells #[.int .u8 a1_0, .int .i64 a1_1] 32 (0, 0))) ∧ Aside0 (Below w.heap.size w wc))
                  case first =>
                    have H := HC51.out
                    clear HC51
                    by_cases c52 : a1_1 ≥ 0
                    · rw [if_pos c52] at H
                      have c52b0 : decide (0 ≤ a1_1) = true := decide_eq_true c52
                      clear c52
                      (skip)
                      have H' := Aside0.mk H
                      clear H
                      have hnb53 := NB215_214.out
                      have hnc53 := NB214_215.out
                      have hcz54_0 : wc.cell? ⟨gb215, 0, none⟩ = some (.int .u8 a1_0) := (blk_cell BK215.out 0).trans rfl
                      have hcz54_1 : wc.cell? ⟨gb215, 1, none⟩ = some (.int .i64 a1_1) := (blk_cell BK215.out 1).trans rfl
                      have hfz54_0 := blk_frozen BK215.out 0
                      have hfz54_1 := blk_frozen BK215.out 1
                      go_wp2
                      go_meet
                      case rel => exact ⟨_, (decide (a1_1 ≤ 200)), (by rfl), H', ⟨by have := HJ25.out; have := HJ31.out; have := HJ47.out; omega⟩, ⟨by (with_reducible repeat (fail)); exact BK214.out⟩, ⟨by (with_reducible repeat (fail)); exact BK215.out⟩, ⟨by repeat ((with_reducible exact HB.out))⟩⟩
                    rw [if_neg c52] at H
                    have c52b0 : decide (0 ≤ a1_1) = false := decide_eq_false c52
                    clear c52
                    (skip)
                    have H' := Aside0.mk H
                    clear H
                    have hnb55 := NB215_214.out
                    have hnc55 := NB214_215.out
                    have hcz56_0 : wc.cell? ⟨gb215, 0, none⟩ = some (.int .u8 a1_0) := (blk_cell BK215.out 0).trans rfl
                    have hcz56_1 : wc.cell? ⟨gb215, 1, none⟩ = some (.int .i64 a1_1) := (blk_cell BK215.out 1).trans rfl
                    have hfz56_0 := blk_frozen BK215.out 0
                    have hfz56_1 := blk_frozen BK215.out 1
                    go_wp2
                    go_meet
                    case rel => exact ⟨_, (false), (by rfl), H', ⟨by have := HJ25.out; have := HJ31.out; have := HJ47.out; omega⟩, ⟨by (with_reducible repeat (fail)); exact BK214.out⟩, ⟨by (with_reducible repeat (fail)); exact BK215.out⟩, ⟨by repeat ((with_reducible exact HB.out))⟩⟩
                  case rest =>
                    clear HC51
                    obtain ⟨kq, x63_50, rfl, HA, HJ50, BK214, BK215, HB⟩ := hcut
                    cases kq with
                    | zero => exact absurd HA.out (by simp [sacristanref09_Effect.j3])
                    | succ kj50 =>
                      have H := HA.out
                      clear HA
                      simp only [sacristanref09_Effect.j3] at H
                      have HC57 := Aside0.mk H
                      clear H
                      go_upto_if 63 with (fail)
                      go_cut [7] (fun v7 wc => ∃ (kq : Nat) (x7_56 : Int), v7 = .int .i64 x7_56 ∧ Aside0 (sacristanref09_Effect.j4 kq x7_56 1 a1_0 a1_1 = some (r1, r2, r3)) ∧ Aside0 (kq ≤ kj50) ∧ Aside0 (wc.heap[gb214]? = some (.cells #[(.slice A0_0 l0_0.length c0_0), (.slice A0_1 l0_1.length c0_1), (.slice A0_2 l0_2.length c0_2), (.slice A0_3 l0_3.length c0_3)] 30 (0, 0))) ∧ Aside0 (wc.heap[gb215]? = some (.cells #[.int .u8 a1_0, .int .i64 a1_1] 32 (0, 0))) ∧ Aside0 (Below w.heap.size w wc))
                      case first =>
                        have H := HC57.out
                        clear HC57
                        by_cases c58 : x63_50 = true
                        · subst c58
                          have H1 : (sacristanref09_Effect.j4 kj50 (wrap64 (a1_1 + 1)) 1 a1_0 a1_1) = some (r1, r2, r3) := by rw [if_pos rfl] at H; exact H
                          clear H
                          have H := H1
                          clear H1
                          have H' := Aside0.mk H
                          clear H
                          have hnb59 := NB215_214.out
                          have hnc59 := NB214_215.out
                          have hcz60_0 : wc.cell? ⟨gb215, 0, none⟩ = some (.int .u8 a1_0) := (blk_cell BK215.out 0).trans rfl
                          have hcz60_1 : wc.cell? ⟨gb215, 1, none⟩ = some (.int .i64 a1_1) := (blk_cell BK215.out 1).trans rfl
                          have hfz60_0 := blk_frozen BK215.out 0
                          have hfz60_1 := blk_frozen BK215.out 1
                          go_wp2
                          go_meet
                          case rel => exact ⟨_, (wrap64 (a1_1 + 1)), (by rfl), H', ⟨by have := HJ25.out; have := HJ31.out; have := HJ47.out; have := HJ50.out; omega⟩, ⟨by (with_reducible repeat (fail)); exact BK214.out⟩, ⟨by (with_reducible repeat (fail)); exact BK215.out⟩, ⟨by repeat ((with_reducible exact HB.out))⟩⟩
                        replace c58 := Bool.eq_false_iff.mpr c58
                        subst c58
                        have H1 : (sacristanref09_Effect.j4 kj50 (-1) 1 a1_0 a1_1) = some (r1, r2, r3) := by rw [if_neg (show ¬ (false = true) by decide)] at H; exact H
                        clear H
                        have H := H1
                        clear H1
                        have H' := Aside0.mk H
                        clear H
                        go_wp2
                        go_meet
                        case rel => exact ⟨_, ((-1)), (by rfl), H', ⟨by have := HJ25.out; have := HJ31.out; have := HJ47.out; have := HJ50.out; omega⟩, ⟨by (with_reducible repeat (fail)); exact BK214.out⟩, ⟨by (with_reducible repeat (fail)); exact BK215.out⟩, ⟨by repeat ((with_reducible exact HB.out))⟩⟩
                      case rest =>
                        clear HC57
                        obtain ⟨kq, x7_56, rfl, HA, HJ56, BK214, BK215, HB⟩ := hcut
                        cases kq with
                        | zero => exact absurd HA.out (by simp [sacristanref09_Effect.j4])
                        | succ kj56 =>
                          have H := HA.out
                          clear HA
                          simp only [sacristanref09_Effect.j4] at H
                          by_cases c61 : a1_0 = 11
                          · rw [if_pos c61] at H
                            have c61b0 : (a1_0 == 11) = true := beq_iff_eq.mpr c61
                            have c61b1 : (a1_0 != 11) = false := bne_eq_false_iff_eq.mpr c61
                            clear c61
                            have H' := Aside0.mk H
                            clear H
                            have hnb62 := NB215_214.out
                            have hnc62 := NB214_215.out
                            have hcz63_0 : wc.cell? ⟨gb215, 0, none⟩ = some (.int .u8 a1_0) := (blk_cell BK215.out 0).trans rfl
                            have hcz63_1 : wc.cell? ⟨gb215, 1, none⟩ = some (.int .i64 a1_1) := (blk_cell BK215.out 1).trans rfl
                            have hfz63_0 := blk_frozen BK215.out 0
                            have hfz63_1 := blk_frozen BK215.out 1
                            go_wp2
                            go_meet
                            case rel => exact ⟨_, (x7_56), (0), (by rfl), (by rfl), H', ⟨by have := HJ25.out; have := HJ31.out; have := HJ47.out; have := HJ50.out; have := HJ56.out; omega⟩, ⟨by (with_reducible repeat (fail)); exact BK215.out⟩, ⟨by repeat ((with_reducible exact HB.out))⟩⟩
                          rw [if_neg c61] at H
                          have c61b0 : (a1_0 == 11) = false := beq_eq_false_iff_ne.mpr c61
                          have c61b1 : (a1_0 != 11) = true := bne_iff_ne.mpr c61
                          have H' := Aside0.mk H
                          clear H
                          have hnb64 := NB215_214.out
                          have hnc64 := NB214_215.out
                          have hcz65_0 : wc.cell? ⟨gb215, 0, none⟩ = some (.int .u8 a1_0) := (blk_cell BK215.out 0).trans rfl
                          have hcz65_1 : wc.cell? ⟨gb215, 1, none⟩ = some (.int .i64 a1_1) := (blk_cell BK215.out 1).trans rfl
                          have hfz65_0 := blk_frozen BK215.out 0
                          have hfz65_1 := blk_frozen BK215.out 1
                          go_wp2
                          go_meet
                          case rel => exact ⟨_, (x7_56), (1), (by rfl), (by rfl), H', ⟨by have := HJ25.out; have := HJ31.out; have := HJ47.out; have := HJ50.out; have := HJ56.out; omega⟩, ⟨by (with_reducible repeat (fail)); exact BK215.out⟩, ⟨by repeat ((with_reducible exact HB.out))⟩⟩
                replace c50 := Bool.eq_false_iff.mpr c50
                subst c50
                have H1 : (if a1_0 = 13 then (sacristanref09_Effect.j7 kj47 0 0) else (if a1_0 = 16 then ((sacristanref09_place.f a1_1 32).bind fun t220 => (if t220 = true then ((sacristanref09_Words.f).bind fun t221 => (if 0 ≤ a1_1 then (if a1_1 < (t221.length : Int) then ((sacristanref05_Takes.f kj47 (rdOf ByteArray.empty t221 a1_1)).bind fun t225 => (sacristanref09_Effect.j7 kj47 t225 1)) else (none)) else (none))) else (sacristanref09_Effect.j7 kj47 (-1) 1))) else (if a1_0 = 17 then ((sacristanref09_place.f a1_1 (l0_1.length : Int)).bind fun t226 => (if t226 = true then (sacristanref09_Effect.j7 kj47 1 1) else (sacristanref09_Effect.j7 kj47 (-1) 1))) else (if a1_0 = 18 then ((sacristanref09_place.f a1_1 (l0_3.length : Int)).bind fun t227 => (if t227 = true then (if 0 ≤ a1_1 then (if a1_1 < (l0_3.length : Int) then (if (rd_T41 l0_3 a1_1).f1 = true then (sacristanref09_Effect.j5 kj47 (wrap64 ((wrap64 (1 + (((rd_T41 l0_3 a1_1).f0).length : Int))) + 1)) 1 l0_0 l0_1 l0_2 l0_3 a1_0 a1_1) else (sacristanref09_Effect.j5 kj47 (wrap64 (1 + (((rd_T41 l0_3 a1_1).f0).length : Int))) 1 l0_0 l0_1 l0_2 l0_3 a1_0 a1_1)) else (none)) else (none)) else (sacristanref09_Effect.j7 kj47 (-1) 1))) else (if a1_0 = 19 then (sacristanref09_Effect.j6 kj47 (-1) 1 a1_0 (a1_0 == 19)) else (sacristanref09_Effect.j6 kj47 (-1) 1 a1_0 (a1_0 == 20))))))) = some (r1, r2, r3) := by rw [if_neg (show ¬ (false = true) by decide)] at H; exact H
                clear H
                have H := H1
                clear H1
                by_cases c66 : a1_0 = 13
                · rw [if_pos c66] at H
                  have c66b0 : (a1_0 == 13) = true := beq_iff_eq.mpr c66
                  have c66b1 : (a1_0 != 13) = false := bne_eq_false_iff_eq.mpr c66
                  clear c66
                  have H' := Aside0.mk H
                  clear H
                  go_wp2
                  go_meet
                  case rel => exact ⟨_, (0), (0), (by rfl), (by rfl), H', ⟨by have := HJ25.out; have := HJ31.out; have := HJ47.out; omega⟩, ⟨by (with_reducible repeat (fail)); exact BK215.out⟩, ⟨by repeat ((with_reducible exact HB.out))⟩⟩
                rw [if_neg c66] at H
                have c66b0 : (a1_0 == 13) = false := beq_eq_false_iff_ne.mpr c66
                have c66b1 : (a1_0 != 13) = true := bne_iff_ne.mpr c66
                by_cases c67 : a1_0 = 16
                · rw [if_pos c67] at H
                  have c67b0 : (a1_0 == 16) = true := beq_iff_eq.mpr c67
                  have c67b1 : (a1_0 != 16) = false := bne_eq_false_iff_eq.mpr c67
                  clear c67
                  replace H := Option.bind_eq_some_iff.mp H
                  obtain ⟨t220, A680, H⟩ := H
                  have A68 := Aside0.mk A680
                  clear A680
                  by_cases c69 : t220 = true
                  · subst c69
                    have H1 : ((sacristanref09_Words.f).bind fun t221 => (if 0 ≤ a1_1 then (if a1_1 < (t221.length : Int) then ((sacristanref05_Takes.f kj47 (rdOf ByteArray.empty t221 a1_1)).bind fun t225 => (sacristanref09_Effect.j7 kj47 t225 1)) else (none)) else (none))) = some (r1, r2, r3) := by rw [if_pos rfl] at H; exact H
                    clear H
                    have H := H1
                    clear H1
                    replace H := Option.bind_eq_some_iff.mp H
                    obtain ⟨t221, A700, H⟩ := H
                    have A70 := Aside0.mk A700
                    clear A700
                    by_cases c71 : 0 ≤ a1_1
                    · rw [if_pos c71] at H
                      have c71b0 : decide (0 ≤ a1_1) = true := decide_eq_true c71
                      clear c71
                      by_cases c72 : a1_1 < (t221.length : Int)
                      · rw [if_pos c72] at H
                        have c72b0 : decide (a1_1 < (t221.length : Int)) = true := decide_eq_true c72
                        clear c72
                        replace H := Option.bind_eq_some_iff.mp H
                        obtain ⟨t225, A730, H⟩ := H
                        replace H : (sacristanref09_Effect.j7 kj47 t225 1) = some (r1, r2, r3) := H
                        have A73 := Aside0.mk A730
                        clear A730
                        have H' := Aside0.mk H
                        clear H
                        have hnb74 := NB215_214.out
                        have hnc74 := NB214_215.out
                        have hcz75_0 : wc.cell? ⟨gb215, 0, none⟩ = some (.int .u8 a1_0) := (blk_cell BK215.out 0).trans rfl
                        have hcz75_1 : wc.cell? ⟨gb215, 1, none⟩ = some (.int .i64 a1_1) := (blk_cell BK215.out 1).trans rfl
                        have hfz75_0 := blk_frozen BK215.out 0
                        have hfz75_1 := blk_frozen BK215.out 1
                        try go_wp2_with (((with_reducible refine gate_callee (f := 46) rfl ?_); refine goesL_ (some 76) rfl rfl Tryd.func46 (by kernel_rfl) rfl #[.int .i64 a1_1, .int .i64 32] rfl (by (try simp only [List.map_toArray, List.map_cons, List.map_nil]); rfl) ?_; (with_reducible refine (sacristanref09_place.calls a1_1 32 true _ A68.out).mono ?_); rintro e w' ⟨rfl, ⟨nd, rfl⟩⟩; refine ⟨_, rfl, ?_⟩))
                        (try (rw [drewN_self wc]; generalize hq_ : World.drewN wc _ = wc; have n0_ : Aside0 (wc.heap[gb214]? = some (.cells #[.slice A0_0 l0_0.length c0_0, .slice A0_1 l0_1.length c0_1, .slice A0_2 l0_2.length c0_2, .slice A0_3 l0_3.length c0_3] 30 (0, 0))) := ⟨by rw [← hq_]; exact (by (with_reducible repeat (refine blk_drewN ?_ _)); exact BK214.out)⟩; have n1_ : Aside0 (wc.heap[gb215]? = some (.cells #[.int .u8 a1_0, .int .i64 a1_1] 32 (0, 0))) := ⟨by rw [← hq_]; exact (by (with_reducible repeat (refine blk_drewN ?_ _)); exact BK215.out)⟩; have n2_ : Aside0 (Below w.heap.size w wc) := ⟨by rw [← hq_]; exact (by repeat ((with_reducible first | exact HB.out | apply pw_below_drewN)))⟩; clear BK214 BK215 HB hq_; have BK214 := n0_; have BK215 := n1_; have HB := n2_; clear n0_ n1_ n2_))
                        have p71 : 0 ≤ a1_1 := of_decide_eq_true c71b0
                        have p72 : a1_1 < (t221.length : Int) := of_decide_eq_true c72b0
                        have BKd := Aside0.mk (blk_drew BK215.out)
                        have HBd := Aside0.mk (below_drew1 HB.out)
                        have hq1 := (blk_cell BK215.out 1).trans rfl
                        go_region_with (first | (go_at_call 17; refine (sacristanref09_Words.calls t221 _ A70.out).mono ?_; rintro e w' ⟨v0_, rfl, hr_, hb_⟩; obtain ⟨Aw_, cw_, rfl⟩ := Kd.R_slice hr_; obtain ⟨adw_, ew_, hw_⟩ := Kd.at_string (Kd.R_reads' hr_).2.2 a1_1 p71 p72; subst ew_; have hq2 := (blk_cell (blk_below BKd.out hb_) 1).trans rfl; have HBW := Aside0.mk hb_; clear hr_ hb_) | (go_at_call 47; refine (sacristanref05_Takes.calls kj47 (rdOf ByteArray.empty t221 a1_1) t225 _ A73.out).mono ?_; rintro e w'' ⟨rfl, hb2_⟩; have HBT := Aside0.mk hb2_; clear hb2_))
                        all_goals (
                          have BKf := Aside0.mk (blk_below (blk_below BKd.out HBW.out) HBT.out)
                          have HBe := HBd.out.trans (HBW.out.mono HBd.out.size)
                          have HBf := Aside0.mk (HBe.trans (HBT.out.mono HBe.size))
                          clear HBe
                          try go_wp2
                          go_meet
                          case rel => exact ⟨_, (t225), (1), (by rfl), (by rfl), H', ⟨by have := HJ25.out; have := HJ31.out; have := HJ47.out; omega⟩, ⟨BKf.out⟩, ⟨HBf.out⟩⟩)
                      rw [if_neg c72] at H
                      exact absurd H (by simp)
                    rw [if_neg c71] at H
                    exact absurd H (by simp)
                  replace c69 := Bool.eq_false_iff.mpr c69
                  subst c69
                  have H1 : (sacristanref09_Effect.j7 kj47 (-1) 1) = some (r1, r2, r3) := by rw [if_neg (show ¬ (false = true) by decide)] at H; exact H
                  clear H
                  have H := H1
                  clear H1
                  have H' := Aside0.mk H
                  clear H
                  have hnb80 := NB215_214.out
                  have hnc80 := NB214_215.out
                  have hcz81_0 : wc.cell? ⟨gb215, 0, none⟩ = some (.int .u8 a1_0) := (blk_cell BK215.out 0).trans rfl
                  have hcz81_1 : wc.cell? ⟨gb215, 1, none⟩ = some (.int .i64 a1_1) := (blk_cell BK215.out 1).trans rfl
                  have hfz81_0 := blk_frozen BK215.out 0
                  have hfz81_1 := blk_frozen BK215.out 1
                  go_wp2_with (((with_reducible refine gate_callee (f := 46) rfl ?_); refine goesL_ (some 76) rfl rfl Tryd.func46 (by kernel_rfl) rfl #[.int .i64 a1_1, .int .i64 32] rfl (by (try simp only [List.map_toArray, List.map_cons, List.map_nil]); rfl) ?_; (with_reducible refine (sacristanref09_place.calls a1_1 32 false _ A68.out).mono ?_); rintro e w' ⟨rfl, ⟨nd, rfl⟩⟩; refine ⟨_, rfl, ?_⟩))
                  go_meet
                  case rel => exact ⟨_, ((-1)), (1), (by rfl), (by rfl), H', ⟨by have := HJ25.out; have := HJ31.out; have := HJ47.out; omega⟩, ⟨by (with_reducible repeat (refine blk_drewN ?_ _)); exact BK215.out⟩, ⟨by repeat ((with_reducible first | exact HB.out | apply pw_below_drewN))⟩⟩
                rw [if_neg c67] at H
                have c67b0 : (a1_0 == 16) = false := beq_eq_false_iff_ne.mpr c67
                have c67b1 : (a1_0 != 16) = true := bne_iff_ne.mpr c67
                by_cases c82 : a1_0 = 17
                · rw [if_pos c82] at H
                  have c82b0 : (a1_0 == 17) = true := beq_iff_eq.mpr c82
                  have c82b1 : (a1_0 != 17) = false := bne_eq_false_iff_eq.mpr c82
                  clear c82
                  replace H := Option.bind_eq_some_iff.mp H
                  obtain ⟨t226, A830, H⟩ := H
                  replace H : (if t226 = true then (sacristanref09_Effect.j7 kj47 1 1) else (sacristanref09_Effect.j7 kj47 (-1) 1)) = some (r1, r2, r3) := H
                  have A83 := Aside0.mk A830
                  clear A830
                  by_cases c84 : t226 = true
                  · subst c84
                    have H1 : (sacristanref09_Effect.j7 kj47 1 1) = some (r1, r2, r3) := by rw [if_pos rfl] at H; exact H
                    clear H
                    have H := H1
                    clear H1
                    have H' := Aside0.mk H
                    clear H
                    have hnb85 := NB215_214.out
                    have hnc85 := NB214_215.out
                    have hcz86_0 : wc.cell? ⟨gb215, 0, none⟩ = some (.int .u8 a1_0) := (blk_cell BK215.out 0).trans rfl
                    have hcz86_1 : wc.cell? ⟨gb215, 1, none⟩ = some (.int .i64 a1_1) := (blk_cell BK215.out 1).trans rfl
                    have hfz86_0 := blk_frozen BK215.out 0
                    have hfz86_1 := blk_frozen BK215.out 1
                    have hcz87_0 : wc.cell? ⟨gb214, 0, none⟩ = some (.slice A0_0 l0_0.length c0_0) := (blk_cell BK214.out 0).trans rfl
                    have hcz87_1 : wc.cell? ⟨gb214, 1, none⟩ = some (.slice A0_1 l0_1.length c0_1) := (blk_cell BK214.out 1).trans rfl
                    have hcz87_2 : wc.cell? ⟨gb214, 2, none⟩ = some (.slice A0_2 l0_2.length c0_2) := (blk_cell BK214.out 2).trans rfl
                    have hcz87_3 : wc.cell? ⟨gb214, 3, none⟩ = some (.slice A0_3 l0_3.length c0_3) := (blk_cell BK214.out 3).trans rfl
                    have hfz87_0 := blk_frozen BK214.out 0
                    have hfz87_1 := blk_frozen BK214.out 1
                    have hfz87_2 := blk_frozen BK214.out 2
                    have hfz87_3 := blk_frozen BK214.out 3
                    go_wp2_with (((with_reducible refine gate_callee (f := 46) rfl ?_); refine goesL_ (some 90) rfl rfl Tryd.func46 (by kernel_rfl) rfl #[.int .i64 a1_1, .int .i64 (l0_1.length : Int)] rfl (by (try simp only [List.map_toArray, List.map_cons, List.map_nil]); rfl) ?_; (with_reducible refine (sacristanref09_place.calls a1_1 (l0_1.length : Int) true _ A83.out).mono ?_); rintro e w' ⟨rfl, ⟨nd, rfl⟩⟩; refine ⟨_, rfl, ?_⟩))
                    go_meet
                    case rel => exact ⟨_, (1), (1), (by rfl), (by rfl), H', ⟨by have := HJ25.out; have := HJ31.out; have := HJ47.out; omega⟩, ⟨by (with_reducible repeat (refine blk_drewN ?_ _)); exact BK215.out⟩, ⟨by repeat ((with_reducible first | exact HB.out | apply pw_below_drewN))⟩⟩
                  replace c84 := Bool.eq_false_iff.mpr c84
                  subst c84
                  have H1 : (sacristanref09_Effect.j7 kj47 (-1) 1) = some (r1, r2, r3) := by rw [if_neg (show ¬ (false = true) by decide)] at H; exact H
                  clear H
                  have H := H1
                  clear H1
                  have H' := Aside0.mk H
                  clear H
                  have hnb88 := NB215_214.out
                  have hnc88 := NB214_215.out
                  have hcz89_0 : wc.cell? ⟨gb215, 0, none⟩ = some (.int .u8 a1_0) := (blk_cell BK215.out 0).trans rfl
                  have hcz89_1 : wc.cell? ⟨gb215, 1, none⟩ = some (.int .i64 a1_1) := (blk_cell BK215.out 1).trans rfl
                  have hfz89_0 := blk_frozen BK215.out 0
                  have hfz89_1 := blk_frozen BK215.out 1
                  have hcz90_0 : wc.cell? ⟨gb214, 0, none⟩ = some (.slice A0_0 l0_0.length c0_0) := (blk_cell BK214.out 0).trans rfl
                  have hcz90_1 : wc.cell? ⟨gb214, 1, none⟩ = some (.slice A0_1 l0_1.length c0_1) := (blk_cell BK214.out 1).trans rfl
                  have hcz90_2 : wc.cell? ⟨gb214, 2, none⟩ = some (.slice A0_2 l0_2.length c0_2) := (blk_cell BK214.out 2).trans rfl
                  have hcz90_3 : wc.cell? ⟨gb214, 3, none⟩ = some (.slice A0_3 l0_3.length c0_3) := (blk_cell BK214.out 3).trans rfl
                  have hfz90_0 := blk_frozen BK214.out 0
                  have hfz90_1 := blk_frozen BK214.out 1
                  have hfz90_2 := blk_frozen BK214.out 2
                  have hfz90_3 := blk_frozen BK214.out 3
                  go_wp2_with (((with_reducible refine gate_callee (f := 46) rfl ?_); refine goesL_ (some 90) rfl rfl Tryd.func46 (by kernel_rfl) rfl #[.int .i64 a1_1, .int .i64 (l0_1.length : Int)] rfl (by (try simp only [List.map_toArray, List.map_cons, List.map_nil]); rfl) ?_; (with_reducible refine (sacristanref09_place.calls a1_1 (l0_1.length : Int) false _ A83.out).mono ?_); rintro e w' ⟨rfl, ⟨nd, rfl⟩⟩; refine ⟨_, rfl, ?_⟩))
                  go_meet
                  case rel => exact ⟨_, ((-1)), (1), (by rfl), (by rfl), H', ⟨by have := HJ25.out; have := HJ31.out; have := HJ47.out; omega⟩, ⟨by (with_reducible repeat (refine blk_drewN ?_ _)); exact BK215.out⟩, ⟨by repeat ((with_reducible first | exact HB.out | apply pw_below_drewN))⟩⟩
                rw [if_neg c82] at H
                have c82b0 : (a1_0 == 17) = false := beq_eq_false_iff_ne.mpr c82
                have c82b1 : (a1_0 != 17) = true := bne_iff_ne.mpr c82
                by_cases c91 : a1_0 = 18
                · rw [if_pos c91] at H
                  have c91b0 : (a1_0 == 18) = true := beq_iff_eq.mpr c91
                  have c91b1 : (a1_0 != 18) = false := bne_eq_false_iff_eq.mpr c91
                  clear c91
                  replace H := Option.bind_eq_some_iff.mp H
                  obtain ⟨t227, A920, H⟩ := H
                  have A92 := Aside0.mk A920
                  clear A920
                  by_cases c93 : t227 = true
                  · subst c93
                    have H1 : (if 0 ≤ a1_1 then (if a1_1 < (l0_3.length : Int) then (if (rd_T41 l0_3 a1_1).f1 = true then (sacristanref09_Effect.j5 kj47 (wrap64 ((wrap64 (1 + (((rd_T41 l0_3 a1_1).f0).length : Int))) + 1)) 1 l0_0 l0_1 l0_2 l0_3 a1_0 a1_1) else (sacristanref09_Effect.j5 kj47 (wrap64 (1 + (((rd_T41 l0_3 a1_1).f0).length : Int))) 1 l0_0 l0_1 l0_2 l0_3 a1_0 a1_1)) else (none)) else (none)) = some (r1, r2, r3) := by rw [if_pos rfl] at H; exact H
                    clear H
                    have H := H1
                    clear H1
                    by_cases c94 : 0 ≤ a1_1
                    · rw [if_pos c94] at H
                      have c94b0 : decide (0 ≤ a1_1) = true := decide_eq_true c94
                      clear c94
                      by_cases c95 : a1_1 < (l0_3.length : Int)
                      · rw [if_pos c95] at H
                        have c95b0 : decide (a1_1 < (l0_3.length : Int)) = true := decide_eq_true c95
                        clear c95
                        have HC96 := Aside0.mk H
                        clear H
                        have hnb97 := NB215_214.out
                        have hnc97 := NB214_215.out
                        have hcz98_0 : wc.cell? ⟨gb215, 0, none⟩ = some (.int .u8 a1_0) := (blk_cell BK215.out 0).trans rfl
                        have hcz98_1 : wc.cell? ⟨gb215, 1, none⟩ = some (.int .i64 a1_1) := (blk_cell BK215.out 1).trans rfl
                        have hfz98_0 := blk_frozen BK215.out 0
                        have hfz98_1 := blk_frozen BK215.out 1
                        have hcz99_0 : wc.cell? ⟨gb214, 0, none⟩ = some (.slice A0_0 l0_0.length c0_0) := (blk_cell BK214.out 0).trans rfl
                        have hcz99_1 : wc.cell? ⟨gb214, 1, none⟩ = some (.slice A0_1 l0_1.length c0_1) := (blk_cell BK214.out 1).trans rfl
                        have hcz99_2 : wc.cell? ⟨gb214, 2, none⟩ = some (.slice A0_2 l0_2.length c0_2) := (blk_cell BK214.out 2).trans rfl
                        have hcz99_3 : wc.cell? ⟨gb214, 3, none⟩ = some (.slice A0_3 l0_3.length c0_3) := (blk_cell BK214.out 3).trans rfl
                        have hfz99_0 := blk_frozen BK214.out 0
                        have hfz99_1 := blk_frozen BK214.out 1
                        have hfz99_2 := blk_frozen BK214.out 2
                        have hfz99_3 := blk_frozen BK214.out 3
                        go_upto_if 114 with (((with_reducible refine gate_callee (f := 46) rfl ?_); refine goesL_ (some 98) rfl rfl Tryd.func46 (by kernel_rfl) rfl #[.int .i64 a1_1, .int .i64 (l0_3.length : Int)] rfl (by (try simp only [List.map_toArray, List.map_cons, List.map_nil]); rfl) ?_; (with_reducible refine (sacristanref09_place.calls a1_1 (l0_3.length : Int) true _ A92.out).mono ?_); rintro e w' ⟨rfl, ⟨nd, rfl⟩⟩; refine ⟨_, rfl, ?_⟩; have p228 : 0 ≤ (a1_1 : Int) := of_decide_eq_true (by (with_reducible assumption)); have q228 : a1_1 < (l0_3.length : Int) := of_decide_eq_true (by (with_reducible assumption)); obtain ⟨ad228, A228_0, c228_0, e228, hx228_0, hx228_1, hx228_2, hl228_0, hi228_0⟩ := at_T41 HR0_3.out a1_1 p228 q228; cases e228; replace hx228_0 := (HB.out.cell (World.block_lt_of_cell? w _ hx228_0)).trans hx228_0; replace hx228_1 := (HB.out.cell (World.block_lt_of_cell? w _ hx228_1)).trans hx228_1; replace hx228_2 := (HB.out.cell (World.block_lt_of_cell? w _ hx228_2)).trans hx228_2; have HR228_0 := Aside0.mk hi228_0; have HC228_0 := Aside0.mk hl228_0; clear hi228_0 hl228_0; replace p228 := eq_true p228; replace q228 := eq_true q228; have p229 : 0 ≤ (a1_1 : Int) := of_decide_eq_true (by (with_reducible assumption)); have q229 : a1_1 < (l0_3.length : Int) := of_decide_eq_true (by (with_reducible assumption)); obtain ⟨ad229, A229_0, c229_0, e229, hx229_0, hx229_1, hx229_2, hl229_0, hi229_0⟩ := at_T41 HR0_3.out a1_1 p229 q229; obtain rfl : ad228 = ad229 := (by injection e229); replace hx229_0 := (HB.out.cell (World.block_lt_of_cell? w _ hx229_0)).trans hx229_0; replace hx229_1 := (HB.out.cell (World.block_lt_of_cell? w _ hx229_1)).trans hx229_1; replace hx229_2 := (HB.out.cell (World.block_lt_of_cell? w _ hx229_2)).trans hx229_2; have HR229_0 := Aside0.mk hi229_0; have HC229_0 := Aside0.mk hl229_0; clear hi229_0 hl229_0; replace p229 := eq_true p229; replace q229 := eq_true q229; have ea_ := Option.some.inj (hx228_0.symm.trans hx229_0); injection ea_ with ea_ en_ ec_; subst ea_; subst ec_; clear en_))
                        go_cut [7] (fun v7 wc => ∃ (kq : Nat) (x7_95 : Int), v7 = .int .i64 x7_95 ∧ Aside0 (sacristanref09_Effect.j5 kq x7_95 1 l0_0 l0_1 l0_2 l0_3 a1_0 a1_1 = some (r1, r2, r3)) ∧ Aside0 (kq ≤ kj47) ∧ Aside0 (wc.heap[gb214]? = some (.cells #[(.slice A0_0 l0_0.length c0_0), (.slice A0_1 l0_1.length c0_1), (.slice A0_2 l0_2.length c0_2), (.slice (some ad228) l0_3.length c0_3)] 30 (0, 0))) ∧ Aside0 (wc.heap[gb215]? = some (.cells #[.int .u8 a1_0, .int .i64 a1_1] 32 (0, 0))) ∧ Aside0 (Below w.heap.size w wc))
                        case first =>
                          have H := HC96.out
                          clear HC96
                          obtain ⟨bq100, hbq100⟩ : ∃ b_ : Bool, b_ = ((rd_T41 l0_3 a1_1).f1) := ⟨_, rfl⟩
                          replace H : (if bq100 = true then (sacristanref09_Effect.j5 kj47 (wrap64 ((wrap64 (1 + (((rd_T41 l0_3 a1_1).f0).length : Int))) + 1)) 1 l0_0 l0_1 l0_2 l0_3 a1_0 a1_1) else (sacristanref09_Effect.j5 kj47 (wrap64 (1 + (((rd_T41 l0_3 a1_1).f0).length : Int))) 1 l0_0 l0_1 l0_2 l0_3 a1_0 a1_1)) = some (r1, r2, r3) := by rw [← hbq100] at H; exact H
                          have Nbq100 := Aside0.mk hbq100
                          clear hbq100
                          (try rw [← Nbq100.out])
                          by_cases c101 : bq100 = true
                          · subst c101
                            have H1 : (sacristanref09_Effect.j5 kj47 (wrap64 ((wrap64 (1 + (((rd_T41 l0_3 a1_1).f0).length : Int))) + 1)) 1 l0_0 l0_1 l0_2 l0_3 a1_0 a1_1) = some (r1, r2, r3) := by rw [if_pos rfl] at H; exact H
                            clear H
                            have H := H1
                            clear H1
                            have H' := Aside0.mk H
                            clear H
                            go_wp2
                            go_meet
                            case rel => exact ⟨_, (wrap64 ((wrap64 (1 + (((rd_T41 l0_3 a1_1).f0).length : Int))) + 1)), (by rfl), H', ⟨by have := HJ25.out; have := HJ31.out; have := HJ47.out; omega⟩, ⟨by (with_reducible repeat (refine blk_drewN ?_ _)); exact BK214.out⟩, ⟨by (with_reducible repeat (refine blk_drewN ?_ _)); exact BK215.out⟩, ⟨by repeat ((with_reducible first | exact HB.out | apply pw_below_drewN))⟩⟩
                          replace c101 := Bool.eq_false_iff.mpr c101
                          subst c101
                          have H1 : (sacristanref09_Effect.j5 kj47 (wrap64 (1 + (((rd_T41 l0_3 a1_1).f0).length : Int))) 1 l0_0 l0_1 l0_2 l0_3 a1_0 a1_1) = some (r1, r2, r3) := by rw [if_neg (show ¬ (false = true) by decide)] at H; exact H
                          clear H
                          have H := H1
                          clear H1
                          have H' := Aside0.mk H
                          clear H
                          go_wp2
                          go_meet
                          case rel => exact ⟨_, (wrap64 (1 + (((rd_T41 l0_3 a1_1).f0).length : Int))), (by rfl), H', ⟨by have := HJ25.out; have := HJ31.out; have := HJ47.out; omega⟩, ⟨by (with_reducible repeat (refine blk_drewN ?_ _)); exact BK214.out⟩, ⟨by (with_reducible repeat (refine blk_drewN ?_ _)); exact BK215.out⟩, ⟨by repeat ((with_reducible first | exact HB.out | apply pw_below_drewN))⟩⟩
                        case rest =>
                          clear HC96 c66 c66b0 c66b1 c67 c67b0 c67b1 c82 c82b0 c82b1 c91b0 c91b1 c94b0 c95b0 hcz98_0 hcz98_1 hcz99_0 hcz99_1 hcz99_2 hcz99_3 hfz98_0 hfz98_1 hfz99_0 hfz99_1 hfz99_2 hfz99_3 hx228_0 hx228_1 hx228_2 hx229_0 hx229_1 hx229_2 p228 p229 q228 q229
                          obtain ⟨kq, x7_95, rfl, HA, HJ95, BK214, BK215, HB⟩ := hcut
                          cases kq with
                          | zero => exact absurd HA.out (by simp [sacristanref09_Effect.j5])
                          | succ kj95 =>
                            have H := HA.out
                            clear HA
                            simp only [sacristanref09_Effect.j5] at H
                            by_cases c102 : 0 ≤ a1_1
                            · rw [if_pos c102] at H
                              have c102b0 : decide (0 ≤ a1_1) = true := decide_eq_true c102
                              clear c102
                              by_cases c103 : a1_1 < (l0_3.length : Int)
                              · rw [if_pos c103] at H
                                have c103b0 : decide (a1_1 < (l0_3.length : Int)) = true := decide_eq_true c103
                                clear c103
                                obtain ⟨bq104, hbq104⟩ : ∃ b_ : Bool, b_ = ((rd_T41 l0_3 a1_1).f2) := ⟨_, rfl⟩
                                replace H : (if bq104 = true then (sacristanref09_Effect.j7 kj95 (wrap64 (x7_95 + 1)) 1) else (sacristanref09_Effect.j7 kj95 x7_95 1)) = some (r1, r2, r3) := by rw [← hbq104] at H; exact H
                                have Nbq104 := Aside0.mk hbq104
                                clear hbq104
                                by_cases c105 : bq104 = true
                                · subst c105
                                  have H1 : (sacristanref09_Effect.j7 kj95 (wrap64 (x7_95 + 1)) 1) = some (r1, r2, r3) := by rw [if_pos rfl] at H; exact H
                                  clear H
                                  have H := H1
                                  clear H1
                                  have H' := Aside0.mk H
                                  clear H
                                  have hnb106 := NB214_215.out
                                  have hnc106 := NB215_214.out
                                  have hcz107_0 : wc.cell? ⟨gb214, 0, none⟩ = some (.slice A0_0 l0_0.length c0_0) := (blk_cell BK214.out 0).trans rfl
                                  have hcz107_1 : wc.cell? ⟨gb214, 1, none⟩ = some (.slice A0_1 l0_1.length c0_1) := (blk_cell BK214.out 1).trans rfl
                                  have hcz107_2 : wc.cell? ⟨gb214, 2, none⟩ = some (.slice A0_2 l0_2.length c0_2) := (blk_cell BK214.out 2).trans rfl
                                  have hcz107_3 : wc.cell? ⟨gb214, 3, none⟩ = some (.slice (some ad228) l0_3.length c0_3) := (blk_cell BK214.out 3).trans rfl
                                  have hfz107_0 := blk_frozen BK214.out 0
                                  have hfz107_1 := blk_frozen BK214.out 1
                                  have hfz107_2 := blk_frozen BK214.out 2
                                  have hfz107_3 := blk_frozen BK214.out 3
                                  have hcz108_0 : wc.cell? ⟨gb215, 0, none⟩ = some (.int .u8 a1_0) := (blk_cell BK215.out 0).trans rfl
                                  have hcz108_1 : wc.cell? ⟨gb215, 1, none⟩ = some (.int .i64 a1_1) := (blk_cell BK215.out 1).trans rfl
                                  have hfz108_0 := blk_frozen BK215.out 0
                                  have hfz108_1 := blk_frozen BK215.out 1
                                  have p230 : 0 ≤ (a1_1 : Int) := of_decide_eq_true (by (with_reducible assumption))
                                  have q230 : a1_1 < (l0_3.length : Int) := of_decide_eq_true (by (with_reducible assumption))
                                  obtain ⟨ad230, A230_0, c230_0, e230, hx230_0, hx230_1, hx230_2, hl230_0, hi230_0⟩ := at_T41 HR0_3.out a1_1 p230 q230
                                  (try rw [← Nbq104.out] at hx230_2)
                                  obtain rfl : ad228 = ad230 := (by injection e230)
                                  replace hx230_0 := (HB.out.cell (World.block_lt_of_cell? w _ hx230_0)).trans hx230_0
                                  replace hx230_1 := (HB.out.cell (World.block_lt_of_cell? w _ hx230_1)).trans hx230_1
                                  replace hx230_2 := (HB.out.cell (World.block_lt_of_cell? w _ hx230_2)).trans hx230_2
                                  have HR230_0 := Aside0.mk hi230_0
                                  have HC230_0 := Aside0.mk hl230_0
                                  clear hi230_0 hl230_0
                                  replace p230 := eq_true p230
                                  replace q230 := eq_true q230
                                  go_wp2
                                  go_meet
                                  case rel => exact ⟨_, (wrap64 (x7_95 + 1)), (1), (by rfl), (by rfl), H', ⟨by have := HJ25.out; have := HJ31.out; have := HJ47.out; have := HJ95.out; omega⟩, ⟨by (with_reducible repeat (fail)); exact BK215.out⟩, ⟨by repeat ((with_reducible exact HB.out))⟩⟩
                                replace c105 := Bool.eq_false_iff.mpr c105
                                subst c105
                                have H1 : (sacristanref09_Effect.j7 kj95 x7_95 1) = some (r1, r2, r3) := by rw [if_neg (show ¬ (false = true) by decide)] at H; exact H
                                clear H
                                have H := H1
                                clear H1
                                have H' := Aside0.mk H
                                clear H
                                have hnb109 := NB214_215.out
                                have hnc109 := NB215_214.out
                                have hcz110_0 : wc.cell? ⟨gb214, 0, none⟩ = some (.slice A0_0 l0_0.length c0_0) := (blk_cell BK214.out 0).trans rfl
                                have hcz110_1 : wc.cell? ⟨gb214, 1, none⟩ = some (.slice A0_1 l0_1.length c0_1) := (blk_cell BK214.out 1).trans rfl
                                have hcz110_2 : wc.cell? ⟨gb214, 2, none⟩ = some (.slice A0_2 l0_2.length c0_2) := (blk_cell BK214.out 2).trans rfl
                                have hcz110_3 : wc.cell? ⟨gb214, 3, none⟩ = some (.slice (some ad228) l0_3.length c0_3) := (blk_cell BK214.out 3).trans rfl
                                have hfz110_0 := blk_frozen BK214.out 0
                                have hfz110_1 := blk_frozen BK214.out 1
                                have hfz110_2 := blk_frozen BK214.out 2
                                have hfz110_3 := blk_frozen BK214.out 3
                                have hcz111_0 : wc.cell? ⟨gb215, 0, none⟩ = some (.int .u8 a1_0) := (blk_cell BK215.out 0).trans rfl
                                have hcz111_1 : wc.cell? ⟨gb215, 1, none⟩ = some (.int .i64 a1_1) := (blk_cell BK215.out 1).trans rfl
                                have hfz111_0 := blk_frozen BK215.out 0
                                have hfz111_1 := blk_frozen BK215.out 1
                                have p230 : 0 ≤ (a1_1 : Int) := of_decide_eq_true (by (with_reducible assumption))
                                have q230 : a1_1 < (l0_3.length : Int) := of_decide_eq_true (by (with_reducible assumption))
                                obtain ⟨ad230, A230_0, c230_0, e230, hx230_0, hx230_1, hx230_2, hl230_0, hi230_0⟩ := at_T41 HR0_3.out a1_1 p230 q230
                                (try rw [← Nbq104.out] at hx230_2)
                                obtain rfl : ad228 = ad230 := (by injection e230)
                                replace hx230_0 := (HB.out.cell (World.block_lt_of_cell? w _ hx230_0)).trans hx230_0
                                replace hx230_1 := (HB.out.cell (World.block_lt_of_cell? w _ hx230_1)).trans hx230_1
                                replace hx230_2 := (HB.out.cell (World.block_lt_of_cell? w _ hx230_2)).trans hx230_2
                                have HR230_0 := Aside0.mk hi230_0
                                have HC230_0 := Aside0.mk hl230_0
                                clear hi230_0 hl230_0
                                replace p230 := eq_true p230
                                replace q230 := eq_true q230
                                go_wp2
                                go_meet
                                case rel => exact ⟨_, (x7_95), (1), (by rfl), (by rfl), H', ⟨by have := HJ25.out; have := HJ31.out; have := HJ47.out; have := HJ95.out; omega⟩, ⟨by (with_reducible repeat (fail)); exact BK215.out⟩, ⟨by repeat ((with_reducible exact HB.out))⟩⟩
                              rw [if_neg c103] at H
                              exact absurd H (by simp)
                            rw [if_neg c102] at H
                            exact absurd H (by simp)
                      rw [if_neg c95] at H
                      exact absurd H (by simp)
                    rw [if_neg c94] at H
                    exact absurd H (by simp)
                  replace c93 := Bool.eq_false_iff.mpr c93
                  subst c93
                  have H1 : (sacristanref09_Effect.j7 kj47 (-1) 1) = some (r1, r2, r3) := by rw [if_neg (show ¬ (false = true) by decide)] at H; exact H
                  clear H
                  have H := H1
                  clear H1
                  have H' := Aside0.mk H
                  clear H
                  have hnb112 := NB215_214.out
                  have hnc112 := NB214_215.out
                  have hcz113_0 : wc.cell? ⟨gb215, 0, none⟩ = some (.int .u8 a1_0) := (blk_cell BK215.out 0).trans rfl
                  have hcz113_1 : wc.cell? ⟨gb215, 1, none⟩ = some (.int .i64 a1_1) := (blk_cell BK215.out 1).trans rfl
                  have hfz113_0 := blk_frozen BK215.out 0
                  have hfz113_1 := blk_frozen BK215.out 1
                  have hcz114_0 : wc.cell? ⟨gb214, 0, none⟩ = some (.slice A0_0 l0_0.length c0_0) := (blk_cell BK214.out 0).trans rfl
                  have hcz114_1 : wc.cell? ⟨gb214, 1, none⟩ = some (.slice A0_1 l0_1.length c0_1) := (blk_cell BK214.out 1).trans rfl
                  have hcz114_2 : wc.cell? ⟨gb214, 2, none⟩ = some (.slice A0_2 l0_2.length c0_2) := (blk_cell BK214.out 2).trans rfl
                  have hcz114_3 : wc.cell? ⟨gb214, 3, none⟩ = some (.slice A0_3 l0_3.length c0_3) := (blk_cell BK214.out 3).trans rfl
                  have hfz114_0 := blk_frozen BK214.out 0
                  have hfz114_1 := blk_frozen BK214.out 1
                  have hfz114_2 := blk_frozen BK214.out 2
                  have hfz114_3 := blk_frozen BK214.out 3
                  go_wp2_with (((with_reducible refine gate_callee (f := 46) rfl ?_); refine goesL_ (some 98) rfl rfl Tryd.func46 (by kernel_rfl) rfl #[.int .i64 a1_1, .int .i64 (l0_3.length : Int)] rfl (by (try simp only [List.map_toArray, List.map_cons, List.map_nil]); rfl) ?_; (with_reducible refine (sacristanref09_place.calls a1_1 (l0_3.length : Int) false _ A92.out).mono ?_); rintro e w' ⟨rfl, ⟨nd, rfl⟩⟩; refine ⟨_, rfl, ?_⟩))
                  go_meet
                  case rel => exact ⟨_, ((-1)), (1), (by rfl), (by rfl), H', ⟨by have := HJ25.out; have := HJ31.out; have := HJ47.out; omega⟩, ⟨by (with_reducible repeat (refine blk_drewN ?_ _)); exact BK215.out⟩, ⟨by repeat ((with_reducible first | exact HB.out | apply pw_below_drewN))⟩⟩
                rw [if_neg c91] at H
                have c91b0 : (a1_0 == 18) = false := beq_eq_false_iff_ne.mpr c91
                have c91b1 : (a1_0 != 18) = true := bne_iff_ne.mpr c91
                have HC115 := Aside0.mk H
                clear H
                go_upto_if 126 with (fail)
                go_cut [126] (fun v126 wc => ∃ (kq : Nat) (x126_114 : Bool), v126 = .bool x126_114 ∧ Aside0 (sacristanref09_Effect.j6 kq (-1) 1 a1_0 x126_114 = some (r1, r2, r3)) ∧ Aside0 (kq ≤ kj47) ∧ Aside0 (wc.heap[gb214]? = some (.cells #[(.slice A0_0 l0_0.length c0_0), (.slice A0_1 l0_1.length c0_1), (.slice A0_2 l0_2.length c0_2), (.slice A0_3 l0_3.length c0_3)] 30 (0, 0))) ∧ Aside0 (wc.heap[gb215]? = some (.cells #[.int .u8 a1_0, .int .i64 a1_1] 32 (0, 0))) ∧ Aside0 (Below w.heap.size w wc))
                case first =>
                  have H := HC115.out
                  clear HC115
                  by_cases c116 : a1_0 = 19
                  · rw [if_pos c116] at H
                    have c116b0 : (a1_0 == 19) = true := beq_iff_eq.mpr c116
                    have c116b1 : (a1_0 != 19) = false := bne_eq_false_iff_eq.mpr c116
                    clear c116
                    (rw [c116b0])
                    have H' := Aside0.mk H
                    clear H
                    go_wp2
                    go_meet
                    case rel => exact ⟨_, ((a1_0 == 19)), (by ((simp [*]; done))), H', ⟨by have := HJ25.out; have := HJ31.out; have := HJ47.out; omega⟩, ⟨by (with_reducible repeat (fail)); exact BK214.out⟩, ⟨by (with_reducible repeat (fail)); exact BK215.out⟩, ⟨by repeat ((with_reducible exact HB.out))⟩⟩
                  rw [if_neg c116] at H
                  have c116b0 : (a1_0 == 19) = false := beq_eq_false_iff_ne.mpr c116
                  have c116b1 : (a1_0 != 19) = true := bne_iff_ne.mpr c116
                  (rw [c116b0])
                  have H' := Aside0.mk H
                  clear H
                  go_wp2
                  go_meet
                  case rel => exact ⟨_, ((a1_0 == 20)), (by rfl), H', ⟨by have := HJ25.out; have := HJ31.out; have := HJ47.out; omega⟩, ⟨by (with_reducible repeat (fail)); exact BK214.out⟩, ⟨by (with_reducible repeat (fail)); exact BK215.out⟩, ⟨by repeat ((with_reducible exact HB.out))⟩⟩
                case rest =>
                  clear HC115 c66 c66b0 c66b1 c67 c67b0 c67b1 c82 c82b0 c82b1 c91 c91b0 c91b1
                  obtain ⟨kq, x126_114, rfl, HA, HJ114, BK214, BK215, HB⟩ := hcut
                  cases kq with
                  | zero => exact absurd HA.out (by simp [sacristanref09_Effect.j6])
                  | succ kj114 =>
                    have H := HA.out
                    clear HA
                    simp only [sacristanref09_Effect.j6] at H
                    by_cases c117 : x126_114 = true
                    · subst c117
                      have H1 : (sacristanref09_Effect.j7 kj114 2 1) = some (r1, r2, r3) := by rw [if_pos rfl] at H; exact H
                      clear H
                      have H := H1
                      clear H1
                      have H' := Aside0.mk H
                      clear H
                      go_wp2
                      go_meet
                      case rel => exact ⟨_, (2), (1), (by rfl), (by rfl), H', ⟨by have := HJ25.out; have := HJ31.out; have := HJ47.out; have := HJ114.out; omega⟩, ⟨by (with_reducible repeat (fail)); exact BK215.out⟩, ⟨by repeat ((with_reducible exact HB.out))⟩⟩
                    replace c117 := Bool.eq_false_iff.mpr c117
                    subst c117
                    have H1 : (if a1_0 = 21 then (sacristanref09_Effect.j7 kj114 3 1) else (if a1_0 = 22 then (sacristanref09_Effect.j7 kj114 2 0) else (sacristanref09_Effect.j7 kj114 (-1) 1))) = some (r1, r2, r3) := by rw [if_neg (show ¬ (false = true) by decide)] at H; exact H
                    clear H
                    have H := H1
                    clear H1
                    by_cases c118 : a1_0 = 21
                    · rw [if_pos c118] at H
                      have c118b0 : (a1_0 == 21) = true := beq_iff_eq.mpr c118
                      have c118b1 : (a1_0 != 21) = false := bne_eq_false_iff_eq.mpr c118
                      clear c118
                      have H' := Aside0.mk H
                      clear H
                      go_wp2
                      go_meet
                      case rel => exact ⟨_, (3), (1), (by rfl), (by rfl), H', ⟨by have := HJ25.out; have := HJ31.out; have := HJ47.out; have := HJ114.out; omega⟩, ⟨by (with_reducible repeat (fail)); exact BK215.out⟩, ⟨by repeat ((with_reducible exact HB.out))⟩⟩
                    rw [if_neg c118] at H
                    have c118b0 : (a1_0 == 21) = false := beq_eq_false_iff_ne.mpr c118
                    have c118b1 : (a1_0 != 21) = true := bne_iff_ne.mpr c118
                    by_cases c119 : a1_0 = 22
                    · rw [if_pos c119] at H
                      have c119b0 : (a1_0 == 22) = true := beq_iff_eq.mpr c119
                      have c119b1 : (a1_0 != 22) = false := bne_eq_false_iff_eq.mpr c119
                      clear c119
                      have H' := Aside0.mk H
                      clear H
                      go_wp2
                      go_meet
                      case rel => exact ⟨_, (2), (0), (by rfl), (by rfl), H', ⟨by have := HJ25.out; have := HJ31.out; have := HJ47.out; have := HJ114.out; omega⟩, ⟨by (with_reducible repeat (fail)); exact BK215.out⟩, ⟨by repeat ((with_reducible exact HB.out))⟩⟩
                    rw [if_neg c119] at H
                    have c119b0 : (a1_0 == 22) = false := beq_eq_false_iff_ne.mpr c119
                    have c119b1 : (a1_0 != 22) = true := bne_iff_ne.mpr c119
                    have H' := Aside0.mk H
                    clear H
                    go_wp2
                    go_meet
                    case rel => exact ⟨_, ((-1)), (1), (by rfl), (by rfl), H', ⟨by have := HJ25.out; have := HJ31.out; have := HJ47.out; have := HJ114.out; omega⟩, ⟨by (with_reducible repeat (fail)); exact BK215.out⟩, ⟨by repeat ((with_reducible exact HB.out))⟩⟩
  case rest =>
    clear HC3 hcz7_0 hcz7_1 hfz7_0 hfz7_1
    obtain ⟨kq, x7_2, x8_2, rfl, rfl, HA, HJ2, BK215, HB⟩ := hcut
    cases kq with
    | zero => exact absurd HA.out (by simp [sacristanref09_Effect.j7])
    | succ kj2 =>
      have H := HA.out
      clear HA
      simp only [sacristanref09_Effect.j7] at H
      by_cases c120 : x7_2 < 0
      · rw [if_pos c120] at H
        have c120b0 : decide (x7_2 < 0) = true := decide_eq_true c120
        clear c120
        simp only [Option.some.injEq, Prod.mk.injEq] at H
        obtain ⟨rfl, rfl, rfl⟩ := H
        go_wp2
        go_ret3
        exact ⟨by rfl, by repeat ((with_reducible exact HB.out))⟩
      rw [if_neg c120] at H
      have c120b0 : decide (x7_2 < 0) = false := decide_eq_false c120
      clear c120
      simp only [Option.some.injEq, Prod.mk.injEq] at H
      obtain ⟨rfl, rfl, rfl⟩ := H
      go_wp2
      go_ret3
      exact ⟨by rfl, by repeat ((with_reducible exact HB.out))⟩

end Go.Proofs.YtfncoldcjhkhiaaDoor.PC
