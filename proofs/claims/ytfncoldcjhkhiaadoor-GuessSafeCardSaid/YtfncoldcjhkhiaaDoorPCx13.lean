-- Own text: made by this session's variant of the printer (wip/mkpp.py); Lean checks it.
import Derived.Test.YtfncoldcjhkhiaaDoorPCx0
import Derived.Test.YtfncoldcjhkhiaaDoorPCx6
import Derived.Test.YtfncoldcjhkhiaaDoorPCx8
namespace Go.Proofs.YtfncoldcjhkhiaaDoor.PC
open Go.RowKit Go.Proofs.YtfncoldcjhkhiaaDoorW.PrintWords Go.Proofs.YtfncoldcjhkhiaaDoorW.PrintLast Go.Proofs.YtfncoldcjhkhiaaDoorW.PrintMore Go.Proofs.YtfncoldcjhkhiaaDoorW.Own
attribute [local go_sem high] own_gtr own_leq own_geq
attribute [local go_sem] max2_int min2_int max_two min_two max_three min_three max_four min_four   -- for this text's walks alone
set_option linter.unusedVariables false
set_option linter.unusedSimpArgs false

/-! ### sacristanref09_instr: function 57 -/
mutual
def sacristanref09_instr.j0 : Nat → Int → Bool → Int → Int → Int → List (S32) → Int → Int → Option (Bool)
  | 0, _, _, _, _, _, _, _, _ => none
  | k + 1, x20, x21, x275000, x275001, x275002, x275003, x276000, x276001 => if x21 = true then ((sacristanref09_place.f x276001 x275001).bind fun t279 => (some t279)) else (if x20 = 8 then ((sacristanref09_place.f x276001 x275002).bind fun t280 => (some t280)) else (if x20 = 13 then (sacristanref09_instr.j1 k x20 (x20 == 13) x275000 x275001 x275002 x275003 x276000 x276001) else (sacristanref09_instr.j1 k x20 (x20 == 14) x275000 x275001 x275002 x275003 x276000 x276001)))
def sacristanref09_instr.j1 : Nat → Int → Bool → Int → Int → Int → List (S32) → Int → Int → Option (Bool)
  | 0, _, _, _, _, _, _, _, _ => none
  | k + 1, x20, x36, x275000, x275001, x275002, x275003, x276000, x276001 => if x36 = true then ((sacristanref09_place.f x276001 (x275003.length : Int)).bind fun t281 => (some t281)) else (if x20 = 1 then (sacristanref09_instr.j2 k (x20 == 1) x276000 x276001) else (if x20 = 2 then (sacristanref09_instr.j2 k (x20 == 2) x276000 x276001) else (if x20 = 9 then (sacristanref09_instr.j2 k (x20 == 9) x276000 x276001) else (if x20 = 10 then (sacristanref09_instr.j2 k (x20 == 10) x276000 x276001) else (if x20 = 11 then (sacristanref09_instr.j2 k (x20 == 11) x276000 x276001) else (if x20 = 16 then (sacristanref09_instr.j2 k (x20 == 16) x276000 x276001) else (if x20 = 17 then (sacristanref09_instr.j2 k (x20 == 17) x276000 x276001) else (sacristanref09_instr.j2 k (x20 == 18) x276000 x276001))))))))
def sacristanref09_instr.j2 : Nat → Bool → Int → Int → Option (Bool)
  | 0, _, _, _ => none
  | k + 1, x45, x276000, x276001 => if x45 = true then (some true) else (some (x276001 == 0))
end
def sacristanref09_instr.f (k : Nat) (l0_0 : List Int) (l0_1 : List ByteArray) (l0_2 : List (S44)) (l0_3 : List (S41)) (a1_0 : Int) (a1_1 : Int) (a1_2 : Int) (l1_3 : List (S32)) (a2_0 : Int) (a2_1 : Int) : Option (Bool) := (sacristanref09_Effect.f k l0_0 l0_1 l0_2 l0_3 a2_0 a2_1).bind fun bt276 => (if bt276.2.2 = true then (if a2_0 = 6 then (sacristanref09_instr.j0 k a2_0 (a2_0 == 6) a1_0 a1_1 a1_2 l1_3 a2_0 a2_1) else (sacristanref09_instr.j0 k a2_0 (a2_0 == 7) a1_0 a1_1 a1_2 l1_3 a2_0 a2_1)) else (some false))
theorem sacristanref09_instr.mono_l : ∀ k, (∀ y0 y1 y2 y3 y4 y5 y6 y7, LeO (sacristanref09_instr.j0 k y0 y1 y2 y3 y4 y5 y6 y7) (sacristanref09_instr.j0 (k + 1) y0 y1 y2 y3 y4 y5 y6 y7)) ∧ (∀ y0 y1 y2 y3 y4 y5 y6 y7, LeO (sacristanref09_instr.j1 k y0 y1 y2 y3 y4 y5 y6 y7) (sacristanref09_instr.j1 (k + 1) y0 y1 y2 y3 y4 y5 y6 y7)) ∧ (∀ y0 y1 y2, LeO (sacristanref09_instr.j2 k y0 y1 y2) (sacristanref09_instr.j2 (k + 1) y0 y1 y2))
  | 0 => ⟨fun _ _ _ _ _ _ _ _ r h => by simp [sacristanref09_instr.j0] at h, fun _ _ _ _ _ _ _ _ r h => by simp [sacristanref09_instr.j1] at h, fun _ _ _ r h => by simp [sacristanref09_instr.j2] at h⟩
  | k + 1 => by
    obtain ⟨ih0, ih1, ih2⟩ := sacristanref09_instr.mono_l k
    refine ⟨?_, ?_, ?_⟩
    · intro y0 y1 y2 y3 y4 y5 y6 y7
      unfold sacristanref09_instr.j0
      repeat' first | (with_reducible exact ih1 _ _ _ _ _ _ _ _) | (with_reducible exact LeO.refl _) | (with_reducible refine LeO.ite ?_ ?_)
    · intro y0 y1 y2 y3 y4 y5 y6 y7
      unfold sacristanref09_instr.j1
      repeat' first | (with_reducible exact ih2 _ _ _) | (with_reducible exact LeO.refl _) | (with_reducible refine LeO.ite ?_ ?_)
    · intro y0 y1 y2
      unfold sacristanref09_instr.j2
      repeat' (with_reducible exact LeO.refl _)
theorem sacristanref09_instr.mono : ∀ a0 a1 a2 a3 a4 a5 a6 a7 a8 a9 k, LeO (sacristanref09_instr.f k a0 a1 a2 a3 a4 a5 a6 a7 a8 a9) (sacristanref09_instr.f (k + 1) a0 a1 a2 a3 a4 a5 a6 a7 a8 a9) := by
  intro a0 a1 a2 a3 a4 a5 a6 a7 a8 a9 k
  obtain ⟨ih0, ih1, ih2⟩ := sacristanref09_instr.mono_l k
  unfold sacristanref09_instr.f
  repeat' first | (with_reducible exact ih0 _ _ _ _ _ _ _ _) | (with_reducible exact sacristanref09_Effect.mono _ _ _ _ _ _ _) | (with_reducible exact LeO.refl _) | (with_reducible refine LeO.ite ?_ ?_) | (with_reducible refine LeO.bind ?_ (fun _ => ?_))
set_option maxHeartbeats 8000000 in
set_option maxRecDepth 100000 in
theorem sacristanref09_instr.calls (k : Nat) (A0_0 : Option Addr) (c0_0 : Nat) (l0_0 : List Int) (A0_1 : Option Addr) (c0_1 : Nat) (l0_1 : List ByteArray) (A0_2 : Option Addr) (c0_2 : Nat) (l0_2 : List (S44)) (A0_3 : Option Addr) (c0_3 : Nat) (l0_3 : List (S41)) (a1_0 : Int) (a1_1 : Int) (a1_2 : Int) (A1_3 : Option Addr) (c1_3 : Nat) (l1_3 : List (S32)) (a2_0 : Int) (a2_1 : Int) (r : Bool) (w : World) (hr0_0 : Kd.C (Kd.int .i64) w A0_0 l0_0.length l0_0) (hc0_0 : l0_0.length ≤ c0_0) (hr0_1 : Kd.C Kd.string w A0_1 l0_1.length l0_1) (hc0_1 : l0_1.length ≤ c0_1) (hr0_2 : Kd.C k44 w A0_2 l0_2.length l0_2) (hc0_2 : l0_2.length ≤ c0_2) (hr0_3 : Kd.C k41 w A0_3 l0_3.length l0_3) (hc0_3 : l0_3.length ≤ c0_3) (hr1_3 : Kd.C k32 w A1_3 l1_3.length l1_3) (hc1_3 : l1_3.length ≤ c1_3) (h : sacristanref09_instr.f k l0_0 l0_1 l0_2 l0_3 a1_0 a1_1 a1_2 l1_3 a2_0 a2_1 = some r) :
    Calls Tryd.prog 57 #[.agg #[.slice A0_0 l0_0.length c0_0, .slice A0_1 l0_1.length c0_1, .slice A0_2 l0_2.length c0_2, .slice A0_3 l0_3.length c0_3], .agg #[.int .i64 a1_0, .int .i64 a1_1, .int .i64 a1_2, .slice A1_3 l1_3.length c1_3], .agg #[.int .u8 a2_0, .int .i64 a2_1]] w fun e w' => e = .returned (.bool r) ∧ Below w.heap.size w w' := by
  have hu30 := Tryd.underlying30
  have hu44 := Tryd.underlying44
  have hu32 := Tryd.underlying32
  have HR0_0 := Aside0.mk hr0_0
  have HC0_0 := Aside0.mk hc0_0
  clear hr0_0 hc0_0
  have HR0_1 := Aside0.mk hr0_1
  have HC0_1 := Aside0.mk hc0_1
  clear hr0_1 hc0_1
  have HR0_2 := Aside0.mk hr0_2
  have HC0_2 := Aside0.mk hc0_2
  clear hr0_2 hc0_2
  have HR0_3 := Aside0.mk hr0_3
  have HC0_3 := Aside0.mk hc0_3
  clear hr0_3 hc0_3
  have HR1_3 := Aside0.mk hr1_3
  have HC1_3 := Aside0.mk hc1_3
  clear hr1_3 hc1_3
  have HB := Aside0.mk (Below.refl w.heap.size w)
  have H : ((sacristanref09_Effect.f k l0_0 l0_1 l0_2 l0_3 a2_0 a2_1).bind fun bt276 => (if bt276.2.2 = true then (if a2_0 = 6 then (sacristanref09_instr.j0 k a2_0 (a2_0 == 6) a1_0 a1_1 a1_2 l1_3 a2_0 a2_1) else (sacristanref09_instr.j0 k a2_0 (a2_0 == 7) a1_0 a1_1 a1_2 l1_3 a2_0 a2_1)) else (some false))) = some r := h
  clear h
  replace H := Option.bind_eq_some_iff.mp H
  obtain ⟨⟨t276, t277, t278⟩, A40, H⟩ := H
  (try dsimp only at H)
  have A4 := Aside0.mk A40
  clear A40
  by_cases c5 : t278 = true
  · subst c5
    have H1 : (if a2_0 = 6 then (sacristanref09_instr.j0 k a2_0 (a2_0 == 6) a1_0 a1_1 a1_2 l1_3 a2_0 a2_1) else (sacristanref09_instr.j0 k a2_0 (a2_0 == 7) a1_0 a1_1 a1_2 l1_3 a2_0 a2_1)) = some r := by rw [if_pos rfl] at H; exact H
    clear H
    have H := H1
    clear H1
    have HC6 := Aside0.mk H
    clear H
    go_enter Tryd.func57, Tryd.ntmps57
    go_upto_if 21 with (first | ((with_reducible refine gate_dst (N := 3) rfl ?_); refine box_event ?hg (N := 3) ?hd (cs := #[.slice A0_0 l0_0.length c0_0, .slice A0_1 l0_1.length c0_1, .slice A0_2 l0_2.length c0_2, .slice A0_3 l0_3.length c0_3]) (t := 30) ?hr ?_; (case hd => rfl); (case hg => rfl); (case hr => ((go_simp; done))); intro gb273 hg w7 hbox hb; have n0_ := Aside0.mk (below_step (by repeat ((with_reducible exact HB.out))) hb); have n1_ := Aside0.mk (hbox); have n2_ := Aside0.mk ((by rw [hg]; exact (below_size (by repeat ((with_reducible exact HB.out)))) : w.heap.size ≤ gb273)); have n3_ := Aside0.mk ((by rw [hg]; exact (below_size (by repeat ((with_reducible exact HB.out)))) : w.heap.size ≤ gb273)); clear HB; have HB := n0_; have BK273 := n1_; have GW273 := n2_; have GE273 := n3_; clear n0_ n1_ n2_ n3_; clear hb hbox hg) | ((with_reducible refine gate_dst (N := 4) rfl ?_); refine box_event ?hg (N := 4) ?hd (cs := #[.int .i64 a1_0, .int .i64 a1_1, .int .i64 a1_2, .slice A1_3 l1_3.length c1_3]) (t := 44) ?hr ?_; (case hd => rfl); (case hg => rfl); (case hr => ((go_simp; done))); intro gb274 hg w8 hbox hb; have n0_ := Aside0.mk (blk_below (g := gb273) (o := .cells #[.slice A0_0 l0_0.length c0_0, .slice A0_1 l0_1.length c0_1, .slice A0_2 l0_2.length c0_2, .slice A0_3 l0_3.length c0_3] 30 (0, 0)) (by (with_reducible repeat (fail)); exact BK273.out) hb); have n1_ := Aside0.mk (below_step (by repeat ((with_reducible exact HB.out))) hb); have n2_ := Aside0.mk (hbox); have n3_ := Aside0.mk ((by rw [hg]; exact (below_size (by repeat ((with_reducible exact HB.out)))) : w.heap.size ≤ gb274)); have n4_ := Aside0.mk ((by rw [hg]; exact (below_size (by repeat ((with_reducible exact HB.out)))) : w.heap.size ≤ gb274)); have n5_ := Aside0.mk ((by rw [hg]; exact Nat.ne_of_lt (blk_lt (g := gb273) (o := .cells #[.slice A0_0 l0_0.length c0_0, .slice A0_1 l0_1.length c0_1, .slice A0_2 l0_2.length c0_2, .slice A0_3 l0_3.length c0_3] 30 (0, 0)) (by (with_reducible repeat (fail)); exact BK273.out)) : gb273 ≠ gb274)); have n6_ := Aside0.mk ((by rw [hg]; exact Nat.ne_of_gt (blk_lt (g := gb273) (o := .cells #[.slice A0_0 l0_0.length c0_0, .slice A0_1 l0_1.length c0_1, .slice A0_2 l0_2.length c0_2, .slice A0_3 l0_3.length c0_3] 30 (0, 0)) (by (with_reducible repeat (fail)); exact BK273.out)) : gb274 ≠ gb273)); clear BK273; clear HB; have BK273 := n0_; have HB := n1_; have BK274 := n2_; have GW274 := n3_; have GE274 := n4_; have NB273_274 := n5_; have NB274_273 := n6_; clear n0_ n1_ n2_ n3_ n4_ n5_ n6_; clear hb hbox hg) | ((with_reducible refine gate_dst (N := 5) rfl ?_); refine box_event ?hg (N := 5) ?hd (cs := #[.int .u8 a2_0, .int .i64 a2_1]) (t := 32) ?hr ?_; (case hd => rfl); (case hg => rfl); (case hr => ((go_simp; done))); intro gb275 hg w9 hbox hb; have n0_ := Aside0.mk (blk_below (g := gb273) (o := .cells #[.slice A0_0 l0_0.length c0_0, .slice A0_1 l0_1.length c0_1, .slice A0_2 l0_2.length c0_2, .slice A0_3 l0_3.length c0_3] 30 (0, 0)) (by (with_reducible repeat (fail)); exact BK273.out) hb); have n1_ := Aside0.mk (blk_below (g := gb274) (o := .cells #[.int .i64 a1_0, .int .i64 a1_1, .int .i64 a1_2, .slice A1_3 l1_3.length c1_3] 44 (0, 0)) (by (with_reducible repeat (fail)); exact BK274.out) hb); have n2_ := Aside0.mk (below_step (by repeat ((with_reducible exact HB.out))) hb); have n3_ := Aside0.mk (hbox); have n4_ := Aside0.mk ((by rw [hg]; exact (below_size (by repeat ((with_reducible exact HB.out)))) : w.heap.size ≤ gb275)); have n5_ := Aside0.mk ((by rw [hg]; exact (below_size (by repeat ((with_reducible exact HB.out)))) : w.heap.size ≤ gb275)); have n6_ := Aside0.mk ((by rw [hg]; exact Nat.ne_of_lt (blk_lt (g := gb273) (o := .cells #[.slice A0_0 l0_0.length c0_0, .slice A0_1 l0_1.length c0_1, .slice A0_2 l0_2.length c0_2, .slice A0_3 l0_3.length c0_3] 30 (0, 0)) (by (with_reducible repeat (fail)); exact BK273.out)) : gb273 ≠ gb275)); have n7_ := Aside0.mk ((by rw [hg]; exact Nat.ne_of_gt (blk_lt (g := gb273) (o := .cells #[.slice A0_0 l0_0.length c0_0, .slice A0_1 l0_1.length c0_1, .slice A0_2 l0_2.length c0_2, .slice A0_3 l0_3.length c0_3] 30 (0, 0)) (by (with_reducible repeat (fail)); exact BK273.out)) : gb275 ≠ gb273)); have n8_ := Aside0.mk ((by rw [hg]; exact Nat.ne_of_lt (blk_lt (g := gb274) (o := .cells #[.int .i64 a1_0, .int .i64 a1_1, .int .i64 a1_2, .slice A1_3 l1_3.length c1_3] 44 (0, 0)) (by (with_reducible repeat (fail)); exact BK274.out)) : gb274 ≠ gb275)); have n9_ := Aside0.mk ((by rw [hg]; exact Nat.ne_of_gt (blk_lt (g := gb274) (o := .cells #[.int .i64 a1_0, .int .i64 a1_1, .int .i64 a1_2, .slice A1_3 l1_3.length c1_3] 44 (0, 0)) (by (with_reducible repeat (fail)); exact BK274.out)) : gb275 ≠ gb274)); clear BK273; clear BK274; clear HB; have BK273 := n0_; have BK274 := n1_; have HB := n2_; have BK275 := n3_; have GW275 := n4_; have GE275 := n5_; have NB273_275 := n6_; have NB275_273 := n7_; have NB274_275 := n8_; have NB275_274 := n9_; clear n0_ n1_ n2_ n3_ n4_ n5_ n6_ n7_ n8_ n9_; clear hb hbox hg; have hnb10 := NB273_274.out; have hnc10 := NB274_273.out; have hnb11 := NB273_275.out; have hnc11 := NB275_273.out; have hcz12_0 : w9.cell? ⟨gb273, 0, none⟩ = some (.slice A0_0 l0_0.length c0_0) := (blk_cell BK273.out 0).trans rfl; have hcz12_1 : w9.cell? ⟨gb273, 1, none⟩ = some (.slice A0_1 l0_1.length c0_1) := (blk_cell BK273.out 1).trans rfl; have hcz12_2 : w9.cell? ⟨gb273, 2, none⟩ = some (.slice A0_2 l0_2.length c0_2) := (blk_cell BK273.out 2).trans rfl; have hcz12_3 : w9.cell? ⟨gb273, 3, none⟩ = some (.slice A0_3 l0_3.length c0_3) := (blk_cell BK273.out 3).trans rfl; have hfz12_0 := blk_frozen BK273.out 0; have hfz12_1 := blk_frozen BK273.out 1; have hfz12_2 := blk_frozen BK273.out 2; have hfz12_3 := blk_frozen BK273.out 3; have hnb13 := NB275_274.out; have hnc13 := NB274_275.out; have hcz14_0 : w9.cell? ⟨gb275, 0, none⟩ = some (.int .u8 a2_0) := (blk_cell BK275.out 0).trans rfl; have hcz14_1 : w9.cell? ⟨gb275, 1, none⟩ = some (.int .i64 a2_1) := (blk_cell BK275.out 1).trans rfl; have hfz14_0 := blk_frozen BK275.out 0; have hfz14_1 := blk_frozen BK275.out 1) | ((with_reducible refine gate_callee (f := 21) rfl ?_); refine goesL_ (some 13) rfl rfl Tryd.func21 (by kernel_rfl) rfl #[.agg #[.slice A0_0 l0_0.length c0_0, .slice A0_1 l0_1.length c0_1, .slice A0_2 l0_2.length c0_2, .slice A0_3 l0_3.length c0_3], .agg #[.int .u8 a2_0, .int .i64 a2_1]] rfl (by (try simp only [List.map_toArray, List.map_cons, List.map_nil]); rfl) ?_; (with_reducible refine (sacristanref09_Effect.calls k _ _ l0_0 _ _ l0_1 _ _ l0_2 _ _ l0_3 a2_0 a2_1 t276 t277 true _ ?side1 ?side2 ?side3 ?side4 ?side5 ?side6 ?side7 ?side8 A4.out).mono ?_); (case side1 => repeat (exact (Kd.C_below HR0_0.out HB.out))); (case side2 => exact HC0_0.out); (case side3 => repeat (exact (Kd.C_below HR0_1.out HB.out))); (case side4 => exact HC0_1.out); (case side5 => repeat (exact (Kd.C_below HR0_2.out HB.out))); (case side6 => exact HC0_2.out); (case side7 => repeat (exact (Kd.C_below HR0_3.out HB.out))); (case side8 => exact HC0_3.out); rintro e w15 ⟨rfl, hb⟩; refine ⟨_, rfl, ?_⟩; have n0_ := Aside0.mk (blk_below (g := gb273) (o := .cells #[.slice A0_0 l0_0.length c0_0, .slice A0_1 l0_1.length c0_1, .slice A0_2 l0_2.length c0_2, .slice A0_3 l0_3.length c0_3] 30 (0, 0)) (by (with_reducible repeat (fail)); exact BK273.out) hb); have n1_ := Aside0.mk (blk_below (g := gb274) (o := .cells #[.int .i64 a1_0, .int .i64 a1_1, .int .i64 a1_2, .slice A1_3 l1_3.length c1_3] 44 (0, 0)) (by (with_reducible repeat (fail)); exact BK274.out) hb); have n2_ := Aside0.mk (blk_below (g := gb275) (o := .cells #[.int .u8 a2_0, .int .i64 a2_1] 32 (0, 0)) (by (with_reducible repeat (fail)); exact BK275.out) hb); have n3_ := Aside0.mk (below_step (by repeat ((with_reducible exact HB.out))) hb); clear BK273; clear BK274; clear BK275; clear HB; have BK273 := n0_; have BK274 := n1_; have BK275 := n2_; have HB := n3_; clear n0_ n1_ n2_ n3_; (try clear hb); have hcz16_0 : w15.cell? ⟨gb275, 0, none⟩ = some (.int .u8 a2_0) := (blk_cell BK275.out 0).trans rfl; have hcz16_1 : w15.cell? ⟨gb275, 1, none⟩ = some (.int .i64 a2_1) := (blk_cell BK275.out 1).trans rfl; have hfz16_0 := blk_frozen BK275.out 0; have hfz16_1 := blk_frozen BK275.out 1))
    go_cut [21] (fun v21 wc => ∃ (kq : Nat) (x21_5 : Bool), v21 = .bool x21_5 ∧ Aside0 (sacristanref09_instr.j0 kq a2_0 x21_5 a1_0 a1_1 a1_2 l1_3 a2_0 a2_1 = some r) ∧ Aside0 (kq ≤ k) ∧ Aside0 (wc.heap[gb273]? = some (.cells #[(.slice A0_0 l0_0.length c0_0), (.slice A0_1 l0_1.length c0_1), (.slice A0_2 l0_2.length c0_2), (.slice A0_3 l0_3.length c0_3)] 30 (0, 0))) ∧ Aside0 (wc.heap[gb274]? = some (.cells #[.int .i64 a1_0, .int .i64 a1_1, .int .i64 a1_2, (.slice A1_3 l1_3.length c1_3)] 44 (0, 0))) ∧ Aside0 (wc.heap[gb275]? = some (.cells #[.int .u8 a2_0, .int .i64 a2_1] 32 (0, 0))) ∧ Aside0 (Below w.heap.size w wc))
    case first =>
      have H := HC6.out
      clear HC6
      by_cases c17 : a2_0 = 6
      · rw [if_pos c17] at H
        have c17b0 : (a2_0 == 6) = true := beq_iff_eq.mpr c17
        have c17b1 : (a2_0 != 6) = false := bne_eq_false_iff_eq.mpr c17
        clear c17
        (rw [c17b0])
        have H' := Aside0.mk H
        clear H
        go_wp2
        go_meet
        case rel => exact ⟨_, ((a2_0 == 6)), (by ((simp [*]; done))), H', ⟨by omega⟩, ⟨by (with_reducible repeat (fail)); exact BK273.out⟩, ⟨by (with_reducible repeat (fail)); exact BK274.out⟩, ⟨by (with_reducible repeat (fail)); exact BK275.out⟩, ⟨by repeat ((with_reducible exact HB.out))⟩⟩
      rw [if_neg c17] at H
      have c17b0 : (a2_0 == 6) = false := beq_eq_false_iff_ne.mpr c17
      have c17b1 : (a2_0 != 6) = true := bne_iff_ne.mpr c17
      (rw [c17b0])
      have H' := Aside0.mk H
      clear H
      go_wp2
      go_meet
      case rel => exact ⟨_, ((a2_0 == 7)), (by rfl), H', ⟨by omega⟩, ⟨by (with_reducible repeat (fail)); exact BK273.out⟩, ⟨by (with_reducible repeat (fail)); exact BK274.out⟩, ⟨by (with_reducible repeat (fail)); exact BK275.out⟩, ⟨by repeat ((with_reducible exact HB.out))⟩⟩
    case rest =>
      clear HC6 hcz12_0 hcz12_1 hcz12_2 hcz12_3 hcz14_0 hcz14_1 hcz16_0 hcz16_1 hfz12_0 hfz12_1 hfz12_2 hfz12_3 hfz14_0 hfz14_1 hfz16_0 hfz16_1
      obtain ⟨kq, x21_5, rfl, HA, HJ5, BK273, BK274, BK275, HB⟩ := hcut
      cases kq with
      | zero => exact absurd HA.out (by simp [sacristanref09_instr.j0])
      | succ kj5 =>
        have H := HA.out
        clear HA
        simp only [sacristanref09_instr.j0] at H
        by_cases c18 : x21_5 = true
        · subst c18
          have H1 : ((sacristanref09_place.f a2_1 a1_1).bind fun t279 => (some t279)) = some r := by rw [if_pos rfl] at H; exact H
          clear H
          have H := H1
          clear H1
          replace H := Option.bind_eq_some_iff.mp H
          obtain ⟨t279, A190, H⟩ := H
          replace H : (some t279) = some r := H
          have A19 := Aside0.mk A190
          clear A190
          obtain rfl := Option.some.inj H
          have hnb20 := NB275_273.out
          have hnc20 := NB273_275.out
          have hnb21 := NB275_274.out
          have hnc21 := NB274_275.out
          have hcz22_0 : wc.cell? ⟨gb275, 0, none⟩ = some (.int .u8 a2_0) := (blk_cell BK275.out 0).trans rfl
          have hcz22_1 : wc.cell? ⟨gb275, 1, none⟩ = some (.int .i64 a2_1) := (blk_cell BK275.out 1).trans rfl
          have hfz22_0 := blk_frozen BK275.out 0
          have hfz22_1 := blk_frozen BK275.out 1
          have hnb23 := NB274_273.out
          have hnc23 := NB273_274.out
          have hcz24_0 : wc.cell? ⟨gb274, 0, none⟩ = some (.int .i64 a1_0) := (blk_cell BK274.out 0).trans rfl
          have hcz24_1 : wc.cell? ⟨gb274, 1, none⟩ = some (.int .i64 a1_1) := (blk_cell BK274.out 1).trans rfl
          have hcz24_2 : wc.cell? ⟨gb274, 2, none⟩ = some (.int .i64 a1_2) := (blk_cell BK274.out 2).trans rfl
          have hcz24_3 : wc.cell? ⟨gb274, 3, none⟩ = some (.slice A1_3 l1_3.length c1_3) := (blk_cell BK274.out 3).trans rfl
          have hfz24_0 := blk_frozen BK274.out 0
          have hfz24_1 := blk_frozen BK274.out 1
          have hfz24_2 := blk_frozen BK274.out 2
          have hfz24_3 := blk_frozen BK274.out 3
          go_wp2_with (((with_reducible refine gate_callee (f := 46) rfl ?_); refine goesL_ (some 28) rfl rfl Tryd.func46 (by kernel_rfl) rfl #[.int .i64 a2_1, .int .i64 a1_1] rfl (by (try simp only [List.map_toArray, List.map_cons, List.map_nil]); rfl) ?_; (with_reducible refine (sacristanref09_place.calls a2_1 a1_1 t279 _ A19.out).mono ?_); rintro e w' ⟨rfl, ⟨nd, rfl⟩⟩; refine ⟨_, rfl, ?_⟩))
          go_ret
          exact ⟨by rfl, by repeat ((with_reducible first | exact HB.out | apply pw_below_drewN))⟩
        replace c18 := Bool.eq_false_iff.mpr c18
        subst c18
        have H1 : (if a2_0 = 8 then ((sacristanref09_place.f a2_1 a1_2).bind fun t280 => (some t280)) else (if a2_0 = 13 then (sacristanref09_instr.j1 kj5 a2_0 (a2_0 == 13) a1_0 a1_1 a1_2 l1_3 a2_0 a2_1) else (sacristanref09_instr.j1 kj5 a2_0 (a2_0 == 14) a1_0 a1_1 a1_2 l1_3 a2_0 a2_1))) = some r := by rw [if_neg (show ¬ (false = true) by decide)] at H; exact H
        clear H
        have H := H1
        clear H1
        by_cases c25 : a2_0 = 8
        · rw [if_pos c25] at H
          have c25b0 : (a2_0 == 8) = true := beq_iff_eq.mpr c25
          have c25b1 : (a2_0 != 8) = false := bne_eq_false_iff_eq.mpr c25
          clear c25
          replace H := Option.bind_eq_some_iff.mp H
          obtain ⟨t280, A260, H⟩ := H
          replace H : (some t280) = some r := H
          have A26 := Aside0.mk A260
          clear A260
          obtain rfl := Option.some.inj H
          have hnb27 := NB275_273.out
          have hnc27 := NB273_275.out
          have hnb28 := NB275_274.out
          have hnc28 := NB274_275.out
          have hcz29_0 : wc.cell? ⟨gb275, 0, none⟩ = some (.int .u8 a2_0) := (blk_cell BK275.out 0).trans rfl
          have hcz29_1 : wc.cell? ⟨gb275, 1, none⟩ = some (.int .i64 a2_1) := (blk_cell BK275.out 1).trans rfl
          have hfz29_0 := blk_frozen BK275.out 0
          have hfz29_1 := blk_frozen BK275.out 1
          have hnb30 := NB274_273.out
          have hnc30 := NB273_274.out
          have hcz31_0 : wc.cell? ⟨gb274, 0, none⟩ = some (.int .i64 a1_0) := (blk_cell BK274.out 0).trans rfl
          have hcz31_1 : wc.cell? ⟨gb274, 1, none⟩ = some (.int .i64 a1_1) := (blk_cell BK274.out 1).trans rfl
          have hcz31_2 : wc.cell? ⟨gb274, 2, none⟩ = some (.int .i64 a1_2) := (blk_cell BK274.out 2).trans rfl
          have hcz31_3 : wc.cell? ⟨gb274, 3, none⟩ = some (.slice A1_3 l1_3.length c1_3) := (blk_cell BK274.out 3).trans rfl
          have hfz31_0 := blk_frozen BK274.out 0
          have hfz31_1 := blk_frozen BK274.out 1
          have hfz31_2 := blk_frozen BK274.out 2
          have hfz31_3 := blk_frozen BK274.out 3
          go_wp2_with (((with_reducible refine gate_callee (f := 46) rfl ?_); refine goesL_ (some 35) rfl rfl Tryd.func46 (by kernel_rfl) rfl #[.int .i64 a2_1, .int .i64 a1_2] rfl (by (try simp only [List.map_toArray, List.map_cons, List.map_nil]); rfl) ?_; (with_reducible refine (sacristanref09_place.calls a2_1 a1_2 t280 _ A26.out).mono ?_); rintro e w' ⟨rfl, ⟨nd, rfl⟩⟩; refine ⟨_, rfl, ?_⟩))
          go_ret
          exact ⟨by rfl, by repeat ((with_reducible first | exact HB.out | apply pw_below_drewN))⟩
        rw [if_neg c25] at H
        have c25b0 : (a2_0 == 8) = false := beq_eq_false_iff_ne.mpr c25
        have c25b1 : (a2_0 != 8) = true := bne_iff_ne.mpr c25
        have HC32 := Aside0.mk H
        clear H
        go_upto_if 36 with (fail)
        go_cut [36] (fun v36 wc => ∃ (kq : Nat) (x36_31 : Bool), v36 = .bool x36_31 ∧ Aside0 (sacristanref09_instr.j1 kq a2_0 x36_31 a1_0 a1_1 a1_2 l1_3 a2_0 a2_1 = some r) ∧ Aside0 (kq ≤ kj5) ∧ Aside0 (wc.heap[gb273]? = some (.cells #[(.slice A0_0 l0_0.length c0_0), (.slice A0_1 l0_1.length c0_1), (.slice A0_2 l0_2.length c0_2), (.slice A0_3 l0_3.length c0_3)] 30 (0, 0))) ∧ Aside0 (wc.heap[gb274]? = some (.cells #[.int .i64 a1_0, .int .i64 a1_1, .int .i64 a1_2, (.slice A1_3 l1_3.length c1_3)] 44 (0, 0))) ∧ Aside0 (wc.heap[gb275]? = some (.cells #[.int .u8 a2_0, .int .i64 a2_1] 32 (0, 0))) ∧ Aside0 (Below w.heap.size w wc))
        case first =>
          have H := HC32.out
          clear HC32
          by_cases c33 : a2_0 = 13
          · rw [if_pos c33] at H
            have c33b0 : (a2_0 == 13) = true := beq_iff_eq.mpr c33
            have c33b1 : (a2_0 != 13) = false := bne_eq_false_iff_eq.mpr c33
            clear c33
            (rw [c33b0])
            have H' := Aside0.mk H
            clear H
            go_wp2
            go_meet
            case rel => exact ⟨_, ((a2_0 == 13)), (by ((simp [*]; done))), H', ⟨by have := HJ5.out; omega⟩, ⟨by (with_reducible repeat (fail)); exact BK273.out⟩, ⟨by (with_reducible repeat (fail)); exact BK274.out⟩, ⟨by (with_reducible repeat (fail)); exact BK275.out⟩, ⟨by repeat ((with_reducible exact HB.out))⟩⟩
          rw [if_neg c33] at H
          have c33b0 : (a2_0 == 13) = false := beq_eq_false_iff_ne.mpr c33
          have c33b1 : (a2_0 != 13) = true := bne_iff_ne.mpr c33
          (rw [c33b0])
          have H' := Aside0.mk H
          clear H
          go_wp2
          go_meet
          case rel => exact ⟨_, ((a2_0 == 14)), (by rfl), H', ⟨by have := HJ5.out; omega⟩, ⟨by (with_reducible repeat (fail)); exact BK273.out⟩, ⟨by (with_reducible repeat (fail)); exact BK274.out⟩, ⟨by (with_reducible repeat (fail)); exact BK275.out⟩, ⟨by repeat ((with_reducible exact HB.out))⟩⟩
        case rest =>
          clear HC32 c25 c25b0 c25b1
          obtain ⟨kq, x36_31, rfl, HA, HJ31, BK273, BK274, BK275, HB⟩ := hcut
          cases kq with
          | zero => exact absurd HA.out (by simp [sacristanref09_instr.j1])
          | succ kj31 =>
            have H := HA.out
            clear HA
            simp only [sacristanref09_instr.j1] at H
            by_cases c34 : x36_31 = true
            · subst c34
              have H1 : ((sacristanref09_place.f a2_1 (l1_3.length : Int)).bind fun t281 => (some t281)) = some r := by rw [if_pos rfl] at H; exact H
              clear H
              have H := H1
              clear H1
              replace H := Option.bind_eq_some_iff.mp H
              obtain ⟨t281, A350, H⟩ := H
              replace H : (some t281) = some r := H
              have A35 := Aside0.mk A350
              clear A350
              obtain rfl := Option.some.inj H
              have hnb36 := NB275_273.out
              have hnc36 := NB273_275.out
              have hnb37 := NB275_274.out
              have hnc37 := NB274_275.out
              have hcz38_0 : wc.cell? ⟨gb275, 0, none⟩ = some (.int .u8 a2_0) := (blk_cell BK275.out 0).trans rfl
              have hcz38_1 : wc.cell? ⟨gb275, 1, none⟩ = some (.int .i64 a2_1) := (blk_cell BK275.out 1).trans rfl
              have hfz38_0 := blk_frozen BK275.out 0
              have hfz38_1 := blk_frozen BK275.out 1
              have hnb39 := NB274_273.out
              have hnc39 := NB273_274.out
              have hcz40_0 : wc.cell? ⟨gb274, 0, none⟩ = some (.int .i64 a1_0) := (blk_cell BK274.out 0).trans rfl
              have hcz40_1 : wc.cell? ⟨gb274, 1, none⟩ = some (.int .i64 a1_1) := (blk_cell BK274.out 1).trans rfl
              have hcz40_2 : wc.cell? ⟨gb274, 2, none⟩ = some (.int .i64 a1_2) := (blk_cell BK274.out 2).trans rfl
              have hcz40_3 : wc.cell? ⟨gb274, 3, none⟩ = some (.slice A1_3 l1_3.length c1_3) := (blk_cell BK274.out 3).trans rfl
              have hfz40_0 := blk_frozen BK274.out 0
              have hfz40_1 := blk_frozen BK274.out 1
              have hfz40_2 := blk_frozen BK274.out 2
              have hfz40_3 := blk_frozen BK274.out 3
              go_wp2_with (((with_reducible refine gate_callee (f := 46) rfl ?_); refine goesL_ (some 44) rfl rfl Tryd.func46 (by kernel_rfl) rfl #[.int .i64 a2_1, .int .i64 (l1_3.length : Int)] rfl (by (try simp only [List.map_toArray, List.map_cons, List.map_nil]); rfl) ?_; (with_reducible refine (sacristanref09_place.calls a2_1 (l1_3.length : Int) t281 _ A35.out).mono ?_); rintro e w' ⟨rfl, ⟨nd, rfl⟩⟩; refine ⟨_, rfl, ?_⟩))
              go_ret
              exact ⟨by rfl, by repeat ((with_reducible first | exact HB.out | apply pw_below_drewN))⟩
            replace c34 := Bool.eq_false_iff.mpr c34
            subst c34
            have H1 : (if a2_0 = 1 then (sacristanref09_instr.j2 kj31 (a2_0 == 1) a2_0 a2_1) else (if a2_0 = 2 then (sacristanref09_instr.j2 kj31 (a2_0 == 2) a2_0 a2_1) else (if a2_0 = 9 then (sacristanref09_instr.j2 kj31 (a2_0 == 9) a2_0 a2_1) else (if a2_0 = 10 then (sacristanref09_instr.j2 kj31 (a2_0 == 10) a2_0 a2_1) else (if a2_0 = 11 then (sacristanref09_instr.j2 kj31 (a2_0 == 11) a2_0 a2_1) else (if a2_0 = 16 then (sacristanref09_instr.j2 kj31 (a2_0 == 16) a2_0 a2_1) else (if a2_0 = 17 then (sacristanref09_instr.j2 kj31 (a2_0 == 17) a2_0 a2_1) else (sacristanref09_instr.j2 kj31 (a2_0 == 18) a2_0 a2_1)))))))) = some r := by rw [if_neg (show ¬ (false = true) by decide)] at H; exact H
            clear H
            have H := H1
            clear H1
            have HC41 := Aside0.mk H
            clear H
            go_upto_if 45 with (fail)
            go_cut [45] (fun v45 wc => ∃ (kq : Nat) (x45_40 : Bool), v45 = .bool x45_40 ∧ Aside0 (sacristanref09_instr.j2 kq x45_40 a2_0 a2_1 = some r) ∧ Aside0 (kq ≤ kj31) ∧ Aside0 (wc.heap[gb273]? = some (.cells #[(.slice A0_0 l0_0.length c0_0), (.slice A0_1 l0_1.length c0_1), (.slice A0_2 l0_2.length c0_2), (.slice A0_3 l0_3.length c0_3)] 30 (0, 0))) ∧ Aside0 (wc.heap[gb274]? = some (.cells #[.int .i64 a1_0, .int .i64 a1_1, .int .i64 a1_2, (.slice A1_3 l1_3.length c1_3)] 44 (0, 0))) ∧ Aside0 (wc.heap[gb275]? = some (.cells #[.int .u8 a2_0, .int .i64 a2_1] 32 (0, 0))) ∧ Aside0 (Below w.heap.size w wc))
            case first =>
              have H := HC41.out
              clear HC41
              by_cases c42 : a2_0 = 1
              · rw [if_pos c42] at H
                have c42b0 : (a2_0 == 1) = true := beq_iff_eq.mpr c42
                have c42b1 : (a2_0 != 1) = false := bne_eq_false_iff_eq.mpr c42
                clear c42
                (rw [c42b0])
                have H' := Aside0.mk H
                clear H
                go_wp2
                go_meet
                case rel => exact ⟨_, ((a2_0 == 1)), (by ((simp [*]; done))), H', ⟨by have := HJ5.out; have := HJ31.out; omega⟩, ⟨by (with_reducible repeat (fail)); exact BK273.out⟩, ⟨by (with_reducible repeat (fail)); exact BK274.out⟩, ⟨by (with_reducible repeat (fail)); exact BK275.out⟩, ⟨by repeat ((with_reducible exact HB.out))⟩⟩
              rw [if_neg c42] at H
              have c42b0 : (a2_0 == 1) = false := beq_eq_false_iff_ne.mpr c42
              have c42b1 : (a2_0 != 1) = true := bne_iff_ne.mpr c42
              (rw [c42b0])
              by_cases c43 : a2_0 = 2
              · rw [if_pos c43] at H
                have c43b0 : (a2_0 == 2) = true := beq_iff_eq.mpr c43
                have c43b1 : (a2_0 != 2) = false := bne_eq_false_iff_eq.mpr c43
                clear c43
                have H' := Aside0.mk H
                clear H
                go_wp2
                go_meet
                case rel => exact ⟨_, ((a2_0 == 2)), (by ((simp [*]; done))), H', ⟨by have := HJ5.out; have := HJ31.out; omega⟩, ⟨by (with_reducible repeat (fail)); exact BK273.out⟩, ⟨by (with_reducible repeat (fail)); exact BK274.out⟩, ⟨by (with_reducible repeat (fail)); exact BK275.out⟩, ⟨by repeat ((with_reducible exact HB.out))⟩⟩
              rw [if_neg c43] at H
              have c43b0 : (a2_0 == 2) = false := beq_eq_false_iff_ne.mpr c43
              have c43b1 : (a2_0 != 2) = true := bne_iff_ne.mpr c43
              by_cases c44 : a2_0 = 9
              · rw [if_pos c44] at H
                have c44b0 : (a2_0 == 9) = true := beq_iff_eq.mpr c44
                have c44b1 : (a2_0 != 9) = false := bne_eq_false_iff_eq.mpr c44
                clear c44
                have H' := Aside0.mk H
                clear H
                go_wp2
                go_meet
                case rel => exact ⟨_, ((a2_0 == 9)), (by ((simp [*]; done))), H', ⟨by have := HJ5.out; have := HJ31.out; omega⟩, ⟨by (with_reducible repeat (fail)); exact BK273.out⟩, ⟨by (with_reducible repeat (fail)); exact BK274.out⟩, ⟨by (with_reducible repeat (fail)); exact BK275.out⟩, ⟨by repeat ((with_reducible exact HB.out))⟩⟩
              rw [if_neg c44] at H
              have c44b0 : (a2_0 == 9) = false := beq_eq_false_iff_ne.mpr c44
              have c44b1 : (a2_0 != 9) = true := bne_iff_ne.mpr c44
              by_cases c45 : a2_0 = 10
              · rw [if_pos c45] at H
                have c45b0 : (a2_0 == 10) = true := beq_iff_eq.mpr c45
                have c45b1 : (a2_0 != 10) = false := bne_eq_false_iff_eq.mpr c45
                clear c45
                have H' := Aside0.mk H
                clear H
                go_wp2
                go_meet
                case rel => exact ⟨_, ((a2_0 == 10)), (by ((simp [*]; done))), H', ⟨by have := HJ5.out; have := HJ31.out; omega⟩, ⟨by (with_reducible repeat (fail)); exact BK273.out⟩, ⟨by (with_reducible repeat (fail)); exact BK274.out⟩, ⟨by (with_reducible repeat (fail)); exact BK275.out⟩, ⟨by repeat ((with_reducible exact HB.out))⟩⟩
              rw [if_neg c45] at H
              have c45b0 : (a2_0 == 10) = false := beq_eq_false_iff_ne.mpr c45
              have c45b1 : (a2_0 != 10) = true := bne_iff_ne.mpr c45
              by_cases c46 : a2_0 = 11
              · rw [if_pos c46] at H
                have c46b0 : (a2_0 == 11) = true := beq_iff_eq.mpr c46
                have c46b1 : (a2_0 != 11) = false := bne_eq_false_iff_eq.mpr c46
                clear c46
                have H' := Aside0.mk H
                clear H
                go_wp2
                go_meet
                case rel => exact ⟨_, ((a2_0 == 11)), (by ((simp [*]; done))), H', ⟨by have := HJ5.out; have := HJ31.out; omega⟩, ⟨by (with_reducible repeat (fail)); exact BK273.out⟩, ⟨by (with_reducible repeat (fail)); exact BK274.out⟩, ⟨by (with_reducible repeat (fail)); exact BK275.out⟩, ⟨by repeat ((with_reducible exact HB.out))⟩⟩
              rw [if_neg c46] at H
              have c46b0 : (a2_0 == 11) = false := beq_eq_false_iff_ne.mpr c46
              have c46b1 : (a2_0 != 11) = true := bne_iff_ne.mpr c46
              by_cases c47 : a2_0 = 16
              · rw [if_pos c47] at H
                have c47b0 : (a2_0 == 16) = true := beq_iff_eq.mpr c47
                have c47b1 : (a2_0 != 16) = false := bne_eq_false_iff_eq.mpr c47
                clear c47
                have H' := Aside0.mk H
                clear H
                go_wp2
                go_meet
                case rel => exact ⟨_, ((a2_0 == 16)), (by ((simp [*]; done))), H', ⟨by have := HJ5.out; have := HJ31.out; omega⟩, ⟨by (with_reducible repeat (fail)); exact BK273.out⟩, ⟨by (with_reducible repeat (fail)); exact BK274.out⟩, ⟨by (with_reducible repeat (fail)); exact BK275.out⟩, ⟨by repeat ((with_reducible exact HB.out))⟩⟩
              rw [if_neg c47] at H
              have c47b0 : (a2_0 == 16) = false := beq_eq_false_iff_ne.mpr c47
              have c47b1 : (a2_0 != 16) = true := bne_iff_ne.mpr c47
              by_cases c48 : a2_0 = 17
              · rw [if_pos c48] at H
                have c48b0 : (a2_0 == 17) = true := beq_iff_eq.mpr c48
                have c48b1 : (a2_0 != 17) = false := bne_eq_false_iff_eq.mpr c48
                clear c48
                have H' := Aside0.mk H
                clear H
                go_wp2
                go_meet
                case rel => exact ⟨_, ((a2_0 == 17)), (by ((simp [*]; done))), H', ⟨by have := HJ5.out; have := HJ31.out; omega⟩, ⟨by (with_reducible repeat (fail)); exact BK273.out⟩, ⟨by (with_reducible repeat (fail)); exact BK274.out⟩, ⟨by (with_reducible repeat (fail)); exact BK275.out⟩, ⟨by repeat ((with_reducible exact HB.out))⟩⟩
              rw [if_neg c48] at H
              have c48b0 : (a2_0 == 17) = false := beq_eq_false_iff_ne.mpr c48
              have c48b1 : (a2_0 != 17) = true := bne_iff_ne.mpr c48
              have H' := Aside0.mk H
              clear H
              go_wp2
              go_meet
              case rel => exact ⟨_, ((a2_0 == 18)), (by rfl), H', ⟨by have := HJ5.out; have := HJ31.out; omega⟩, ⟨by (with_reducible repeat (fail)); exact BK273.out⟩, ⟨by (with_reducible repeat (fail)); exact BK274.out⟩, ⟨by (with_reducible repeat (fail)); exact BK275.out⟩, ⟨by repeat ((with_reducible exact HB.out))⟩⟩
            case rest =>
              clear HC41
              obtain ⟨kq, x45_40, rfl, HA, HJ40, BK273, BK274, BK275, HB⟩ := hcut
              cases kq with
              | zero => exact absurd HA.out (by simp [sacristanref09_instr.j2])
              | succ kj40 =>
                have H := HA.out
                clear HA
                simp only [sacristanref09_instr.j2] at H
                by_cases c49 : x45_40 = true
                · subst c49
                  have H1 : (some true) = some r := by rw [if_pos rfl] at H; exact H
                  clear H
                  have H := H1
                  clear H1
                  obtain rfl := Option.some.inj H
                  go_wp2
                  go_ret
                  exact ⟨by rfl, by repeat ((with_reducible exact HB.out))⟩
                replace c49 := Bool.eq_false_iff.mpr c49
                subst c49
                have H1 : (some (a2_1 == 0)) = some r := by rw [if_neg (show ¬ (false = true) by decide)] at H; exact H
                clear H
                have H := H1
                clear H1
                obtain rfl := Option.some.inj H
                have hnb50 := NB275_273.out
                have hnc50 := NB273_275.out
                have hnb51 := NB275_274.out
                have hnc51 := NB274_275.out
                have hcz52_0 : wc.cell? ⟨gb275, 0, none⟩ = some (.int .u8 a2_0) := (blk_cell BK275.out 0).trans rfl
                have hcz52_1 : wc.cell? ⟨gb275, 1, none⟩ = some (.int .i64 a2_1) := (blk_cell BK275.out 1).trans rfl
                have hfz52_0 := blk_frozen BK275.out 0
                have hfz52_1 := blk_frozen BK275.out 1
                go_wp2
                go_ret
                exact ⟨by rfl, by repeat ((with_reducible exact HB.out))⟩
  replace c5 := Bool.eq_false_iff.mpr c5
  subst c5
  have H1 : (some false) = some r := by rw [if_neg (show ¬ (false = true) by decide)] at H; exact H
  clear H
  have H := H1
  clear H1
  obtain rfl := Option.some.inj H
  go_enter Tryd.func57, Tryd.ntmps57
  go_wp2_with (first | ((with_reducible refine gate_dst (N := 3) rfl ?_); refine box_event ?hg (N := 3) ?hd (cs := #[.slice A0_0 l0_0.length c0_0, .slice A0_1 l0_1.length c0_1, .slice A0_2 l0_2.length c0_2, .slice A0_3 l0_3.length c0_3]) (t := 30) ?hr ?_; (case hd => rfl); (case hg => rfl); (case hr => ((go_simp; done))); intro gb273 hg w53 hbox hb; have n0_ := Aside0.mk (below_step (by repeat ((with_reducible exact HB.out))) hb); have n1_ := Aside0.mk (hbox); have n2_ := Aside0.mk ((by rw [hg]; exact (below_size (by repeat ((with_reducible exact HB.out)))) : w.heap.size ≤ gb273)); have n3_ := Aside0.mk ((by rw [hg]; exact (below_size (by repeat ((with_reducible exact HB.out)))) : w.heap.size ≤ gb273)); clear HB; have HB := n0_; have BK273 := n1_; have GW273 := n2_; have GE273 := n3_; clear n0_ n1_ n2_ n3_; clear hb hbox hg) | ((with_reducible refine gate_dst (N := 4) rfl ?_); refine box_event ?hg (N := 4) ?hd (cs := #[.int .i64 a1_0, .int .i64 a1_1, .int .i64 a1_2, .slice A1_3 l1_3.length c1_3]) (t := 44) ?hr ?_; (case hd => rfl); (case hg => rfl); (case hr => ((go_simp; done))); intro gb274 hg w54 hbox hb; have n0_ := Aside0.mk (blk_below (g := gb273) (o := .cells #[.slice A0_0 l0_0.length c0_0, .slice A0_1 l0_1.length c0_1, .slice A0_2 l0_2.length c0_2, .slice A0_3 l0_3.length c0_3] 30 (0, 0)) (by (with_reducible repeat (fail)); exact BK273.out) hb); have n1_ := Aside0.mk (below_step (by repeat ((with_reducible exact HB.out))) hb); have n2_ := Aside0.mk (hbox); have n3_ := Aside0.mk ((by rw [hg]; exact (below_size (by repeat ((with_reducible exact HB.out)))) : w.heap.size ≤ gb274)); have n4_ := Aside0.mk ((by rw [hg]; exact (below_size (by repeat ((with_reducible exact HB.out)))) : w.heap.size ≤ gb274)); have n5_ := Aside0.mk ((by rw [hg]; exact Nat.ne_of_lt (blk_lt (g := gb273) (o := .cells #[.slice A0_0 l0_0.length c0_0, .slice A0_1 l0_1.length c0_1, .slice A0_2 l0_2.length c0_2, .slice A0_3 l0_3.length c0_3] 30 (0, 0)) (by (with_reducible repeat (fail)); exact BK273.out)) : gb273 ≠ gb274)); have n6_ := Aside0.mk ((by rw [hg]; exact Nat.ne_of_gt (blk_lt (g := gb273) (o := .cells #[.slice A0_0 l0_0.length c0_0, .slice A0_1 l0_1.length c0_1, .slice A0_2 l0_2.length c0_2, .slice A0_3 l0_3.length c0_3] 30 (0, 0)) (by (with_reducible repeat (fail)); exact BK273.out)) : gb274 ≠ gb273)); clear BK273; clear HB; have BK273 := n0_; have HB := n1_; have BK274 := n2_; have GW274 := n3_; have GE274 := n4_; have NB273_274 := n5_; have NB274_273 := n6_; clear n0_ n1_ n2_ n3_ n4_ n5_ n6_; clear hb hbox hg) | ((with_reducible refine gate_dst (N := 5) rfl ?_); refine box_event ?hg (N := 5) ?hd (cs := #[.int .u8 a2_0, .int .i64 a2_1]) (t := 32) ?hr ?_; (case hd => rfl); (case hg => rfl); (case hr => ((go_simp; done))); intro gb275 hg w55 hbox hb; have n0_ := Aside0.mk (blk_below (g := gb273) (o := .cells #[.slice A0_0 l0_0.length c0_0, .slice A0_1 l0_1.length c0_1, .slice A0_2 l0_2.length c0_2, .slice A0_3 l0_3.length c0_3] 30 (0, 0)) (by (with_reducible repeat (fail)); exact BK273.out) hb); have n1_ := Aside0.mk (blk_below (g := gb274) (o := .cells #[.int .i64 a1_0, .int .i64 a1_1, .int .i64 a1_2, .slice A1_3 l1_3.length c1_3] 44 (0, 0)) (by (with_reducible repeat (fail)); exact BK274.out) hb); have n2_ := Aside0.mk (below_step (by repeat ((with_reducible exact HB.out))) hb); have n3_ := Aside0.mk (hbox); have n4_ := Aside0.mk ((by rw [hg]; exact (below_size (by repeat ((with_reducible exact HB.out)))) : w.heap.size ≤ gb275)); have n5_ := Aside0.mk ((by rw [hg]; exact (below_size (by repeat ((with_reducible exact HB.out)))) : w.heap.size ≤ gb275)); have n6_ := Aside0.mk ((by rw [hg]; exact Nat.ne_of_lt (blk_lt (g := gb273) (o := .cells #[.slice A0_0 l0_0.length c0_0, .slice A0_1 l0_1.length c0_1, .slice A0_2 l0_2.length c0_2, .slice A0_3 l0_3.length c0_3] 30 (0, 0)) (by (with_reducible repeat (fail)); exact BK273.out)) : gb273 ≠ gb275)); have n7_ := Aside0.mk ((by rw [hg]; exact Nat.ne_of_gt (blk_lt (g := gb273) (o := .cells #[.slice A0_0 l0_0.length c0_0, .slice A0_1 l0_1.length c0_1, .slice A0_2 l0_2.length c0_2, .slice A0_3 l0_3.length c0_3] 30 (0, 0)) (by (with_reducible repeat (fail)); exact BK273.out)) : gb275 ≠ gb273)); have n8_ := Aside0.mk ((by rw [hg]; exact Nat.ne_of_lt (blk_lt (g := gb274) (o := .cells #[.int .i64 a1_0, .int .i64 a1_1, .int .i64 a1_2, .slice A1_3 l1_3.length c1_3] 44 (0, 0)) (by (with_reducible repeat (fail)); exact BK274.out)) : gb274 ≠ gb275)); have n9_ := Aside0.mk ((by rw [hg]; exact Nat.ne_of_gt (blk_lt (g := gb274) (o := .cells #[.int .i64 a1_0, .int .i64 a1_1, .int .i64 a1_2, .slice A1_3 l1_3.length c1_3] 44 (0, 0)) (by (with_reducible repeat (fail)); exact BK274.out)) : gb275 ≠ gb274)); clear BK273; clear BK274; clear HB; have BK273 := n0_; have BK274 := n1_; have HB := n2_; have BK275 := n3_; have GW275 := n4_; have GE275 := n5_; have NB273_275 := n6_; have NB275_273 := n7_; have NB274_275 := n8_; have NB275_274 := n9_; clear n0_ n1_ n2_ n3_ n4_ n5_ n6_ n7_ n8_ n9_; clear hb hbox hg; have hnb56 := NB273_274.out; have hnc56 := NB274_273.out; have hnb57 := NB273_275.out; have hnc57 := NB275_273.out; have hcz58_0 : w55.cell? ⟨gb273, 0, none⟩ = some (.slice A0_0 l0_0.length c0_0) := (blk_cell BK273.out 0).trans rfl; have hcz58_1 : w55.cell? ⟨gb273, 1, none⟩ = some (.slice A0_1 l0_1.length c0_1) := (blk_cell BK273.out 1).trans rfl; have hcz58_2 : w55.cell? ⟨gb273, 2, none⟩ = some (.slice A0_2 l0_2.length c0_2) := (blk_cell BK273.out 2).trans rfl; have hcz58_3 : w55.cell? ⟨gb273, 3, none⟩ = some (.slice A0_3 l0_3.length c0_3) := (blk_cell BK273.out 3).trans rfl; have hfz58_0 := blk_frozen BK273.out 0; have hfz58_1 := blk_frozen BK273.out 1; have hfz58_2 := blk_frozen BK273.out 2; have hfz58_3 := blk_frozen BK273.out 3; have hnb59 := NB275_274.out; have hnc59 := NB274_275.out; have hcz60_0 : w55.cell? ⟨gb275, 0, none⟩ = some (.int .u8 a2_0) := (blk_cell BK275.out 0).trans rfl; have hcz60_1 : w55.cell? ⟨gb275, 1, none⟩ = some (.int .i64 a2_1) := (blk_cell BK275.out 1).trans rfl; have hfz60_0 := blk_frozen BK275.out 0; have hfz60_1 := blk_frozen BK275.out 1) | ((with_reducible refine gate_callee (f := 21) rfl ?_); refine goesL_ (some 13) rfl rfl Tryd.func21 (by kernel_rfl) rfl #[.agg #[.slice A0_0 l0_0.length c0_0, .slice A0_1 l0_1.length c0_1, .slice A0_2 l0_2.length c0_2, .slice A0_3 l0_3.length c0_3], .agg #[.int .u8 a2_0, .int .i64 a2_1]] rfl (by (try simp only [List.map_toArray, List.map_cons, List.map_nil]); rfl) ?_; (with_reducible refine (sacristanref09_Effect.calls k _ _ l0_0 _ _ l0_1 _ _ l0_2 _ _ l0_3 a2_0 a2_1 t276 t277 false _ ?side1 ?side2 ?side3 ?side4 ?side5 ?side6 ?side7 ?side8 A4.out).mono ?_); (case side1 => repeat (exact (Kd.C_below HR0_0.out HB.out))); (case side2 => exact HC0_0.out); (case side3 => repeat (exact (Kd.C_below HR0_1.out HB.out))); (case side4 => exact HC0_1.out); (case side5 => repeat (exact (Kd.C_below HR0_2.out HB.out))); (case side6 => exact HC0_2.out); (case side7 => repeat (exact (Kd.C_below HR0_3.out HB.out))); (case side8 => exact HC0_3.out); rintro e w61 ⟨rfl, hb⟩; refine ⟨_, rfl, ?_⟩; have n0_ := Aside0.mk (blk_below (g := gb273) (o := .cells #[.slice A0_0 l0_0.length c0_0, .slice A0_1 l0_1.length c0_1, .slice A0_2 l0_2.length c0_2, .slice A0_3 l0_3.length c0_3] 30 (0, 0)) (by (with_reducible repeat (fail)); exact BK273.out) hb); have n1_ := Aside0.mk (blk_below (g := gb274) (o := .cells #[.int .i64 a1_0, .int .i64 a1_1, .int .i64 a1_2, .slice A1_3 l1_3.length c1_3] 44 (0, 0)) (by (with_reducible repeat (fail)); exact BK274.out) hb); have n2_ := Aside0.mk (blk_below (g := gb275) (o := .cells #[.int .u8 a2_0, .int .i64 a2_1] 32 (0, 0)) (by (with_reducible repeat (fail)); exact BK275.out) hb); have n3_ := Aside0.mk (below_step (by repeat ((with_reducible exact HB.out))) hb); clear BK273; clear BK274; clear BK275; clear HB; have BK273 := n0_; have BK274 := n1_; have BK275 := n2_; have HB := n3_; clear n0_ n1_ n2_ n3_; (try clear hb)))
  go_ret
  exact ⟨by rfl, by repeat ((with_reducible exact HB.out))⟩

end Go.Proofs.YtfncoldcjhkhiaaDoor.PC
