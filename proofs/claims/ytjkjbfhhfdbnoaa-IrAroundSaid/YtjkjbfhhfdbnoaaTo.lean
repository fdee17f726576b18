/- IrAround, walked. -/
import Derived.Test.YtjkjbfhhfdbnoaaTn
namespace Go.Proofs.Ytjkjbfhhfdbnoaa.NW
open Go.RowKit Go.Proofs.YtjkjbfhhfdbnoaaW.PrintWords Go.Proofs.YtjkjbfhhfdbnoaaW.PrintMore Go.Proofs.Ytjkjbfhhfdbnoaa.PB
set_option linter.unusedVariables false
set_option linter.unusedSimpArgs false
set_option maxHeartbeats 6400000 in
set_option maxRecDepth 1000000 in
theorem irAround_calls (z0 z1 z2 : Int) (A3 : Option Addr) (c3 : Nat) (l3 : List S39) (z4 : Int) (A5 : Option Addr) (c5 : Nat) (l5 : List Int) (A6 : Option Addr) (c6 : Nat) (l6 : List Int) (z7 z8 z9 : Int)
    (A7 : Option Addr) (c7 : Nat) (l7 : List S37) (A8 : Option Addr) (c8 : Nat) (l8 : List S37) (A0 : Option Addr) (c0 : Nat) (ups : List S37) (A2 : Option Addr) (c2 : Nat) (ons : List S54) (X0 : Option Addr) (x0 : Nat) (vps : List S37) (X2 : Option Addr) (x2 : Nat) (vns : List S54) (w : World)
    (hin : InIs w A3 c3 l3 A5 c5 l5 A6 c6 l6 A7 c7 l7 A8 c8 l8 A0 c0 ups A2 c2 ons) (hio : InIs w A3 c3 l3 A5 c5 l5 A6 c6 l6 A7 c7 l7 A8 c8 l8 X0 x0 vps X2 x2 vns) (hM : MaxOk w) :
    Calls Try.prog 10 #[.agg #[.int .i64 z0, .int .i64 z1, .int .i64 z2, .slice A3 l3.length c3, .int .i64 z4, .slice A5 l5.length c5, .slice A6 l6.length c6, .int .i64 z7, .int .i64 z8, .int .i64 z9], .slice A7 l7.length c7, .slice A8 l8.length c8, .agg #[.slice A0 ups.length c0, .slice A2 ons.length c2], .agg #[.slice X0 vps.length x0, .slice X2 vns.length x2]] w fun e w' => e = .returned (.bool true) ∧ Below w.heap.size w w' := by
  obtain ⟨gr1, hgr1, hsm1⟩ := great_calls15 z0 z1 z2 A3 c3 l3 z4 A5 c5 l5 A6 c6 l6 z7 z8 z9 A7 c7 l7 A8 c8 l8 A0 c0 ups A2 c2 ons
  obtain ⟨gr2, hgr2, hsm2⟩ := great_calls15 z0 z1 z2 A3 c3 l3 z4 A5 c5 l5 A6 c6 l6 z7 z8 z9 A7 c7 l7 A8 c8 l8 X0 x0 vps X2 x2 vns
  obtain ⟨RK1, rb1, hrf1, hri1⟩ := Pure.right15_f l7 l8 ups ons (Kd.C_max hin.r7) (Kd.C_max hin.r8) (Kd.C_max hin.r0) (Kd.C_max hin.r2) hin.len
  obtain ⟨RK2, rb2, hrf2, hri2⟩ := Pure.right15_f l7 l8 vps vns (Kd.C_max hio.r7) (Kd.C_max hio.r8) (Kd.C_max hio.r0) (Kd.C_max hio.r2) hio.len
  have HGR1 := Aside0.mk hgr1
  have HGR2 := Aside0.mk hgr2
  have HSM1 := Aside0.mk hsm1
  have HRF1 := Aside0.mk hrf1
  have HRF2 := Aside0.mk hrf2
  have HRI1 := Aside0.mk hri1
  have HRI2 := Aside0.mk hri2
  have HIN := Aside0.mk hin
  have HIO := Aside0.mk hio
  have HMX := Aside0.mk hM
  have hb1 := below_alloc (below_alloc (below_alloc (Below.refl w.heap.size w) (.cells #[.int .i64 z0, .int .i64 z1, .int .i64 z2, .slice A3 l3.length c3, .int .i64 z4, .slice A5 l5.length c5, .slice A6 l6.length c6, .int .i64 z7, .int .i64 z8, .int .i64 z9] 25)) (.cells #[.slice A0 ups.length c0, .slice A2 ons.length c2] 29)) (.cells #[.slice X0 vps.length x0, .slice X2 vns.length x2] 29)
  have hI : (((w.alloc (.cells #[.int .i64 z0, .int .i64 z1, .int .i64 z2, .slice A3 l3.length c3, .int .i64 z4, .slice A5 l5.length c5, .slice A6 l6.length c6, .int .i64 z7, .int .i64 z8, .int .i64 z9] 25)).alloc (.cells #[.slice A0 ups.length c0, .slice A2 ons.length c2] 29)).alloc (.cells #[.slice X0 vps.length x0, .slice X2 vns.length x2] 29)).heap[w.heap.size]? = _ := blk_alloc (blk_alloc (blk_new w (.cells #[.int .i64 z0, .int .i64 z1, .int .i64 z2, .slice A3 l3.length c3, .int .i64 z4, .slice A5 l5.length c5, .slice A6 l6.length c6, .int .i64 z7, .int .i64 z8, .int .i64 z9] 25)) (.cells #[.slice A0 ups.length c0, .slice A2 ons.length c2] 29)) (.cells #[.slice X0 vps.length x0, .slice X2 vns.length x2] 29)
  have hV : (((w.alloc (.cells #[.int .i64 z0, .int .i64 z1, .int .i64 z2, .slice A3 l3.length c3, .int .i64 z4, .slice A5 l5.length c5, .slice A6 l6.length c6, .int .i64 z7, .int .i64 z8, .int .i64 z9] 25)).alloc (.cells #[.slice A0 ups.length c0, .slice A2 ons.length c2] 29)).alloc (.cells #[.slice X0 vps.length x0, .slice X2 vns.length x2] 29)).heap[w.heap.size + 1]? = _ := blk_alloc (blk_new2 w (.cells #[.int .i64 z0, .int .i64 z1, .int .i64 z2, .slice A3 l3.length c3, .int .i64 z4, .slice A5 l5.length c5, .slice A6 l6.length c6, .int .i64 z7, .int .i64 z8, .int .i64 z9] 25) (.cells #[.slice A0 ups.length c0, .slice A2 ons.length c2] 29)) (.cells #[.slice X0 vps.length x0, .slice X2 vns.length x2] 29)
  have hO := blk_new2 (w.alloc (.cells #[.int .i64 z0, .int .i64 z1, .int .i64 z2, .slice A3 l3.length c3, .int .i64 z4, .slice A5 l5.length c5, .slice A6 l6.length c6, .int .i64 z7, .int .i64 z8, .int .i64 z9] 25)) (.cells #[.slice A0 ups.length c0, .slice A2 ons.length c2] 29) (.cells #[.slice X0 vps.length x0, .slice X2 vns.length x2] 29)
  rw [World.size_alloc] at hO
  have HB1 := Aside0.mk hb1
  have HI1 := Aside0.mk hI
  have HV1 := Aside0.mk hV
  have HO1 := Aside0.mk hO
  clear hgr1 hgr2 hsm1 hsm2 hrf1 hrf2 hri1 hri2 hin hio hM hb1 hI hV hO
  go_enter Try.func10, Try.ntmps10
  go_upto_region 1 with fail
  generalize ((w.alloc (.cells #[.int .i64 z0, .int .i64 z1, .int .i64 z2, .slice A3 l3.length c3, .int .i64 z4, .slice A5 l5.length c5, .slice A6 l6.length c6, .int .i64 z7, .int .i64 z8, .int .i64 z9] 25)).alloc (.cells #[.slice A0 ups.length c0, .slice A2 ons.length c2] 29)).alloc (.cells #[.slice X0 vps.length x0, .slice X2 vns.length x2] 29) = w1 at HB1 HI1 HV1 HO1 ⊢
  generalize hgb : w.heap.size = gb at HI1 HV1 HO1 ⊢
  have HGB := Aside0.mk hgb
  clear hgb
  have i1_0 := (blk_cell HI1.out 0).trans rfl
  have i1_1 := (blk_cell HI1.out 1).trans rfl
  have i1_2 := (blk_cell HI1.out 2).trans rfl
  have i1_3 := (blk_cell HI1.out 3).trans rfl
  have i1_4 := (blk_cell HI1.out 4).trans rfl
  have i1_5 := (blk_cell HI1.out 5).trans rfl
  have i1_6 := (blk_cell HI1.out 6).trans rfl
  have i1_7 := (blk_cell HI1.out 7).trans rfl
  have i1_8 := (blk_cell HI1.out 8).trans rfl
  have i1_9 := (blk_cell HI1.out 9).trans rfl
  have v1_0 := (blk_cell HV1.out 0).trans rfl
  have v1_1 := (blk_cell HV1.out 1).trans rfl
  have o1_0 := (blk_cell HO1.out 0).trans rfl
  have o1_1 := (blk_cell HO1.out 1).trans rfl
  cases gr1 with
  | true =>
    go_wp2_with (first
        | (go_at_call 14; (with_reducible refine (HGR1.out w1 (HIN.out.below HB1.out).blk (HIN.out.below HB1.out).r7 HIN.out.k7 (HIN.out.below HB1.out).r8 HIN.out.k8 (HIN.out.below HB1.out).r0 HIN.out.k0 (HIN.out.below HB1.out).r2 HIN.out.k2).mono ?_); rintro e w2 ⟨rfl, hb⟩; have HB2 := Aside0.mk (below_then HB1.out HB1.out.size hb); have HI2 := Aside0.mk (blk_below HI1.out hb); have HV2 := Aside0.mk (blk_below HV1.out hb); have HO2 := Aside0.mk (blk_below HO1.out hb); clear hb; have i2_0 := (blk_cell HI2.out 0).trans rfl; have i2_1 := (blk_cell HI2.out 1).trans rfl; have i2_2 := (blk_cell HI2.out 2).trans rfl; have i2_3 := (blk_cell HI2.out 3).trans rfl; have i2_4 := (blk_cell HI2.out 4).trans rfl; have i2_5 := (blk_cell HI2.out 5).trans rfl; have i2_6 := (blk_cell HI2.out 6).trans rfl; have i2_7 := (blk_cell HI2.out 7).trans rfl; have i2_8 := (blk_cell HI2.out 8).trans rfl; have i2_9 := (blk_cell HI2.out 9).trans rfl; have v2_0 := (blk_cell HV2.out 0).trans rfl; have v2_1 := (blk_cell HV2.out 1).trans rfl; have o2_0 := (blk_cell HO2.out 0).trans rfl; have o2_1 := (blk_cell HO2.out 1).trans rfl)
        | (go_at_call 30; (with_reducible refine (awake15_calls w2 (HMX.out.below HB2.out)).mono ?_); rintro e w3 ⟨rfl, hb⟩; have HB3 := Aside0.mk (below_then HB2.out HB2.out.size hb); clear hb))
    go_ret
    exact ⟨rfl, HB3.out⟩
  | false =>
  have HSM := Aside0.mk (HSM1.out rfl)
  cases gr2 with
  | true =>
    go_wp2_with (first
        | (go_at_call 14; (with_reducible refine (HGR1.out w1 (HIN.out.below HB1.out).blk (HIN.out.below HB1.out).r7 HIN.out.k7 (HIN.out.below HB1.out).r8 HIN.out.k8 (HIN.out.below HB1.out).r0 HIN.out.k0 (HIN.out.below HB1.out).r2 HIN.out.k2).mono ?_); rintro e w2 ⟨rfl, hb⟩; have HB2 := Aside0.mk (below_then HB1.out HB1.out.size hb); have HI2 := Aside0.mk (blk_below HI1.out hb); have HV2 := Aside0.mk (blk_below HV1.out hb); have HO2 := Aside0.mk (blk_below HO1.out hb); clear hb; have i2_0 := (blk_cell HI2.out 0).trans rfl; have i2_1 := (blk_cell HI2.out 1).trans rfl; have i2_2 := (blk_cell HI2.out 2).trans rfl; have i2_3 := (blk_cell HI2.out 3).trans rfl; have i2_4 := (blk_cell HI2.out 4).trans rfl; have i2_5 := (blk_cell HI2.out 5).trans rfl; have i2_6 := (blk_cell HI2.out 6).trans rfl; have i2_7 := (blk_cell HI2.out 7).trans rfl; have i2_8 := (blk_cell HI2.out 8).trans rfl; have i2_9 := (blk_cell HI2.out 9).trans rfl; have v2_0 := (blk_cell HV2.out 0).trans rfl; have v2_1 := (blk_cell HV2.out 1).trans rfl; have o2_0 := (blk_cell HO2.out 0).trans rfl; have o2_1 := (blk_cell HO2.out 1).trans rfl)
        | (go_at_call 14; (with_reducible refine (HGR2.out w2 (HIO.out.below HB2.out).blk (HIO.out.below HB2.out).r7 HIO.out.k7 (HIO.out.below HB2.out).r8 HIO.out.k8 (HIO.out.below HB2.out).r0 HIO.out.k0 (HIO.out.below HB2.out).r2 HIO.out.k2).mono ?_); rintro e w3 ⟨rfl, hb⟩; have HB3 := Aside0.mk (below_then HB2.out HB2.out.size hb); have HI3 := Aside0.mk (blk_below HI2.out hb); have HV3 := Aside0.mk (blk_below HV2.out hb); have HO3 := Aside0.mk (blk_below HO2.out hb); clear hb; have i3_0 := (blk_cell HI3.out 0).trans rfl; have i3_1 := (blk_cell HI3.out 1).trans rfl; have i3_2 := (blk_cell HI3.out 2).trans rfl; have i3_3 := (blk_cell HI3.out 3).trans rfl; have i3_4 := (blk_cell HI3.out 4).trans rfl; have i3_5 := (blk_cell HI3.out 5).trans rfl; have i3_6 := (blk_cell HI3.out 6).trans rfl; have i3_7 := (blk_cell HI3.out 7).trans rfl; have i3_8 := (blk_cell HI3.out 8).trans rfl; have i3_9 := (blk_cell HI3.out 9).trans rfl; have v3_0 := (blk_cell HV3.out 0).trans rfl; have v3_1 := (blk_cell HV3.out 1).trans rfl; have o3_0 := (blk_cell HO3.out 0).trans rfl; have o3_1 := (blk_cell HO3.out 1).trans rfl)
        | (go_at_call 30; (with_reducible refine (awake15_calls w3 (HMX.out.below HB3.out)).mono ?_); rintro e w4 ⟨rfl, hb⟩; have HB4 := Aside0.mk (below_then HB3.out HB3.out.size hb); clear hb))
    go_ret
    exact ⟨rfl, HB4.out⟩
  | false =>
  cases rb1 with
  | false =>
    go_wp2_with (first
        | (go_at_call 14; (with_reducible refine (HGR1.out w1 (HIN.out.below HB1.out).blk (HIN.out.below HB1.out).r7 HIN.out.k7 (HIN.out.below HB1.out).r8 HIN.out.k8 (HIN.out.below HB1.out).r0 HIN.out.k0 (HIN.out.below HB1.out).r2 HIN.out.k2).mono ?_); rintro e w2 ⟨rfl, hb⟩; have HB2 := Aside0.mk (below_then HB1.out HB1.out.size hb); have HI2 := Aside0.mk (blk_below HI1.out hb); have HV2 := Aside0.mk (blk_below HV1.out hb); have HO2 := Aside0.mk (blk_below HO1.out hb); clear hb; have i2_0 := (blk_cell HI2.out 0).trans rfl; have i2_1 := (blk_cell HI2.out 1).trans rfl; have i2_2 := (blk_cell HI2.out 2).trans rfl; have i2_3 := (blk_cell HI2.out 3).trans rfl; have i2_4 := (blk_cell HI2.out 4).trans rfl; have i2_5 := (blk_cell HI2.out 5).trans rfl; have i2_6 := (blk_cell HI2.out 6).trans rfl; have i2_7 := (blk_cell HI2.out 7).trans rfl; have i2_8 := (blk_cell HI2.out 8).trans rfl; have i2_9 := (blk_cell HI2.out 9).trans rfl; have v2_0 := (blk_cell HV2.out 0).trans rfl; have v2_1 := (blk_cell HV2.out 1).trans rfl; have o2_0 := (blk_cell HO2.out 0).trans rfl; have o2_1 := (blk_cell HO2.out 1).trans rfl)
        | (go_at_call 14; (with_reducible refine (HGR2.out w2 (HIO.out.below HB2.out).blk (HIO.out.below HB2.out).r7 HIO.out.k7 (HIO.out.below HB2.out).r8 HIO.out.k8 (HIO.out.below HB2.out).r0 HIO.out.k0 (HIO.out.below HB2.out).r2 HIO.out.k2).mono ?_); rintro e w3 ⟨rfl, hb⟩; have HB3 := Aside0.mk (below_then HB2.out HB2.out.size hb); have HI3 := Aside0.mk (blk_below HI2.out hb); have HV3 := Aside0.mk (blk_below HV2.out hb); have HO3 := Aside0.mk (blk_below HO2.out hb); clear hb; have i3_0 := (blk_cell HI3.out 0).trans rfl; have i3_1 := (blk_cell HI3.out 1).trans rfl; have i3_2 := (blk_cell HI3.out 2).trans rfl; have i3_3 := (blk_cell HI3.out 3).trans rfl; have i3_4 := (blk_cell HI3.out 4).trans rfl; have i3_5 := (blk_cell HI3.out 5).trans rfl; have i3_6 := (blk_cell HI3.out 6).trans rfl; have i3_7 := (blk_cell HI3.out 7).trans rfl; have i3_8 := (blk_cell HI3.out 8).trans rfl; have i3_9 := (blk_cell HI3.out 9).trans rfl; have v3_0 := (blk_cell HV3.out 0).trans rfl; have v3_1 := (blk_cell HV3.out 1).trans rfl; have o3_0 := (blk_cell HO3.out 0).trans rfl; have o3_1 := (blk_cell HO3.out 1).trans rfl)
        | (go_at_call 29; (with_reducible refine (sacristanlaw15_right.calls RK1 A7 c7 l7 A8 c8 l8 A0 c0 ups A2 c2 ons false w3 (HIN.out.below HB3.out).r7 HIN.out.k7 (HIN.out.below HB3.out).r8 HIN.out.k8 (HIN.out.below HB3.out).r0 HIN.out.k0 (HIN.out.below HB3.out).r2 HIN.out.k2 HRF1.out).mono ?_); rintro e w4 ⟨rfl, hb⟩; have HB4 := Aside0.mk (below_then HB3.out HB3.out.size hb); have HI4 := Aside0.mk (blk_below HI3.out hb); have HV4 := Aside0.mk (blk_below HV3.out hb); have HO4 := Aside0.mk (blk_below HO3.out hb); clear hb; have i4_0 := (blk_cell HI4.out 0).trans rfl; have i4_1 := (blk_cell HI4.out 1).trans rfl; have i4_2 := (blk_cell HI4.out 2).trans rfl; have i4_3 := (blk_cell HI4.out 3).trans rfl; have i4_4 := (blk_cell HI4.out 4).trans rfl; have i4_5 := (blk_cell HI4.out 5).trans rfl; have i4_6 := (blk_cell HI4.out 6).trans rfl; have i4_7 := (blk_cell HI4.out 7).trans rfl; have i4_8 := (blk_cell HI4.out 8).trans rfl; have i4_9 := (blk_cell HI4.out 9).trans rfl; have v4_0 := (blk_cell HV4.out 0).trans rfl; have v4_1 := (blk_cell HV4.out 1).trans rfl; have o4_0 := (blk_cell HO4.out 0).trans rfl; have o4_1 := (blk_cell HO4.out 1).trans rfl)
        | (go_at_call 30; (with_reducible refine (awake15_calls w4 (HMX.out.below HB4.out)).mono ?_); rintro e w5 ⟨rfl, hb⟩; have HB5 := Aside0.mk (below_then HB4.out HB4.out.size hb); clear hb))
    go_ret
    exact ⟨rfl, HB5.out⟩
  | true =>
  cases rb2 with
  | false =>
    go_wp2_with (first
        | (go_at_call 14; (with_reducible refine (HGR1.out w1 (HIN.out.below HB1.out).blk (HIN.out.below HB1.out).r7 HIN.out.k7 (HIN.out.below HB1.out).r8 HIN.out.k8 (HIN.out.below HB1.out).r0 HIN.out.k0 (HIN.out.below HB1.out).r2 HIN.out.k2).mono ?_); rintro e w2 ⟨rfl, hb⟩; have HB2 := Aside0.mk (below_then HB1.out HB1.out.size hb); have HI2 := Aside0.mk (blk_below HI1.out hb); have HV2 := Aside0.mk (blk_below HV1.out hb); have HO2 := Aside0.mk (blk_below HO1.out hb); clear hb; have i2_0 := (blk_cell HI2.out 0).trans rfl; have i2_1 := (blk_cell HI2.out 1).trans rfl; have i2_2 := (blk_cell HI2.out 2).trans rfl; have i2_3 := (blk_cell HI2.out 3).trans rfl; have i2_4 := (blk_cell HI2.out 4).trans rfl; have i2_5 := (blk_cell HI2.out 5).trans rfl; have i2_6 := (blk_cell HI2.out 6).trans rfl; have i2_7 := (blk_cell HI2.out 7).trans rfl; have i2_8 := (blk_cell HI2.out 8).trans rfl; have i2_9 := (blk_cell HI2.out 9).trans rfl; have v2_0 := (blk_cell HV2.out 0).trans rfl; have v2_1 := (blk_cell HV2.out 1).trans rfl; have o2_0 := (blk_cell HO2.out 0).trans rfl; have o2_1 := (blk_cell HO2.out 1).trans rfl)
        | (go_at_call 14; (with_reducible refine (HGR2.out w2 (HIO.out.below HB2.out).blk (HIO.out.below HB2.out).r7 HIO.out.k7 (HIO.out.below HB2.out).r8 HIO.out.k8 (HIO.out.below HB2.out).r0 HIO.out.k0 (HIO.out.below HB2.out).r2 HIO.out.k2).mono ?_); rintro e w3 ⟨rfl, hb⟩; have HB3 := Aside0.mk (below_then HB2.out HB2.out.size hb); have HI3 := Aside0.mk (blk_below HI2.out hb); have HV3 := Aside0.mk (blk_below HV2.out hb); have HO3 := Aside0.mk (blk_below HO2.out hb); clear hb; have i3_0 := (blk_cell HI3.out 0).trans rfl; have i3_1 := (blk_cell HI3.out 1).trans rfl; have i3_2 := (blk_cell HI3.out 2).trans rfl; have i3_3 := (blk_cell HI3.out 3).trans rfl; have i3_4 := (blk_cell HI3.out 4).trans rfl; have i3_5 := (blk_cell HI3.out 5).trans rfl; have i3_6 := (blk_cell HI3.out 6).trans rfl; have i3_7 := (blk_cell HI3.out 7).trans rfl; have i3_8 := (blk_cell HI3.out 8).trans rfl; have i3_9 := (blk_cell HI3.out 9).trans rfl; have v3_0 := (blk_cell HV3.out 0).trans rfl; have v3_1 := (blk_cell HV3.out 1).trans rfl; have o3_0 := (blk_cell HO3.out 0).trans rfl; have o3_1 := (blk_cell HO3.out 1).trans rfl)
        | (go_at_call 29; (with_reducible refine (sacristanlaw15_right.calls RK1 A7 c7 l7 A8 c8 l8 A0 c0 ups A2 c2 ons true w3 (HIN.out.below HB3.out).r7 HIN.out.k7 (HIN.out.below HB3.out).r8 HIN.out.k8 (HIN.out.below HB3.out).r0 HIN.out.k0 (HIN.out.below HB3.out).r2 HIN.out.k2 HRF1.out).mono ?_); rintro e w4 ⟨rfl, hb⟩; have HB4 := Aside0.mk (below_then HB3.out HB3.out.size hb); have HI4 := Aside0.mk (blk_below HI3.out hb); have HV4 := Aside0.mk (blk_below HV3.out hb); have HO4 := Aside0.mk (blk_below HO3.out hb); clear hb; have i4_0 := (blk_cell HI4.out 0).trans rfl; have i4_1 := (blk_cell HI4.out 1).trans rfl; have i4_2 := (blk_cell HI4.out 2).trans rfl; have i4_3 := (blk_cell HI4.out 3).trans rfl; have i4_4 := (blk_cell HI4.out 4).trans rfl; have i4_5 := (blk_cell HI4.out 5).trans rfl; have i4_6 := (blk_cell HI4.out 6).trans rfl; have i4_7 := (blk_cell HI4.out 7).trans rfl; have i4_8 := (blk_cell HI4.out 8).trans rfl; have i4_9 := (blk_cell HI4.out 9).trans rfl; have v4_0 := (blk_cell HV4.out 0).trans rfl; have v4_1 := (blk_cell HV4.out 1).trans rfl; have o4_0 := (blk_cell HO4.out 0).trans rfl; have o4_1 := (blk_cell HO4.out 1).trans rfl)
        | (go_at_call 29; (with_reducible refine (sacristanlaw15_right.calls RK2 A7 c7 l7 A8 c8 l8 X0 x0 vps X2 x2 vns false w4 (HIO.out.below HB4.out).r7 HIO.out.k7 (HIO.out.below HB4.out).r8 HIO.out.k8 (HIO.out.below HB4.out).r0 HIO.out.k0 (HIO.out.below HB4.out).r2 HIO.out.k2 HRF2.out).mono ?_); rintro e w5 ⟨rfl, hb⟩; have HB5 := Aside0.mk (below_then HB4.out HB4.out.size hb); have HI5 := Aside0.mk (blk_below HI4.out hb); have HV5 := Aside0.mk (blk_below HV4.out hb); have HO5 := Aside0.mk (blk_below HO4.out hb); clear hb; have i5_0 := (blk_cell HI5.out 0).trans rfl; have i5_1 := (blk_cell HI5.out 1).trans rfl; have i5_2 := (blk_cell HI5.out 2).trans rfl; have i5_3 := (blk_cell HI5.out 3).trans rfl; have i5_4 := (blk_cell HI5.out 4).trans rfl; have i5_5 := (blk_cell HI5.out 5).trans rfl; have i5_6 := (blk_cell HI5.out 6).trans rfl; have i5_7 := (blk_cell HI5.out 7).trans rfl; have i5_8 := (blk_cell HI5.out 8).trans rfl; have i5_9 := (blk_cell HI5.out 9).trans rfl; have v5_0 := (blk_cell HV5.out 0).trans rfl; have v5_1 := (blk_cell HV5.out 1).trans rfl; have o5_0 := (blk_cell HO5.out 0).trans rfl; have o5_1 := (blk_cell HO5.out 1).trans rfl)
        | (go_at_call 30; (with_reducible refine (awake15_calls w5 (HMX.out.below HB5.out)).mono ?_); rintro e w6 ⟨rfl, hb⟩; have HB6 := Aside0.mk (below_then HB5.out HB5.out.size hb); clear hb))
    go_ret
    exact ⟨rfl, HB6.out⟩
  | true =>
  have HAL1 := Aside0.mk (allP_of HIN.out (HRI1.out rfl))
  have HAL2 := Aside0.mk (allP_of HIO.out (HRI2.out rfl))
  have HWS := Aside0.mk (fun x (hx : x ∈ l3) => (show x.f4.size ≤ 4294967000 by have := (HSM.out.words x hx).1; omega))
  go_wp2_with (first
    | (go_at_call 14; (with_reducible refine (HGR1.out w1 (HIN.out.below HB1.out).blk (HIN.out.below HB1.out).r7 HIN.out.k7 (HIN.out.below HB1.out).r8 HIN.out.k8 (HIN.out.below HB1.out).r0 HIN.out.k0 (HIN.out.below HB1.out).r2 HIN.out.k2).mono ?_); rintro e w2 ⟨rfl, hb⟩; have HB2 := Aside0.mk (below_then HB1.out HB1.out.size hb); have HI2 := Aside0.mk (blk_below HI1.out hb); have HV2 := Aside0.mk (blk_below HV1.out hb); have HO2 := Aside0.mk (blk_below HO1.out hb); clear hb; have i2_0 := (blk_cell HI2.out 0).trans rfl; have i2_1 := (blk_cell HI2.out 1).trans rfl; have i2_2 := (blk_cell HI2.out 2).trans rfl; have i2_3 := (blk_cell HI2.out 3).trans rfl; have i2_4 := (blk_cell HI2.out 4).trans rfl; have i2_5 := (blk_cell HI2.out 5).trans rfl; have i2_6 := (blk_cell HI2.out 6).trans rfl; have i2_7 := (blk_cell HI2.out 7).trans rfl; have i2_8 := (blk_cell HI2.out 8).trans rfl; have i2_9 := (blk_cell HI2.out 9).trans rfl; have v2_0 := (blk_cell HV2.out 0).trans rfl; have v2_1 := (blk_cell HV2.out 1).trans rfl; have o2_0 := (blk_cell HO2.out 0).trans rfl; have o2_1 := (blk_cell HO2.out 1).trans rfl)
    | (go_at_call 14; (with_reducible refine (HGR2.out w2 (HIO.out.below HB2.out).blk (HIO.out.below HB2.out).r7 HIO.out.k7 (HIO.out.below HB2.out).r8 HIO.out.k8 (HIO.out.below HB2.out).r0 HIO.out.k0 (HIO.out.below HB2.out).r2 HIO.out.k2).mono ?_); rintro e w3 ⟨rfl, hb⟩; have HB3 := Aside0.mk (below_then HB2.out HB2.out.size hb); have HI3 := Aside0.mk (blk_below HI2.out hb); have HV3 := Aside0.mk (blk_below HV2.out hb); have HO3 := Aside0.mk (blk_below HO2.out hb); clear hb; have i3_0 := (blk_cell HI3.out 0).trans rfl; have i3_1 := (blk_cell HI3.out 1).trans rfl; have i3_2 := (blk_cell HI3.out 2).trans rfl; have i3_3 := (blk_cell HI3.out 3).trans rfl; have i3_4 := (blk_cell HI3.out 4).trans rfl; have i3_5 := (blk_cell HI3.out 5).trans rfl; have i3_6 := (blk_cell HI3.out 6).trans rfl; have i3_7 := (blk_cell HI3.out 7).trans rfl; have i3_8 := (blk_cell HI3.out 8).trans rfl; have i3_9 := (blk_cell HI3.out 9).trans rfl; have v3_0 := (blk_cell HV3.out 0).trans rfl; have v3_1 := (blk_cell HV3.out 1).trans rfl; have o3_0 := (blk_cell HO3.out 0).trans rfl; have o3_1 := (blk_cell HO3.out 1).trans rfl)
    | (go_at_call 29; (with_reducible refine (sacristanlaw15_right.calls RK1 A7 c7 l7 A8 c8 l8 A0 c0 ups A2 c2 ons true w3 (HIN.out.below HB3.out).r7 HIN.out.k7 (HIN.out.below HB3.out).r8 HIN.out.k8 (HIN.out.below HB3.out).r0 HIN.out.k0 (HIN.out.below HB3.out).r2 HIN.out.k2 HRF1.out).mono ?_); rintro e w4 ⟨rfl, hb⟩; have HB4 := Aside0.mk (below_then HB3.out HB3.out.size hb); have HI4 := Aside0.mk (blk_below HI3.out hb); have HV4 := Aside0.mk (blk_below HV3.out hb); have HO4 := Aside0.mk (blk_below HO3.out hb); clear hb; have i4_0 := (blk_cell HI4.out 0).trans rfl; have i4_1 := (blk_cell HI4.out 1).trans rfl; have i4_2 := (blk_cell HI4.out 2).trans rfl; have i4_3 := (blk_cell HI4.out 3).trans rfl; have i4_4 := (blk_cell HI4.out 4).trans rfl; have i4_5 := (blk_cell HI4.out 5).trans rfl; have i4_6 := (blk_cell HI4.out 6).trans rfl; have i4_7 := (blk_cell HI4.out 7).trans rfl; have i4_8 := (blk_cell HI4.out 8).trans rfl; have i4_9 := (blk_cell HI4.out 9).trans rfl; have v4_0 := (blk_cell HV4.out 0).trans rfl; have v4_1 := (blk_cell HV4.out 1).trans rfl; have o4_0 := (blk_cell HO4.out 0).trans rfl; have o4_1 := (blk_cell HO4.out 1).trans rfl)
    | (go_at_call 29; (with_reducible refine (sacristanlaw15_right.calls RK2 A7 c7 l7 A8 c8 l8 X0 x0 vps X2 x2 vns true w4 (HIO.out.below HB4.out).r7 HIO.out.k7 (HIO.out.below HB4.out).r8 HIO.out.k8 (HIO.out.below HB4.out).r0 HIO.out.k0 (HIO.out.below HB4.out).r2 HIO.out.k2 HRF2.out).mono ?_); rintro e w5 ⟨rfl, hb⟩; have HB5 := Aside0.mk (below_then HB4.out HB4.out.size hb); have HI5 := Aside0.mk (blk_below HI4.out hb); have HV5 := Aside0.mk (blk_below HV4.out hb); have HO5 := Aside0.mk (blk_below HO4.out hb); clear hb; have i5_0 := (blk_cell HI5.out 0).trans rfl; have i5_1 := (blk_cell HI5.out 1).trans rfl; have i5_2 := (blk_cell HI5.out 2).trans rfl; have i5_3 := (blk_cell HI5.out 3).trans rfl; have i5_4 := (blk_cell HI5.out 4).trans rfl; have i5_5 := (blk_cell HI5.out 5).trans rfl; have i5_6 := (blk_cell HI5.out 6).trans rfl; have i5_7 := (blk_cell HI5.out 7).trans rfl; have i5_8 := (blk_cell HI5.out 8).trans rfl; have i5_9 := (blk_cell HI5.out 9).trans rfl; have v5_0 := (blk_cell HV5.out 0).trans rfl; have v5_1 := (blk_cell HV5.out 1).trans rfl; have o5_0 := (blk_cell HO5.out 0).trans rfl; have o5_1 := (blk_cell HO5.out 1).trans rfl))
  clear i1_0 i1_1 i1_2 i1_3 i1_4 i1_5 i1_6 i1_7 i1_8 i1_9 v1_0 v1_1 o1_0 o1_1 i2_0 i2_1 i2_2 i2_3 i2_4 i2_5 i2_6 i2_7 i2_8 i2_9 v2_0 v2_1 o2_0 o2_1 i3_0 i3_1 i3_2 i3_3 i3_4 i3_5 i3_6 i3_7 i3_8 i3_9 v3_0 v3_1 o3_0 o3_1 i4_0 i4_1 i4_2 i4_3 i4_4 i4_5 i4_6 i4_7 i4_8 i4_9 v4_0 v4_1 o4_0 o4_1 HI1 HI2 HI3 HI4 HV1 HV2 HV3 HV4 HO1 HO2 HO3 HO4 HGR1 HGR2 HRF1 HRF2 HRI1 HRI2 HSM1 HB1 HB2 HB3 HB4
  have hm3 := Kd.C_max HIN.out.blk.r3
  go_loop [11] (fun i => ∃ k : Nat, k ≤ l3.length ∧ i = .int .i64 k ∧ Aside0 (∀ (j : Nat) (h : j < l3.length), j < k → Free l3[j])) (fun i => l3.length - (intOf i).toNat)
  case atStart => exact ⟨0, by omega, rfl, ⟨fun j h hj => absurd hj (by omega)⟩⟩
  case round =>
    obtain ⟨k, hk, rfl, hno⟩ := hrel
    by_cases hlt : k < l3.length
    · obtain ⟨ad, e, e0, _⟩ := at_T39 (HIN.out.below HB5.out).blk.r3 (k : Int) (by omega) (by omega)
      subst e
      have hx : rd_T39 l3 (k : Int) = l3[k] := Pure.rdT_nat hlt
      rw [show ((k : Int).toNat) = k by omega, hx] at e0
      have HF := Aside0.mk (show ∀ (hy : Free l3[k]) (j : Nat) (h : j < l3.length), j < k + 1 → Free l3[j] from fun hy j h hj => if e : j = k then (by subst e; exact hy) else hno.out j h (by omega))
      clear hx
      generalize hxx : l3[k] = x at e0 HF
      clear hxx
      by_cases h5 : 5 ≤ x.f0
      · by_cases h7 : x.f0 ≤ 7
        · have d5 : decide (x.f0 ≥ 5) = true := decide_eq_true h5
          have d7 : decide (x.f0 ≤ 7) = true := decide_eq_true h7
          go_wp2_with ((go_at_call 30; (with_reducible refine (awake15_calls w5 (HMX.out.below HB5.out)).mono ?_); rintro e w6 ⟨rfl, hb⟩; have HB6 := Aside0.mk (below_then HB5.out HB5.out.size hb); clear hb))
          go_ret
          exact ⟨rfl, HB6.out⟩
        · have d5 : decide (x.f0 ≥ 5) = true := decide_eq_true h5
          have d7 : decide (x.f0 ≤ 7) = false := decide_eq_false h7
          have HN := Aside0.mk (HF.out (by unfold Free; omega))
          go_wp2_with fail
          go_round
          case rel => exact ⟨k + 1, by omega, by go_num, HN⟩
          case measure => simp [intOf]; omega
      · have d5 : decide (x.f0 ≥ 5) = false := decide_eq_false h5
        have HN := Aside0.mk (HF.out (by unfold Free; omega))
        go_wp2_with fail
        go_round
        case rel => exact ⟨k + 1, by omega, by go_num, HN⟩
        case measure => simp [intOf]; omega
    · obtain rfl : k = l3.length := by omega
      have HFR := Aside0.mk (show ∀ x ∈ l3, Free x from fun x hx => by obtain ⟨j, h, rfl⟩ := List.getElem_of_mem hx; exact hno.out j h h)
      have HSX := Aside0.mk (show ∀ x ∈ l3, x.f0 ≠ 6 from fun x hx => by have := HFR.out x hx; unfold Free at this; omega)
      go_upto_region 10 with (first
        | (go_at_call 31; (with_reducible refine (irEval_calls PW.theOps PW.FitV PW.opsVal z0 z1 z2 A3 c3 l3 z4 A5 c5 l5 A6 c6 l6 z7 z8 z9 A7 c7 l7 A8 c8 l8 A0 c0 ups A2 c2 ons w5 (HIN.out.below HB5.out).blk (HIN.out.below HB5.out).r7 (HIN.out.below HB5.out).r8 (HIN.out.below HB5.out).r0 (HIN.out.below HB5.out).r2 HWS.out (HMX.out.below HB5.out) HSX.out HAL1.out).mono ?_); rintro e w6 ⟨s1, t1, n1, ok1, S1, cs1, T1, ct1, rfl, hc, hd, hs, ht, hb, ho, hf⟩; have HC1 := Aside0.mk hc; have HD1 := Aside0.mk hd; have HS1 := Aside0.mk hs; have HT1 := Aside0.mk ht; have HEV1 := Aside0.mk ho; have HNO1 := Aside0.mk hf; have HE1 := Aside0.mk hb; clear hc hd hs ht ho hf; have HB6 := Aside0.mk (below_then HB5.out HB5.out.size hb); have HI6 := Aside0.mk (blk_below HI5.out hb); have HV6 := Aside0.mk (blk_below HV5.out hb); have HO6 := Aside0.mk (blk_below HO5.out hb); clear hb; have i6_0 := (blk_cell HI6.out 0).trans rfl; have i6_1 := (blk_cell HI6.out 1).trans rfl; have i6_2 := (blk_cell HI6.out 2).trans rfl; have i6_3 := (blk_cell HI6.out 3).trans rfl; have i6_4 := (blk_cell HI6.out 4).trans rfl; have i6_5 := (blk_cell HI6.out 5).trans rfl; have i6_6 := (blk_cell HI6.out 6).trans rfl; have i6_7 := (blk_cell HI6.out 7).trans rfl; have i6_8 := (blk_cell HI6.out 8).trans rfl; have i6_9 := (blk_cell HI6.out 9).trans rfl; have v6_0 := (blk_cell HV6.out 0).trans rfl; have v6_1 := (blk_cell HV6.out 1).trans rfl; have o6_0 := (blk_cell HO6.out 0).trans rfl; have o6_1 := (blk_cell HO6.out 1).trans rfl)
        | (go_at_call 31; (with_reducible refine (irEval_calls PW.theOps PW.FitV PW.opsVal z0 z1 z2 A3 c3 l3 z4 A5 c5 l5 A6 c6 l6 z7 z8 z9 A7 c7 l7 A8 c8 l8 X0 x0 vps X2 x2 vns w6 (HIO.out.below HB6.out).blk (HIO.out.below HB6.out).r7 (HIO.out.below HB6.out).r8 (HIO.out.below HB6.out).r0 (HIO.out.below HB6.out).r2 HWS.out (HMX.out.below HB6.out) HSX.out HAL2.out).mono ?_); rintro e w7 ⟨s2, t2, n2, ok2, S2, cs2, T2, ct2, rfl, hc, hd, hs, ht, hb, ho, hf⟩; have HC2 := Aside0.mk hc; have HD2 := Aside0.mk hd; have HS2 := Aside0.mk hs; have HT2 := Aside0.mk ht; have HEV2 := Aside0.mk ho; have HNO2 := Aside0.mk hf; have HE2 := Aside0.mk hb; clear hc hd hs ht ho hf; have HB7 := Aside0.mk (below_then HB6.out HB6.out.size hb); have HI7 := Aside0.mk (blk_below HI6.out hb); have HV7 := Aside0.mk (blk_below HV6.out hb); have HO7 := Aside0.mk (blk_below HO6.out hb); clear hb; have i7_0 := (blk_cell HI7.out 0).trans rfl; have i7_1 := (blk_cell HI7.out 1).trans rfl; have i7_2 := (blk_cell HI7.out 2).trans rfl; have i7_3 := (blk_cell HI7.out 3).trans rfl; have i7_4 := (blk_cell HI7.out 4).trans rfl; have i7_5 := (blk_cell HI7.out 5).trans rfl; have i7_6 := (blk_cell HI7.out 6).trans rfl; have i7_7 := (blk_cell HI7.out 7).trans rfl; have i7_8 := (blk_cell HI7.out 8).trans rfl; have i7_9 := (blk_cell HI7.out 9).trans rfl; have v7_0 := (blk_cell HV7.out 0).trans rfl; have v7_1 := (blk_cell HV7.out 1).trans rfl; have o7_0 := (blk_cell HO7.out 0).trans rfl; have o7_1 := (blk_cell HO7.out 1).trans rfl))
      obtain ⟨he1, he2, he3, he4⟩ := evald_eq (evalK_free PW.theOps ups vps ons vns z0 z1 z2 l3 z4 l5 l6 z7 z8 z9 l7 l8 HFR.out) HEV1.out HNO1.out HEV2.out HNO2.out
      subst he1 he2 he3 he4
      obtain ⟨hl1, hl2⟩ := evald_short HSM.out.save HSM.out.stack HEV1.out HNO1.out
      have HL1 := Aside0.mk hl1
      have HL2 := Aside0.mk hl2
      clear hl1 hl2
      have d1 : (ok2 == ok2) = true := by simp
      have d2 : (n2 == n2) = true := by simp
      go_wp2_with (first
        | (go_at_call 32; (with_reducible refine (sameValues_calls S1 cs1 S2 cs2 s2 w7 (Kd.C_below HS1.out HE2.out) HS2.out HC1.out HC2.out HL1.out).mono ?_); rintro e w8 ⟨rfl, hb⟩; have HB8 := Aside0.mk (below_then HB7.out HB7.out.size hb); have HE3 := Aside0.mk hb; clear hb)
        | (go_at_call 32; (with_reducible refine (sameValues_calls T1 ct1 T2 ct2 t2 w8 (Kd.C_below (Kd.C_below HT1.out HE2.out) HE3.out) (Kd.C_below HT2.out HE3.out) HD1.out HD2.out HL2.out).mono ?_); rintro e w9 ⟨rfl, hb⟩; have HB9 := Aside0.mk (below_then HB8.out HB8.out.size hb); clear hb)
        | (go_at_call 30; (with_reducible refine (awake15_calls w9 (HMX.out.below HB9.out)).mono ?_); rintro e w10 ⟨rfl, hb⟩; have HB10 := Aside0.mk (below_then HB9.out HB9.out.size hb); clear hb))
      go_ret
      exact ⟨rfl, HB10.out⟩
end Go.Proofs.Ytjkjbfhhfdbnoaa.NW
