/- sacristanref15.May: which block may be. -/
import Derived.Test.YtjkjbfhhfdbnoaaRq
namespace Go.Proofs.Ytjkjbfhhfdbnoaa.NW
open Go.RowKit Go.Proofs.YtjkjbfhhfdbnoaaW.PrintWords Go.Proofs.YtjkjbfhhfdbnoaaW.PrintMore Go.Proofs.Ytjkjbfhhfdbnoaa.PB
set_option linter.unusedVariables false
set_option linter.unusedSimpArgs false
theorem may_not {z0 z1 z2 : Int} {l3 : List S39} {z4 : Int} {l5 l6 : List Int} {z7 z8 z9 : Int} (h : ¬ MayIs z0 z1 z2 l3 z4 l5 l6 z7 z8 z9) : mayBlk z0 z1 z2 l3 z4 l5 l6 z7 z8 z9 = false := by
  cases e : mayBlk z0 z1 z2 l3 z4 l5 l6 z7 z8 z9 with
  | false => rfl
  | true => exact absurd (mayBlk_iff.1 e) h
set_option maxHeartbeats 3200000 in
set_option maxRecDepth 1000000 in
theorem refMay_calls15 (z0 z1 z2 : Int) (A3 : Option Addr) (c3 : Nat) (l3 : List S39) (z4 : Int) (A5 : Option Addr) (c5 : Nat) (l5 : List Int) (A6 : Option Addr) (c6 : Nat) (l6 : List Int) (z7 z8 z9 : Int) (w : World)
    (hr : BlkIs w A3 c3 l3 A5 c5 l5 A6 c6 l6) (h5 : l5.length ≤ 400) (h6 : l6.length ≤ 400) :
    Calls Try.prog 19 #[.agg #[.int .i64 z0, .int .i64 z1, .int .i64 z2, .slice A3 l3.length c3, .int .i64 z4, .slice A5 l5.length c5, .slice A6 l6.length c6, .int .i64 z7, .int .i64 z8, .int .i64 z9]] w fun e w' => e = .returned (.bool (mayBlk z0 z1 z2 l3 z4 l5 l6 z7 z8 z9)) ∧ Below w.heap.size w w' := by
  have hb1 := below_alloc (Below.refl w.heap.size w) (.cells #[.int .i64 z0, .int .i64 z1, .int .i64 z2, .slice A3 l3.length c3, .int .i64 z4, .slice A5 l5.length c5, .slice A6 l6.length c6, .int .i64 z7, .int .i64 z8, .int .i64 z9] 25)
  have HI := Aside0.mk (blk_new w (.cells #[.int .i64 z0, .int .i64 z1, .int .i64 z2, .slice A3 l3.length c3, .int .i64 z4, .slice A5 l5.length c5, .slice A6 l6.length c6, .int .i64 z7, .int .i64 z8, .int .i64 z9] 25))
  have HB1 := Aside0.mk hb1
  have HR := Aside0.mk hr
  have H5 := Aside0.mk h5
  have H6 := Aside0.mk h6
  have hm3 := Kd.C_max hr.r3
  clear hb1 hr h5 h6
  generalize hres : mayBlk z0 z1 z2 l3 z4 l5 l6 z7 z8 z9 = res
  have HRES := Aside0.mk hres
  clear hres
  go_enter Try.func19, Try.ntmps19
  go_upto_region 1 with fail
  generalize w.alloc (.cells #[.int .i64 z0, .int .i64 z1, .int .i64 z2, .slice A3 l3.length c3, .int .i64 z4, .slice A5 l5.length c5, .slice A6 l6.length c6, .int .i64 z7, .int .i64 z8, .int .i64 z9] 25) = w1 at HB1 HI ⊢
  generalize w.heap.size = gb at HI ⊢
  have i0 := (blk_cell HI.out 0).trans rfl
  have i1 := (blk_cell HI.out 1).trans rfl
  have i2 := (blk_cell HI.out 2).trans rfl
  have i3 := (blk_cell HI.out 3).trans rfl
  have i4 := (blk_cell HI.out 4).trans rfl
  have i5 := (blk_cell HI.out 5).trans rfl
  have i6 := (blk_cell HI.out 6).trans rfl
  have i7 := (blk_cell HI.out 7).trans rfl
  have i8 := (blk_cell HI.out 8).trans rfl
  have i9 := (blk_cell HI.out 9).trans rfl
  go_cut [58] from 5 to 58 (fun v wc => ∃ q : Bool, v = .bool q ∧ Aside0 (wc = w1) ∧ Aside0 (q = true → res = false) ∧ Aside0 (q = false → 0 ≤ z0 ∧ 0 ≤ z1 ∧ 0 ≤ z4 ∧ 0 ≤ z8 ∧ 0 ≤ z9 ∧ z2 ≤ 4096 ∧ z0 ≤ 4096 ∧ z1 ≤ 4096 ∧ z0 + z1 ≤ z2 ∧ l3.length ≤ 4096))
  case first =>
    by_cases h0 : z0 < 0
    · have e0 : decide (z0 < 0) = true := decide_eq_true h0
      have HN := Aside0.mk (show res = false from HRES.out.symm.trans (may_not (fun h => by have := h.pos.1; omega)))
      go_wp2_with fail
      go_meet
      case rel => exact ⟨true, rfl, ⟨rfl⟩, ⟨fun _ => HN.out⟩, ⟨fun h => by cases h⟩⟩
    have e0 : decide (z0 < 0) = false := decide_eq_false h0
    by_cases h1 : z1 < 0
    · have e1 : decide (z1 < 0) = true := decide_eq_true h1
      have HN := Aside0.mk (show res = false from HRES.out.symm.trans (may_not (fun h => by have := h.pos.2.1; omega)))
      go_wp2_with fail
      go_meet
      case rel => exact ⟨true, rfl, ⟨rfl⟩, ⟨fun _ => HN.out⟩, ⟨fun h => by cases h⟩⟩
    have e1 : decide (z1 < 0) = false := decide_eq_false h1
    by_cases h2 : z4 < 0
    · have e2 : decide (z4 < 0) = true := decide_eq_true h2
      have HN := Aside0.mk (show res = false from HRES.out.symm.trans (may_not (fun h => by have := h.pos.2.2.1; omega)))
      go_wp2_with fail
      go_meet
      case rel => exact ⟨true, rfl, ⟨rfl⟩, ⟨fun _ => HN.out⟩, ⟨fun h => by cases h⟩⟩
    have e2 : decide (z4 < 0) = false := decide_eq_false h2
    by_cases h3 : z8 < 0
    · have e3 : decide (z8 < 0) = true := decide_eq_true h3
      have HN := Aside0.mk (show res = false from HRES.out.symm.trans (may_not (fun h => by have := h.pos.2.2.2.1; omega)))
      go_wp2_with fail
      go_meet
      case rel => exact ⟨true, rfl, ⟨rfl⟩, ⟨fun _ => HN.out⟩, ⟨fun h => by cases h⟩⟩
    have e3 : decide (z8 < 0) = false := decide_eq_false h3
    by_cases h4 : z9 < 0
    · have e4 : decide (z9 < 0) = true := decide_eq_true h4
      have HN := Aside0.mk (show res = false from HRES.out.symm.trans (may_not (fun h => by have := h.pos.2.2.2.2; omega)))
      go_wp2_with fail
      go_meet
      case rel => exact ⟨true, rfl, ⟨rfl⟩, ⟨fun _ => HN.out⟩, ⟨fun h => by cases h⟩⟩
    have e4 : decide (z9 < 0) = false := decide_eq_false h4
    by_cases h5 : 4096 < z2
    · have e5 : decide (4096 < z2) = true := decide_eq_true h5
      have HN := Aside0.mk (show res = false from HRES.out.symm.trans (may_not (fun h => by have := h.few.2.2; omega)))
      go_wp2_with fail
      go_meet
      case rel => exact ⟨true, rfl, ⟨rfl⟩, ⟨fun _ => HN.out⟩, ⟨fun h => by cases h⟩⟩
    have e5 : decide (4096 < z2) = false := decide_eq_false h5
    by_cases h6 : 4096 < z0
    · have e6 : decide (4096 < z0) = true := decide_eq_true h6
      have HN := Aside0.mk (show res = false from HRES.out.symm.trans (may_not (fun h => by have := h.few.1; omega)))
      go_wp2_with fail
      go_meet
      case rel => exact ⟨true, rfl, ⟨rfl⟩, ⟨fun _ => HN.out⟩, ⟨fun h => by cases h⟩⟩
    have e6 : decide (4096 < z0) = false := decide_eq_false h6
    by_cases h7 : 4096 < z1
    · have e7 : decide (4096 < z1) = true := decide_eq_true h7
      have HN := Aside0.mk (show res = false from HRES.out.symm.trans (may_not (fun h => by have := h.few.2.1; omega)))
      go_wp2_with fail
      go_meet
      case rel => exact ⟨true, rfl, ⟨rfl⟩, ⟨fun _ => HN.out⟩, ⟨fun h => by cases h⟩⟩
    have e7 : decide (4096 < z1) = false := decide_eq_false h7
    have hw : IntKind.i64.wrap (z0 + z1) = z0 + z1 := IntWalk.i64_in _ (by omega)
    by_cases h8 : z2 < z0 + z1
    · have e8 : decide (z2 < z0 + z1) = true := decide_eq_true h8
      have HN := Aside0.mk (show res = false from HRES.out.symm.trans (may_not (fun h => by have := h.regs; omega)))
      go_wp2_with fail
      go_meet
      case rel => exact ⟨true, rfl, ⟨rfl⟩, ⟨fun _ => HN.out⟩, ⟨fun h => by cases h⟩⟩
    have e8 : decide (z2 < z0 + z1) = false := decide_eq_false h8
    by_cases h9 : 4096 < (l3.length : Int)
    · have e9 : decide (4096 < (l3.length : Int)) = true := decide_eq_true h9
      have HN := Aside0.mk (show res = false from HRES.out.symm.trans (may_not (fun h => by have := h.insts; omega)))
      go_wp2_with fail
      go_meet
      case rel => exact ⟨true, rfl, ⟨rfl⟩, ⟨fun _ => HN.out⟩, ⟨fun h => by cases h⟩⟩
    have e9 : decide (4096 < (l3.length : Int)) = false := decide_eq_false h9
    have HF := Aside0.mk (show 0 ≤ z0 ∧ 0 ≤ z1 ∧ 0 ≤ z4 ∧ 0 ≤ z8 ∧ 0 ≤ z9 ∧ z2 ≤ 4096 ∧ z0 ≤ 4096 ∧ z1 ≤ 4096 ∧ z0 + z1 ≤ z2 ∧ l3.length ≤ 4096 by omega)
    go_wp2_with fail
    go_meet
    case rel => exact ⟨false, rfl, ⟨rfl⟩, ⟨fun h => by cases h⟩, ⟨fun _ => HF.out⟩⟩
  case rest =>
  obtain ⟨q, rfl, hw, hq1, hq2⟩ := hcut
  obtain rfl := hw.out.symm
  clear hw
  cases q with
  | true =>
    obtain rfl := hq1.out rfl
    go_wp2_with fail
    go_ret
    exact ⟨rfl, HB1.out⟩
  | false =>
    have HF := Aside0.mk (hq2.out rfl)
    clear hq1 hq2
    have hl3 := HF.out.2.2.2.2.2.2.2.2.2
    go_upto_region 5 with fail
    clear i0 i1 i2 i3 i4 i5 i6 i7 i8 i9
    go_loopw [62, 3] (fun i gv wr => ∃ (k : Nat) (gn : Int), k ≤ l3.length ∧ i = .int .i64 k ∧ gv = .int .i64 gn ∧ 0 ≤ gn ∧ gn ≤ k ∧ Aside0 (gsOk z2 l3 0 = gsOk z2 (l3.drop k) gn) ∧ Aside0 (Below w1.heap.size w1 wr)) (fun i _ _ => l3.length - (intOf i).toNat)
    case atStart => exact ⟨0, 0, by omega, rfl, rfl, by omega, by omega, ⟨rfl⟩, ⟨Below.refl _ _⟩⟩
    case round =>
      obtain ⟨k, gn, hk, rfl, rfl, hg0, hg1, hgs, hbw⟩ := hrel
      have HBK := Aside0.mk (blk_below HI.out hbw.out)
      by_cases hlt : k < l3.length
      · obtain ⟨ad, e, e0, e1, e2, e3, e4, e5, e6, e7⟩ := at_T39 (Kd.C_below HR.out.r3 (below_then HB1.out HB1.out.size hbw.out)) (k : Int) (by omega) (by omega)
        subst e
        have hxx : rd_T39 l3 (k : Int) = l3[k] := by
          rw [rd_T39, List.getD_eq_getElem?_getD, show ((k : Int).toNat) = k by omega, List.getElem?_eq_getElem hlt]; rfl
        rw [show ((k : Int).toNat) = k by omega, hxx] at e0 e1 e2 e3 e4 e5 e6 e7
        have hgs2 := hgs.out
        rw [List.drop_eq_getElem_cons hlt, gsOk_cons] at hgs2
        generalize l3[k] = x at e0 e1 e2 e3 e4 e5 e6 e7 hgs2
        have HG := Aside0.mk hgs2
        have d0 : decide ((k : Int) < l3.length) = true := decide_eq_true (by omega)
        clear hxx hgs2
        generalize hi : instB z2 x.f0 x.f1 x.f2 x.f3 x.f4 x.f5.f0 x.f5.f1 x.f5.f2 gn = bi at HG
        have HBI := Aside0.mk hi
        clear hi
        have S0 : wr.cell? ⟨gb, 0, none⟩ = some (.int .i64 z0) ∧ wr.cell? ⟨gb, 1, none⟩ = some (.int .i64 z1) ∧ wr.cell? ⟨gb, 2, none⟩ = some (.int .i64 z2) ∧ wr.cell? ⟨gb, 3, none⟩ = some (.slice (some ad) l3.length c3) ∧ wr.cell? ⟨gb, 4, none⟩ = some (.int .i64 z4) ∧ wr.cell? ⟨gb, 5, none⟩ = some (.slice A5 l5.length c5) ∧ wr.cell? ⟨gb, 6, none⟩ = some (.slice A6 l6.length c6) ∧ wr.cell? ⟨gb, 7, none⟩ = some (.int .i64 z7) ∧ wr.cell? ⟨gb, 8, none⟩ = some (.int .i64 z8) ∧ wr.cell? ⟨gb, 9, none⟩ = some (.int .i64 z9) ∧ wr.cell? (ad.add (k * 8)) = some (.int .u8 x.f0) ∧ wr.cell? ⟨(ad.add (k * 8)).block, (ad.add (k * 8)).off + 1, none⟩ = some (.int .i64 x.f1) ∧ wr.cell? ⟨(ad.add (k * 8)).block, (ad.add (k * 8)).off + 2, none⟩ = some (.int .i64 x.f2) ∧ wr.cell? ⟨(ad.add (k * 8)).block, (ad.add (k * 8)).off + 3, none⟩ = some (.int .i64 x.f3) ∧ wr.cell? ⟨(ad.add (k * 8)).block, (ad.add (k * 8)).off + 4, none⟩ = some (.string x.f4) ∧ wr.cell? ⟨(ad.add (k * 8)).block, (ad.add (k * 8)).off + 5, none⟩ = some (.int .u8 x.f5.f0) ∧ wr.cell? ⟨(ad.add (k * 8)).block, (ad.add (k * 8)).off + 6, none⟩ = some (.int .i64 x.f5.f1) ∧ wr.cell? ⟨(ad.add (k * 8)).block, (ad.add (k * 8)).off + 7, none⟩ = some (.string x.f5.f2) := ⟨(blk_cell HBK.out 0).trans rfl, (blk_cell HBK.out 1).trans rfl, (blk_cell HBK.out 2).trans rfl, (blk_cell HBK.out 3).trans rfl, (blk_cell HBK.out 4).trans rfl, (blk_cell HBK.out 5).trans rfl, (blk_cell HBK.out 6).trans rfl, (blk_cell HBK.out 7).trans rfl, (blk_cell HBK.out 8).trans rfl, (blk_cell HBK.out 9).trans rfl, e0, e1, e2, e3, e4, e5, e6, e7⟩
        go_upto_region 7 with fail
        go_region_held3 (fun W' => W'.cell? ⟨gb, 0, none⟩ = some (.int .i64 z0) ∧ W'.cell? ⟨gb, 1, none⟩ = some (.int .i64 z1) ∧ W'.cell? ⟨gb, 2, none⟩ = some (.int .i64 z2) ∧ W'.cell? ⟨gb, 3, none⟩ = some (.slice (some ad) l3.length c3) ∧ W'.cell? ⟨gb, 4, none⟩ = some (.int .i64 z4) ∧ W'.cell? ⟨gb, 5, none⟩ = some (.slice A5 l5.length c5) ∧ W'.cell? ⟨gb, 6, none⟩ = some (.slice A6 l6.length c6) ∧ W'.cell? ⟨gb, 7, none⟩ = some (.int .i64 z7) ∧ W'.cell? ⟨gb, 8, none⟩ = some (.int .i64 z8) ∧ W'.cell? ⟨gb, 9, none⟩ = some (.int .i64 z9) ∧ W'.cell? (ad.add (k * 8)) = some (.int .u8 x.f0) ∧ W'.cell? ⟨(ad.add (k * 8)).block, (ad.add (k * 8)).off + 1, none⟩ = some (.int .i64 x.f1) ∧ W'.cell? ⟨(ad.add (k * 8)).block, (ad.add (k * 8)).off + 2, none⟩ = some (.int .i64 x.f2) ∧ W'.cell? ⟨(ad.add (k * 8)).block, (ad.add (k * 8)).off + 3, none⟩ = some (.int .i64 x.f3) ∧ W'.cell? ⟨(ad.add (k * 8)).block, (ad.add (k * 8)).off + 4, none⟩ = some (.string x.f4) ∧ W'.cell? ⟨(ad.add (k * 8)).block, (ad.add (k * 8)).off + 5, none⟩ = some (.int .u8 x.f5.f0) ∧ W'.cell? ⟨(ad.add (k * 8)).block, (ad.add (k * 8)).off + 6, none⟩ = some (.int .i64 x.f5.f1) ∧ W'.cell? ⟨(ad.add (k * 8)).block, (ad.add (k * 8)).off + 7, none⟩ = some (.string x.f5.f2)) (first | exact S0 | exact S2 | fail)
          ((go_at_call 45; (with_reducible refine (instR_calls z0 z1 z2 z4 z7 z8 z9 (some ad) A5 A6 l3.length c3 l5.length c5 l6.length c6 x.f0 x.f1 x.f2 x.f3 x.f4 x.f5.f0 x.f5.f1 x.f5.f2 gn wr.drew).mono ?_); rintro e w2 ⟨rfl, hb⟩; rw [HBI.out]; have HB2 := Aside0.mk ((below_drew (Below.refl wr.heap.size wr)).trans hb); have S2 : w2.cell? ⟨gb, 0, none⟩ = some (.int .i64 z0) ∧ w2.cell? ⟨gb, 1, none⟩ = some (.int .i64 z1) ∧ w2.cell? ⟨gb, 2, none⟩ = some (.int .i64 z2) ∧ w2.cell? ⟨gb, 3, none⟩ = some (.slice (some ad) l3.length c3) ∧ w2.cell? ⟨gb, 4, none⟩ = some (.int .i64 z4) ∧ w2.cell? ⟨gb, 5, none⟩ = some (.slice A5 l5.length c5) ∧ w2.cell? ⟨gb, 6, none⟩ = some (.slice A6 l6.length c6) ∧ w2.cell? ⟨gb, 7, none⟩ = some (.int .i64 z7) ∧ w2.cell? ⟨gb, 8, none⟩ = some (.int .i64 z8) ∧ w2.cell? ⟨gb, 9, none⟩ = some (.int .i64 z9) ∧ w2.cell? (ad.add (k * 8)) = some (.int .u8 x.f0) ∧ w2.cell? ⟨(ad.add (k * 8)).block, (ad.add (k * 8)).off + 1, none⟩ = some (.int .i64 x.f1) ∧ w2.cell? ⟨(ad.add (k * 8)).block, (ad.add (k * 8)).off + 2, none⟩ = some (.int .i64 x.f2) ∧ w2.cell? ⟨(ad.add (k * 8)).block, (ad.add (k * 8)).off + 3, none⟩ = some (.int .i64 x.f3) ∧ w2.cell? ⟨(ad.add (k * 8)).block, (ad.add (k * 8)).off + 4, none⟩ = some (.string x.f4) ∧ w2.cell? ⟨(ad.add (k * 8)).block, (ad.add (k * 8)).off + 5, none⟩ = some (.int .u8 x.f5.f0) ∧ w2.cell? ⟨(ad.add (k * 8)).block, (ad.add (k * 8)).off + 6, none⟩ = some (.int .i64 x.f5.f1) ∧ w2.cell? ⟨(ad.add (k * 8)).block, (ad.add (k * 8)).off + 7, none⟩ = some (.string x.f5.f2) := (by exact ⟨(HB2.out.cell (World.block_lt_of_cell? _ _ S0.1)).trans S0.1, (HB2.out.cell (World.block_lt_of_cell? _ _ S0.2.1)).trans S0.2.1, (HB2.out.cell (World.block_lt_of_cell? _ _ S0.2.2.1)).trans S0.2.2.1, (HB2.out.cell (World.block_lt_of_cell? _ _ S0.2.2.2.1)).trans S0.2.2.2.1, (HB2.out.cell (World.block_lt_of_cell? _ _ S0.2.2.2.2.1)).trans S0.2.2.2.2.1, (HB2.out.cell (World.block_lt_of_cell? _ _ S0.2.2.2.2.2.1)).trans S0.2.2.2.2.2.1, (HB2.out.cell (World.block_lt_of_cell? _ _ S0.2.2.2.2.2.2.1)).trans S0.2.2.2.2.2.2.1, (HB2.out.cell (World.block_lt_of_cell? _ _ S0.2.2.2.2.2.2.2.1)).trans S0.2.2.2.2.2.2.2.1, (HB2.out.cell (World.block_lt_of_cell? _ _ S0.2.2.2.2.2.2.2.2.1)).trans S0.2.2.2.2.2.2.2.2.1, (HB2.out.cell (World.block_lt_of_cell? _ _ S0.2.2.2.2.2.2.2.2.2.1)).trans S0.2.2.2.2.2.2.2.2.2.1, (HB2.out.cell (World.block_lt_of_cell? _ _ S0.2.2.2.2.2.2.2.2.2.2.1)).trans S0.2.2.2.2.2.2.2.2.2.2.1, (HB2.out.cell (World.block_lt_of_cell? _ _ S0.2.2.2.2.2.2.2.2.2.2.2.1)).trans S0.2.2.2.2.2.2.2.2.2.2.2.1, (HB2.out.cell (World.block_lt_of_cell? _ _ S0.2.2.2.2.2.2.2.2.2.2.2.2.1)).trans S0.2.2.2.2.2.2.2.2.2.2.2.2.1, (HB2.out.cell (World.block_lt_of_cell? _ _ S0.2.2.2.2.2.2.2.2.2.2.2.2.2.1)).trans S0.2.2.2.2.2.2.2.2.2.2.2.2.2.1, (HB2.out.cell (World.block_lt_of_cell? _ _ S0.2.2.2.2.2.2.2.2.2.2.2.2.2.2.1)).trans S0.2.2.2.2.2.2.2.2.2.2.2.2.2.2.1, (HB2.out.cell (World.block_lt_of_cell? _ _ S0.2.2.2.2.2.2.2.2.2.2.2.2.2.2.2.1)).trans S0.2.2.2.2.2.2.2.2.2.2.2.2.2.2.2.1, (HB2.out.cell (World.block_lt_of_cell? _ _ S0.2.2.2.2.2.2.2.2.2.2.2.2.2.2.2.2.1)).trans S0.2.2.2.2.2.2.2.2.2.2.2.2.2.2.2.2.1, (HB2.out.cell (World.block_lt_of_cell? _ _ S0.2.2.2.2.2.2.2.2.2.2.2.2.2.2.2.2.2)).trans S0.2.2.2.2.2.2.2.2.2.2.2.2.2.2.2.2.2⟩); clear hb))
        all_goals
          have HB3 := Aside0.mk (below_then hbw.out hbw.out.size HB2.out)
          have k3 := S2.2.2.2.1
          have k8 := S2.2.2.2.2.2.2.2.2.2.2.1
          clear S0 S2 e0 e1 e2 e3 e4 e5 e6 e7
          cases bi with
          | false =>
            have hg9 := HG.out
            rw [if_neg (by decide)] at hg9
            have hrf : res = false := HRES.out.symm.trans (may_not (fun h => by have := h.gs; rw [hg9] at this; cases this))
            subst hrf
            clear hg9
            go_wp2_with fail
            go_ret
            exact ⟨rfl, below_then HB1.out HB1.out.size HB3.out⟩
          | true =>
            have hg9 := HG.out
            rw [if_pos rfl] at hg9
            have HG9 := Aside0.mk hg9
            clear hg9
            by_cases h6 : x.f0 = 6
            · have e6 : (x.f0 == 6) = true := by rw [h6]; rfl
              rw [if_pos h6] at HG9
              clear h6
              go_wp2_with fail
              go_roundw
              case rel => exact ⟨k + 1, gn + 1, by omega, by go_num, by first | rfl | go_num, by omega, by omega, HG9, HB3⟩
              case measure => simp [intOf]; omega
            · have e6 : (x.f0 == 6) = false := by simpa using h6
              rw [if_neg h6] at HG9
              clear h6
              go_wp2_with fail
              go_roundw
              case rel => exact ⟨k + 1, gn, by omega, by go_num, rfl, by omega, by omega, HG9, HB3⟩
              case measure => simp [intOf]; omega
      · obtain rfl : k = l3.length := by omega
        have d0 : decide ((l3.length : Int) < l3.length) = false := decide_eq_false (by omega)
        have HGO := Aside0.mk (show gsOk z2 l3 0 = true by rw [hgs.out, List.drop_length]; rfl)
        clear hlt hgs
        have k0 := (blk_cell HBK.out 0).trans rfl
        have k1 := (blk_cell HBK.out 1).trans rfl
        have k2 := (blk_cell HBK.out 2).trans rfl
        have k3 := (blk_cell HBK.out 3).trans rfl
        have k4 := (blk_cell HBK.out 4).trans rfl
        have k5 := (blk_cell HBK.out 5).trans rfl
        have k6 := (blk_cell HBK.out 6).trans rfl
        have k7 := (blk_cell HBK.out 7).trans rfl
        have k8 := (blk_cell HBK.out 8).trans rfl
        have k9 := (blk_cell HBK.out 9).trans rfl
        have hq : ∀ (A : Option Addr) (c : Nat) (l : List Int), l.length ≤ 400 → l.length ≤ c → ∀ W, Below w1.heap.size w1 W → (Kd.int .i64).C W A l.length l → Calls Try.prog 46 #[.agg #[.int .i64 z0, .int .i64 z1, .int .i64 z2, .slice A3 l3.length c3, .int .i64 z4, .slice A5 l5.length c5, .slice A6 l6.length c6, .int .i64 z7, .int .i64 z8, .int .i64 z9], .slice A l.length c] W fun e w' => e = .returned (.bool (!(l.any (badB z2)))) ∧ Below W.heap.size W w' := fun A c l hl hc W hb hC =>
          sacristanref15_regs.calls 401 z0 z1 z2 A3 c3 l3 z4 A5 c5 l5 A6 c6 l6 z7 z8 z9 A c l _ W (Kd.C_below HR.out.r3 (below_then HB1.out HB1.out.size hb)) HR.out.c3 (Kd.C_below HR.out.r5 (below_then HB1.out HB1.out.size hb)) HR.out.c5 (Kd.C_below HR.out.r6 (below_then HB1.out HB1.out.size hb)) HR.out.c6 hC hc (Pure.regs_l0 z0 z1 z2 l3 z4 l5 l6 z7 z8 z9 l (by omega) l.length 401 0 (by omega) (by omega) (by omega))
        have HQ := Aside0.mk hq
        clear hq
        have HE := Aside0.mk (show ∀ b1 b2 : Bool, l5.any (badB z2) = b1 → l6.any (badB z2) = b2 → (l5.length : Int) = z0 → l6.length ≤ 256 → -1 ≤ z7 → z7 < z2 → res = (!b1 && !b2) by
          intro b1 b2 h1 h2 h3 h4 h5 h6
          obtain ⟨f0, f1, f2, f3, f4, f5, f6, f7, f8, f9⟩ := HF.out
          rw [← HRES.out]
          cases b1 <;> cases b2
          · exact mayBlk_iff.2 ⟨⟨f0, f1, f2, f3, f4⟩, ⟨f6, f7, f5⟩, f8, f9, HGO.out, h3, h4, ⟨h5, h6⟩, h1, h2⟩
          · exact may_not (fun h => by have := h.r6; rw [h2] at this; cases this)
          · exact may_not (fun h => by have := h.r5; rw [h1] at this; cases this)
          · exact may_not (fun h => by have := h.r5; rw [h1] at this; cases this))
        by_cases q1 : (l5.length : Int) = z0
        case neg =>
          have hrf : res = false := HRES.out.symm.trans (may_not (fun h => q1 h.save))
          subst hrf
          have t1 : ((l5.length : Int) == z0) = false := by simpa using q1
          clear q1
          go_wp2_with fail
          go_ret
          exact ⟨rfl, below_then HB1.out HB1.out.size hbw.out⟩
        have t1 : ((l5.length : Int) == z0) = true := by simpa using q1
        by_cases q2 : (l6.length : Int) ≤ 256
        case neg =>
          have hrf : res = false := HRES.out.symm.trans (may_not (fun h => by have := h.stack; omega))
          subst hrf
          have t2 : decide ((l6.length : Int) ≤ 256) = false := decide_eq_false q2
          clear q1 q2
          go_wp2_with fail
          go_ret
          exact ⟨rfl, below_then HB1.out HB1.out.size hbw.out⟩
        have t2 : decide ((l6.length : Int) ≤ 256) = true := decide_eq_true q2
        by_cases q3 : -1 ≤ z7
        case neg =>
          have hrf : res = false := HRES.out.symm.trans (may_not (fun h => q3 h.cond.1))
          subst hrf
          have t3 : decide (-1 ≤ z7) = false := decide_eq_false q3
          clear q1 q2 q3
          go_wp2_with fail
          go_ret
          exact ⟨rfl, below_then HB1.out HB1.out.size hbw.out⟩
        have t3 : decide (-1 ≤ z7) = true := decide_eq_true q3
        by_cases q4 : z7 < z2
        case neg =>
          have hrf : res = false := HRES.out.symm.trans (may_not (fun h => q4 h.cond.2))
          subst hrf
          have t4 : decide (z7 < z2) = false := decide_eq_false q4
          clear q1 q2 q3 q4
          go_wp2_with fail
          go_ret
          exact ⟨rfl, below_then HB1.out HB1.out.size hbw.out⟩
        have t4 : decide (z7 < z2) = true := decide_eq_true q4
        have hE := fun b1 b2 h1 h2 => HE.out b1 b2 h1 h2 q1 (by omega) q3 q4
        have HE2 := Aside0.mk hE
        have HQ5 := Aside0.mk (HQ.out A5 c5 l5 H5.out HR.out.c5 wr hbw.out (Kd.C_below HR.out.r5 (below_then HB1.out HB1.out.size hbw.out)))
        have HQ6 := Aside0.mk (fun W hb => HQ.out A6 c6 l6 H6.out HR.out.c6 W hb (Kd.C_below HR.out.r6 (below_then HB1.out HB1.out.size hb)))
        clear q1 q2 q3 q4 hE HE HQ
        generalize h51 : l5.any (badB z2) = b1 at HQ5
        generalize h61 : l6.any (badB z2) = b2 at HQ6
        have hrf := HE2.out b1 b2 h51 h61
        subst hrf
        clear h51 h61 HE2
        cases b1 with
        | true =>
          go_wp2_with (first | (go_at_call 46; (with_reducible refine HQ5.out.mono ?_); rintro e w2 ⟨rfl, hb⟩; have HB2 := Aside0.mk (below_then hbw.out hbw.out.size hb); clear hb))
          go_ret
          exact ⟨rfl, below_then HB1.out HB1.out.size HB2.out⟩
        | false =>
          go_wp2_with (first
            | (go_at_call 46; (with_reducible refine HQ5.out.mono ?_); rintro e w2 ⟨rfl, hb⟩; have HB2 := Aside0.mk (below_then hbw.out hbw.out.size hb); have m0 := (blk_cell (blk_below HBK.out hb) 0).trans rfl; have m1 := (blk_cell (blk_below HBK.out hb) 1).trans rfl; have m2 := (blk_cell (blk_below HBK.out hb) 2).trans rfl; have m3 := (blk_cell (blk_below HBK.out hb) 3).trans rfl; have m4 := (blk_cell (blk_below HBK.out hb) 4).trans rfl; have m5 := (blk_cell (blk_below HBK.out hb) 5).trans rfl; have m6 := (blk_cell (blk_below HBK.out hb) 6).trans rfl; have m7 := (blk_cell (blk_below HBK.out hb) 7).trans rfl; have m8 := (blk_cell (blk_below HBK.out hb) 8).trans rfl; have m9 := (blk_cell (blk_below HBK.out hb) 9).trans rfl; clear hb)
            | (go_at_call 46; (with_reducible refine (HQ6.out w2 HB2.out).mono ?_); rintro e w3 ⟨rfl, hb⟩; have HB3 := Aside0.mk (below_then HB2.out HB2.out.size hb); clear hb))
          go_ret
          exact ⟨by cases b2 <;> rfl, below_then HB1.out HB1.out.size HB3.out⟩
end Go.Proofs.Ytjkjbfhhfdbnoaa.NW
