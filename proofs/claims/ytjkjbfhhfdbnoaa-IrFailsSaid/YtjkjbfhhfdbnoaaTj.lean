/- ir.Eval: how a block goes. -/
import Derived.Test.YtjkjbfhhfdbnoaaTi
namespace Go.Proofs.Ytjkjbfhhfdbnoaa.NW
open Go.RowKit Go.Proofs.YtjkjbfhhfdbnoaaW.PrintWords Go.Proofs.YtjkjbfhhfdbnoaaW.PrintMore Go.Proofs.Ytjkjbfhhfdbnoaa.PB
set_option linter.unusedVariables false
set_option linter.unusedSimpArgs false
set_option maxHeartbeats 3200000 in
set_option maxRecDepth 1000000 in
theorem irEval_calls (O : Ops) (P : S37 → Prop) (hV : OpsVal O P) (z0 z1 z2 : Int) (A3 : Option Addr) (c3 : Nat) (l3 : List S39) (z4 : Int) (A5 : Option Addr) (c5 : Nat) (l5 : List Int) (A6 : Option Addr) (c6 : Nat) (l6 : List Int) (z7 z8 z9 : Int)
    (A7 : Option Addr) (c7 : Nat) (l7 : List S37) (A8 : Option Addr) (c8 : Nat) (l8 : List S37) (A0 : Option Addr) (c0 : Nat) (ups : List S37) (A2 : Option Addr) (c2 : Nat) (ons : List S54) (w : World)
    (hr : BlkIs w A3 c3 l3 A5 c5 l5 A6 c6 l6) (h7 : k37.C w A7 l7.length l7) (h8 : k37.C w A8 l8.length l8) (hu : k37.C w A0 ups.length ups) (ho : k54.C w A2 ons.length ons) (hs : ∀ x ∈ l3, x.f4.size ≤ 4294967000) (hM : MaxOk w) (h6 : ∀ x ∈ l3, x.f0 ≠ 6) (hP : AllP P l7 l8 ups ons l3) :
    Calls Try.prog 31 #[.agg #[.int .i64 z0, .int .i64 z1, .int .i64 z2, .slice A3 l3.length c3, .int .i64 z4, .slice A5 l5.length c5, .slice A6 l6.length c6, .int .i64 z7, .int .i64 z8, .int .i64 z9], .slice A7 l7.length c7, .slice A8 l8.length c8, .agg #[.slice A0 ups.length c0, .slice A2 ons.length c2]] w
      fun e w' => Evald (evalK O ups ons z0 z1 z2 l3 z4 l5 l6 z7 z8 z9 l7 l8) w e w' := by
  generalize hev : evalK O ups ons z0 z1 z2 l3 z4 l5 l6 z7 z8 z9 l7 l8 = ev
  have HEV := Aside0.mk hev
  have HR := Aside0.mk hr
  have H7 := Aside0.mk h7
  have H8 := Aside0.mk h8
  have HU := Aside0.mk hu
  have HON := Aside0.mk ho
  have HS := Aside0.mk hs
  have HMX := Aside0.mk hM
  have H6 := Aside0.mk h6
  have HP := Aside0.mk hP
  have hm7 := Kd.C_max h7
  have hm8 := Kd.C_max h8
  clear hev hr h7 h8 hu ho hs hM h6 hP
  have hmf : ∀ (fn : Fn) (first cap : Array Value) (w : World), (Instr.makeFunc fn first cap).run Try.prog w = .ok (.func fn first cap) w := fun _ _ _ _ => rfl
  go_enter_defers Try.func31, Try.ntmps31
  go_upto_region 1 with fail
  have H1 := Aside0.mk (six_new w #[.int .i64 z0, .int .i64 z1, .int .i64 z2, .slice A3 l3.length c3, .int .i64 z4, .slice A5 l5.length c5, .slice A6 l6.length c6, .int .i64 z7, .int .i64 z8, .int .i64 z9] #[.slice A0 ups.length c0, .slice A2 ons.length c2] (.slice none 0 0) (.slice none 0 0) (.int .i64 0) (.bool false))
  have HB1 := Aside0.mk (below_alloc (below_alloc (below_alloc (below_alloc (below_alloc (below_alloc (Below.refl w.heap.size w) (.cells #[.int .i64 z0, .int .i64 z1, .int .i64 z2, .slice A3 l3.length c3, .int .i64 z4, .slice A5 l5.length c5, .slice A6 l6.length c6, .int .i64 z7, .int .i64 z8, .int .i64 z9] 25)) (.cells #[.slice A0 ups.length c0, .slice A2 ons.length c2] 29)) (.cells #[.slice none 0 0] 26)) (.cells #[.slice none 0 0] 26)) (.cells #[.int .i64 0] 3)) (.cells #[.bool false] 4))
  generalize (((((w.alloc (.cells #[.int .i64 z0, .int .i64 z1, .int .i64 z2, .slice A3 l3.length c3, .int .i64 z4, .slice A5 l5.length c5, .slice A6 l6.length c6, .int .i64 z7, .int .i64 z8, .int .i64 z9] 25)).alloc (.cells #[.slice A0 ups.length c0, .slice A2 ons.length c2] 29)).alloc (.cells #[.slice none 0 0] 26)).alloc (.cells #[.slice none 0 0] 26)).alloc (.cells #[.int .i64 0] 3)).alloc (.cells #[.bool false] 4) = w1 at H1 HB1 ⊢
  generalize hgb : w.heap.size = gb at H1 ⊢
  have HGB := Aside0.mk hgb
  clear hgb
  have i0 := (blk_cell H1.out.b 0).trans rfl
  have i1 := (blk_cell H1.out.b 1).trans rfl
  have i2 := (blk_cell H1.out.b 2).trans rfl
  have i3 := (blk_cell H1.out.b 3).trans rfl
  have i4 := (blk_cell H1.out.b 4).trans rfl
  have i5 := (blk_cell H1.out.b 5).trans rfl
  have i6 := (blk_cell H1.out.b 6).trans rfl
  have i7 := (blk_cell H1.out.b 7).trans rfl
  have i8 := (blk_cell H1.out.b 8).trans rfl
  have i9 := (blk_cell H1.out.b 9).trans rfl
  have HMC := Aside0.mk (may_calls z0 z1 z2 A3 c3 l3 z4 A5 c5 l5 A6 c6 l6 z7 z8 z9 w1 ⟨Kd.C_below HR.out.r3 HB1.out, HR.out.c3, Kd.C_below HR.out.r5 HB1.out, HR.out.c5, Kd.C_below HR.out.r6 HB1.out, HR.out.c6⟩ HS.out (HMX.out.below HB1.out))
  cases hm : mayBlk z0 z1 z2 l3 z4 l5 l6 z7 z8 z9 with
  | false =>
    rw [hm] at HMC
    have HN := Aside0.mk (show ev = none by rw [← HEV.out]; unfold evalK; rw [if_neg (by rw [hm]; decide)])
    clear hm
    go_upto_region 2 with (first | (go_at_call 42; (refine HMC.out.mono ?_); rintro e w2 ⟨rfl, hb2⟩; have HB2 := Aside0.mk hb2; have H2 := Aside0.mk (H1.out.below hb2); clear hb2))
    have r8 := (blk_cell H2.out.r8 0).trans rfl
    have r9 := (blk_cell H2.out.r9 0).trans rfl
    have r10 := (blk_cell H2.out.r10 0).trans rfl
    have r11 := (blk_cell H2.out.r11 0).trans rfl
    have f8 := blk_frozen H2.out.r8 0
    have f9 := blk_frozen H2.out.r9 0
    have f10 := blk_frozen H2.out.r10 0
    have f11 := blk_frozen H2.out.r11 0
    go_wp2_with fail
    have H3 := H2.out.set (.slice none 0 0) (.slice none 0 0) (.int .i64 0) (.bool false)
    have hB3 : Below w.heap.size w ((((w2.setCell ⟨gb + 1 + 1, 0, none⟩ (.slice none 0 0)).setCell ⟨gb + 1 + 1 + 1, 0, none⟩ (.slice none 0 0)).setCell ⟨gb + 1 + 1 + 1 + 1, 0, none⟩ (.int .i64 0)).setCell ⟨gb + 1 + 1 + 1 + 1 + 1, 0, none⟩ (.bool false)) := ((((below_then HB1.out HB1.out.size HB2.out).setCell (p := ⟨gb + 1 + 1, 0, none⟩) (by have := HGB.out; show w.heap.size ≤ gb + 1 + 1; omega) _).setCell (p := ⟨gb + 1 + 1 + 1, 0, none⟩) (by have := HGB.out; show w.heap.size ≤ gb + 1 + 1 + 1; omega) _).setCell (p := ⟨gb + 1 + 1 + 1 + 1, 0, none⟩) (by have := HGB.out; show w.heap.size ≤ gb + 1 + 1 + 1 + 1; omega) _).setCell (p := ⟨gb + 1 + 1 + 1 + 1 + 1, 0, none⟩) (by have := HGB.out; show w.heap.size ≤ gb + 1 + 1 + 1 + 1 + 1; omega) _
    generalize ((((w2.setCell ⟨gb + 1 + 1, 0, none⟩ (.slice none 0 0)).setCell ⟨gb + 1 + 1 + 1, 0, none⟩ (.slice none 0 0)).setCell ⟨gb + 1 + 1 + 1 + 1, 0, none⟩ (.int .i64 0)).setCell ⟨gb + 1 + 1 + 1 + 1 + 1, 0, none⟩ (.bool false)) = w3 at H3 hB3 ⊢
    exact ⟨_, results31 rfl rfl rfl rfl H3, evald_none none HN.out hB3⟩
  | true =>
    rw [hm] at HMC
    have HM := Aside0.mk (mayBlk_iff.1 hm)
    have HMT := Aside0.mk hm
    clear hm
    by_cases h0 : (l7.length : Int) = z0
    case neg =>
      have HN := Aside0.mk (show ev = none by rw [← HEV.out]; unfold evalK; rw [if_pos HMT.out, if_neg h0])
      have h0b : ((l7.length : Int) != z0) = true := by simpa using h0
      clear h0
      go_upto_region 2 with (first | (go_at_call 42; (refine HMC.out.mono ?_); rintro e w2 ⟨rfl, hb2⟩; have HB2 := Aside0.mk hb2; have H2 := Aside0.mk (H1.out.below hb2); have i0 := (blk_cell H2.out.b 0).trans rfl; have i1 := (blk_cell H2.out.b 1).trans rfl; clear hb2))
      have r8 := (blk_cell H2.out.r8 0).trans rfl
      have r9 := (blk_cell H2.out.r9 0).trans rfl
      have r10 := (blk_cell H2.out.r10 0).trans rfl
      have r11 := (blk_cell H2.out.r11 0).trans rfl
      have f8 := blk_frozen H2.out.r8 0
      have f9 := blk_frozen H2.out.r9 0
      have f10 := blk_frozen H2.out.r10 0
      have f11 := blk_frozen H2.out.r11 0
      go_wp2_with fail
      have H3 := H2.out.set (.slice none 0 0) (.slice none 0 0) (.int .i64 0) (.bool false)
      have hB3 : Below w.heap.size w ((((w2.setCell ⟨gb + 1 + 1, 0, none⟩ (.slice none 0 0)).setCell ⟨gb + 1 + 1 + 1, 0, none⟩ (.slice none 0 0)).setCell ⟨gb + 1 + 1 + 1 + 1, 0, none⟩ (.int .i64 0)).setCell ⟨gb + 1 + 1 + 1 + 1 + 1, 0, none⟩ (.bool false)) := ((((below_then HB1.out HB1.out.size HB2.out).setCell (p := ⟨gb + 1 + 1, 0, none⟩) (by have := HGB.out; show w.heap.size ≤ gb + 1 + 1; omega) _).setCell (p := ⟨gb + 1 + 1 + 1, 0, none⟩) (by have := HGB.out; show w.heap.size ≤ gb + 1 + 1 + 1; omega) _).setCell (p := ⟨gb + 1 + 1 + 1 + 1, 0, none⟩) (by have := HGB.out; show w.heap.size ≤ gb + 1 + 1 + 1 + 1; omega) _).setCell (p := ⟨gb + 1 + 1 + 1 + 1 + 1, 0, none⟩) (by have := HGB.out; show w.heap.size ≤ gb + 1 + 1 + 1 + 1 + 1; omega) _
      generalize ((((w2.setCell ⟨gb + 1 + 1, 0, none⟩ (.slice none 0 0)).setCell ⟨gb + 1 + 1 + 1, 0, none⟩ (.slice none 0 0)).setCell ⟨gb + 1 + 1 + 1 + 1, 0, none⟩ (.int .i64 0)).setCell ⟨gb + 1 + 1 + 1 + 1 + 1, 0, none⟩ (.bool false)) = w3 at H3 hB3 ⊢
      exact ⟨_, results31 rfl rfl rfl rfl H3, evald_none none HN.out hB3⟩
    have h0b : ((l7.length : Int) != z0) = false := by simpa using h0
    by_cases h1 : (l8.length : Int) = z1
    case neg =>
      have HN := Aside0.mk (show ev = none by rw [← HEV.out]; unfold evalK; rw [if_pos HMT.out, if_pos h0, if_neg h1])
      have h1b : ((l8.length : Int) != z1) = true := by simpa using h1
      clear h0 h1
      go_upto_region 2 with (first | (go_at_call 42; (refine HMC.out.mono ?_); rintro e w2 ⟨rfl, hb2⟩; have HB2 := Aside0.mk hb2; have H2 := Aside0.mk (H1.out.below hb2); have i0 := (blk_cell H2.out.b 0).trans rfl; have i1 := (blk_cell H2.out.b 1).trans rfl; clear hb2))
      have r8 := (blk_cell H2.out.r8 0).trans rfl
      have r9 := (blk_cell H2.out.r9 0).trans rfl
      have r10 := (blk_cell H2.out.r10 0).trans rfl
      have r11 := (blk_cell H2.out.r11 0).trans rfl
      have f8 := blk_frozen H2.out.r8 0
      have f9 := blk_frozen H2.out.r9 0
      have f10 := blk_frozen H2.out.r10 0
      have f11 := blk_frozen H2.out.r11 0
      go_wp2_with fail
      have H3 := H2.out.set (.slice none 0 0) (.slice none 0 0) (.int .i64 0) (.bool false)
      have hB3 : Below w.heap.size w ((((w2.setCell ⟨gb + 1 + 1, 0, none⟩ (.slice none 0 0)).setCell ⟨gb + 1 + 1 + 1, 0, none⟩ (.slice none 0 0)).setCell ⟨gb + 1 + 1 + 1 + 1, 0, none⟩ (.int .i64 0)).setCell ⟨gb + 1 + 1 + 1 + 1 + 1, 0, none⟩ (.bool false)) := ((((below_then HB1.out HB1.out.size HB2.out).setCell (p := ⟨gb + 1 + 1, 0, none⟩) (by have := HGB.out; show w.heap.size ≤ gb + 1 + 1; omega) _).setCell (p := ⟨gb + 1 + 1 + 1, 0, none⟩) (by have := HGB.out; show w.heap.size ≤ gb + 1 + 1 + 1; omega) _).setCell (p := ⟨gb + 1 + 1 + 1 + 1, 0, none⟩) (by have := HGB.out; show w.heap.size ≤ gb + 1 + 1 + 1 + 1; omega) _).setCell (p := ⟨gb + 1 + 1 + 1 + 1 + 1, 0, none⟩) (by have := HGB.out; show w.heap.size ≤ gb + 1 + 1 + 1 + 1 + 1; omega) _
      generalize ((((w2.setCell ⟨gb + 1 + 1, 0, none⟩ (.slice none 0 0)).setCell ⟨gb + 1 + 1 + 1, 0, none⟩ (.slice none 0 0)).setCell ⟨gb + 1 + 1 + 1 + 1, 0, none⟩ (.int .i64 0)).setCell ⟨gb + 1 + 1 + 1 + 1 + 1, 0, none⟩ (.bool false)) = w3 at H3 hB3 ⊢
      exact ⟨_, results31 rfl rfl rfl rfl H3, evald_none none HN.out hB3⟩
    have h1b : ((l8.length : Int) != z1) = false := by simpa using h1
    have HE := Aside0.mk (show ev = (runK O ups ons l3 (startK z2 l7 l8) []).bind fun p => (nextK p.1 z7 z8 z9).map fun n => (l5.map (rd_T37 p.1), l6.map (rd_T37 p.1), n) by rw [← HEV.out]; unfold evalK; rw [if_pos HMT.out, if_pos h0, if_pos h1])
    have hf0 := HM.out.few
    have hf1 := HM.out.regs
    have hf2 := HM.out.pos
    have HL0 := Aside0.mk (show l7.length ≤ 4096 ∧ l8.length ≤ 4096 ∧ 0 ≤ z2 ∧ z2 ≤ 4096 ∧ (l7.length : Int) + l8.length ≤ z2 ∧ (l7.length : Int) = z0 by omega)
    clear h0 h1 hf0 hf1 hf2
    go_upto_region 4 with (first | (go_at_call 42; (refine HMC.out.mono ?_); rintro e w2 ⟨rfl, hb2⟩; have HB2 := Aside0.mk (below_then HB1.out HB1.out.size hb2); have H2 := Aside0.mk (H1.out.below hb2); have i0 := (blk_cell H2.out.b 0).trans rfl; have i1 := (blk_cell H2.out.b 1).trans rfl; clear hb2))
    clear i0 i1 i2 i3 i4 i5 i6 i7 i8 i9 h0b h1b HMC H1
    obtain ⟨j0, hj0, hzz⟩ := Option.map_eq_some_iff.1 info37
    simp only [Prod.mk.injEq] at hzz
    have hmk : ∀ W : World, Sem.run Try.prog (Instr.makeSlice 26 (.int .i64 z2) (.int .i64 z2)) W = .ok (.slice (some ⟨W.heap.size, 0, none⟩) z2.toNat z2.toNat) (W.alloc (.cells (madeCells (Value.agg #[.int .u8 0, .int .i64 0, .string ⟨#[]⟩]).cells (z2.toNat * 3)) 37)) := fun W => by
      have := run_make (P := Try.prog) W 26 37 j0 _ Try.underlying26 hj0 hzz.1 .i64 .i64 z2 z2 HL0.out.2.2.1 (Int.le_refl _) (by rw [hzz.2.2]; have := HL0.out; omega) (by have := HL0.out; omega)
      rw [hzz.2.1] at this
      exact this
    have i2 := (blk_cell H2.out.b 2).trans rfl
    have v0 := (blk_cell H2.out.a 0).trans rfl
    have v1 := (blk_cell H2.out.a 1).trans rfl
    have hbM := below_alloc (Below.refl w2.heap.size w2) (.cells (madeCells (Value.agg #[.int .u8 0, .int .i64 0, .string ⟨#[]⟩]).cells (z2.toNat * 3)) 37)
    have S0 : w2.cell? ⟨gb, 2, none⟩ = some (.int .i64 z2) ∧ w2.cell? ⟨gb + 1, 0, none⟩ = some (.slice A0 ups.length c0) ∧ w2.cell? ⟨gb + 1, 1, none⟩ = some (.slice A2 ons.length c2) := ⟨i2, v0, v1⟩
    have SA : (w2.alloc (.cells (madeCells (Value.agg #[.int .u8 0, .int .i64 0, .string ⟨#[]⟩]).cells (z2.toNat * 3)) 37)).cell? ⟨gb, 2, none⟩ = some (.int .i64 z2) ∧ (w2.alloc (.cells (madeCells (Value.agg #[.int .u8 0, .int .i64 0, .string ⟨#[]⟩]).cells (z2.toNat * 3)) 37)).cell? ⟨gb + 1, 0, none⟩ = some (.slice A0 ups.length c0) ∧ (w2.alloc (.cells (madeCells (Value.agg #[.int .u8 0, .int .i64 0, .string ⟨#[]⟩]).cells (z2.toNat * 3)) 37)).cell? ⟨gb + 1, 1, none⟩ = some (.slice A2 ons.length c2) := ⟨(hbM.cell (World.block_lt_of_cell? _ _ S0.1)).trans S0.1, (hbM.cell (World.block_lt_of_cell? _ _ S0.2.1)).trans S0.2.1, (hbM.cell (World.block_lt_of_cell? _ _ S0.2.2)).trans S0.2.2⟩
    have SB : ∀ o : Obj, ((w2.alloc (.cells (madeCells (Value.agg #[.int .u8 0, .int .i64 0, .string ⟨#[]⟩]).cells (z2.toNat * 3)) 37)).alloc o).cell? ⟨gb, 2, none⟩ = some (.int .i64 z2) ∧ ((w2.alloc (.cells (madeCells (Value.agg #[.int .u8 0, .int .i64 0, .string ⟨#[]⟩]).cells (z2.toNat * 3)) 37)).alloc o).cell? ⟨gb + 1, 0, none⟩ = some (.slice A0 ups.length c0) ∧ ((w2.alloc (.cells (madeCells (Value.agg #[.int .u8 0, .int .i64 0, .string ⟨#[]⟩]).cells (z2.toNat * 3)) 37)).alloc o).cell? ⟨gb + 1, 1, none⟩ = some (.slice A2 ons.length c2) := fun o => ⟨((below_alloc (Below.refl _ (w2.alloc (.cells (madeCells (Value.agg #[.int .u8 0, .int .i64 0, .string ⟨#[]⟩]).cells (z2.toNat * 3)) 37))) o).cell (World.block_lt_of_cell? _ _ SA.1)).trans SA.1, ((below_alloc (Below.refl _ (w2.alloc (.cells (madeCells (Value.agg #[.int .u8 0, .int .i64 0, .string ⟨#[]⟩]).cells (z2.toNat * 3)) 37))) o).cell (World.block_lt_of_cell? _ _ SA.2.1)).trans SA.2.1, ((below_alloc (Below.refl _ (w2.alloc (.cells (madeCells (Value.agg #[.int .u8 0, .int .i64 0, .string ⟨#[]⟩]).cells (z2.toNat * 3)) 37))) o).cell (World.block_lt_of_cell? _ _ SA.2.2)).trans SA.2.2⟩
    clear hj0 hzz hbM
    first
    | (go_region_held3 (fun W' => W'.cell? ⟨gb, 2, none⟩ = some (.int .i64 z2) ∧ W'.cell? ⟨gb + 1, 0, none⟩ = some (.slice A0 ups.length c0) ∧ W'.cell? ⟨gb + 1, 1, none⟩ = some (.slice A2 ons.length c2)) (first | exact S0 | exact SA | exact SB _ | fail) (fail))
    | fail
    have HB4 := Aside0.mk (show Below w2.heap.size w2 (((w2.alloc (.cells (madeCells #[.int .u8 0, .int .i64 0, .string ⟨#[]⟩] (z2.toNat * 3)) 37)).alloc (.cells #[.slice (some ⟨w2.heap.size, 0, none⟩) z2.toNat z2.toNat, .slice A0 ups.length c0, .slice A2 ons.length c2, .slice none 0 0] 84)).drew) from below_drew (below_alloc (below_alloc (Below.refl w2.heap.size w2) _) _))
    have HG4 : Aside0 ((((w2.alloc (.cells (madeCells #[.int .u8 0, .int .i64 0, .string ⟨#[]⟩] (z2.toNat * 3)) 37)).alloc (.cells #[.slice (some ⟨w2.heap.size, 0, none⟩) z2.toNat z2.toNat, .slice A0 ups.length c0, .slice A2 ons.length c2, .slice none 0 0] 84)).drew).heap[w2.heap.size]? = some (.cells (cellsOf (List.replicate z2.toNat z37)).toArray 37 (0, 0))) := ⟨by rw [← made_cells]; exact blk_drew (blk_alloc (blk_new w2 _) _)⟩
    have HR4 : Aside0 ((((w2.alloc (.cells (madeCells #[.int .u8 0, .int .i64 0, .string ⟨#[]⟩] (z2.toNat * 3)) 37)).alloc (.cells #[.slice (some ⟨w2.heap.size, 0, none⟩) z2.toNat z2.toNat, .slice A0 ups.length c0, .slice A2 ons.length c2, .slice none 0 0] 84)).drew).heap[w2.heap.size + 1]? = some (.cells #[.slice (some ⟨w2.heap.size, 0, none⟩) z2.toNat z2.toNat, .slice A0 ups.length c0, .slice A2 ons.length c2, .slice none 0 0] 84)) := ⟨blk_drew (by rw [show w2.heap.size + 1 = (w2.alloc (.cells (madeCells #[.int .u8 0, .int .i64 0, .string ⟨#[]⟩] (z2.toNat * 3)) 37)).heap.size from (World.size_alloc ..).symm]; exact blk_new _ _)⟩
    have HGR := Aside0.mk (show gb + 1 + 1 + 1 + 1 + 1 < w2.heap.size from blk_lt H2.out.r11)
    generalize ((w2.alloc (.cells (madeCells #[.int .u8 0, .int .i64 0, .string ⟨#[]⟩] (z2.toNat * 3)) 37)).alloc (.cells #[.slice (some ⟨w2.heap.size, 0, none⟩) z2.toNat z2.toNat, .slice A0 ups.length c0, .slice A2 ons.length c2, .slice none 0 0] 84)).drew = w4 at *
    clear hmk S0 SA SB i2 v0 v1
    rename_i hheld
    clear hheld
    have HUP := Aside0.mk (show ∀ W, Below w2.heap.size w2 W → SixIs W gb #[.int .i64 z0, .int .i64 z1, .int .i64 z2, .slice A3 l3.length c3, .int .i64 z4, .slice A5 l5.length c5, .slice A6 l6.length c6, .int .i64 z7, .int .i64 z8, .int .i64 z9] #[.slice A0 ups.length c0, .slice A2 ons.length c2] (.slice none 0 0) (.slice none 0 0) (.int .i64 0) (.bool false) from fun W hw => H2.out.below hw)
    have HUW := Aside0.mk (show ∀ W, Below w2.heap.size w2 W → Below w.heap.size w W from fun W hw => below_then HB2.out HB2.out.size hw)
    have HU2 := Aside0.mk (Kd.C_below HU.out HB2.out)
    have HO2 := Aside0.mk (Kd.C_below HON.out HB2.out)
    generalize hgr : w2.heap.size = gr at HG4 HR4 HGR HB4 HUP HUW ⊢
    have HGW := Aside0.mk hgr
    clear hgr
    have k0 := (blk_cell HR4.out 0).trans rfl
    go_wp2_with (((with_reducible refine gate_builtin (b := .copy) (xs := #[.tmp 42, .tmp 43]) rfl ?_); go_loud (refine wpList_copy37 rfl (.tmp 42) (.tmp 43) rfl gr 0 z2.toNat z2.toNat c7 A7 (some ⟨gr, 0, none⟩) (List.replicate z2.toNat z37) l7 rfl rfl HG4.out (Kd.C_below H7.out (HUW.out _ HB4.out)) ?cD ?cF ?cP gr w2 HB4.out (Nat.le_refl _) ?_; (case cD => (have := HL0.out; omega)); (case cF => (have := HL0.out; rw [List.length_replicate]; omega)); (case cP => exact fun _ => rfl); intro w5 hg5 hb5 hx5; have HG5 := Aside0.mk hg5.out; have HB5 := Aside0.mk hb5; have HX5 := Aside0.mk hx5; clear hg5 hb5 hx5)))
    have HR5 := Aside0.mk ((HX5.out (gr + 1) (by omega)).trans HR4.out)
    have H5 := Aside0.mk (HUP.out _ HB5.out)
    clear HR4 HG4 HX5 HB4 k0
    have k0 := (blk_cell HR5.out 0).trans rfl
    have i0 : w5.cell? ⟨gb, 0, none⟩ = some (.int .i64 (l7.length : Int)) := by rw [HL0.out.2.2.2.2.2]; exact (blk_cell H5.out.b 0).trans rfl
    have hL1 : (l7.length : Int) ≤ max z2 0 := by have := HL0.out; omega
    obtain ⟨dpx, hdpx, hsl⟩ : ∃ dpx : Option Addr, Aside0 (0 < l8.length → dpx = some ⟨gr, l7.length * 3, none⟩) ∧ ∀ W : World, Sem.run Try.prog (Instr.slice 26 (.slice (some ⟨gr, 0, none⟩) z2.toNat z2.toNat) (some (.int .i64 (l7.length : Int))) none none) W = .ok (.slice dpx (z2.toNat - l7.length) (z2.toNat - l7.length)) W := by
      refine ⟨if z2.toNat = l7.length then some ⟨gr, 0, none⟩ else some ⟨gr, l7.length * 3, none⟩, ⟨fun h8 => if_neg (by have := HL0.out; omega)⟩, fun W => ?_⟩
      obtain ⟨i0_, hi0_, hzz_⟩ := Option.map_eq_some_iff.1 info37
      simp only [Prod.mk.injEq] at hzz_
      have hz3 := hzz_.2.1
      have hL3 : (l7.length : Int) ≤ (z2.toNat : Int) := by have := HL0.out; omega
      simp [go_sem, Instr.slice, run_underlying Try.underlying26, typeInfo, sizeOf, hi0_, hz3, hL3, hL1]
    clear hL1
    simp only [Act.put, goInt, List.setIfInBounds_toArray, List.set_cons_succ, List.set_cons_zero]
    go_cut [53] from 45 to 53 (fun n wx => n = .int .i64 l8.length ∧ Aside0 (Below gr w2 wx) ∧ Aside0 (wx.heap[gr]? = some (.cells (cellsOf (putAt (putAt (List.replicate z2.toNat z37) 0 l7) l7.length l8)).toArray 37 (0, 0))) ∧ Aside0 (wx.heap[gr + 1]? = some (.cells #[.slice (some ⟨gr, 0, none⟩) z2.toNat z2.toNat, .slice A0 ups.length c0, .slice A2 ons.length c2, .slice none 0 0] 84 (0, 0))))
    case first =>
      refine wp_region_noPanic ?_
      go_region_law (first | (refine step_copy37 rfl (.tmp 51) (.tmp 52) rfl gr l7.length _ _ c8 A8 _ (putAt (List.replicate z2.toNat z37) 0 l7) l8 rfl rfl (blk_drew HG5.out) (Kd.C_below H8.out (HUW.out _ (below_drew HB5.out))) ?cD ?cF ?cP gr w2 (below_drew HB5.out) (Nat.le_refl _) ?_; (case cD => (have := HL0.out; omega)); (case cF => (have := HL0.out; rw [putAt_len (by rw [List.length_replicate]; omega), List.length_replicate]; omega)); (case cP => exact hdpx.out); intro w6 hg6 hb6 hx6; have HG6 := Aside0.mk hg6.out; have HB6 := Aside0.mk hb6; have HX6 := Aside0.mk hx6; clear hg6 hb6 hx6) | go_simp)
      all_goals
        refine NoPanic.normal ?_
        go_wp2_with fail
        go_meet
        case rel => exact ⟨rfl, HB6, HG6, ⟨(HX6.out (gr + 1) (by omega)).trans (blk_drew HR5.out)⟩⟩
    case rest =>
      obtain ⟨rfl, HB6, HG6, HR6⟩ := hcut
      clear hdpx hsl i0 k0 HR5 H5 HB5 HG5
      have H6c := Aside0.mk (HUP.out _ HB6.out)
      have hlt0 := start_len (z2 := z2) (slots := l7) (stack := l8) (by have := HL0.out; omega)
      have HST := Aside0.mk (show (startK z2 l7 l8).length = z2.toNat by omega)
      have HPS := Aside0.mk (show ∀ v ∈ startK z2 l7 l8, P v from fun v hv => by
        unfold startK at hv
        rcases List.mem_append.1 hv with hv | hv
        · rcases List.mem_append.1 hv with hv | hv
          · exact HP.out.s v hv
          · exact HP.out.t v hv
        · rw [(List.mem_replicate.1 hv).2]; exact HP.out.z)
      have HSE := Aside0.mk (putAt_start z2 l7 l8 (by have := HL0.out; omega))
      have HZL := Aside0.mk (show ((startK z2 l7 l8).length : Int) = z2 from hlt0)
      clear hlt0
      rw [HSE.out] at HG6
      generalize startK z2 l7 l8 = st at HST HPS HG6 HE HZL
      clear HSE
      have HRUN := Aside0.mk (show (RunIs w2 wc (gr + 1) gr z2.toNat st (.slice none 0 0) [] A0 c0 ups A2 c2 ons) from ⟨by rw [HST.out]; exact HR6.out, by (have := regs_of (W := wc) (base := w2.heap.size) (g := gr) HG6.out (by rw [HGW.out]; exact Nat.le_refl _) (by have := HL0.out; have := HST.out; unfold maxLen; omega)); rw [HST.out] at this ⊢; exact this, Kd.N_nil _ _ _ _ _, by rw [HGW.out]; exact HB6.out, by rw [HGW.out]; omega, by omega, HU2.out, HO2.out⟩)
      clear HR6 HG6
      have i3 := (blk_cell H6c.out.b 3).trans rfl
      have HIN := Aside0.mk HM.out.insts
      go_upto_region 8 with fail
      clear i3
      have HUX := Aside0.mk (show ∀ W, Below w2.heap.size w2 W → Below gr w2 W from fun W hw => by rw [← HGW.out]; exact hw)
      go_loopw [57] (fun i wr => ∃ (k : Nat) (r : List S37) (g : List S54) (vg : Value), k ≤ l3.length ∧ i = .int .i64 k ∧ Aside0 (RunIs w2 wr (gr + 1) gr z2.toNat r vg g A0 c0 ups A2 c2 ons) ∧ Aside0 (runK O ups ons l3 st [] = runK O ups ons (l3.drop k) r g) ∧ Aside0 (Left P st.length r g) ∧ Aside0 (gsOk z2 (l3.drop k) g.length = true) ∧ Aside0 (g.length ≤ k)) (fun i _ => l3.length - (intOf i).toNat)
      case atStart => exact ⟨0, st, [], _, by omega, rfl, HRUN, ⟨rfl⟩, ⟨⟨rfl, HPS.out, fun o ho => absurd ho (by simp)⟩⟩, ⟨HM.out.gs⟩, ⟨Nat.le_refl _⟩⟩
      case round =>
        obtain ⟨k, r, g, vg, hk, rfl, HRU, HRK, HLF, HGS, HGK⟩ := hrel
        have HBr := Aside0.mk (HUW.out _ (HUX.out _ HRU.out.old))
        by_cases hlt : k < l3.length
        · obtain ⟨ad, e, e0, e1, e2, e3, e4, e5, e6, e7⟩ := at_T39 (Kd.C_below HR.out.r3 HBr.out) (k : Int) (by omega) (by omega)
          subst e
          rw [show ((k : Int).toNat) = k by omega] at e0 e1 e2 e3 e4 e5 e6 e7
          have hxx : rd_T39 l3 (k : Int) = l3[k] := by
            rw [rd_T39, List.getD_eq_getElem?_getD, show ((k : Int).toNat) = k by omega, List.getElem?_eq_getElem hlt]; rfl
          have hgs := HGS.out
          have hrk := HRK.out
          rw [List.drop_eq_getElem_cons hlt] at hgs hrk
          rw [gsOk_cons, ifT] at hgs
          rw [runK] at hrk
          rw [hxx] at e0 e1 e2 e3 e4 e5 e6 e7
          have hxm := List.getElem_mem hlt
          generalize l3[k] = x at hxm e0 e1 e2 e3 e4 e5 e6 e7 hgs hrk
          have HXM := Aside0.mk hxm
          clear hxx hxm
          have hins := HIN.out
          have hzl := HZL.out
          have hfew := HM.out.few
          have hlen := HLF.out.len
          have hgk := HGK.out
          have HX := Aside0.mk hgs
          have HRK2 := Aside0.mk hrk
          have HIO := Aside0.mk (show InstOk r.length g.length x from instOk_of (by rw [hlen]; exact hzl) hgs.1)
          have HLL := Aside0.mk (show r.length ≤ 5000 ∧ g.length ≤ 5000 by omega)
          have HOP := Aside0.mk (regsOk_of hgs.1).op
          clear hgs hrk hzl hfew hlen hins hgk
          have d0 : decide ((k : Int) < l3.length) = true := decide_eq_true (by omega)
          go_upto_region 10 with fail
          have HI9 := Aside0.mk (blk_new wr (.cells #[.int .u8 x.f0, .int .i64 x.f1, .int .i64 x.f2, .int .i64 x.f3, .string x.f4, .int .u8 x.f5.f0, .int .i64 x.f5.f1, .string x.f5.f2] 39))
          have HR9 := Aside0.mk (HRU.out.below (below_alloc (Below.refl wr.heap.size wr) (.cells #[.int .u8 x.f0, .int .i64 x.f1, .int .i64 x.f2, .int .i64 x.f3, .string x.f4, .int .u8 x.f5.f0, .int .i64 x.f5.f1, .string x.f5.f2] 39)))
          clear e0 e1 e2 e3 e4 e5 e6 e7
          generalize wr.alloc (.cells #[.int .u8 x.f0, .int .i64 x.f1, .int .i64 x.f2, .int .i64 x.f3, .string x.f4, .int .u8 x.f5.f0, .int .i64 x.f5.f1, .string x.f5.f2] 39) = w9 at HI9 HR9 ⊢
          generalize wr.heap.size = gi at HI9 ⊢
          have e0 := (blk_cell HI9.out 0).trans rfl
          have e1 := (blk_cell HI9.out 1).trans rfl
          have e2 := (blk_cell HI9.out 2).trans rfl
          have e3 := (blk_cell HI9.out 3).trans rfl
          have e4 := (blk_cell HI9.out 4).trans rfl
          have e5 := (blk_cell HI9.out 5).trans rfl
          have e6 := (blk_cell HI9.out 6).trans rfl
          have e7 := (blk_cell HI9.out 7).trans rfl
          have HDC := Aside0.mk (run_calls O P hV HR9.out x HOP.out (H6.out x HXM.out) HIO.out HLL.out HLF.out.r)
          cases hdk : doesK O ups ons x r g with
          | none =>
            have HN := Aside0.mk (show ev = none by rw [HE.out, HRK2.out, hdk]; rfl)
            have HDN : Aside0 (Calls Try.prog 57 #[.pointer (some ⟨gr + 1, 0, none⟩), .agg #[.int .u8 x.f0, .int .i64 x.f1, .int .i64 x.f2, .int .i64 x.f3, .string x.f4, .int .u8 x.f5.f0, .int .i64 x.f5.f1, .string x.f5.f2]] w9 fun e w' => e = .panicked stopE ∧ Below w2.heap.size w2 w') := ⟨HDC.out.mono fun e w' h => by
              rcases h with ⟨_, _, _, h, _⟩ | ⟨_, h1, h2⟩
              · rw [hdk] at h; cases h
              · exact ⟨h1, h2⟩⟩
            clear hdk HDC
            go_wp2_with (first | (go_at_call 57; (refine HDN.out.mono ?_); rintro e w8 ⟨rfl, hb8⟩; have HB8 := Aside0.mk hb8; clear hb8))
            refine door_stop rfl rfl rfl rfl (HUP.out _ (HUX.out _ HB8.out)) ?_
            intro W' hb'
            exact evald_none none HN.out ((HUW.out _ (HUX.out _ HB8.out)).trans ⟨hb'.os, hb'.tape, hb'.output, hb'.size, fun k hk => hb'.block k (by have := HGB.out; omega)⟩)
          | some p =>
            obtain ⟨r9, g9⟩ := p
            have HDN : Aside0 (Calls Try.prog 57 #[.pointer (some ⟨gr + 1, 0, none⟩), .agg #[.int .u8 x.f0, .int .i64 x.f1, .int .i64 x.f2, .int .i64 x.f3, .string x.f4, .int .u8 x.f5.f0, .int .i64 x.f5.f1, .string x.f5.f2]] w9 fun e w' => ∃ vg', e = .returned (.tuple #[]) ∧ RunIs w2 w' (gr + 1) gr z2.toNat r9 vg' g9 A0 c0 ups A2 c2 ons) := ⟨HDC.out.mono fun e w' h => by
              rcases h with ⟨r', g', vg', h, h1, h2⟩ | ⟨h, _⟩
              · rw [hdk] at h; injection h with h; injection h with ha hb; subst ha hb; exact ⟨vg', h1, h2⟩
              · rw [hdk] at h; cases h⟩
            obtain ⟨hl1, hl2⟩ := does_keepsV hV HP.out HLF.out HXM.out (by rw [HZL.out]; exact HX.out.1) hdk
            have HLF9 := Aside0.mk hl1
            have HRK9 := Aside0.mk (show runK O ups ons l3 st [] = runK O ups ons (l3.drop (k + 1)) r9 g9 by rw [HRK2.out, hdk]; rfl)
            have hgs9 := HX.out.2
            have HGS9 := Aside0.mk (show gsOk z2 (l3.drop (k + 1)) g9.length = true by rw [hl2]; by_cases c6 : x.f0 = 6 <;> simp only [c6, if_true, if_false] at hgs9 ⊢ <;> exact_mod_cast hgs9)
            have HGK9 := Aside0.mk (show g9.length ≤ k + 1 by have := HGK.out; rw [hl2]; split <;> omega)
            clear hdk HDC hl1 hl2 hgs9
            have hkk : k + 1 ≤ l3.length := hlt
            have hins := HIN.out
            go_wp2_with (first | (go_at_call 57; (refine HDN.out.mono ?_); rintro e w8 ⟨vg8, rfl, hr8⟩; have HR8 := Aside0.mk hr8; clear hr8))
            go_roundw
            case rel => exact ⟨k + 1, r9, g9, vg8, hkk, by go_num, HR8, HRK9, HLF9, HGS9, HGK9⟩
            case measure => simp [intOf]; omega
        · obtain rfl : k = l3.length := by omega
          have d0 : decide ((l3.length : Int) < l3.length) = false := decide_eq_false (by omega)
          have HE2 := Aside0.mk (show ev = (nextK r z7 z8 z9).map fun n => (l5.map (rd_T37 r), l6.map (rd_T37 r), n) by
            rw [HE.out, HRK.out, List.drop_length]; rfl)
          have HD0 := Aside0.mk (show EndIs w wr gb w2.heap.size (gr + 1) gr z2.toNat #[.int .i64 z0, .int .i64 z1, .int .i64 z2, .slice A3 l3.length c3, .int .i64 z4, .slice A5 l5.length c5, .slice A6 l6.length c6, .int .i64 z7, .int .i64 z8, .int .i64 z9] #[.slice A0 ups.length c0, .slice A2 ons.length c2] r (.slice A0 ups.length c0) (.slice A2 ons.length c2) vg (.slice none 0 0) (.slice none 0 0) (.int .i64 0) (.bool false) from ⟨HUP.out _ (HUX.out _ HRU.out.old), HRU.out.blk, HRU.out.regs, HBr.out, HGB.out, by rw [HGW.out]; exact HGR.out, by rw [HGW.out]; omega⟩)
          have HRL := Aside0.mk (show (r.length : Int) = z2 by rw [HLF.out.len]; exact HZL.out)
          clear hlt HE HRK HGS HRU
          have i8 := (blk_cell HD0.out.six.b 8).trans rfl
          have r10 := (blk_cell HD0.out.six.r10 0).trans rfl
          have f10 := blk_frozen HD0.out.six.r10 0
          go_upto_region 13 with fail
          have HD1 := Aside0.mk (HD0.out.put10 (.int .i64 z8))
          clear r10 f10 i8 HD0
          generalize wr.setCell ⟨gb + 1 + 1 + 1 + 1, 0, none⟩ (.int .i64 z8) = w13 at HD1 ⊢
          have i7 := (blk_cell HD1.out.six.b 7).trans rfl
          go_upto_if 69 with fail
          go_cut [] from 65 (fun wc => ∃ n, Aside0 (nextK r z7 z8 z9 = some n) ∧ Aside0 (EndIs w wc gb w2.heap.size (gr + 1) gr z2.toNat #[.int .i64 z0, .int .i64 z1, .int .i64 z2, .slice A3 l3.length c3, .int .i64 z4, .slice A5 l5.length c5, .slice A6 l6.length c6, .int .i64 z7, .int .i64 z8, .int .i64 z9] #[.slice A0 ups.length c0, .slice A2 ons.length c2] r (.slice A0 ups.length c0) (.slice A2 ons.length c2) vg (.slice none 0 0) (.slice none 0 0) (.int .i64 n) (.bool false)))
          case first =>
            by_cases h7 : 0 ≤ z7
            · have d7 : decide (0 ≤ z7) = true := decide_eq_true h7
              rw [d7]
              have hcd := HM.out.cond
              have hrl := HRL.out
              obtain ⟨g0, g1⟩ := HD1.out.at_ h7 (show z7 < r.length by omega)
              have hz7 : z7 < (r.length : Int) := by omega
              have hnx : nextK r z7 z8 z9 = if (rd_T37 r z7).f0 = 2 then (if (rd_T37 r z7).f1 = 0 then some z9 else some z8) else none := by unfold nextK; rw [if_pos h7]
              generalize rd_T37 r z7 = u at g0 g1 hnx
              have HNX := Aside0.mk hnx
              have k0 := (blk_cell HD1.out.blk 0).trans rfl
              have S0 : w13.cell? ⟨gr + 1, 0, none⟩ = some (.slice (some ⟨gr, 0, none⟩) r.length z2.toNat) ∧ w13.cell? ⟨gb, 7, none⟩ = some (.int .i64 z7) ∧ w13.cell? ⟨gr, z7.toNat * 3, none⟩ = some (.int .u8 u.f0) ∧ w13.cell? ⟨gr, z7.toNat * 3 + 1, none⟩ = some (.int .i64 u.f1) := ⟨k0, i7, g0, g1⟩
              clear hrl hcd hnx
              by_cases ht : u.f0 = 2
              · have d1 : (u.f0 == 2) = true := by rw [ht]; rfl
                have hn1 := HNX.out
                rw [if_pos ht] at hn1
                replace HNX := Aside0.mk hn1
                clear hn1 ht
                go_upto_region 14 with fail
                go_region_held3 (fun W' => W'.cell? ⟨gr + 1, 0, none⟩ = some (.slice (some ⟨gr, 0, none⟩) r.length z2.toNat) ∧ W'.cell? ⟨gb, 7, none⟩ = some (.int .i64 z7) ∧ W'.cell? ⟨gr, z7.toNat * 3, none⟩ = some (.int .u8 u.f0) ∧ W'.cell? ⟨gr, z7.toNat * 3 + 1, none⟩ = some (.int .i64 u.f1)) (first | exact S0 | fail)
                  ((go_at_call 58; (with_reducible refine (need_ok _).mono ?_); rintro e w6 ⟨rfl, rfl⟩))
                all_goals
                  have HD2 := Aside0.mk (HD1.out.below (below_drew (Below.refl w13.heap.size w13)))
                  have S2 : w13.drew.cell? ⟨gr + 1, 0, none⟩ = some (.slice (some ⟨gr, 0, none⟩) r.length z2.toNat) ∧ w13.drew.cell? ⟨gb, 7, none⟩ = some (.int .i64 z7) ∧ w13.drew.cell? ⟨gr, z7.toNat * 3, none⟩ = some (.int .u8 u.f0) ∧ w13.drew.cell? ⟨gr, z7.toNat * 3 + 1, none⟩ = some (.int .i64 u.f1) := S0
                  by_cases hf : u.f1 = 0
                  · have d2 : (u.f1 == 0) = true := by rw [hf]; rfl
                    have hn1 := HNX.out
                    rw [if_pos hf] at hn1
                    replace HNX := Aside0.mk hn1
                    clear hn1 hf
                    have HD3 := Aside0.mk (HD2.out.below (below_drew (Below.refl w13.drew.heap.size w13.drew)))
                    have i9 := (blk_cell HD3.out.six.b 9).trans rfl
                    have f10 := blk_frozen HD3.out.six.r10 0
                    have r10 := (blk_cell HD3.out.six.r10 0).trans rfl
                    go_upto_region 15 with fail
                    go_region_held3 (fun W' => W'.cell? ⟨gr + 1, 0, none⟩ = some (.slice (some ⟨gr, 0, none⟩) r.length z2.toNat) ∧ W'.cell? ⟨gb, 7, none⟩ = some (.int .i64 z7) ∧ W'.cell? ⟨gr, z7.toNat * 3, none⟩ = some (.int .u8 u.f0) ∧ W'.cell? ⟨gr, z7.toNat * 3 + 1, none⟩ = some (.int .i64 u.f1)) (first | exact S2 | fail) (fail)
                    all_goals
                      go_wp2_with fail
                      go_meet
                      case rel => exact ⟨z9, HNX, ⟨HD3.out.put10 _⟩⟩
                  · have d2 : (u.f1 == 0) = false := by simpa using hf
                    have hn1 := HNX.out
                    rw [if_neg hf] at hn1
                    replace HNX := Aside0.mk hn1
                    clear hn1 hf
                    have HD3 := Aside0.mk (HD2.out.below (below_drew (Below.refl w13.drew.heap.size w13.drew)))
                    go_upto_region 15 with fail
                    go_region_held3 (fun W' => W'.cell? ⟨gr + 1, 0, none⟩ = some (.slice (some ⟨gr, 0, none⟩) r.length z2.toNat) ∧ W'.cell? ⟨gb, 7, none⟩ = some (.int .i64 z7) ∧ W'.cell? ⟨gr, z7.toNat * 3, none⟩ = some (.int .u8 u.f0) ∧ W'.cell? ⟨gr, z7.toNat * 3 + 1, none⟩ = some (.int .i64 u.f1)) (first | exact S2 | fail) (fail)
                    all_goals
                      go_wp2_with fail
                      go_meet
                      case rel => exact ⟨z8, HNX, HD3⟩
              · have d1 : (u.f0 == 2) = false := by simpa using ht
                have HN := Aside0.mk (show ev = none by rw [HE2.out, HNX.out, if_neg ht]; rfl)
                clear ht
                go_upto_region 14 with fail
                go_still_tail 10, (by kernel_rfl)
                change wpList _ _ _ _ _ w13.drew
                go_wp2_with (first | (go_at_call 58; (with_reducible refine (need_no _).mono ?_); rintro e w6 ⟨rfl, rfl⟩))
                have HD2 := Aside0.mk (HD1.out.below (below_drew (Below.refl w13.heap.size w13)))
                refine door_stop rfl rfl rfl rfl HD2.out.six ?_
                intro W' hb'
                exact evald_none none HN.out (HD2.out.old.trans ⟨hb'.os, hb'.tape, hb'.output, hb'.size, fun k hk => hb'.block k (by have := HGB.out; omega)⟩)
            · have d7 : decide (0 ≤ z7) = false := decide_eq_false h7
              rw [d7]
              have HNX := Aside0.mk (show nextK r z7 z8 z9 = some z8 by unfold nextK; rw [if_neg h7])
              clear h7
              go_wp2_with fail
              go_meet
              case rel => exact ⟨z8, HNX, HD1⟩
          case rest =>
            obtain ⟨nx, HNX, HDc⟩ := hcut
            have HE3 := Aside0.mk (show ev = some (l5.map (rd_T37 r), l6.map (rd_T37 r), nx) by rw [HE2.out, HNX.out]; rfl)
            clear HE2 HNX i7 HD1
            have hl5 : l5.length ≤ 4096 := by have := HM.out.save; have := HM.out.few; omega
            have hl6 : l6.length ≤ 4096 := by have := HM.out.stack; omega
            have HZ := Aside0.mk (show w2.heap.size ≤ wc.heap.size by have := HDc.out.b2; have := blk_lt HDc.out.blk; omega)
            have HC5 := Aside0.mk (show ∀ W, Below wc.heap.size wc W → Calls Try.prog 59 #[.pointer (some ⟨gr + 1, 0, none⟩), .slice A5 l5.length c5] W fun e w' => ∃ X y, e = .returned (.slice X l5.length y) ∧ Kd.R k37 37 w' W.heap.size (fun _ => True) (.slice X l5.length y) (l5.map (rd_T37 r)) ∧ Below W.heap.size W w' from fun W hW => slice_out (out_calls (blk_below HDc.out.blk hW) (Kd.C_below HDc.out.reads hW) A5 c5 l5 (Kd.C_below HR.out.r5 (below_then HDc.out.old HDc.out.old.size hW)) hl5 (fun n hn => by have := any_bad HM.out.r5 n hn; have := HRL.out; omega)))
            have HC6 := Aside0.mk (show ∀ W, Below wc.heap.size wc W → Calls Try.prog 59 #[.pointer (some ⟨gr + 1, 0, none⟩), .slice A6 l6.length c6] W fun e w' => ∃ X y, e = .returned (.slice X l6.length y) ∧ Kd.R k37 37 w' W.heap.size (fun _ => True) (.slice X l6.length y) (l6.map (rd_T37 r)) ∧ Below W.heap.size W w' from fun W hW => slice_out (out_calls (blk_below HDc.out.blk hW) (Kd.C_below HDc.out.reads hW) A6 c6 l6 (Kd.C_below HR.out.r6 (below_then HDc.out.old HDc.out.old.size hW)) hl6 (fun n hn => by have := any_bad HM.out.r6 n hn; have := HRL.out; omega)))
            have S0 : wc.cell? ⟨gb, 5, none⟩ = some (.slice A5 l5.length c5) ∧ wc.cell? ⟨gb, 6, none⟩ = some (.slice A6 l6.length c6) ∧ wc.cell? ⟨gb + 1 + 1 + 1 + 1, 0, none⟩ = some (.int .i64 nx) := ⟨(blk_cell HDc.out.six.b 5).trans rfl, (blk_cell HDc.out.six.b 6).trans rfl, (blk_cell HDc.out.six.r10 0).trans rfl⟩
            have ST : ∀ W, EndIs w W gb w2.heap.size (gr + 1) gr z2.toNat #[.int .i64 z0, .int .i64 z1, .int .i64 z2, .slice A3 l3.length c3, .int .i64 z4, .slice A5 l5.length c5, .slice A6 l6.length c6, .int .i64 z7, .int .i64 z8, .int .i64 z9] #[.slice A0 ups.length c0, .slice A2 ons.length c2] r (.slice A0 ups.length c0) (.slice A2 ons.length c2) vg (.slice none 0 0) (.slice none 0 0) (.int .i64 nx) (.bool false) → W.cell? ⟨gb, 5, none⟩ = some (.slice A5 l5.length c5) ∧ W.cell? ⟨gb, 6, none⟩ = some (.slice A6 l6.length c6) ∧ W.cell? ⟨gb + 1 + 1 + 1 + 1, 0, none⟩ = some (.int .i64 nx) := fun W h => ⟨(blk_cell h.six.b 5).trans rfl, (blk_cell h.six.b 6).trans rfl, (blk_cell h.six.r10 0).trans rfl⟩
            have SF : ∀ (W : World) (b : Nat) (u : Value), gb ≠ b → gb + 1 + 1 + 1 + 1 ≠ b → (W.cell? ⟨gb, 5, none⟩ = some (.slice A5 l5.length c5) ∧ W.cell? ⟨gb, 6, none⟩ = some (.slice A6 l6.length c6) ∧ W.cell? ⟨gb + 1 + 1 + 1 + 1, 0, none⟩ = some (.int .i64 nx)) → ((W.setCell ⟨b, 0, none⟩ u).cell? ⟨gb, 5, none⟩ = some (.slice A5 l5.length c5) ∧ (W.setCell ⟨b, 0, none⟩ u).cell? ⟨gb, 6, none⟩ = some (.slice A6 l6.length c6) ∧ (W.setCell ⟨b, 0, none⟩ u).cell? ⟨gb + 1 + 1 + 1 + 1, 0, none⟩ = some (.int .i64 nx)) := fun W b u h1 h2 h => ⟨cell_far (p := ⟨gb, 5, none⟩) (Below.heap_setCell W ⟨b, 0, none⟩ u gb h1) h.1, cell_far (p := ⟨gb, 6, none⟩) (Below.heap_setCell W ⟨b, 0, none⟩ u gb h1) h.2.1, cell_far (p := ⟨gb + 1 + 1 + 1 + 1, 0, none⟩) (Below.heap_setCell W ⟨b, 0, none⟩ u (gb + 1 + 1 + 1 + 1) h2) h.2.2⟩
            have SB : ∀ (W : World) (b : Nat) (u : Value), gb ≠ b → gb + 1 + 1 + 1 + 1 ≠ b → ((W.setCell ⟨b, 0, none⟩ u).cell? ⟨gb, 5, none⟩ = some (.slice A5 l5.length c5) ∧ (W.setCell ⟨b, 0, none⟩ u).cell? ⟨gb, 6, none⟩ = some (.slice A6 l6.length c6) ∧ (W.setCell ⟨b, 0, none⟩ u).cell? ⟨gb + 1 + 1 + 1 + 1, 0, none⟩ = some (.int .i64 nx)) → (W.cell? ⟨gb, 5, none⟩ = some (.slice A5 l5.length c5) ∧ W.cell? ⟨gb, 6, none⟩ = some (.slice A6 l6.length c6) ∧ W.cell? ⟨gb + 1 + 1 + 1 + 1, 0, none⟩ = some (.int .i64 nx)) := fun W b u h1 h2 h => ⟨cell_far (p := ⟨gb, 5, none⟩) (Below.heap_setCell W ⟨b, 0, none⟩ u gb h1).symm h.1, cell_far (p := ⟨gb, 6, none⟩) (Below.heap_setCell W ⟨b, 0, none⟩ u gb h1).symm h.2.1, cell_far (p := ⟨gb + 1 + 1 + 1 + 1, 0, none⟩) (Below.heap_setCell W ⟨b, 0, none⟩ u (gb + 1 + 1 + 1 + 1) h2).symm h.2.2⟩
            clear hl5 hl6
            go_upto_region 17 with fail
            go_region_held3 (fun W' => W'.cell? ⟨gb, 5, none⟩ = some (.slice A5 l5.length c5) ∧ W'.cell? ⟨gb, 6, none⟩ = some (.slice A6 l6.length c6) ∧ W'.cell? ⟨gb + 1 + 1 + 1 + 1, 0, none⟩ = some (.int .i64 nx)) (first | exact S0 | exact S5 | exact S6 | exact S7 | exact SF _ _ _ (by omega) (by omega) S6 | exact SF _ _ _ (by omega) (by omega) (SF _ _ _ (by omega) (by omega) S6) | exact SB _ (gb + 1 + 1 + 1 + 1 + 1) (.bool true) (by omega) (by omega) S7 | fail)
              (first
              | (go_at_call 59; (with_reducible refine (HC5.out wc.drew (below_drew (Below.refl _ wc))).mono ?_); rintro e w5 ⟨X5, y5, rfl, hr5, hb5⟩; have HX5 := Aside0.mk hr5; have HB5 := Aside0.mk ((below_drew (Below.refl wc.heap.size wc)).trans hb5); have S5 := ST w5 (HDc.out.below HB5.out); clear hr5 hb5)
              | (go_at_call 59; (with_reducible refine (HC6.out w5 HB5.out).mono ?_); rintro e w6 ⟨X6, y6, rfl, hr6, hb6⟩; have HR5 := Aside0.mk (Kd.R_lower (Kd.R_below HX5.out hb6) HZ.out); have HR6 := Aside0.mk (Kd.R_lower hr6 (Nat.le_trans HZ.out HB5.out.size)); have HB6 := Aside0.mk (below_then HB5.out HB5.out.size hb6); have HD6 := Aside0.mk (HDc.out.below HB6.out); have S6 := ST w6 HD6.out; have q8 := (blk_cell HD6.out.six.r8 0).trans rfl; have q9 := (blk_cell HD6.out.six.r9 0).trans rfl; have q11 := (blk_cell HD6.out.six.r11 0).trans rfl; have f8 := blk_frozen HD6.out.six.r8 0; have f9 := blk_frozen HD6.out.six.r9 0; have f10 := blk_frozen HD6.out.six.r10 0; have f11 := blk_frozen HD6.out.six.r11 0; have HL := Aside0.mk (HD6.out.last HR5.out HR6.out (Nat.le_refl _) (Nat.le_refl _) (.int .i64 nx) (.bool true)); have S7 : ((((w6.setCell ⟨gb + 1 + 1, 0, none⟩ (.slice X5 l5.length y5)).setCell ⟨gb + 1 + 1 + 1, 0, none⟩ (.slice X6 l6.length y6)).setCell ⟨gb + 1 + 1 + 1 + 1, 0, none⟩ (.int .i64 nx)).setCell ⟨gb + 1 + 1 + 1 + 1 + 1, 0, none⟩ (.bool true)).cell? ⟨gb, 5, none⟩ = some (.slice A5 l5.length c5) ∧ ((((w6.setCell ⟨gb + 1 + 1, 0, none⟩ (.slice X5 l5.length y5)).setCell ⟨gb + 1 + 1 + 1, 0, none⟩ (.slice X6 l6.length y6)).setCell ⟨gb + 1 + 1 + 1 + 1, 0, none⟩ (.int .i64 nx)).setCell ⟨gb + 1 + 1 + 1 + 1 + 1, 0, none⟩ (.bool true)).cell? ⟨gb, 6, none⟩ = some (.slice A6 l6.length c6) ∧ ((((w6.setCell ⟨gb + 1 + 1, 0, none⟩ (.slice X5 l5.length y5)).setCell ⟨gb + 1 + 1 + 1, 0, none⟩ (.slice X6 l6.length y6)).setCell ⟨gb + 1 + 1 + 1 + 1, 0, none⟩ (.int .i64 nx)).setCell ⟨gb + 1 + 1 + 1 + 1 + 1, 0, none⟩ (.bool true)).cell? ⟨gb + 1 + 1 + 1 + 1, 0, none⟩ = some (.int .i64 nx) := ⟨(blk_cell HL.out.1.b 5).trans rfl, (blk_cell HL.out.1.b 6).trans rfl, (blk_cell HL.out.1.r10 0).trans rfl⟩; clear hr6 hb6)
              | (go_at_call 59; (with_reducible refine (HC6.out wc.drew (below_drew (Below.refl _ wc))).mono ?_); rintro e w5 ⟨X6, y6, rfl, hr6, hb5⟩; have HX6 := Aside0.mk hr6; have HB5 := Aside0.mk ((below_drew (Below.refl wc.heap.size wc)).trans hb5); have S5 := ST w5 (HDc.out.below HB5.out); clear hr6 hb5)
              | (go_at_call 59; (with_reducible refine (HC5.out w5 HB5.out).mono ?_); rintro e w6 ⟨X5, y5, rfl, hr5, hb6⟩; have HR6 := Aside0.mk (Kd.R_lower (Kd.R_below HX6.out hb6) HZ.out); have HR5 := Aside0.mk (Kd.R_lower hr5 (Nat.le_trans HZ.out HB5.out.size)); have HB6 := Aside0.mk (below_then HB5.out HB5.out.size hb6); have HD6 := Aside0.mk (HDc.out.below HB6.out); have S6 := ST w6 HD6.out; have q8 := (blk_cell HD6.out.six.r8 0).trans rfl; have q9 := (blk_cell HD6.out.six.r9 0).trans rfl; have q11 := (blk_cell HD6.out.six.r11 0).trans rfl; have f8 := blk_frozen HD6.out.six.r8 0; have f9 := blk_frozen HD6.out.six.r9 0; have f10 := blk_frozen HD6.out.six.r10 0; have f11 := blk_frozen HD6.out.six.r11 0; have HL := Aside0.mk (HD6.out.last HR5.out HR6.out (Nat.le_refl _) (Nat.le_refl _) (.int .i64 nx) (.bool true)); have S7 : ((((w6.setCell ⟨gb + 1 + 1, 0, none⟩ (.slice X5 l5.length y5)).setCell ⟨gb + 1 + 1 + 1, 0, none⟩ (.slice X6 l6.length y6)).setCell ⟨gb + 1 + 1 + 1 + 1, 0, none⟩ (.int .i64 nx)).setCell ⟨gb + 1 + 1 + 1 + 1 + 1, 0, none⟩ (.bool true)).cell? ⟨gb, 5, none⟩ = some (.slice A5 l5.length c5) ∧ ((((w6.setCell ⟨gb + 1 + 1, 0, none⟩ (.slice X5 l5.length y5)).setCell ⟨gb + 1 + 1 + 1, 0, none⟩ (.slice X6 l6.length y6)).setCell ⟨gb + 1 + 1 + 1 + 1, 0, none⟩ (.int .i64 nx)).setCell ⟨gb + 1 + 1 + 1 + 1 + 1, 0, none⟩ (.bool true)).cell? ⟨gb, 6, none⟩ = some (.slice A6 l6.length c6) ∧ ((((w6.setCell ⟨gb + 1 + 1, 0, none⟩ (.slice X5 l5.length y5)).setCell ⟨gb + 1 + 1 + 1, 0, none⟩ (.slice X6 l6.length y6)).setCell ⟨gb + 1 + 1 + 1 + 1, 0, none⟩ (.int .i64 nx)).setCell ⟨gb + 1 + 1 + 1 + 1 + 1, 0, none⟩ (.bool true)).cell? ⟨gb + 1 + 1 + 1 + 1, 0, none⟩ = some (.int .i64 nx) := ⟨(blk_cell HL.out.1.b 5).trans rfl, (blk_cell HL.out.1.b 6).trans rfl, (blk_cell HL.out.1.r10 0).trans rfl⟩; clear hr5 hb6))
            all_goals
              go_wp2_with fail
              refine door_ok rfl rfl rfl rfl HL.out.1 ?_
              exact evald_rows HE3.out HL.out.2.1 HL.out.2.2.1 HL.out.2.2.2
end Go.Proofs.Ytjkjbfhhfdbnoaa.NW
