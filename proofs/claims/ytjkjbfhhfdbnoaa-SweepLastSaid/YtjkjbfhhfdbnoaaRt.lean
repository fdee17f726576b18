/- sweep.Sweep: what it answers and what it leaves. -/
import Derived.Test.YtjkjbfhhfdbnoaaRp
import Derived.Test.YtjkjbfhhfdbnoaaRp
namespace Go.Proofs.Ytjkjbfhhfdbnoaa.NW
open Go.RowKit Go.Shelf Go.Proofs.YtjkjbfhhfdbnoaaW.PrintWords Go.Proofs.YtjkjbfhhfdbnoaaW.PrintMore Go.Proofs.Ytjkjbfhhfdbnoaa.PB
set_option linter.unusedVariables false
set_option linter.unusedSimpArgs false
attribute [local go_sem] Oper.semAt_some

/-- an end without a panic -/
def noPanic (Q : Exit → Act → World → Prop) : Exit → Act → World → Prop
  | .normal, a, w => Q .normal a w
  | .ret, a, w => Q .ret a w
  | _, _, _ => False
theorem noPanic_le {Q : Exit → Act → World → Prop} {e : Exit} {a : Act} {w : World} (h : noPanic Q e a w) : Q e a w := by
  cases e
  all_goals first | exact h | exact h.elim

set_option maxHeartbeats 3200000 in
set_option maxRecDepth 1000000 in
theorem sweep_calls (z0 z1 z2 : Int) (A3 : Option Addr) (c3 : Nat) (l3 : List S39) (z4 : Int) (A5 : Option Addr) (c5 : Nat) (l5 : List Int) (A6 : Option Addr) (c6 : Nat) (l6 : List Int) (z7 z8 z9 : Int) (w : World)
    (hr : BlkIs w A3 c3 l3 A5 c5 l5 A6 c6 l6) (hs : ∀ x ∈ l3, x.f4.size ≤ 4294967000) (hM : MaxOk w) (hL3 : l3.length ≤ 10000) (hL5' : l5.length ≤ 10000) (hL6' : l6.length ≤ 10000) :
    Calls Try.prog 22 #[.agg #[.int .i64 z0, .int .i64 z1, .int .i64 z2, .slice A3 l3.length c3, .int .i64 z4, .slice A5 l5.length c5, .slice A6 l6.length c6, .int .i64 z7, .int .i64 z8, .int .i64 z9]] w fun e w' => ∃ v3 v5 v6 : Value, e = .returned (.agg #[.int .i64 z0, .int .i64 z1, .int .i64 z2, v3, .int .i64 z4, v5, v6, .int .i64 z7, .int .i64 z8, .int .i64 z9]) ∧ Kd.R k39 39 w' w.heap.size (fun _ => True) v3 (sweepF z0 z1 z2 l3 z4 l5 l6 z7 z8 z9) ∧ Kd.R (Kd.int .i64) 3 w' w.heap.size (fun _ => True) v5 l5 ∧ Kd.R (Kd.int .i64) 3 w' w.heap.size (fun _ => True) v6 l6 ∧ Below w.heap.size w w' := by
  have HL := Aside0.mk hL3
  have hL3 : l3.length * 80 ≤ 140737488355328 := by omega
  have hL5 : l5.length * 8 ≤ 140737488355328 := by omega
  have hL6 : l6.length * 8 ≤ 140737488355328 := by omega
  have HL5' := Aside0.mk hL5'
  have HL6' := Aside0.mk hL6'
  clear hL5' hL6'
  have HM := Aside0.mk hM
  have HS := Aside0.mk hs
  have hA : Below w.heap.size w ((w.alloc (.cells #[.int .i64 z0, .int .i64 z1, .int .i64 z2, .slice A3 l3.length c3, .int .i64 z4, .slice A5 l5.length c5, .slice A6 l6.length c6, .int .i64 z7, .int .i64 z8, .int .i64 z9] 25)).alloc (.cells #[.int .i64 0, .int .i64 0, .int .i64 0, .slice none 0 0, .int .i64 0, .slice none 0 0, .slice none 0 0, .int .i64 0, .int .i64 0, .int .i64 0] 25)) := ((Below.refl _ w).alloc (Nat.le_refl _) _).alloc (by simp) _
  have hP : ((w.alloc (.cells #[.int .i64 z0, .int .i64 z1, .int .i64 z2, .slice A3 l3.length c3, .int .i64 z4, .slice A5 l5.length c5, .slice A6 l6.length c6, .int .i64 z7, .int .i64 z8, .int .i64 z9] 25)).alloc (.cells #[.int .i64 0, .int .i64 0, .int .i64 0, .slice none 0 0, .int .i64 0, .slice none 0 0, .slice none 0 0, .int .i64 0, .int .i64 0, .int .i64 0] 25)).heap[w.heap.size]? = some (.cells #[.int .i64 z0, .int .i64 z1, .int .i64 z2, .slice A3 l3.length c3, .int .i64 z4, .slice A5 l5.length c5, .slice A6 l6.length c6, .int .i64 z7, .int .i64 z8, .int .i64 z9] 25 (0, 0)) := blk_alloc (blk_new w _) _
  have hZ : ((w.alloc (.cells #[.int .i64 z0, .int .i64 z1, .int .i64 z2, .slice A3 l3.length c3, .int .i64 z4, .slice A5 l5.length c5, .slice A6 l6.length c6, .int .i64 z7, .int .i64 z8, .int .i64 z9] 25)).alloc (.cells #[.int .i64 0, .int .i64 0, .int .i64 0, .slice none 0 0, .int .i64 0, .slice none 0 0, .slice none 0 0, .int .i64 0, .int .i64 0, .int .i64 0] 25)).heap[w.heap.size + 1]? = some (.cells #[.int .i64 0, .int .i64 0, .int .i64 0, .slice none 0 0, .int .i64 0, .slice none 0 0, .slice none 0 0, .int .i64 0, .int .i64 0, .int .i64 0] 25 (0, 0)) := blk_new2 w _ _
  have hsz : ((w.alloc (.cells #[.int .i64 z0, .int .i64 z1, .int .i64 z2, .slice A3 l3.length c3, .int .i64 z4, .slice A5 l5.length c5, .slice A6 l6.length c6, .int .i64 z7, .int .i64 z8, .int .i64 z9] 25)).alloc (.cells #[.int .i64 0, .int .i64 0, .int .i64 0, .slice none 0 0, .int .i64 0, .slice none 0 0, .slice none 0 0, .int .i64 0, .int .i64 0, .int .i64 0] 25)).heap.size = w.heap.size + 2 := by simp
  have HR := Aside0.mk hr
  have HL3 := Aside0.mk hL3
  have HL5 := Aside0.mk hL5
  have HL6 := Aside0.mk hL6
  clear hM hs hr hL3 hL5 hL6
  refine callsIn_wide.1 (callsIn_of_wp_marks (n := 10) Try.func22 rfl trivial (wpIn_wide.2 (Code.wp_mono (Q := noPanic _) (fun e a w h => noPanic_le h) ?_)))
  simp only [Try.ntmps22, List.size_toArray, List.length_cons, List.length_nil, Nat.reduceAdd, Nat.reduceSub, Array.replicate_succ, Array.replicate_zero, List.push_toArray, List.append_toArray, List.nil_append, List.cons_append]
  go_wp2_with fail
  obtain ⟨w0, hw0⟩ : ∃ w0, ((w.alloc (.cells #[.int .i64 z0, .int .i64 z1, .int .i64 z2, .slice A3 l3.length c3, .int .i64 z4, .slice A5 l5.length c5, .slice A6 l6.length c6, .int .i64 z7, .int .i64 z8, .int .i64 z9] 25)).alloc (.cells #[.int .i64 0, .int .i64 0, .int .i64 0, .slice none 0 0, .int .i64 0, .slice none 0 0, .slice none 0 0, .int .i64 0, .int .i64 0, .int .i64 0] 25)) = w0 := ⟨_, rfl⟩
  rw [hw0] at hA hP hZ hsz ⊢
  clear hw0
  have HR0 : Aside0 (BlkIs w0 A3 c3 l3 A5 c5 l5 A6 c6 l6) := ⟨⟨Kd.C_below HR.out.r3 hA, HR.out.c3, Kd.C_below HR.out.r5 hA, HR.out.c5, Kd.C_below HR.out.r6 hA, HR.out.c6⟩⟩
  obtain ⟨gb, hgb⟩ : ∃ gb, w.heap.size = gb := ⟨_, rfl⟩
  rw [hgb] at hP hZ hsz ⊢
  have HA := Aside0.mk hA
  have HP := Aside0.mk hP
  have HZ := Aside0.mk hZ
  have HSZ := Aside0.mk hsz
  have HGB := Aside0.mk hgb
  have c0_3 := (blk_cell hP 3).trans rfl
  have c0_5 := (blk_cell hP 5).trans rfl
  have c0_6 := (blk_cell hP 6).trans rfl
  clear hA hP hZ hsz hgb HR
  go_cut [11] from 9 to 83 (fun _ wx => Cloned w0 wx gb z0 z1 z2 l3 z4 l5 l6 z7 z8 z9)
  case first =>
    go_region_law (go_simp; first | ((with_reducible refine Calls.mono (cloneI_calls _ _ l3 _ (Kd.C_drew HR0.out.r3) HL3.out) ?_); rintro e w1 ⟨v3, rfl, hv3, hb1⟩; obtain ⟨B3, d3, rfl, _, _⟩ := Kd.R_reads hv3; have HV3 := Aside0.mk hv3; have HB1 := Aside0.mk ((below_drew (Below.refl w0.heap.size w0)).trans hb1); clear hv3 hb1; have P1 := blk_below HP.out HB1.out; have Z1 := blk_below HZ.out HB1.out; have c1_3 := (blk_cell P1 3).trans rfl; have c1_5 := (blk_cell P1 5).trans rfl; have c1_6 := (blk_cell P1 6).trans rfl; have f1_3 := blk_frozen P1 3; have f1_5 := blk_frozen P1 5; have f1_6 := blk_frozen P1 6; have HP1 := Aside0.mk P1; have HZ1 := Aside0.mk Z1; clear P1 Z1) | ((with_reducible refine Calls.mono (cloneN_calls A5 c5 l5 _ (Kd.C_below HR0.out.r5 HB1.out) HL5.out) ?_); rintro e w2 ⟨v5, rfl, hv5, hb2⟩; obtain ⟨B5, d5, rfl, _, _⟩ := Kd.R_reads hv5; have HV5 := Aside0.mk hv5; have HB12 := Aside0.mk hb2; have HB2 := Aside0.mk (HB1.out.trans (hb2.mono HB1.out.size)); clear hv5 hb2; have P2 := blk_below HP.out HB2.out; have Z2 := blk_below HZ.out HB2.out; have c2_3 := (blk_cell P2 3).trans rfl; have c2_5 := (blk_cell P2 5).trans rfl; have c2_6 := (blk_cell P2 6).trans rfl; have f2_3 := blk_frozen P2 3; have f2_5 := blk_frozen P2 5; have f2_6 := blk_frozen P2 6; have HP2 := Aside0.mk P2; have HZ2 := Aside0.mk Z2; clear P2 Z2) | ((with_reducible refine Calls.mono (cloneN_calls A6 c6 l6 _ (Kd.C_below HR0.out.r6 HB2.out) HL6.out) ?_); rintro e w3 ⟨v6, rfl, hv6, hb3⟩; obtain ⟨B6, d6, rfl, _, _⟩ := Kd.R_reads hv6; have HV6 := Aside0.mk hv6; have HB23 := Aside0.mk hb3; have HB3 := Aside0.mk (HB2.out.trans (hb3.mono HB2.out.size)); clear hv6 hb3; have P3 := blk_below HP.out HB3.out; have Z3 := blk_below HZ.out HB3.out; have c3_3 := (blk_cell P3 3).trans rfl; have c3_5 := (blk_cell P3 5).trans rfl; have c3_6 := (blk_cell P3 6).trans rfl; have f3_3 := blk_frozen P3 3; have f3_5 := blk_frozen P3 5; have f3_6 := blk_frozen P3 6; have HP3 := Aside0.mk P3; have HZ3 := Aside0.mk Z3; clear P3 Z3))
    all_goals (go_wp2_with fail; go_meet; case rel => exact cloned_mk HP3.out HZ3.out HSZ.out HV3.out HV5.out HV6.out HB1.out HB12.out HB23.out)
  case rest =>
    obtain ⟨v3, v5, v6, hC⟩ := hcut
    obtain ⟨B3, d3, rfl, ld3, hr3⟩ := Kd.R_reads hC.r3
    obtain ⟨B5, d5, rfl, ld5, hr5⟩ := Kd.R_reads hC.r5
    obtain ⟨B6, d6, rfl, ld6, hr6⟩ := Kd.R_reads hC.r6
    have HC := Aside0.mk hC
    have HRC := Aside0.mk (BlkIs.mk hr3 ld3 hr5 ld5 hr6 ld6)
    have hPc := hC.box
    have k0 := (blk_cell hPc 0).trans rfl
    have k1 := (blk_cell hPc 1).trans rfl
    have k2 := (blk_cell hPc 2).trans rfl
    have k3 := (blk_cell hPc 3).trans rfl
    have k4 := (blk_cell hPc 4).trans rfl
    have k5 := (blk_cell hPc 5).trans rfl
    have k6 := (blk_cell hPc 6).trans rfl
    have k7 := (blk_cell hPc 7).trans rfl
    have k8 := (blk_cell hPc 8).trans rfl
    have k9 := (blk_cell hPc 9).trans rfl
    have HMC : Aside0 (MaxOk wc) := ⟨(HM.out.below HA.out).below' HC.out.bel (by have := HM.out.lt; have := HGB.out; omega)⟩
    clear hC hr3 hr5 hr6 ld3 ld5 ld6 hPc
    go_wp2_with fail
    refine Calls.mono (may_calls z0 z1 z2 B3 d3 l3 z4 B5 d5 l5 B6 d6 l6 z7 z8 z9 _ HRC.out HS.out HMC.out) ?_
    rintro e w2 ⟨rfl, hb2⟩
    have HB2 := Aside0.mk hb2
    have HP2 := Aside0.mk (blk_below HC.out.box hb2)
    have HZ2 := Aside0.mk (blk_below HC.out.res hb2)
    clear hb2
    cases hm : mayBlk z0 z1 z2 l3 z4 l5 l6 z7 z8 z9 with
    | false =>
      clear k0 k1 k2 k3 k4 k5 k6 k7 k8 k9
      have k0 := (blk_cell HP2.out 0).trans rfl
      have k1 := (blk_cell HP2.out 1).trans rfl
      have k2 := (blk_cell HP2.out 2).trans rfl
      have k3 := (blk_cell HP2.out 3).trans rfl
      have k4 := (blk_cell HP2.out 4).trans rfl
      have k5 := (blk_cell HP2.out 5).trans rfl
      have k6 := (blk_cell HP2.out 6).trans rfl
      have k7 := (blk_cell HP2.out 7).trans rfl
      have k8 := (blk_cell HP2.out 8).trans rfl
      have k9 := (blk_cell HP2.out 9).trans rfl
      have f0 := blk_frozen HZ2.out 0
      have f1 := blk_frozen HZ2.out 1
      have f2 := blk_frozen HZ2.out 2
      have f3 := blk_frozen HZ2.out 3
      have f4 := blk_frozen HZ2.out 4
      have f5 := blk_frozen HZ2.out 5
      have f6 := blk_frozen HZ2.out 6
      have f7 := blk_frozen HZ2.out 7
      have f8 := blk_frozen HZ2.out 8
      have f9 := blk_frozen HZ2.out 9
      have m0 := (blk_cell HZ2.out 0).trans rfl
      have m1 := (blk_cell HZ2.out 1).trans rfl
      have m2 := (blk_cell HZ2.out 2).trans rfl
      have m3 := (blk_cell HZ2.out 3).trans rfl
      have m4 := (blk_cell HZ2.out 4).trans rfl
      have m5 := (blk_cell HZ2.out 5).trans rfl
      have m6 := (blk_cell HZ2.out 6).trans rfl
      have m7 := (blk_cell HZ2.out 7).trans rfl
      have m8 := (blk_cell HZ2.out 8).trans rfl
      have m9 := (blk_cell HZ2.out 9).trans rfl
      have HM0 := Aside0.mk hm
      clear hm
      go_wp2_with fail
      refine ⟨_, results_cell_row rfl _ _ (gb + 1) 25 #[.int .i64 z0, .int .i64 z1, .int .i64 z2, .slice B3 l3.length d3, .int .i64 z4, .slice B5 l5.length d5, .slice B6 l6.length d6, .int .i64 z7, .int .i64 z8, .int .i64 z9] (0, 0) _ rfl (blk_set10 HZ2.out _ _ _ _ _ _ _ _ _ _) Try.underlying25 rfl (by kernel_rfl), ?_⟩
      have hsp : sweepF z0 z1 z2 l3 z4 l5 l6 z7 z8 z9 = l3 := by unfold sweepF; rw [if_neg (by rw [HM0.out]; decide)]
      have hs := HC.out.size
      have hs2 := HC.out.bel.size
      have hgb := HGB.out
      rw [hsp]
      refine ⟨_, _, _, rfl, ?_, ?_, ?_, ?_⟩
      · exact Kd.R_mono (Kd.R_lower (Kd_R_grown (Kd.R_below HC.out.r3 HB2.out) (kept_set10 _ _ _ _ _ _ _ _ _ _ _ _) (fun k hk => by omega)) (by omega)) (fun _ _ => trivial)
      · exact Kd.R_mono (Kd.R_lower (Kd_R_grown (Kd.R_below HC.out.r5 HB2.out) (kept_set10 _ _ _ _ _ _ _ _ _ _ _ _) (fun k hk => by omega)) (by omega)) (fun _ _ => trivial)
      · exact Kd.R_mono (Kd.R_lower (Kd_R_grown (Kd.R_below HC.out.r6 HB2.out) (kept_set10 _ _ _ _ _ _ _ _ _ _ _ _) (fun k hk => by omega)) (by omega)) (fun _ _ => trivial)
      · exact below_grown (HA.out.trans ((HC.out.bel.mono (by omega)).trans (HB2.out.mono (by omega)))) (kept_set10 _ _ _ _ _ _ _ _ _ _ _ _) (by omega) (by have := HB2.out.size; omega)
    | true =>
      clear k0 k1 k2 k3 k4 k5 k6 k7 k8 k9
      have k2 := (blk_cell HP2.out 2).trans rfl
      have HM1 := Aside0.mk (mayBlk_iff.1 hm)
      have HM0 := Aside0.mk hm
      clear hm
      have h2a : 0 ≤ z2 := by have := HM1.out.pos; have := HM1.out.regs; omega
      have h2b : z2 ≤ 4096 := HM1.out.few.2.2
      go_upto_region 5 with (first | ((with_reducible refine gate_dst (N := 27) rfl ?_); (try (refine gate_guard (by rfl) ?_; dsimp only)); refine Kd.R_make Kd.bool (w0 := w2) w2.heap.size 4 rfl (N := 27) rfl 65 _ _ rfl z2 rfl rfl Try.underlying65 (.bool false) 1 info4 rfl (by decide) (by decide) false (ok := fun _ => True) (okp := fun _ => True) rfl (fun _ hk => hk) trivial h2a (by omega) (Below.refl _ _) (Nat.le_refl _) ?_; intro vr w4 hr4 hb4 _ hn4; obtain ⟨Ar, cr, er⟩ := Kd.R_slice hr4; subst er; obtain ⟨gr, eg1, hgr⟩ := hn4; obtain ⟨ar, rfl⟩ : ∃ ar, Ar = some ar := (by cases Ar with | none => simp [Value.ownBlock] at eg1 | some ar => exact ⟨ar, rfl⟩); obtain ⟨gq, rfl⟩ := Kd.R_head hr4; have eq : gq = gr := (by simpa [Value.ownBlock] using eg1); subst gq; have HGR := Aside0.mk hgr; have HGL := Aside0.mk (Kd.R_lt hr4 _ eg1); clear eg1 hgr; rw [List.length_replicate] at hr4; have HR4 := Aside0.mk hr4; have HB4 := Aside0.mk hb4; clear hr4 hb4))
      have hbx := blk_new w4 (.cells #[.slice (some ⟨gr, 0, none⟩) z2.toNat cr] 65 (0, 0))
      have hba := HB4.out.alloc HB4.out.size (.cells #[.slice (some ⟨gr, 0, none⟩) z2.toNat cr] 65 (0, 0))
      have hrx := Kd.R_alloc HR4.out (.cells #[.slice (some ⟨gr, 0, none⟩) z2.toNat cr] 65 (0, 0))
      have hs4 := HB4.out.size
      obtain ⟨wa, hwa⟩ : ∃ wa, w4.alloc (.cells #[.slice (some ⟨gr, 0, none⟩) z2.toNat cr] 65 (0, 0)) = wa := ⟨_, rfl⟩
      rw [hwa] at hbx hba hrx ⊢
      obtain ⟨g3, hg3⟩ : ∃ g3, w4.heap.size = g3 := ⟨_, rfl⟩
      rw [hg3] at hbx hs4 HGL ⊢
      have HBX := Aside0.mk hbx
      have HBA := Aside0.mk hba
      have HRX := Aside0.mk hrx
      have HS4 := Aside0.mk hs4
      have HPA := Aside0.mk (blk_below HP2.out hba)
      have HZA := Aside0.mk (blk_below HZ2.out hba)
      have k5 := (blk_cell HPA.out 5).trans rfl
      have k6 := (blk_cell HPA.out 6).trans rfl
      clear hbx hba hrx hs4 hwa hg3 k2 HR4 HB4
      obtain ⟨m, hm⟩ : ∃ m, z2.toNat = m := ⟨_, rfl⟩
      have HMM := Aside0.mk hm
      rw [hm] at HBX HRX ⊢
      go_wp2_with fail
      have HBA2 := Aside0.mk (HBA.out.trans (((Below.refl wa.heap.size wa).alloc (Nat.le_refl _) (.cells #[.slice B5 l5.length d5, .slice B6 l6.length d6] 23 (0, 0))).mono HBA.out.size))
      have HRX2 := Aside0.mk (Kd.R_alloc HRX.out (.cells #[.slice B5 l5.length d5, .slice B6 l6.length d6] 23 (0, 0)))
      have HBX2 := Aside0.mk (blk_alloc HBX.out (.cells #[.slice B5 l5.length d5, .slice B6 l6.length d6] 23 (0, 0)))
      have HBB := Aside0.mk (blk_new wa (.cells #[.slice B5 l5.length d5, .slice B6 l6.length d6] 23 (0, 0)))
      have HS5 := Aside0.mk (show g3 < (wa.alloc (.cells #[.slice B5 l5.length d5, .slice B6 l6.length d6] 23 (0, 0))).heap.size from blk_lt (HBX2.out))
      obtain ⟨wb, hwb⟩ : ∃ wb, wa.alloc (.cells #[.slice B5 l5.length d5, .slice B6 l6.length d6] 23 (0, 0)) = wb := ⟨_, rfl⟩
      rw [hwb] at HBA2 HRX2 HBX2 HBB HS5 ⊢
      clear hwb
      refine Calls.mono (concat_calls _ B5 d5 l5 B6 d6 l6 _ HBB.out (Kd.C_below (Kd.C_below HRC.out.r5 HB2.out) HBA2.out) (Kd.C_below (Kd.C_below HRC.out.r6 HB2.out) HBA2.out) HL5'.out HL6'.out) ?_
      rintro e w5 ⟨vc, rfl, hrc, hb5⟩
      obtain ⟨Ac, cc, rfl⟩ := Kd.R_slice hrc
      have HRC5 := Aside0.mk hrc
      have HB5 := Aside0.mk hb5
      have HRX5 := Aside0.mk (Kd.R_below HRX2.out hb5)
      have HBX5 := Aside0.mk (blk_below HBX2.out hb5)
      have HBA5 := Aside0.mk (HBA2.out.trans (hb5.mono HBA2.out.size))
      clear hrc hb5 k5 k6 HRX HRX2 HBX HBX2 HBB HBA
      have hlen : (l5 ++ l6).length ≤ 20000 := by have := HL5'.out; have := HL6'.out; simp; omega
      generalize hls : l5 ++ l6 = ls at HRC5 hlen
      have HLS := Aside0.mk hls
      have hin : ∀ (k : Nat) (h : k < ls.length), 0 ≤ ls[k] ∧ ls[k] < z2 := by
        intro k h
        have hm2 : ls[k] ∈ l5 ++ l6 := by rw [hls]; exact List.getElem_mem h
        have h5 := HM1.out.r5
        have h6 := HM1.out.r6
        rw [List.any_eq_false] at h5 h6
        have hb : badB z2 ls[k] = false := by
          rcases List.mem_append.1 hm2 with hm2 | hm2
          · simpa using h5 _ hm2
          · simpa using h6 _ hm2
        unfold badB at hb
        split at hb
        · cases hb
        · exact ⟨by omega, by simpa using hb⟩
      have HIN := Aside0.mk hin
      clear hls hin
      go_wp2_with fail
      go_loopw [35] (fun x35 w' => ∃ k : Nat, k ≤ ls.length ∧ x35 = .int .i64 k ∧ Aside0 (Kd.R Kd.bool 4 w' w2.heap.size (fun _ => True) (.slice (some ⟨gr, 0, none⟩) m cr) (markF (List.replicate m false) (ls.take k))) ∧ Aside0 (Kept w5 w' (fun j => j = gr)) ∧ Aside0 (Below w2.heap.size w2 w')) (fun x35 _ => ls.length - (intOf x35).toNat)
      case atStart => exact ⟨0, Nat.zero_le _, rfl, ⟨by simpa [markF] using HRX5.out⟩, ⟨Kept.refl _ _⟩, HBA5⟩
      case round =>
        obtain ⟨k, hk, rfl, HR, HK, HBk⟩ := hrel
        have hb3 := (HK.out.2 g3 (blk_lt HBX5.out) (by have := HGL.out; omega)).trans HBX5.out
        have b3 := (blk_cell hb3 0).trans rfl
        by_cases hlt : k < ls.length
        · obtain ⟨q1, q2⟩ := HIN.out k hlt
          have hrc' := Kd.R_kept HRC5.out HK.out (fun j hj e => by have := HGL.out; have := (blk_lt HBX5.out); have := HS5.out; omega)
          obtain ⟨ad, rfl, s0⟩ := Kd.at_int (Kd.R_reads' hrc').2.2 (k : Int) (by omega) (by omega)
          have hx : rd ls (k : Int) = ls[k] := by
            rw [rd, List.getD_eq_getElem?_getD, show ((k : Int).toNat) = k by omega, List.getElem?_eq_getElem hlt]; rfl
          have htk : ls.take (k + 1) = ls.take k ++ [ls[k]] := List.take_succ_eq_append_getElem hlt
          rw [hx, show ((k : Int).toNat) = k by omega] at s0
          have HTK := Aside0.mk htk
          clear htk hrc' hx hb3
          generalize ls[k] = x at q1 q2 s0 HTK
          have q3 : x < (m : Int) := by have := HMM.out; omega
          obtain ⟨c1, c2⟩ := Kd.R_celln false HR.out x q1 q3
          have HP := Aside0.mk (Kd.R_putg HR.out x true)
          go_wp2_with fail
          go_roundw
          case rel => exact ⟨k + 1, by omega, by go_num, ⟨by rw [HTK.out, markF, List.foldl_append]; exact HP.out.1⟩, ⟨HK.out.setCell (p := ⟨gr, x.toNat, none⟩) (.inl rfl) _⟩, ⟨HBk.out.setCell (p := ⟨gr, x.toNat, none⟩) HGR.out _⟩⟩
          case measure => simp [intOf]; omega
        · obtain rfl : k = ls.length := by omega
          rw [List.take_length] at HR
          have k7 := (blk_cell (blk_below HP2.out HBk.out) 7).trans rfl
          clear hlt hk hb3
          have q7 : z7 < (m : Int) := by have := HMM.out; have := HM1.out.cond; omega
          go_upto_if 45 with (fail)
          go_cut [46] from 36 to 83 (fun _ wc => Aside0 (Kd.R Kd.bool 4 wc w2.heap.size (fun _ => True) (.slice (some ⟨gr, 0, none⟩) m cr) (startW z2 l5 l6 z7)) ∧ Aside0 (Kept w5 wc (fun j => j = gr)) ∧ Aside0 (Below w2.heap.size w2 wc))
          case first =>
            by_cases hz7 : 0 ≤ z7
            · have d7 : decide (0 ≤ z7) = true := decide_eq_true hz7
              rw [d7]
              obtain ⟨c1, c2⟩ := Kd.R_celln false HR.out z7 hz7 q7
              have HP := Aside0.mk (Kd.R_putg HR.out z7 true)
              have he : startW z2 l5 l6 z7 = (markF (List.replicate m false) ls).set z7.toNat true := by unfold startW; rw [if_pos hz7, HLS.out, HMM.out]
              go_wp2_with fail
              go_meet
              case rel => exact ⟨⟨by rw [he]; exact HP.out.1⟩, ⟨HK.out.setCell (p := ⟨gr, z7.toNat, none⟩) (.inl rfl) _⟩, ⟨HBk.out.setCell (p := ⟨gr, z7.toNat, none⟩) HGR.out _⟩⟩
            · have d7 : decide (0 ≤ z7) = false := decide_eq_false hz7
              rw [d7]
              have he : startW z2 l5 l6 z7 = markF (List.replicate m false) ls := by unfold startW; rw [if_neg hz7, HLS.out, HMM.out]
              go_wp2_with fail
              go_meet
              case rel => exact ⟨⟨by rw [he]; exact HR.out⟩, HK, HBk⟩
          case rest =>
            clear HR HK HBk k7 b3
            obtain ⟨HR, HK, HBk⟩ := hcut
            have hP := blk_alloc (blk_below HP2.out HBk.out) (.cells #[.slice none 0 0] 22 (0, 0))
            have k3 := (blk_cell hP 3).trans rfl
            clear hP
            go_wp2_with (go_at_call 48; refine (back_calls _ _ _ _).mono ?_; rintro e w' ⟨rfl, rfl⟩)
            have hpr : ∀ x ∈ l3, RegsOk z2 x := gsOk_regs HM1.out.gs
            have hb3 := (HK.out.2 g3 (blk_lt HBX5.out) (by have := HGL.out; omega)).trans HBX5.out
            have hrd := Kd.R_alloc (Kd.R_alloc HR.out (.cells #[.slice none 0 0] 22 (0, 0))) (.cells #[.slice B3 l3.length d3] 22 (0, 0))
            have h3 := blk_alloc (blk_alloc hb3 (.cells #[.slice none 0 0] 22 (0, 0))) (.cells #[.slice B3 l3.length d3] 22 (0, 0))
            have h6 := blk_alloc (blk_new wc (.cells #[.slice none 0 0] 22 (0, 0))) (.cells #[.slice B3 l3.length d3] 22 (0, 0))
            have hs := blk_new2 wc (.cells #[.slice none 0 0] 22 (0, 0)) (.cells #[.slice B3 l3.length d3] 22 (0, 0))
            have hwc := HBk.out.size
            have hbl := (HBk.out.alloc HBk.out.size (.cells #[.slice none 0 0] 22 (0, 0))).alloc (by simp; omega) (.cells #[.slice B3 l3.length d3] 22 (0, 0))
            have hg36 : g3 < wc.heap.size := blk_lt hb3
            have hsz : ((wc.alloc (.cells #[.slice none 0 0] 22 (0, 0))).alloc (.cells #[.slice B3 l3.length d3] 22 (0, 0))).heap.size = wc.heap.size + 2 := by simp
            obtain ⟨ws, hws⟩ : ∃ ws, (wc.alloc (.cells #[.slice none 0 0] 22 (0, 0))).alloc (.cells #[.slice B3 l3.length d3] 22 (0, 0)) = ws := ⟨_, rfl⟩
            rw [hws] at hrd h3 h6 hs hbl hsz ⊢
            clear hws
            obtain ⟨g6, hg6⟩ : ∃ g6, wc.heap.size = g6 := ⟨_, rfl⟩
            rw [hg6] at h6 hs hwc hg36 hsz ⊢
            clear hg6
            have HGK := Aside0.mk hg36
            have HWC := Aside0.mk hwc
            have HSW := Aside0.mk hsz
            refine (wpIn_wide (n := 10)).1 ?_
            refine wpIn_rangeFunc_ownH (F := Fence.wide) (n := 10) rfl (by decide) (gf := 72) (lb := #[.pointer (some ⟨g6 + 1, 0, none⟩)]) rfl trivial (enters_of Try.func72 (by kernel_rfl) rfl)
              (back_stops Fence.wide 9 trivial rfl (by decide) (g6 + 1) B3 d3 l3 w2 ws (Kd.C_below HRC.out.r3 HB2.out) (by have := HL.out; omega) (RegsOk z2) hpr hbl hs) KpB.t (KpB.b (by omega) (by omega)) (Below.refl _ _) (fun _ => rfl)
              (LoopW w2.heap.size g3 g6 gr m cr z2 (startW z2 l5 l6 z7) w2) (fun _ _ _ => False) (LoopW.own (by omega) (Nat.le_refl _)) (fun _ _ _ _ _ h _ _ => h)
              ⟨⟨_, h6, Kd.R_nil _ _ _ _ _⟩, hrd, h3, hbl, by omega⟩
              (fun x a' W => ∃ Bx, g6 + 1 < Bx ∧ W.heap[Bx]? = some (.cells #[.int .u8 x.2.1.f0, .int .i64 x.2.1.f1, .int .i64 x.2.1.f2, .int .i64 x.2.1.f3, .string x.2.1.f4, .int .u8 x.2.1.f5.f0, .int .i64 x.2.1.f5.f1, .string x.2.1.f5.f2] 39 (0, 0)) ∧ (∃ f, a' = slotsW g3 g6 Bx f))
              (fun x a' u W W' row h hg hr => by
                obtain ⟨Bx, h1, h2, h3⟩ := h
                exact ⟨Bx, h1, blk_ownG h2 hg hr, h3⟩) ?assign ?body ?done ?stop
            case assign =>
              intro l pre x W K hI hK
              obtain ⟨x0, x, hx⟩ := x
              have hle := hI.bel.size
              have hsz := hI.siz
              have hnew := blk_new W (.cells #[.int .u8 x.f0, .int .i64 x.f1, .int .i64 x.f2, .int .i64 x.f3, .string x.f4, .int .u8 x.f5.f0, .int .i64 x.f5.f1, .string x.f5.f2] 39 (0, 0))
              gi_wp2
              exact hK _ _ ((KeepsOthers.alloc _ _).from _) ⟨(Below.refl _ W).alloc hle _, Below.heap_alloc _ _ _ (by omega)⟩ ((LoopW.own (B := W.heap.size) hle (Nat.le_refl _)).alloc _ hI) ⟨W.heap.size, by omega, hnew, slotsW_ex g3 g6 W.heap.size _ _ _ _ _ _ _ _ _ _ _ _ _ _ _ _ _ _ _ _ _ _ _ _ _ _ _ _ _ _ _ _ _ _ _ _ _ _ _ _ _ _ _ _ _ _ _ _ _ _ _ _ _ _ _ _ _ _ _ _ _ _ _ _ _ _ _ _ _ _ _ _ _ _ _ _ _ _ _ _ _⟩
            case body =>
              intro l pre x a' W hl hr hI hAx hlt
              obtain ⟨Bx, hBx, hX, f, rfl⟩ := hAx
              obtain ⟨x0, x, hx⟩ := x
              obtain ⟨v, hv6, hv⟩ := hI.out
              obtain ⟨Av, cv, ev⟩ := Kd.R_slice hv
              subst ev
              have hrd' := hI.rd
              have hb3' := hI.box
              have hle := hI.bel.size
              have hsz' := hI.siz
              have hst := stW_snoc z2 (startW z2 l5 l6 z7) pre (x0, ⟨x, hx⟩)
              generalize hq : stW z2 (startW z2 l5 l6 z7) pre = q at hv hv6 hrd' hst
              have c0 := (blk_cell hX 0).trans rfl
              have c1 := (blk_cell hX 1).trans rfl
              have c2 := (blk_cell hX 2).trans rfl
              have c3' := (blk_cell hX 3).trans rfl
              have c4 := (blk_cell hX 4).trans rfl
              have c5 := (blk_cell hX 5).trans rfl
              have c6 := (blk_cell hX 6).trans rfl
              have c7 := (blk_cell hX 7).trans rfl
              have b3' := (blk_cell hb3' 0).trans rfl
              have hm1 : 1 ≤ 10 - 1 - 1 := by decide
              have HX := Aside0.mk hX
              have HB3 := Aside0.mk hb3'
              have HRD := Aside0.mk hrd'
              have HV := Aside0.mk hv
              have HV6 := Aside0.mk hv6
              have HST := Aside0.mk hst
              have HI := Aside0.mk hI
              have HQ := Aside0.mk hq
              clear hX hb3' hrd' hv hv6 hst hI hq
              by_cases c12 : x.f0 = 1 ∨ x.f0 = 2
              · have hfv : decide (x.f0 ≠ 1 ∧ x.f0 ≠ 2) = false := decide_eq_false (by omega)
                have hF := fails_c x W
                rw [hfv] at hF
                obtain ⟨p1, p2⟩ := hx.dst (by omega) (by omega)
                have p3 : x.f1 < (m : Int) := by have := HMM.out; omega
                obtain ⟨r1, r2⟩ := Kd.R_celln false HRD.out x.f1 p1 p3
                cases hrb : rdOf false q.1 x.f1 with
                | false =>
                  rw [hrb] at r1
                  gi_wp2_with (refine ⟨trivial, ?_⟩; gi_at_call 33; refine (CallsIn.inRound l (callsIn_wide.2 hF)).mono ?_; rintro e w' ⟨rfl, hbf⟩; have HBM := Aside0.mk hbf; have r1' := (hbf.cell (World.block_lt_of_cell? W _ r1)).trans r1; have b3'' := (hbf.cell (World.block_lt_of_cell? W _ b3')).trans b3'; have c1' := (hbf.cell (World.block_lt_of_cell? W _ c1)).trans c1)
                  have hbm := HBM.out
                  exact ⟨keeps_below hbm, kpB_below hbm hle (by omega), (HI.out.below hbm (Nat.le_refl _)).cong (by rw [HST.out, HQ.out, stepW, if_pos ⟨c12, hrb⟩])⟩
                | true =>
                  rw [hrb] at r1
                  have hpv : decide (x.f0 ≠ 6 ∧ x.f0 ≠ 8) = true := decide_eq_true (by omega)
                  have HQL : Aside0 (q.2.length < l3.length) := ⟨by have := stW_len z2 (startW z2 l5 l6 z7) pre; rw [HQ.out] at this; omega⟩
                  gi_wp2_with (first
                    | (refine ⟨trivial, ?_⟩; gi_at_call 33; refine (CallsIn.inRound l (callsIn_wide.2 hF)).mono ?_; rintro e w' ⟨rfl, hbf⟩; clear hF; have HBM := Aside0.mk hbf; have r1' := (hbf.cell (World.block_lt_of_cell? W _ r1)).trans r1; have b3'' := (hbf.cell (World.block_lt_of_cell? W _ b3')).trans b3'; have hXm := blk_below HX.out hbf; have ce0 := (blk_cell hXm 0).trans rfl; have ce1 := (blk_cell hXm 1).trans rfl; have ce2 := (blk_cell hXm 2).trans rfl; have ce3 := (blk_cell hXm 3).trans rfl; have ce4 := (blk_cell hXm 4).trans rfl; have ce5 := (blk_cell hXm 5).trans rfl; have ce6 := (blk_cell hXm 6).trans rfl; have ce7 := (blk_cell hXm 7).trans rfl; have hP := puts_c x w'; rw [hpv] at hP; clear hXm)
                    | (refine ⟨trivial, ?_⟩; gi_at_call 49; refine (CallsIn.inRound l (callsIn_wide.2 hP)).mono ?_; rintro e w3 ⟨rfl, hbp⟩; clear hP; have HBP := Aside0.mk (HBM.out.trans (hbp.mono HBM.out.size)); have hB3m := blk_below HB3.out HBP.out; have hXm := blk_below HX.out HBP.out; have b33 := (blk_cell hB3m 0).trans rfl; have y1 := (blk_cell hXm 1).trans rfl; have HRD3 := Aside0.mk (Kd.R_below HRD.out HBP.out); have hgr3 : g3 ≠ gr := (by have := HGL.out; omega); have hgrx : Bx ≠ gr := (by have := HGL.out; have := HGK.out; omega); have hgr6 : g6 ≠ gr := (by have := HGL.out; have := HGK.out; omega); have hV3 := blk_below HV6.out HBP.out; obtain ⟨r3, r4⟩ := Kd.R_celln false HRD3.out x.f1 p1 p3; have HPS := Aside0.mk (Kd.R_putg HRD3.out x.f1 false); have HG3 := Aside0.mk ((grown_of_below HBP.out (some gr)).trans HPS.out.2); have hBS := (Below.heap_setCell w3 ⟨gr, x.f1.toNat, none⟩ (.bool false) g3 hgr3).trans hB3m; have hXS := (Below.heap_setCell w3 ⟨gr, x.f1.toNat, none⟩ (.bool false) Bx hgrx).trans hXm; have hVS := (Below.heap_setCell w3 ⟨gr, x.f1.toNat, none⟩ (.bool false) g6 hgr6).trans hV3; have b34 := (blk_cell hBS 0).trans rfl; have cg0 := (blk_cell hXS 0).trans rfl; have cg1 := (blk_cell hXS 1).trans rfl; have cg2 := (blk_cell hXS 2).trans rfl; have cg3 := (blk_cell hXS 3).trans rfl; have cg4 := (blk_cell hXS 4).trans rfl; have cg5 := (blk_cell hXS 5).trans rfl; have cg6 := (blk_cell hXS 6).trans rfl; have cg7 := (blk_cell hXS 7).trans rfl; have HXS := Aside0.mk hXS; have HVS := Aside0.mk hVS; clear hB3m hXm hBS hXS hV3 hVS; have hgl : gr < (w3.setCell ⟨gr, x.f1.toNat, none⟩ (.bool false)).heap.size := (by have := HBP.out.size; have := HGL.out; have := HGK.out; simp; omega); have hlm := (Kd.R_reads' HPS.out.1).1; have hRE := reads_calls x.f0 x.f1 x.f2 x.f3 x.f4 x.f5.f0 x.f5.f1 x.f5.f2 gr cr (q.1.set x.f1.toNat false) w2.heap.size (fun _ => True) (w3.setCell ⟨gr, x.f1.toNat, none⟩ (.bool false)) (by rw [← hlm]; exact HPS.out.1) hgl (fun h => by have := hx.a (by omega); have := HMM.out; rw [← hlm]; omega) (fun h => by have := hx.b h; have := HMM.out; rw [← hlm]; omega); rw [← hlm] at hRE; have HRE := Aside0.mk hRE; clear hRE hlm hgl)
                    | (refine ⟨trivial, ?_⟩; gi_at_call 50; refine (CallsIn.inRound l (callsIn_wide.2 HRE.out)).mono ?_; rintro e w4 ⟨rfl, hr4, hk4⟩; clear HRE; have HR5 := Aside0.mk hr4; have HG4 := Aside0.mk (HG3.out.trans hk4); have hX4 := (hk4.block Bx (blk_lt HXS.out) (fun e => by injection e with e; exact hgrx e)).trans HXS.out; have hV4 := (hk4.block g6 (blk_lt HVS.out) (fun e => by injection e with e; exact hgr6 e)).trans HVS.out; have cu0 := (blk_cell hX4 0).trans rfl; have cu1 := (blk_cell hX4 1).trans rfl; have cu2 := (blk_cell hX4 2).trans rfl; have cu3 := (blk_cell hX4 3).trans rfl; have cu4 := (blk_cell hX4 4).trans rfl; have cu5 := (blk_cell hX4 5).trans rfl; have cu6 := (blk_cell hX4 6).trans rfl; have cu7 := (blk_cell hX4 7).trans rfl; have v0 := (blk_cell hV4 0).trans rfl; have fv0 := blk_frozen hV4 0; have HV4 := Aside0.mk hV4; have HVR := Aside0.mk (Kd.R_grown HV.out HG4.out (fun k hk e => by injection e with e; have := HGL.out; have := HGK.out; omega)); clear hr4 hk4 hX4 hV4)
                    | (gi_at_builtin; refine R_append_in k39 w2.heap.size rfl (.tmp 75) (.tmp 77) 22 39 _ 80 rfl Try.underlying22 info39 rfl (by decide) (.slice Av q.2.length cv) q.2 x (c39 x) (fun k => g6 + 1 < k) (fun _ => False) rfl rfl (k39_mkM _ _ _ x) (fun _ h => h.elim) (fun k hk => Nat.lt_of_lt_of_le (show g6 + 1 < W.heap.size by have := hsz'; omega) (Nat.le_trans HG4.out.size hk)) HVR.out (Nat.le_trans (Nat.le_trans hle HG4.out.size) (Nat.le_refl _)) (by unfold maxLen; have := HQL.out; have := HL.out; omega) (by have := HQL.out; have := HL.out; omega) ?_; intro v1 w5 hr5 hg5 ho5; have hvne : some g6 ≠ (Value.slice Av q.2.length cv).ownBlock := (fun e => by have := HVR.out.1 g6 e.symm; omega); have hV5 := (hg5.block g6 (blk_lt HV4.out) hvne).trans HV4.out; have z0 := (blk_cell hV5 0).trans rfl; have fz0 := blk_frozen hV5 0; obtain ⟨A5, c5', rfl⟩ := Kd.R_slice hr5; have HR6 := Aside0.mk hr5; have HG5 := Aside0.mk hg5; clear hr5 hg5 ho5 hV5))
                  have hst2 : stW z2 (startW z2 l5 l6 z7) (pre ++ [(x0, ⟨x, hx⟩)]) = (readsF (q.1.set x.f1.toNat false) x.f0 x.f2 x.f3, q.2 ++ [x]) := by
                    rw [HST.out, stepW, if_neg (by rw [hrb]; simp), if_pos (by omega)]
                  exact LoopW.put HI.out HGR.out HGL.out HGK.out (Nat.le_refl _) HV6.out (by rw [HQ.out]; exact HV.out) HG4.out HR5.out (by have h_ := HR6.out; rw [List.length_append] at h_; exact h_) HG5.out hst2
              · have hfv : decide (x.f0 ≠ 1 ∧ x.f0 ≠ 2) = true := decide_eq_true (by omega)
                have hF := fails_c x W
                rw [hfv] at hF
                by_cases c68 : x.f0 = 6 ∨ x.f0 = 8
                · have hpv : decide (x.f0 ≠ 6 ∧ x.f0 ≠ 8) = false := decide_eq_false (by omega)
                  have HQL : Aside0 (q.2.length < l3.length) := ⟨by have := stW_len z2 (startW z2 l5 l6 z7) pre; rw [HQ.out] at this; omega⟩
                  gi_wp2_with (first
                    | (refine ⟨trivial, ?_⟩; gi_at_call 33; refine (CallsIn.inRound l (callsIn_wide.2 hF)).mono ?_; rintro e w' ⟨rfl, hbf⟩; clear hF; have HBM := Aside0.mk hbf; have hXm := blk_below HX.out hbf; have ce0 := (blk_cell hXm 0).trans rfl; have ce1 := (blk_cell hXm 1).trans rfl; have ce2 := (blk_cell hXm 2).trans rfl; have ce3 := (blk_cell hXm 3).trans rfl; have ce4 := (blk_cell hXm 4).trans rfl; have ce5 := (blk_cell hXm 5).trans rfl; have ce6 := (blk_cell hXm 6).trans rfl; have ce7 := (blk_cell hXm 7).trans rfl; have hP := puts_c x w'; rw [hpv] at hP; clear hXm)
                    | (refine ⟨trivial, ?_⟩; gi_at_call 49; refine (CallsIn.inRound l (callsIn_wide.2 hP)).mono ?_; rintro e w3 ⟨rfl, hbp⟩; clear hP; have HBP := Aside0.mk (HBM.out.trans (hbp.mono HBM.out.size)); have hB3m := blk_below HB3.out HBP.out; have hXm := blk_below HX.out HBP.out; have b33 := (blk_cell hB3m 0).trans rfl; have y1 := (blk_cell hXm 1).trans rfl; have HRD3 := Aside0.mk (Kd.R_below HRD.out HBP.out); have hgr3 : g3 ≠ gr := (by have := HGL.out; omega); have hgrx : Bx ≠ gr := (by have := HGL.out; have := HGK.out; omega); have hgr6 : g6 ≠ gr := (by have := HGL.out; have := HGK.out; omega); have hV3 := blk_below HV6.out HBP.out; have cg0 := (blk_cell hXm 0).trans rfl; have cg1 := (blk_cell hXm 1).trans rfl; have cg2 := (blk_cell hXm 2).trans rfl; have cg3 := (blk_cell hXm 3).trans rfl; have cg4 := (blk_cell hXm 4).trans rfl; have cg5 := (blk_cell hXm 5).trans rfl; have cg6 := (blk_cell hXm 6).trans rfl; have cg7 := (blk_cell hXm 7).trans rfl; have HG3 := Aside0.mk (grown_of_below HBP.out (some gr)); have HXS := Aside0.mk hXm; have HVS := Aside0.mk hV3; clear hB3m hXm hV3; have hgl : gr < w3.heap.size := (by have := HBP.out.size; have := HGL.out; have := HGK.out; simp; omega); have hlm := (Kd.R_reads' HRD3.out).1; have hRE := reads_calls x.f0 x.f1 x.f2 x.f3 x.f4 x.f5.f0 x.f5.f1 x.f5.f2 gr cr q.1 w2.heap.size (fun _ => True) w3 (by rw [← hlm]; exact HRD3.out) hgl (fun h => by have := hx.a (by omega); have := HMM.out; rw [← hlm]; omega) (fun h => by have := hx.b h; have := HMM.out; rw [← hlm]; omega); rw [← hlm] at hRE; have HRE := Aside0.mk hRE; clear hRE hlm hgl)
                    | (refine ⟨trivial, ?_⟩; gi_at_call 50; refine (CallsIn.inRound l (callsIn_wide.2 HRE.out)).mono ?_; rintro e w4 ⟨rfl, hr4, hk4⟩; clear HRE; have HR5 := Aside0.mk hr4; have HG4 := Aside0.mk (HG3.out.trans hk4); have hX4 := (hk4.block Bx (blk_lt HXS.out) (fun e => by injection e with e; exact hgrx e)).trans HXS.out; have hV4 := (hk4.block g6 (blk_lt HVS.out) (fun e => by injection e with e; exact hgr6 e)).trans HVS.out; have cu0 := (blk_cell hX4 0).trans rfl; have cu1 := (blk_cell hX4 1).trans rfl; have cu2 := (blk_cell hX4 2).trans rfl; have cu3 := (blk_cell hX4 3).trans rfl; have cu4 := (blk_cell hX4 4).trans rfl; have cu5 := (blk_cell hX4 5).trans rfl; have cu6 := (blk_cell hX4 6).trans rfl; have cu7 := (blk_cell hX4 7).trans rfl; have v0 := (blk_cell hV4 0).trans rfl; have fv0 := blk_frozen hV4 0; have HV4 := Aside0.mk hV4; have HVR := Aside0.mk (Kd.R_grown HV.out HG4.out (fun k hk e => by injection e with e; have := HGL.out; have := HGK.out; omega)); clear hr4 hk4 hX4 hV4)
                    | (gi_at_builtin; refine R_append_in k39 w2.heap.size rfl (.tmp 75) (.tmp 77) 22 39 _ 80 rfl Try.underlying22 info39 rfl (by decide) (.slice Av q.2.length cv) q.2 x (c39 x) (fun k => g6 + 1 < k) (fun _ => False) rfl rfl (k39_mkM _ _ _ x) (fun _ h => h.elim) (fun k hk => Nat.lt_of_lt_of_le (show g6 + 1 < W.heap.size by have := hsz'; omega) (Nat.le_trans HG4.out.size hk)) HVR.out (Nat.le_trans (Nat.le_trans hle HG4.out.size) (Nat.le_refl _)) (by unfold maxLen; have := HQL.out; have := HL.out; omega) (by have := HQL.out; have := HL.out; omega) ?_; intro v1 w5 hr5 hg5 ho5; have hvne : some g6 ≠ (Value.slice Av q.2.length cv).ownBlock := (fun e => by have := HVR.out.1 g6 e.symm; omega); have hV5 := (hg5.block g6 (blk_lt HV4.out) hvne).trans HV4.out; have z0 := (blk_cell hV5 0).trans rfl; have fz0 := blk_frozen hV5 0; obtain ⟨A5, c5', rfl⟩ := Kd.R_slice hr5; have HR6 := Aside0.mk hr5; have HG5 := Aside0.mk hg5; clear hr5 hg5 ho5 hV5))
                  have hst2 : stW z2 (startW z2 l5 l6 z7) (pre ++ [(x0, ⟨x, hx⟩)]) = (readsF q.1 x.f0 x.f2 x.f3, q.2 ++ [x]) := by
                    rw [HST.out, stepW, if_neg (by omega), if_neg (by omega)]
                  exact LoopW.put HI.out HGR.out HGL.out HGK.out (Nat.le_refl _) HV6.out (by rw [HQ.out]; exact HV.out) HG4.out HR5.out (by have h_ := HR6.out; rw [List.length_append] at h_; exact h_) HG5.out hst2
                · have hpv : decide (x.f0 ≠ 6 ∧ x.f0 ≠ 8) = true := decide_eq_true (by omega)
                  obtain ⟨p1, p2⟩ := hx.dst (by omega) (by omega)
                  have p3 : x.f1 < (m : Int) := by have := HMM.out; omega
                  have HQL : Aside0 (q.2.length < l3.length) := ⟨by have := stW_len z2 (startW z2 l5 l6 z7) pre; rw [HQ.out] at this; omega⟩
                  gi_wp2_with (first
                    | (refine ⟨trivial, ?_⟩; gi_at_call 33; refine (CallsIn.inRound l (callsIn_wide.2 hF)).mono ?_; rintro e w' ⟨rfl, hbf⟩; clear hF; have HBM := Aside0.mk hbf; have hXm := blk_below HX.out hbf; have ce0 := (blk_cell hXm 0).trans rfl; have ce1 := (blk_cell hXm 1).trans rfl; have ce2 := (blk_cell hXm 2).trans rfl; have ce3 := (blk_cell hXm 3).trans rfl; have ce4 := (blk_cell hXm 4).trans rfl; have ce5 := (blk_cell hXm 5).trans rfl; have ce6 := (blk_cell hXm 6).trans rfl; have ce7 := (blk_cell hXm 7).trans rfl; have hP := puts_c x w'; rw [hpv] at hP; clear hXm)
                    | (refine ⟨trivial, ?_⟩; gi_at_call 49; refine (CallsIn.inRound l (callsIn_wide.2 hP)).mono ?_; rintro e w3 ⟨rfl, hbp⟩; clear hP; have HBP := Aside0.mk (HBM.out.trans (hbp.mono HBM.out.size)); have hB3m := blk_below HB3.out HBP.out; have hXm := blk_below HX.out HBP.out; have b33 := (blk_cell hB3m 0).trans rfl; have y1 := (blk_cell hXm 1).trans rfl; have HRD3 := Aside0.mk (Kd.R_below HRD.out HBP.out); have hgr3 : g3 ≠ gr := (by have := HGL.out; omega); have hgrx : Bx ≠ gr := (by have := HGL.out; have := HGK.out; omega); have hgr6 : g6 ≠ gr := (by have := HGL.out; have := HGK.out; omega); have hV3 := blk_below HV6.out HBP.out; obtain ⟨r3, r4⟩ := Kd.R_celln false HRD3.out x.f1 p1 p3; have HPS := Aside0.mk (Kd.R_putg HRD3.out x.f1 false); have HG3 := Aside0.mk ((grown_of_below HBP.out (some gr)).trans HPS.out.2); have hBS := (Below.heap_setCell w3 ⟨gr, x.f1.toNat, none⟩ (.bool false) g3 hgr3).trans hB3m; have hXS := (Below.heap_setCell w3 ⟨gr, x.f1.toNat, none⟩ (.bool false) Bx hgrx).trans hXm; have hVS := (Below.heap_setCell w3 ⟨gr, x.f1.toNat, none⟩ (.bool false) g6 hgr6).trans hV3; have b34 := (blk_cell hBS 0).trans rfl; have cg0 := (blk_cell hXS 0).trans rfl; have cg1 := (blk_cell hXS 1).trans rfl; have cg2 := (blk_cell hXS 2).trans rfl; have cg3 := (blk_cell hXS 3).trans rfl; have cg4 := (blk_cell hXS 4).trans rfl; have cg5 := (blk_cell hXS 5).trans rfl; have cg6 := (blk_cell hXS 6).trans rfl; have cg7 := (blk_cell hXS 7).trans rfl; have HXS := Aside0.mk hXS; have HVS := Aside0.mk hVS; clear hB3m hXm hBS hXS hV3 hVS; have hgl : gr < (w3.setCell ⟨gr, x.f1.toNat, none⟩ (.bool false)).heap.size := (by have := HBP.out.size; have := HGL.out; have := HGK.out; simp; omega); have hlm := (Kd.R_reads' HPS.out.1).1; have hRE := reads_calls x.f0 x.f1 x.f2 x.f3 x.f4 x.f5.f0 x.f5.f1 x.f5.f2 gr cr (q.1.set x.f1.toNat false) w2.heap.size (fun _ => True) (w3.setCell ⟨gr, x.f1.toNat, none⟩ (.bool false)) (by rw [← hlm]; exact HPS.out.1) hgl (fun h => by have := hx.a (by omega); have := HMM.out; rw [← hlm]; omega) (fun h => by have := hx.b h; have := HMM.out; rw [← hlm]; omega); rw [← hlm] at hRE; have HRE := Aside0.mk hRE; clear hRE hlm hgl)
                    | (refine ⟨trivial, ?_⟩; gi_at_call 50; refine (CallsIn.inRound l (callsIn_wide.2 HRE.out)).mono ?_; rintro e w4 ⟨rfl, hr4, hk4⟩; clear HRE; have HR5 := Aside0.mk hr4; have HG4 := Aside0.mk (HG3.out.trans hk4); have hX4 := (hk4.block Bx (blk_lt HXS.out) (fun e => by injection e with e; exact hgrx e)).trans HXS.out; have hV4 := (hk4.block g6 (blk_lt HVS.out) (fun e => by injection e with e; exact hgr6 e)).trans HVS.out; have cu0 := (blk_cell hX4 0).trans rfl; have cu1 := (blk_cell hX4 1).trans rfl; have cu2 := (blk_cell hX4 2).trans rfl; have cu3 := (blk_cell hX4 3).trans rfl; have cu4 := (blk_cell hX4 4).trans rfl; have cu5 := (blk_cell hX4 5).trans rfl; have cu6 := (blk_cell hX4 6).trans rfl; have cu7 := (blk_cell hX4 7).trans rfl; have v0 := (blk_cell hV4 0).trans rfl; have fv0 := blk_frozen hV4 0; have HV4 := Aside0.mk hV4; have HVR := Aside0.mk (Kd.R_grown HV.out HG4.out (fun k hk e => by injection e with e; have := HGL.out; have := HGK.out; omega)); clear hr4 hk4 hX4 hV4)
                    | (gi_at_builtin; refine R_append_in k39 w2.heap.size rfl (.tmp 75) (.tmp 77) 22 39 _ 80 rfl Try.underlying22 info39 rfl (by decide) (.slice Av q.2.length cv) q.2 x (c39 x) (fun k => g6 + 1 < k) (fun _ => False) rfl rfl (k39_mkM _ _ _ x) (fun _ h => h.elim) (fun k hk => Nat.lt_of_lt_of_le (show g6 + 1 < W.heap.size by have := hsz'; omega) (Nat.le_trans HG4.out.size hk)) HVR.out (Nat.le_trans (Nat.le_trans hle HG4.out.size) (Nat.le_refl _)) (by unfold maxLen; have := HQL.out; have := HL.out; omega) (by have := HQL.out; have := HL.out; omega) ?_; intro v1 w5 hr5 hg5 ho5; have hvne : some g6 ≠ (Value.slice Av q.2.length cv).ownBlock := (fun e => by have := HVR.out.1 g6 e.symm; omega); have hV5 := (hg5.block g6 (blk_lt HV4.out) hvne).trans HV4.out; have z0 := (blk_cell hV5 0).trans rfl; have fz0 := blk_frozen hV5 0; obtain ⟨A5, c5', rfl⟩ := Kd.R_slice hr5; have HR6 := Aside0.mk hr5; have HG5 := Aside0.mk hg5; clear hr5 hg5 ho5 hV5))
                  have hst2 : stW z2 (startW z2 l5 l6 z7) (pre ++ [(x0, ⟨x, hx⟩)]) = (readsF (q.1.set x.f1.toNat false) x.f0 x.f2 x.f3, q.2 ++ [x]) := by
                    rw [HST.out, stepW, if_neg (by omega), if_pos (by omega)]
                  exact LoopW.put HI.out HGR.out HGL.out HGK.out (Nat.le_refl _) HV6.out (by rw [HQ.out]; exact HV.out) HG4.out HR5.out (by have h_ := HR6.out; rw [List.length_append] at h_; exact h_) HG5.out hst2
            case done =>
              clear HRX5 HBX5 HBA5 HRC5
              intro D xs W hD hS hI hK
              obtain ⟨v, hv6, hv⟩ := hI.out
              obtain ⟨Av, cv, ev⟩ := Kd.R_slice hv
              subst ev
              have hsl := stW_len z2 (startW z2 l5 l6 z7) xs
              have hxl : xs.length = l3.length := by rw [hS, backA_length]
              have hq : (stW z2 (startW z2 l5 l6 z7) xs).2.reverse = sweepF z0 z1 z2 l3 z4 l5 l6 z7 z8 z9 := by
                rw [sweepF, if_pos HM0.out, sweepL, hS, stW, ← backA_snd l3 hpr, List.foldl_map]
              generalize hout : (stW z2 (startW z2 l5 l6 z7) xs).2 = out at hv hv6 hsl hq
              have hPW := blk_below HP2.out hI.bel
              have hZW := blk_below HZ2.out hI.bel
              have hl3 := HL.out
              have HREV := Aside0.mk (rev_calls Av cv out w2.heap.size (fun k => g6 + 1 < k) W (by omega) hv)
              have hvo : ∀ k, some k = (Value.slice Av out.length cv).ownBlock → g6 + 1 < k ∧ ∃ cs, W.heap[k]? = some (.cells cs 39 (0, 0)) := fun k e => ⟨hv.1 k e.symm, Kd.R_typed hv k e.symm⟩
              have v0 := (blk_cell hv6 0).trans rfl
              have HVO := Aside0.mk hvo
              have HV6 := Aside0.mk hv6
              have HPW := Aside0.mk hPW
              have HZW := Aside0.mk hZW
              have HKD := Aside0.mk hK
              have HIB := Aside0.mk hI.bel
              have HQQ := Aside0.mk hq
              have HD := Aside0.mk hD
              have gb6 : gb + 1 < g6 := by have := blk_lt HZ2.out; have := HWC.out; omega
              have HGB6 := Aside0.mk gb6
              have HSZ := Aside0.mk hI.siz
              clear hS hI hK hv hsl hxl hq hout hPW hZW hl3 hvo hv6 hD gb6 k3
              go_wp2_with (go_at_call 51; refine HREV.out.mono ?_; rintro e w6 ⟨rfl, hr6, hg6⟩; clear HREV v0; have HR6 := Aside0.mk hr6; have HG6 := Aside0.mk hg6; have h6 := (hg6.block g6 (blk_lt HV6.out) (fun e => by have := (HVO.out g6 e).1; omega)).trans HV6.out; have hP6 := (hg6.block gb (blk_lt HPW.out) (fun e => by have := (HVO.out gb e).1; have := HGB6.out; omega)).trans HPW.out; have hZ6 := (hg6.block (gb + 1) (blk_lt HZW.out) (fun e => by have := (HVO.out (gb + 1) e).1; have := HGB6.out; omega)).trans HZW.out; have v0 := (blk_cell h6 0).trans rfl; have fk3 := blk_frozen hP6 3; have kk3 := (blk_cell hP6 3).trans rfl; have hP7 := blk_put hP6 3 (.slice Av out.length cv) rfl; have hZ7 := (Below.heap_setCell w6 ⟨gb, 3, none⟩ (.slice Av out.length cv) (gb + 1) (by simp)).trans hZ6; have HZ7 := Aside0.mk hZ7; have HP7 := Aside0.mk hP7; have k0 := (blk_cell hP7 0).trans rfl; have m0 := (blk_cell hZ7 0).trans rfl; have f0 := blk_frozen hZ7 0; have k1 := (blk_cell hP7 1).trans rfl; have m1 := (blk_cell hZ7 1).trans rfl; have f1 := blk_frozen hZ7 1; have k2 := (blk_cell hP7 2).trans rfl; have m2 := (blk_cell hZ7 2).trans rfl; have f2 := blk_frozen hZ7 2; have k3 := (blk_cell hP7 3).trans rfl; have m3 := (blk_cell hZ7 3).trans rfl; have f3 := blk_frozen hZ7 3; have k4 := (blk_cell hP7 4).trans rfl; have m4 := (blk_cell hZ7 4).trans rfl; have f4 := blk_frozen hZ7 4; have k5 := (blk_cell hP7 5).trans rfl; have m5 := (blk_cell hZ7 5).trans rfl; have f5 := blk_frozen hZ7 5; have k6 := (blk_cell hP7 6).trans rfl; have m6 := (blk_cell hZ7 6).trans rfl; have f6 := blk_frozen hZ7 6; have k7 := (blk_cell hP7 7).trans rfl; have m7 := (blk_cell hZ7 7).trans rfl; have f7 := blk_frozen hZ7 7; have k8 := (blk_cell hP7 8).trans rfl; have m8 := (blk_cell hZ7 8).trans rfl; have f8 := blk_frozen hZ7 8; have k9 := (blk_cell hP7 9).trans rfl; have m9 := (blk_cell hZ7 9).trans rfl; have f9 := blk_frozen hZ7 9;  clear hr6 hg6 h6 hP6 hZ6 hP7 hZ7)
              clear fk3 kk3 v0 k0 k1 k2 k3 k4 k5 k6 k7 k8 k9 m0 m1 m2 m3 m4 m5 m6 m7 m8 m9 f0 f1 f2 f3 f4 f5 f6 f7 f8 f9
              have hg7 : w6.grownBy (w6.setCell ⟨gb, 3, none⟩ (.slice Av out.length cv)) (some gb) := grown_set w6 gb 3 _
              obtain ⟨w7, hw7⟩ : ∃ w7, w6.setCell ⟨gb, 3, none⟩ (.slice Av out.length cv) = w7 := ⟨_, rfl⟩
              rw [hw7] at HP7 HZ7 hg7 ⊢
              clear hw7
              have hzz := blk_set10 HZ7.out (.int .i64 z0) (.int .i64 z1) (.int .i64 z2) (.slice Av out.length cv) (.int .i64 z4) (.slice B5 l5.length d5) (.slice B6 l6.length d6) (.int .i64 z7) (.int .i64 z8) (.int .i64 z9)
              have hgz := kept_set10 w7 (gb + 1) (.int .i64 z0) (.int .i64 z1) (.int .i64 z2) (.slice Av out.length cv) (.int .i64 z4) (.slice B5 l5.length d5) (.slice B6 l6.length d6) (.int .i64 z7) (.int .i64 z8) (.int .i64 z9)
              obtain ⟨wz, hwz⟩ : ∃ wz, ((((((((((w7.setCell ⟨gb + 1, 0, none⟩ (.int .i64 z0)).setCell ⟨gb + 1, 1, none⟩ (.int .i64 z1)).setCell ⟨gb + 1, 2, none⟩ (.int .i64 z2)).setCell ⟨gb + 1, 3, none⟩ (.slice Av out.length cv)).setCell ⟨gb + 1, 4, none⟩ (.int .i64 z4)).setCell ⟨gb + 1, 5, none⟩ (.slice B5 l5.length d5)).setCell ⟨gb + 1, 6, none⟩ (.slice B6 l6.length d6)).setCell ⟨gb + 1, 7, none⟩ (.int .i64 z7)).setCell ⟨gb + 1, 8, none⟩ (.int .i64 z8)).setCell ⟨gb + 1, 9, none⟩ (.int .i64 z9)) = wz := ⟨_, rfl⟩
              rw [hwz] at hzz hgz ⊢
              clear hwz
              have h6 := HGB6.out
              have hwc := HWC.out
              have hD := HD.out
              have hSW := HSW.out
              have hgb := HGB.out
              have hsz6 := HG6.out.size
              have hsz7 := hg7.size
              have hszz := hgz.size
              have hKD := blk_lt HKD.out
              have hK6 : w6.heap[D]? = some (.deferred (some [])) := (HG6.out.block D hKD (fun e => by
                obtain ⟨_, cs, hc⟩ := HVO.out D e
                rw [HKD.out] at hc
                cases hc)).trans HKD.out
              have hK7 := (hg7.block D (blk_lt hK6) (fun e => by injection e with e; omega)).trans hK6
              have hKz := (hgz.block D (blk_lt hK7) (fun e => by injection e with e; omega)).trans hK7
              have hZf := (World.putObj_heap_other (w := wz) (r := D) (o := .deferred none) (k := gb + 1) (by omega)).trans hzz
              refine ⟨by simp, .inl ⟨_, _, rfl, run_takeDeferred hKz, ?_⟩⟩
              refine ⟨_, results_cell_row rfl _ _ (gb + 1) 25 #[.int .i64 z0, .int .i64 z1, .int .i64 z2, .slice Av out.length cv, .int .i64 z4, .slice B5 l5.length d5, .slice B6 l6.length d6, .int .i64 z7, .int .i64 z8, .int .i64 z9] (0, 0) _ rfl hZf Try.underlying25 rfl (by kernel_rfl), ?_⟩
              have hs := HC.out.size
              have hs2 := HC.out.bel.size
              have hr5 := Kd.R_grown (Kd.R_below (Kd.R_mono (Kd.R_bound (Kd.R_below HC.out.r5 HB2.out)) (ok' := fun k => (gb + 1 < k) ∧ k < w2.heap.size) (fun k hk => ⟨by have := hk.1; omega, hk.2.2.1⟩)) HIB.out) HG6.out (fun k hk e => by have := (HVO.out k e).1; omega)
              have hr6 := Kd.R_grown (Kd.R_below (Kd.R_mono (Kd.R_bound (Kd.R_below HC.out.r6 HB2.out)) (ok' := fun k => (gb + 1 < k) ∧ k < w2.heap.size) (fun k hk => ⟨by have := hk.1; omega, hk.2.2.1⟩)) HIB.out) HG6.out (fun k hk e => by have := (HVO.out k e).1; omega)
              have hr3 := HR6.out
              rw [HQQ.out] at hr3
              have hb2 := HB2.out.size
              refine ⟨_, _, _, rfl, ?_, ?_, ?_, ?_⟩
              · exact Kd.R_mono (Kd.R_lower (R_ownG (B := 0) (Kd.R_grown (Kd.R_grown (hr3) hg7 (fun k hk e => by injection e with e; omega)) hgz (fun k hk e => by injection e with e; omega)) (grownBy_putObj' wz D _) (fun r e => by cases e; exact ⟨Nat.zero_le _, _, hKz, rfl⟩)) (by omega)) (fun _ _ => trivial)
              · exact Kd.R_mono (Kd.R_lower (R_ownG (B := 0) (Kd.R_grown (Kd.R_grown (hr5) hg7 (fun k hk e => by injection e with e; have := hk.1; omega)) hgz (fun k hk e => by injection e with e; have := hk.1; omega)) (grownBy_putObj' wz D _) (fun r e => by cases e; exact ⟨Nat.zero_le _, _, hKz, rfl⟩)) (by omega)) (fun _ _ => trivial)
              · exact Kd.R_mono (Kd.R_lower (R_ownG (B := 0) (Kd.R_grown (Kd.R_grown (hr6) hg7 (fun k hk e => by injection e with e; have := hk.1; omega)) hgz (fun k hk e => by injection e with e; have := hk.1; omega)) (grownBy_putObj' wz D _) (fun r e => by cases e; exact ⟨Nat.zero_le _, _, hKz, rfl⟩)) (by omega)) (fun _ _ => trivial)
              · have b1 := HA.out.trans ((HC.out.bel.mono (by omega)).trans (HB2.out.mono (by omega)))
                have b2 := b1.trans (HIB.out.mono b1.size)
                have b3 := b2.grown HG6.out b2.size (fun k e => by have := (HVO.out k e.symm).1; have := b1.size; omega)
                have b4 := b3.grown hg7 b3.size (fun k e => by injection e with e; omega)
                have b5 := b4.grown hgz b4.size (fun k e => by injection e with e; omega)
                exact b5.grown (grownBy_putObj' wz D _) b5.size (fun k e => by injection e with e; have := b1.size; omega)
            case stop => exact fun D c pre W _ _ h _ => h.elim
end Go.Proofs.Ytjkjbfhhfdbnoaa.NW
