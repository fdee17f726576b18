/- The words are the document's; a change of what was answered changes none. -/
import Derived.Test.YtfncoldcjhkhiaaDoorTa
import Derived.Test.YtfncoldcjhkhiaaDoorPCx4
import Derived.Deep.RegionWith
namespace Go.Proofs.YtfncoldcjhkhiaaDoor.NW
open Go.RowKit Go.Proofs.YtfncoldcjhkhiaaDoorW.PrintWords Go.Proofs.YtfncoldcjhkhiaaDoorW.PrintMore Go.Proofs.YtfncoldcjhkhiaaDoor.PC
set_option linter.unusedVariables false
set_option linter.unusedSimpArgs false
theorem refWords_f : sacristanref09_Words.f = some wordsL := by decide +kernel
theorem awake09_f : sacristanlaw09_awake.f 10 = some true := by decide +kernel
theorem wordsL_len : wordsL.length = 32 := by decide
set_option maxHeartbeats 1600000 in
set_option maxRecDepth 1000000 in
/-- THE LAW CodeWords, walked -/
theorem codeWords_calls (a0 : Int) (a1 : ByteArray) (w : World) (h0 : 0 ≤ a0) (h1 : a0 ≤ 255) (hM : MaxOk w) :
    Calls Tryd.prog 3 #[.int .u8 a0, .string a1] w fun e w' => e = .returned (.bool true) ∧ Below w.heap.size w w' := by
  have HM := Aside0.mk hM
  clear hM
  have hl := wordsL_len
  obtain ⟨j, hj⟩ : ∃ j, Int.tmod a0 32 = j := ⟨_, rfl⟩
  have j0 : 0 ≤ j := by rw [← hj]; exact Int.tmod_nonneg _ h0
  have j1 : j < 32 := by rw [← hj]; exact Int.tmod_lt_of_pos _ (by decide)
  have HJ := Aside0.mk hj
  have hjm : a0 % 32 = j := by rw [← hj]; exact (Int.tmod_eq_emod_of_nonneg h0).symm
  clear hj
  go_enter Tryd.func3, Tryd.ntmps3
  go_wp2_with (first
    | (go_at_call 16; refine (Words_calls _ HM.out).mono ?_; rintro e w1 ⟨v0, rfl, hr1, hb1⟩; obtain ⟨A1, c1, rfl⟩ := Kd.R_slice hr1; have HR1 := Aside0.mk hr1; have HB1 := Aside0.mk hb1; clear hr1 hb1)
    | (go_at_call 17; refine (sacristanref09_Words.calls wordsL _ refWords_f).mono ?_; rintro e w2 ⟨v0, rfl, hr2, hb2⟩; obtain ⟨A2, c2, rfl⟩ := Kd.R_slice hr2; have HR2 := Aside0.mk hr2; have HB2 := Aside0.mk hb2; clear hr2 hb2))
  obtain ⟨g1, hg1⟩ : ∃ g, A1 = some ⟨g, 0, none⟩ := by
    obtain ⟨g, cap, hv, _⟩ := Kd.R_form HR1.out (by rw [hl]; decide)
    simp only [Value.slice.injEq] at hv
    exact ⟨g, hv.1⟩
  obtain ⟨g2, hg2⟩ : ∃ g, A2 = some ⟨g, 0, none⟩ := by
    obtain ⟨g, cap, hv, _⟩ := Kd.R_form HR2.out (by rw [hl]; decide)
    simp only [Value.slice.injEq] at hv
    exact ⟨g, hv.1⟩
  subst hg1 hg2
  have hne : g1 ≠ g2 := by
    have a := Kd.R_lt HR1.out g1 rfl
    have b := Kd.R_base HR2.out g2 rfl
    omega
  have hgw : w.heap.size ≤ g1 := Kd.R_base HR1.out g1 rfl
  have HNE := Aside0.mk hne
  have HGW := Aside0.mk hgw
  have HR12 := Aside0.mk (Kd.R_below HR1.out HB2.out)
  have HBB := Aside0.mk (HB1.out.trans (HB2.out.mono HB1.out.size))
  rw [hl] at HR12 HR2
  clear hne hgw HR1 hl
  go_loopw [7] (fun i wr => ∃ k : Nat, k ≤ 32 ∧ i = .int .i64 (k : Int) ∧ Aside0 (Below w2.heap.size w2 wr)) (fun i _ => 32 - (intOf i).toNat)
  case atStart => exact ⟨0, by omega, rfl, ⟨Below.refl _ _⟩⟩
  case round =>
    obtain ⟨k, hk, rfl, hb⟩ := hrel
    have HA := Aside0.mk (Kd.R_below HR12.out hb.out)
    have HC := Aside0.mk (Kd.R_below HR2.out hb.out)
    by_cases hlt : k < 32
    · have c1 := (Kd.R_celln ByteArray.empty HA.out (k : Int) (by omega) (by omega)).1
      have c2 := (Kd.R_celln ByteArray.empty HC.out (k : Int) (by omega) (by omega)).1
      have i0 : (0 : Int) ≤ (k : Int) := by omega
      have i1 : (k : Int) < 32 := by omega
      generalize rdOf ByteArray.empty wordsL (k : Int) = s at c1 c2
      simp only [Int.toNat_natCast] at c1 c2
      go_wp2
      go_quiet (fail)
      go_wp2
      go_roundw
      case rel => exact ⟨k + 1, by omega, by go_num, ⟨by repeat (first | exact hb.out | apply pw_below_drewN | apply below_drew1)⟩⟩
      case measure => simp [intOf]; omega
    · obtain rfl : k = 32 := by omega
      obtain ⟨c1, f1⟩ := Kd.R_celln ByteArray.empty HA.out j j0 j1
      have c2 := (Kd.R_celln ByteArray.empty HC.out j j0 j1).1
      have c2' := (show (wr.setCell ⟨g1, j.toNat, none⟩ (.string a1)).cell? ⟨g2, j.toNat, none⟩ = _ from World.cell?_setCell_other _ _ _ _ (by intro e; simp only [Addr.mk.injEq] at e; exact HNE.out (by omega))).trans c2
      have HB5 := Aside0.mk ((HBB.out.trans (hb.out.mono HBB.out.size)).setCell (p := ⟨g1, j.toNat, none⟩) HGW.out (.string a1))
      have HM5 := Aside0.mk (HM.out.below HB5.out)
      go_wp2
      clear c1 c2 f1
      obtain ⟨w5, hw5⟩ : ∃ w5, wr.setCell ⟨g1, j.toNat, none⟩ (.string a1) = w5 := ⟨_, rfl⟩
      rw [hw5] at c2' HB5 HM5 ⊢
      clear hw5
      have hk2 := World.block_lt_of_cell? w5 _ c2'
      have HJ0 := Aside0.mk (⟨j0, j1⟩ : 0 ≤ j ∧ j < 32)
      generalize hs : rdOf ByteArray.empty wordsL j = s at c2'
      have HS := Aside0.mk hs
      clear hs
      have htm := HJ.out
      go_region_with (first
        | (go_at_call 16; refine (Words_calls _ HM5.out.drew).mono ?_; rintro e w6 ⟨v0, rfl, hr6, hb6⟩; obtain ⟨A6, c6, rfl⟩ := Kd.R_slice hr6; rw [wordsL_len] at hr6; obtain ⟨ad6, ea6, d6⟩ := Kd.at_string (Kd.R_reads' hr6).2.2 j HJ0.out.1 (by rw [wordsL_len]; exact HJ0.out.2); subst ea6; rw [HS.out] at d6; have d2 := (hb6.cell (p := ⟨g2, j.toNat, none⟩) hk2).trans c2'; have HB6 := Aside0.mk hb6; clear hr6 hb6)
        | (go_at_call 18; refine (sacristanlaw09_awake.calls 10 true _ (HM5.out.drew.below HB6.out) awake09_f).mono ?_; rintro e w7 ⟨rfl, hb7⟩; have HB7 := Aside0.mk hb7; clear hb7))
      all_goals first
        | (exfalso; rename_i hf_; exact hf_ (by simp))
        | (try go_wp2
           go_ret
           exact ⟨by first | rfl | (simp; done), ((below_drew1 HB5.out).trans ((HB6.out.mono HB5.out.size).trans (HB7.out.mono (Nat.le_trans HB5.out.size HB6.out.size))))⟩)
end Go.Proofs.YtfncoldcjhkhiaaDoor.NW
