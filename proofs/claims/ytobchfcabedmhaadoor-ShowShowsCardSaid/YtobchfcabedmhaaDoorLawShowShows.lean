/- Any value, over a heap of any pairs, is shown as the document says: for all pairs and values. -/
import Derived.Test.YtobchfcabedmhaaDoorRows
import Derived.Test.YtobchfcabedmhaaDoorCards
import Derived.Test.YtobchfcabedmhaaDoorTie
import Derived.Test.YtobchfcabedmhaaDoorHq
import Derived.Test.YtobchfcabedmhaaDoorHr
import Derived.WalkKit
import Derived.ProofKit
import Derived.OpenShut
import Derived.ShutString
import Derived.ChangeOld
import Derived.Below
import Derived.SizedLaws
import Derived.Lib.SmallJoins
import Derived.Carry
import Derived.SevenTiedAt
import Derived.LaidMore
namespace Go.Proofs.YtobchfcabedmhaaDoor.showShows
open Go Go.ChangeShapes Go.WideShapes Go.ChangeAt Go.RowKit Go.Joins
open Go.ChangeMaps (open_string shut_string)
set_option linter.unusedVariables false
set_option linter.unusedSimpArgs false
set_option maxRecDepth 100000 in
theorem lifted (os : Os) (started : os.Started) (H : Type) (enc : TypeId × Value → H) :
    ReturnsInHanded {} Tryd.checked os 3 .any (fun w args => (Rows.showShowsSpec.pre enc Tryd.prog Tryd.f3 [] false w args ∧ laidMetH Tryd.prog NW.laidThree w) ∧ sizedMet enc Tryd.prog Tryd.f3 (OpenSpec.ofChange Rows.showShowsSpec) false w args) (Rows.showShowsSpec.post enc Tryd.prog Tryd.f3 false true false false) := by
  refine NW.change_and_shaped (C := Tryd.checked) (X := fun w _ => laidMetH Tryd.prog NW.laidThree w) (fun _ _ _ hh h => h.of_heap hh) NW.own started (by kernel_rfl) Tryd.func3
    (ChangeSpec.witness_shaped (enc := enc) (C := Tryd.checked) (os := os) (X := fun w _ => laidMetH Tryd.prog NW.laidThree w) false (World.doorLaid Tryd.prog 200 os) #[.slice none 0 0, .agg #[.int .u8 0, .int .i64 0, .string ByteArray.empty]] 8 rfl (World.shaped_of_RefB (by kernel_rfl) (by kernel_rfl)) (by kernel_rfl) (by kernel_rfl) (by kernel_rfl) (NW.door_met os _)) ?_
  intro W base args ds gs before hval0 hW hcnd hsz0 hL hsh _
  have hsz : (DataW.weightsEach Tryd.prog (Tryd.f3.params.toList ++ Rows.showShowsSpec.plain.varTypes Tryd.prog) (ds ++ gs)).all (· ≤ reachBytes) = true := hsz0
  have hM : NW.PowOk W := NW.powOk_of hL
  have hval : ∀ (j : Nat) t v, Tryd.f3.params[j]? = some t → args[j]? = some v → Value.okWide Tryd.prog W .any base t v := hval0
  have hW' := hW
  obtain ⟨p, q, hA0, hV, rfl, hfz, hnd⟩ := hW
  have hA : DataW.TrodAll enc Tryd.prog W 0 (fun _ => true) true Tryd.f3.params.toList args.toList ds p := hA0
  rw [Tryd.params3] at hA hval hsz
  obtain ⟨v0, vs0, d0, ds0, p0, q0, hargs, rfl, rfl, h0, r0⟩ := trodAll_cons hA
  obtain ⟨v1, vs1, d1, ds1, p1, q1, rfl, rfl, rfl, h1, r1⟩ := trodAll_cons r0
  obtain ⟨rfl, rfl, rfl⟩ := trodAll_nil r1
  obtain rfl : args = #[v0, v1] := by cases args; simp_all
  obtain ⟨rfl, rfl⟩ := trodVars_none hV
  have k0 := h0
  have lt0 : ∀ x ∈ p0, x.block < W.heap.size := fun x hx => hW'.lt x (by simp [hx])
  obtain ⟨fl0, hf0⟩ := h0
  obtain ⟨ao0, len0, cap0, rfl⟩ := okWide_slice Tryd.underlying22 (hval 0 22 v0 rfl rfl)
  obtain ⟨A0, c0, l0, ec0, D0, B0, Q0, M0⟩ := NW.trC NW.W24 Tryd.underlying22 NW.cz24 NW.tr24 hf0
  have ec0' : [Value.slice ao0 len0 cap0] = _ := ec0
  simp only [List.cons.injEq, Value.slice.injEq, and_true] at ec0'
  obtain ⟨rfl, rfl, rfl⟩ := ec0'
  have k1 := h1
  have lt1 : ∀ x ∈ p1, x.block < W.heap.size := fun x hx => hW'.lt x (by simp [hx])
  obtain ⟨fl1, hf1⟩ := h1
  obtain ⟨cs1, rfl, cz1⟩ := okWide_struct Tryd.underlying24 (hval 1 24 v1 rfl rfl)
  obtain ⟨cl1⟩ := cs1
  obtain ⟨x1, ec1, Q1⟩ := NW.tr24 hf1
  have ec1' : cl1 = _ := PS.k24_open ec1
  subst ec1'
  clear hA0 hval0 hsz0 hsz
  refine (NW.showShows_calls ao0 cap0 l0 x1 W hM B0 (fun x hx => ⟨(NW.u8_b (Q0 x hx).1).1, NW.i64_b (Q0 x hx).2.1⟩) ⟨(NW.u8_b Q1.1).1, NW.i64_b Q1.2.1⟩).mono fun e W' ⟨he, bel⟩ => ?_
  subst he
  exact ⟨_, rfl, _, _, _, [], _, [], hW', trodAll_mk1 (shut_bool Tryd.underlying4 _), (trodAll_cons_mk (Below.trod NW.laidOut (by kernel_rfl) (of_decide_eq_true (by kernel_rfl)) k0 bel lt0) (trodAll_cons_mk (Below.trod NW.laidOut (by kernel_rfl) (of_decide_eq_true (by kernel_rfl)) k1 bel lt1) trodAll_mk0)), rfl, bel.frame _, fun h => by cases h⟩
theorem over : Rows.showShowsRow.holds Tryd.pinned (OpenSpec.ofChange Rows.showShowsSpec) :=
  OpenClaim.holds_of_wide 3 Tryd.f3 rfl rfl rfl rfl rfl rfl rfl ⟨rfl, rfl, rfl, rfl, rfl⟩ rfl rfl rfl rfl rfl (by kernel_rfl) Tryd.func3 (by kernel_rfl)
    (of_decide_eq_true (by kernel_rfl)) (by unfold Func.isWrapper; first | (rw [if_pos (by decide +kernel)]; kernel_rfl) | (rw [if_neg (by decide +kernel)]; exact ⟨rfl, rfl⟩))
    (fun os started H enc _ => lifted os started H enc)
theorem carded : Rows.ShowShowsCardSaid :=
  Claim7.holds_tied_plain_at .later [] [.data, .data, .data] true (true, "14adee8524042bdb8869355e02901cec76a2007e62545a28767c8d3389c5bc51") false
    over (fun _ h => by cases h) (by kernel_rfl) (fun _ h => by cases h) showShows_row_tie rfl ⟨rfl, rfl⟩ (by kernel_rfl) rfl
    (fun f fn hf hfn => by
      obtain rfl : f = 3 := Option.some.inj ((show Tryd.prog.funcNamed Rows.showShowsRow.func = some 3 by kernel_rfl).symm.trans hf) |>.symm
      obtain rfl : fn = Tryd.f3 := (Option.some.inj (Tryd.func3.symm.trans hfn)).symm
      exact ⟨by kernel_rfl, fun j t ht => by
        rw [Tryd.params3] at ht
        have hm : t ∈ [22, 24] := by simpa using Array.mem_of_getElem? ht
        have hall : ([22, 24].all fun u => !Tryd.prog.wantsStandIn u) = true := by kernel_rfl
        exact (show Tryd.prog.wantsStandIn t = false by simpa using List.all_eq_true.1 hall t hm)⟩)
    (by kernel_rfl)
#print axioms carded
end Go.Proofs.YtobchfcabedmhaaDoor.showShows
namespace Go.Proofs.YtobchfcabedmhaaDoor
/-- The card, under a short name, for the claim. -/
theorem showShows_card : Rows.ShowShowsCardSaid := showShows.carded
end Go.Proofs.YtobchfcabedmhaaDoor
