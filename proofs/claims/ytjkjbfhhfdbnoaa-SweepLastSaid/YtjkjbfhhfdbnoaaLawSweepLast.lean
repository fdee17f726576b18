/- In a block that was swept each InstConst and InstMove is read behind it: for every block. -/
import Derived.Test.YtjkjbfhhfdbnoaaRows
import Derived.Test.YtjkjbfhhfdbnoaaSe
import Derived.Test.YtjkjbfhhfdbnoaaSc
import Derived.Test.YtjkjbfhhfdbnoaaPBx18
import Derived.Test.YtjkjbfhhfdbnoaaShelf
import Derived.WalkKit
import Derived.ProofKit
import Derived.OpenShut
import Derived.ShutString
import Derived.ChangeOld
import Derived.Below
import Derived.SizedLaws
import Derived.HandedShaped
import Derived.Lib.SmallJoins
import Derived.Carry
namespace Go.Proofs.Ytjkjbfhhfdbnoaa.sweepLast
open Go.ChangeShapes Go.WideShapes Go.ChangeAt Go.RowKit Go.Joins
open Go.ChangeMaps (open_string shut_string)
set_option linter.unusedVariables false
set_option linter.unusedSimpArgs false
theorem own : ownKnob Try.prog.godebug = none := by kernel_rfl
theorem laidOut : laidOutB Try.prog = true := by kernel_rfl
set_option maxRecDepth 100000 in
theorem lifted (os : Os) (started : os.Started) (H : Type) (enc : TypeId × Value → H) :
    ReturnsInHanded {} Try.checked os 6 .any (Rows.sweepLastSpec.pre6 enc Try.prog Try.f6 Rows.sweepLastRow.domain false) (Rows.sweepLastSpec.post enc Try.prog Try.f6 false true false false) := by
  refine returnsInHanded_of_change_shaped (C := Try.checked) own started (by kernel_rfl) Try.func6
    (ChangeSpec.witness6 (enc := enc) (C := Try.checked) false ⟨#[], #[.agg #[.int .i64 0, .int .i64 0, .int .i64 0, .slice none 0 0, .int .i64 0, .slice none 0 0, .slice none 0 0, .int .i64 0, .int .i64 0, .int .i64 0]], []⟩ 8 (by kernel_rfl) (by kernel_rfl) (by kernel_rfl) (by kernel_rfl)) ?_
  intro W base args ds gs before hval0 hW hcnd hsz0 hsh _
  have hM : NW.MaxOk W := Try.laysM143.s1_3 W hsh
  have hval : ∀ (j : Nat) t v, Try.f6.params[j]? = some t → args[j]? = some v → Value.okWide Try.prog W .any base t v := hval0
  have hW' := hW
  obtain ⟨p, q, hA0, hV, rfl, hfz, hnd⟩ := hW
  have hA : DataW.TrodAll enc Try.prog W 0 (fun _ => true) true Try.f6.params.toList args.toList ds p := hA0
  rw [Try.params6] at hA hval
  obtain ⟨v0, vs0, d0, ds0, p0, q0, hargs, rfl, rfl, h0, r0⟩ := trodAll_cons hA
  obtain ⟨rfl, rfl, rfl⟩ := trodAll_nil r0
  obtain rfl : args = #[v0] := by cases args; simp_all
  obtain ⟨rfl, rfl⟩ := trodVars_none hV
  have k0 := h0
  have lt0 : ∀ x ∈ p0, x.block < W.heap.size := fun x hx => hW'.lt x (by simp [hx])
  obtain ⟨fl0, hf0⟩ := h0
  obtain ⟨cs0, rfl, cz0⟩ := okWide_struct Try.underlying25 (hval 0 25 v0 rfl rfl)
  obtain ⟨cl0⟩ := cs0
  obtain ⟨z0_0, z0_1, z0_2, A0_3, c0_3, l0_3, z0_4, A0_5, c0_5, l0_5, A0_6, c0_6, l0_6, z0_7, z0_8, z0_9, ec0, B0, Q0⟩ := NW.tr25 hf0
  have ec0' : cl0 = _ := ec0
  subst ec0'
  clear hA0 hval0 hsz0
  refine ((show Calls Try.prog 6 #[.agg #[.int .i64 z0_0, .int .i64 z0_1, .int .i64 z0_2, .slice A0_3 l0_3.length c0_3, .int .i64 z0_4, .slice A0_5 l0_5.length c0_5, .slice A0_6 l0_6.length c0_6, .int .i64 z0_7, .int .i64 z0_8, .int .i64 z0_9]] W (fun e w' => e = .returned (.bool true) ∧ Below W.heap.size W w') from by obtain ⟨k, hk⟩ := Pure.SweepLast z0_0 z0_1 z0_2 l0_3 z0_4 l0_5 l0_6 z0_7 z0_8 z0_9; exact PB.sacristanlaw18_SweepLast.calls k _ _ _ _ _ _ _ _ _ _ _ _ _ _ _ _ true W B0.r3 B0.c3 B0.r5 B0.c5 B0.r6 B0.c6 hM hk)).mono fun e W' ⟨he, bel⟩ => ?_
  subst he
  exact ⟨_, rfl, _, _, _, [], _, [], hW', trodAll_mk1 (shut_bool Try.underlying4 _), (trodAll_cons_mk (Below.trod laidOut (by kernel_rfl) (of_decide_eq_true (by kernel_rfl)) k0 bel lt0) trodAll_mk0), rfl, bel.frame _, fun h => by cases h⟩
theorem over : Rows.sweepLastRow.holds Try.pinned (OpenSpec.ofChange Rows.sweepLastSpec) :=
  OpenClaim.holds_of_wide 6 Try.f6 rfl rfl rfl rfl rfl rfl rfl ⟨rfl, rfl, rfl, rfl, rfl⟩ rfl rfl rfl rfl rfl (by kernel_rfl) Try.func6 (by kernel_rfl)
    (of_decide_eq_true (by kernel_rfl)) (by unfold Func.isWrapper; first | (rw [if_pos (by decide +kernel)]; kernel_rfl) | (rw [if_neg (by decide +kernel)]; exact ⟨rfl, rfl⟩))
    (fun os started H enc _ => lifted os started H enc)
theorem proved : Rows.SweepLastSaid := over
#print axioms proved
end Go.Proofs.Ytjkjbfhhfdbnoaa.sweepLast
namespace Go.Proofs.Ytjkjbfhhfdbnoaa
/-- The row, under a short name, for the claim. -/
theorem sweepLast_holds : Rows.SweepLastSaid := sweepLast.proved
end Go.Proofs.Ytjkjbfhhfdbnoaa
