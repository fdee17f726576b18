/- A block of instructions that may not keep it from going through goes through: for every block, all slots and stacks. -/
import Derived.Test.YtjkjbfhhfdbnoaaRows
import Derived.Test.YtjkjbfhhfdbnoaaTp
import Derived.Test.YtjkjbfhhfdbnoaaShelf
import Derived.WalkKit
import Derived.ProofKit
import Derived.OpenShut
import Derived.ShutString
import Derived.ChangeOld
import Derived.Below
import Derived.SizedLaws
import Derived.HandedShaped
import Derived.Lib.SmallJoins
import Derived.Carry
namespace Go.Proofs.Ytjkjbfhhfdbnoaa.irFails
open Go.ChangeShapes Go.WideShapes Go.ChangeAt Go.RowKit Go.Joins
open Go.ChangeMaps (open_string shut_string)
set_option linter.unusedVariables false
set_option linter.unusedSimpArgs false
theorem own : ownKnob Try.prog.godebug = none := by kernel_rfl
theorem laidOut : laidOutB Try.prog = true := by kernel_rfl
set_option maxRecDepth 100000 in
theorem lifted (os : Os) (started : os.Started) (H : Type) (enc : TypeId × Value → H) :
    ReturnsInHanded {} Try.checked os 11 .any (Rows.irFailsSpec.pre6 enc Try.prog Try.f11 Rows.irFailsRow.domain false) (Rows.irFailsSpec.post enc Try.prog Try.f11 false true false false) := by
  refine returnsInHanded_of_change_shaped (C := Try.checked) own started (by kernel_rfl) Try.func11
    (ChangeSpec.witness6 (enc := enc) (C := Try.checked) false ⟨#[], #[.agg #[.int .i64 0, .int .i64 0, .int .i64 0, .slice none 0 0, .int .i64 0, .slice none 0 0, .slice none 0 0, .int .i64 0, .int .i64 0, .int .i64 0], .slice none 0 0, .slice none 0 0], []⟩ 8 (by kernel_rfl) (by kernel_rfl) (by kernel_rfl) (by kernel_rfl)) ?_
  intro W base args ds gs before hval0 hW hcnd hsz0 hsh _
  have hM : NW.MaxOk W := Try.laysM143.s1_3 W hsh
  have hval : ∀ (j : Nat) t v, Try.f11.params[j]? = some t → args[j]? = some v → Value.okWide Try.prog W .any base t v := hval0
  have hW' := hW
  obtain ⟨p, q, hA0, hV, rfl, hfz, hnd⟩ := hW
  have hA : DataW.TrodAll enc Try.prog W 0 (fun _ => true) true Try.f11.params.toList args.toList ds p := hA0
  rw [Try.params11] at hA hval
  obtain ⟨v0, vs0, d0, ds0, p0, q0, hargs, rfl, rfl, h0, r0⟩ := trodAll_cons hA
  obtain ⟨v1, vs1, d1, ds1, p1, q1, rfl, rfl, rfl, h1, r1⟩ := trodAll_cons r0
  obtain ⟨v2, vs2, d2, ds2, p2, q2, rfl, rfl, rfl, h2, r2⟩ := trodAll_cons r1
  obtain ⟨rfl, rfl, rfl⟩ := trodAll_nil r2
  obtain rfl : args = #[v0, v1, v2] := by cases args; simp_all
  obtain ⟨rfl, rfl⟩ := trodVars_none hV
  have k0 := h0
  have lt0 : ∀ x ∈ p0, x.block < W.heap.size := fun x hx => hW'.lt x (by simp [hx])
  obtain ⟨fl0, hf0⟩ := h0
  obtain ⟨cs0, rfl, cz0⟩ := okWide_struct Try.underlying25 (hval 0 25 v0 rfl rfl)
  obtain ⟨cl0⟩ := cs0
  obtain ⟨z0_0, z0_1, z0_2, A0_3, c0_3, l0_3, z0_4, A0_5, c0_5, l0_5, A0_6, c0_6, l0_6, z0_7, z0_8, z0_9, ec0, B0, Q0⟩ := NW.tr25 hf0
  have ec0' : cl0 = _ := ec0
  subst ec0'
  have k1 := h1
  have lt1 : ∀ x ∈ p1, x.block < W.heap.size := fun x hx => hW'.lt x (by simp [hx])
  obtain ⟨fl1, hf1⟩ := h1
  obtain ⟨ao1, len1, cap1, rfl⟩ := okWide_slice Try.underlying26 (hval 1 26 v1 rfl rfl)
  obtain ⟨A1, c1, l1, ec1, D1, B1, Q1, M1⟩ := NW.trC NW.W37 Try.underlying26 NW.cz37 NW.tr37 hf1
  have ec1' : [Value.slice ao1 len1 cap1] = _ := ec1
  simp only [List.cons.injEq, Value.slice.injEq, and_true] at ec1'
  obtain ⟨rfl, rfl, rfl⟩ := ec1'
  have k2 := h2
  have lt2 : ∀ x ∈ p2, x.block < W.heap.size := fun x hx => hW'.lt x (by simp [hx])
  obtain ⟨fl2, hf2⟩ := h2
  obtain ⟨ao2, len2, cap2, rfl⟩ := okWide_slice Try.underlying26 (hval 2 26 v2 rfl rfl)
  obtain ⟨A2, c2, l2, ec2, D2, B2, Q2, M2⟩ := NW.trC NW.W37 Try.underlying26 NW.cz37 NW.tr37 hf2
  have ec2' : [Value.slice ao2 len2 cap2] = _ := ec2
  simp only [List.cons.injEq, Value.slice.injEq, and_true] at ec2'
  obtain ⟨rfl, rfl, rfl⟩ := ec2'
  clear hA0 hval0 hsz0
  refine (NW.irFails_calls z0_0 z0_1 z0_2 A0_3 c0_3 l0_3 z0_4 A0_5 c0_5 l0_5 A0_6 c0_6 l0_6 z0_7 z0_8 z0_9 ao1 cap1 l1 ao2 cap2 l2 W ⟨B0, B1, D1, B2, D2, NW.nil_C none, Nat.le_refl _, NW.nil_C54 none, Nat.le_refl _, fun x hx => PW.I64.of_wf (Q0 x hx).2.2.2.2.2.2.1, fun x hx => PW.I64.of_wf (Q1 x hx).2.1, fun x hx => PW.I64.of_wf (Q2 x hx).2.1, fun x hx => absurd hx (by simp), fun x hx => absurd hx (by simp), fun x hx => absurd hx (by simp)⟩ hM).mono fun e W' ⟨he, bel⟩ => ?_
  subst he
  exact ⟨_, rfl, _, _, _, [], _, [], hW', trodAll_mk1 (shut_bool Try.underlying4 _), (trodAll_cons_mk (Below.trod laidOut (by kernel_rfl) (of_decide_eq_true (by kernel_rfl)) k0 bel lt0) (trodAll_cons_mk (Below.trod laidOut (by kernel_rfl) (of_decide_eq_true (by kernel_rfl)) k1 bel lt1) (trodAll_cons_mk (Below.trod laidOut (by kernel_rfl) (of_decide_eq_true (by kernel_rfl)) k2 bel lt2) trodAll_mk0))), rfl, bel.frame _, fun h => by cases h⟩
theorem over : Rows.irFailsRow.holds Try.pinned (OpenSpec.ofChange Rows.irFailsSpec) :=
  OpenClaim.holds_of_wide 11 Try.f11 rfl rfl rfl rfl rfl rfl rfl ⟨rfl, rfl, rfl, rfl, rfl⟩ rfl rfl rfl rfl rfl (by kernel_rfl) Try.func11 (by kernel_rfl)
    (of_decide_eq_true (by kernel_rfl)) (by unfold Func.isWrapper; first | (rw [if_pos (by decide +kernel)]; kernel_rfl) | (rw [if_neg (by decide +kernel)]; exact ⟨rfl, rfl⟩))
    (fun os started H enc _ => lifted os started H enc)
theorem proved : Rows.IrFailsSaid := over
#print axioms proved
end Go.Proofs.Ytjkjbfhhfdbnoaa.irFails
namespace Go.Proofs.Ytjkjbfhhfdbnoaa
/-- The row, under a short name, for the claim. -/
theorem irFails_holds : Rows.IrFailsSaid := irFails.proved
end Go.Proofs.Ytjkjbfhhfdbnoaa
