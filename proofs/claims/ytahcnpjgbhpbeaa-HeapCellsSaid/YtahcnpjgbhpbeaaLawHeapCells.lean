/- What is set in one cell is in that one alone, and pairs keep what they have: for every number and every value. -/
import Derived.Test.YtahcnpjgbhpbeaaRows
import Derived.Test.YtahcnpjgbhpbeaaHj
import Derived.WalkKit
import Derived.ProofKit
import Derived.OpenShut
import Derived.ShutString
import Derived.ChangeOld
import Derived.Below
import Derived.SizedLaws
import Derived.Lib.SmallJoins
import Derived.Carry
namespace Go.Proofs.Ytahcnpjgbhpbeaa.heapCells
open Go.ChangeShapes Go.WideShapes Go.ChangeAt Go.RowKit Go.Joins
open Go.ChangeMaps (open_string shut_string)
set_option linter.unusedVariables false
theorem own : ownKnob Try.prog.godebug = none := by kernel_rfl
theorem laidOut : laidOutB Try.prog = true := by kernel_rfl
theorem cells26 : Try.prog.cellsOf 26 = 3 := by kernel_rfl
set_option maxRecDepth 100000 in
theorem lifted (os : Os) (started : os.Started) (H : Type) (enc : TypeId × Value → H) :
    ReturnsInHanded {} Try.checked os 5 .any (Rows.heapCellsSpec.pre6 enc Try.prog Try.f5 Rows.heapCellsRow.domain false) (Rows.heapCellsSpec.post enc Try.prog Try.f5 false true false false) := by
  refine returnsInHanded_of_change_sized (C := Try.checked) own started (by kernel_rfl) Try.func5
    (ChangeSpec.witness6 (enc := enc) (C := Try.checked) false ⟨#[], #[.int .u8 0, .int .u8 0, .agg #[.int .u8 0, .int .i64 0, .string ByteArray.empty], .agg #[.int .u8 0, .int .i64 0, .string ByteArray.empty]], []⟩ 8 (by kernel_rfl) (by kernel_rfl) (by kernel_rfl) (by kernel_rfl)) ?_
  intro W base args ds gs before hval0 hW hcnd hsz0 _
  have hsz : (DataW.weightsEach Try.prog (Try.f5.params.toList ++ Rows.heapCellsSpec.plain.varTypes Try.prog) (ds ++ gs)).all (· ≤ reachBytes) = true := hsz0
  have hval : ∀ (j : Nat) t v, Try.f5.params[j]? = some t → args[j]? = some v → Value.okWide Try.prog W .any base t v := hval0
  have hW' := hW
  obtain ⟨p, q, hA0, hV, rfl, hfz, hnd⟩ := hW
  have hA : DataW.TrodAll enc Try.prog W 0 (fun _ => true) true Try.f5.params.toList args.toList ds p := hA0
  rw [Try.params5] at hA hval hsz
  obtain ⟨v0, vs0, d0, ds0, p0, q0, hargs, rfl, rfl, h0, r0⟩ := trodAll_cons hA
  obtain ⟨v1, vs1, d1, ds1, p1, q1, rfl, rfl, rfl, h1, r1⟩ := trodAll_cons r0
  obtain ⟨v2, vs2, d2, ds2, p2, q2, rfl, rfl, rfl, h2, r2⟩ := trodAll_cons r1
  obtain ⟨v3, vs3, d3, ds3, p3, q3, rfl, rfl, rfl, h3, r3⟩ := trodAll_cons r2
  obtain ⟨rfl, rfl, rfl⟩ := trodAll_nil r3
  obtain rfl : args = #[v0, v1, v2, v3] := by cases args; simp_all
  obtain ⟨rfl, rfl⟩ := trodVars_none hV
  obtain ⟨a0, rfl, rfl, rfl, w0⟩ := open_int Try.underlying5 (hval 0 5 v0 rfl rfl) h0
  obtain ⟨a1, rfl, rfl, rfl, w1⟩ := open_int Try.underlying5 (hval 1 5 v1 rfl rfl) h1
  have k2 := h2
  have lt2 : ∀ x ∈ p2, x.block < W.heap.size := fun x hx => hW'.lt x (by simp [hx])
  obtain ⟨c2_0, c2_1, c2_2, y2_0, y2_1, y2_2, n2, rfl, hd2, hp2, t2_0, t2_1, t2_2⟩ := open_agg3 Try.underlying26 (by kernel_rfl) cells26 (hval 2 26 v2 rfl rfl) h2
  obtain ⟨x2_0, e2_0, z2_0, w2_0⟩ := DataW.trod_int Try.underlying5 t2_0
  obtain ⟨x2_1, e2_1, z2_1, w2_1⟩ := DataW.trod_int Try.underlying2 t2_1
  obtain ⟨x2_2, e2_2, z2_2, w2_2⟩ := DataW.trod_string Try.underlying9 t2_2
  simp only [List.cons.injEq, and_true] at e2_0 e2_1 e2_2
  subst e2_0 e2_1 e2_2
  have k3 := h3
  have lt3 : ∀ x ∈ p3, x.block < W.heap.size := fun x hx => hW'.lt x (by simp [hx])
  obtain ⟨c3_0, c3_1, c3_2, y3_0, y3_1, y3_2, n3, rfl, hd3, hp3, t3_0, t3_1, t3_2⟩ := open_agg3 Try.underlying26 (by kernel_rfl) cells26 (hval 3 26 v3 rfl rfl) h3
  obtain ⟨x3_0, e3_0, z3_0, w3_0⟩ := DataW.trod_int Try.underlying5 t3_0
  obtain ⟨x3_1, e3_1, z3_1, w3_1⟩ := DataW.trod_int Try.underlying2 t3_1
  obtain ⟨x3_2, e3_2, z3_2, w3_2⟩ := DataW.trod_string Try.underlying9 t3_2
  simp only [List.cons.injEq, and_true] at e3_0 e3_1 e3_2
  subst e3_0 e3_1 e3_2
  clear hA0 hval0 hsz0 hsz
  refine (HP.HeapCells_calls W a0 a1 x2_0 x2_1 x3_0 x3_1 x2_2 x3_2 w0 w1).mono fun e W' ⟨he, bel⟩ => ?_
  subst he
  exact ⟨_, rfl, _, _, _, [], _, [], hW', trodAll_mk1 (shut_bool Try.underlying4 _), (trodAll_cons_mk (shut_int Try.underlying5 w0) (trodAll_cons_mk (shut_int Try.underlying5 w1) (trodAll_cons_mk (Below.trod laidOut (by kernel_rfl) (of_decide_eq_true (by kernel_rfl)) k2 bel lt2) (trodAll_cons_mk (Below.trod laidOut (by kernel_rfl) (of_decide_eq_true (by kernel_rfl)) k3 bel lt3) trodAll_mk0)))), rfl, bel.frame _, fun h => by cases h⟩
theorem over : Rows.heapCellsRow.holds Try.pinned (OpenSpec.ofChange Rows.heapCellsSpec) :=
  OpenClaim.holds_of_wide 5 Try.f5 rfl rfl rfl rfl rfl rfl rfl ⟨rfl, rfl, rfl, rfl, rfl⟩ rfl rfl rfl rfl rfl (by kernel_rfl) Try.func5 (by kernel_rfl)
    (of_decide_eq_true (by kernel_rfl)) (by unfold Func.isWrapper; first | (rw [if_pos (by decide +kernel)]; kernel_rfl) | (rw [if_neg (by decide +kernel)]; exact ⟨rfl, rfl⟩))
    (fun os started H enc _ => lifted os started H enc)
theorem proved : Rows.HeapCellsSaid := over
#print axioms proved
end Go.Proofs.Ytahcnpjgbhpbeaa.heapCells
namespace Go.Proofs.Ytahcnpjgbhpbeaa
/-- The row, under a short name, for the claim. -/
theorem heapCells_holds : Rows.HeapCellsSaid := heapCells.proved
end Go.Proofs.Ytahcnpjgbhpbeaa
