/- Whether a place is among some, plainly. -/
import Derived.Test.YtfncoldcjhkhiaaDoorKa
namespace Go.Proofs.YtfncoldcjhkhiaaDoor.Pure
open Go.RowKit Go.Proofs.YtfncoldcjhkhiaaDoor.PC Go.Proofs.YtfncoldcjhkhiaaDoor.NW Go.Proofs.YtfncoldcjhkhiaaDoorW.PrintWords Go.Proofs.YtfncoldcjhkhiaaDoorW.PrintLast Go.Proofs.YtfncoldcjhkhiaaDoorW.PrintMore
set_option linter.unusedVariables false
set_option linter.unusedSimpArgs false
section
variable {l0 : List Int} {l1 : List ByteArray} {l2 : List S44} {l3 : List S41}
theorem has_of {a : Int} (h : depthsS l0 l1 l2 l3 a ≠ []) : hasD l0 l1 l2 l3 a (depthsS l0 l1 l2 l3 a) := by
  by_cases hx : ∃ D, hasD l0 l1 l2 l3 a D
  · obtain ⟨D, hD⟩ := hx
    rw [depths_of hD]; exact hD
  · exact absurd (depths_no fun D hD => hx ⟨D, hD⟩) h
theorem AtF.eff {p : S44} {a : Int} {s st : List Bool} (F : AtF p a s st) (hf : FitM l0 l1 l2 l3) (hp : p ∈ l2) : (rd_T32 p.f3 a).f0 = 16 → ∃ k l ok, code_Effect.f k l0 l1 l2 l3 (rd_T32 p.f3 a).f0 (rd_T32 p.f3 a).f1 = some (takesW (rd_T32 p.f3 a).f1, l, ok) := fun h => by
  refine ⟨0 + 20, 1, true, ?_⟩
  rw [codeEff l0 l1 l2 l3 _ _ 0 hf.f (hf.a p hp _ (rd32_in (by have := F.lo; have := F.hi; omega))), h]
  have e0 : effS 16 (rd_T32 p.f3 a).f1 l0.length l1.length l2 l3 = okS (takesW (rd_T32 p.f3 a).f1) 1 (placeB (rd_T32 p.f3 a).f1 32) := by unfold effS; simp
  rw [e0, (F.word h).1]
  rfl
theorem good_f1 {p : S44} (h : protoS (insM l0 l1 l2 l3 p) p = true) : p.f0 < p.f1 ∧ p.f1 ≤ 256 := by
  unfold protoS at h
  split at h
  · rename_i hc; exact ⟨hc.2.2.1, hc.2.2.2.1⟩
  · cases h
end
end Go.Proofs.YtfncoldcjhkhiaaDoor.Pure
