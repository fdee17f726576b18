/- The example, and which instructions a block may have, plainly. -/
import Derived.Test.YtfncoldcjhkhiaaDoorKd
import Derived.Test.YtfncoldcjhkhiaaDoorPCe2
namespace Go.Proofs.YtfncoldcjhkhiaaDoor.Pure
open Go.RowKit Go.Proofs.YtfncoldcjhkhiaaDoor.PC Go.Proofs.YtfncoldcjhkhiaaDoor.NW Go.Proofs.YtfncoldcjhkhiaaDoorW.PrintWords Go.Proofs.YtfncoldcjhkhiaaDoorW.PrintLast Go.Proofs.YtfncoldcjhkhiaaDoorW.PrintMore
set_option linter.unusedVariables false
set_option linter.unusedSimpArgs false
section
variable {l0 : List Int} {l1 : List ByteArray} {l2 : List S44} {l3 : List S41}
theorem refWay_of {a : Int} (ha : 0 ≤ a ∧ a < l2.length) (hm : mayS (insM l0 l1 l2 l3) l0 l1 l2 l3 = true) (hr : Flow.Right (grf l0 l1 l2 l3 (rd_T44 l2 a))) (h2 : (rd_T44 l2 a).f0 = 2) : refWay l0 l1 l2 l3 a = wayL (rd_T44 l2 a) 200 [] 0 (slots0 (rd_T44 l2 a)) [] := by
  have hD := depths_right ha hm hr
  have hne : depthsS l0 l1 l2 l3 a ≠ [] := fun e => by have := (has_len hD).2; rw [e] at this; simp at this
  unfold refWay
  exact if_pos ⟨hne, h2⟩
theorem guessWay_f (hf : FitM l0 l1 l2 l3) (hs : ∀ s ∈ l1, s.size ≤ reachBytes) (a : Int) : guess_Way.f l0 l1 l2 l3 a = some (wayS l0 l1 l2 l3 a) := by
  unfold guess_Way.f
  exact @if_pos _ (Classical.propDecidable _) ⟨hf, hs⟩ _ _ _
end
/-! the document's example -/
def pC : S44 := ⟨2, 3, 0, [⟨6, 2⟩, ⟨6, 1⟩, ⟨22, 0⟩]⟩
theorem fit_C : FitM [] [] [p0, pC] [] := by
  refine ⟨⟨fun t ht => by simp at ht⟩, fun q hq x hx => ?_, by simp, by simp, by simp, by simp, fun q hq => ?_⟩
  · simp only [List.mem_cons, List.not_mem_nil, or_false] at hq
    rcases hq with rfl | rfl
    · simp only [p0, List.mem_cons, List.not_mem_nil, or_false] at hx
      rcases hx with rfl | rfl <;> decide
    · simp only [pC, List.mem_cons, List.not_mem_nil, or_false] at hx
      rcases hx with rfl | rfl | rfl <;> decide
  · simp only [List.mem_cons, List.not_mem_nil, or_false] at hq
    rcases hq with rfl | rfl <;> decide
theorem may_C : mayS (insM [] [] [p0, pC] []) [] [] [p0, pC] [] = true := by decide +kernel
theorem line_C : Flow.Line (grf [] [] [p0, pC] [] pC) (strD 0) := by
  refine ⟨by decide, rfl, fun i hi => ?_⟩
  have hi' : i < 3 := hi
  match i, hi' with
  | 0, _ => exact ⟨1, rfl, .inr ⟨rfl, by decide, rfl⟩⟩
  | 1, _ => exact ⟨2, rfl, .inr ⟨rfl, by decide, rfl⟩⟩
  | 2, _ => exact ⟨0, rfl, .inl rfl⟩
theorem way_C : wayS [] [] [p0, pC] [] 1 = ([0, 1, 2], true) := by
  have h := refWay_of (l0 := []) (l1 := []) (l2 := [p0, pC]) (l3 := []) (a := 1) ⟨by decide, by decide⟩ may_C (show Flow.Right (grf [] [] [p0, pC] [] pC) from line_C.right) rfl
  have hw : wayL pC 200 [] 0 (slots0 pC) [] = ([0, 1, 2], true) := str_way 0 (by decide) [] (fun x hx => by simp at hx) (by decide)
  have h' : refWay [] [] [p0, pC] [] 1 = ([0, 1, 2], true) := h.trans hw
  unfold wayS
  rw [h']
  rfl
theorem awake19 : sacristanlaw19_awake.f = some true := by
  unfold sacristanlaw19_awake.f
  have h := guessWay_f fit_C (fun s hs => by simp at hs) 1
  rw [way_C] at h
  have h' : guess_Way.f ([] : List Int) ([] : List ByteArray) (([(⟨0, 1, 0, (([(⟨3, 0⟩ : S32), (⟨12, 0⟩ : S32)] : List (S32)))⟩ : S44), (⟨2, 3, 0, (([(⟨6, 2⟩ : S32), (⟨6, 1⟩ : S32), (⟨22, 0⟩ : S32)] : List (S32)))⟩ : S44)] : List (S44))) ([] : List (S41)) 1 = some ([0, 1, 2], true) := h
  rw [h', Option.bind_some]
  rfl
end Go.Proofs.YtfncoldcjhkhiaaDoor.Pure
