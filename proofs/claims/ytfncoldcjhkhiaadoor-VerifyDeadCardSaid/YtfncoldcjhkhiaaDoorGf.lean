/- What isn't reached isn't looked at, plainly. -/
import Derived.Test.YtfncoldcjhkhiaaDoorGe
namespace Go.Proofs.YtfncoldcjhkhiaaDoor.Pure
open Go.RowKit Go.Proofs.YtfncoldcjhkhiaaDoor.PC Go.Proofs.YtfncoldcjhkhiaaDoor.NW Go.Proofs.YtfncoldcjhkhiaaDoorW.PrintWords Go.Proofs.YtfncoldcjhkhiaaDoorW.PrintLast Go.Proofs.YtfncoldcjhkhiaaDoorW.PrintMore
set_option linter.unusedVariables false
set_option linter.unusedSimpArgs false
/-! ### what isn't reached isn't looked at -/
def pDead (l : List S32) : S44 := ⟨0, 3, 0, [⟨3, 0⟩, ⟨12, 0⟩] ++ l⟩
variable {l : List S32}
theorem dead_two : Flow.Two (grf [] [] [pDead l] [] (pDead l)) := by
  refine ⟨?_, rfl, rfl, rfl, rfl⟩
  show 2 ≤ ([⟨3, 0⟩, ⟨12, 0⟩] ++ l : List S32).length
  simp
theorem dead_check (hm : mayS (insM [] [] [pDead l] []) [] [] [pDead l] [] = true) : checkS [] [] [pDead l] [] = (0, 0) := by
  rw [right_one hm, if_pos (rightB_iff.2 dead_two.right)]
theorem dead_depths (hm : mayS (insM [] [] [pDead l] []) [] [] [pDead l] [] = true) : (depthsS [] [] [pDead l] [] 0).length = l.length + 2 ∧ Flow.at_ (depthsS [] [] [pDead l] [] 0) 0 = 0 ∧ Flow.at_ (depthsS [] [] [pDead l] [] 0) 1 = 1 ∧ (l ≠ [] → Flow.at_ (depthsS [] [] [pDead l] [] 0) 2 = -1) := by
  have h := depths_right (l0 := []) (l1 := []) (l2 := [pDead l]) (l3 := []) (a := 0) ⟨by decide, by simp⟩ hm (show Flow.Right (grf [] [] [pDead l] [] (pDead l)) from dead_two.right)
  have hl := (has_len h).1
  have e : (rd_T44 [pDead l] 0).f3.length = l.length + 2 := by
    show ([⟨3, 0⟩, ⟨12, 0⟩] ++ l : List S32).length = _
    simp
  have ht := dead_two.tab (has_fine h.1 hm) h.2.2.2
  refine ⟨hl.trans e, ht.1, ht.2.1, fun hne => ht.2.2 ?_⟩
  show 2 < ([⟨3, 0⟩, ⟨12, 0⟩] ++ l : List S32).length
  have : 0 < l.length := List.length_pos_iff.2 hne
  simp; omega
end Go.Proofs.YtfncoldcjhkhiaaDoor.Pure
