/- The reference's depths are the graph's. -/
import Derived.Test.YtfncoldcjhkhiaaDoorGa
namespace Go.Proofs.YtfncoldcjhkhiaaDoor.Pure
open Go.RowKit Go.Proofs.YtfncoldcjhkhiaaDoor.PC Go.Proofs.YtfncoldcjhkhiaaDoor.NW Go.Proofs.YtfncoldcjhkhiaaDoorW.PrintWords Go.Proofs.YtfncoldcjhkhiaaDoorW.PrintLast Go.Proofs.YtfncoldcjhkhiaaDoorW.PrintMore
set_option linter.unusedVariables false
set_option linter.unusedSimpArgs false
section
variable {l0 : List Int} {l1 : List ByteArray} {l2 : List S44} {l3 : List S41}
theorem zero_get {n i : Nat} (h : i < (Flow.zero_ n).length) : (Flow.zero_ n)[i] = if i = 0 then 0 else -1 := by
  have h' : i < n := by unfold Flow.zero_ at h; simpa using h
  have e : (Flow.zero_ n)[i]? = some (if i = 0 then 0 else -1) := by
    unfold Flow.zero_
    rw [List.getElem?_set, List.length_replicate]
    by_cases h0 : i = 0
    · rw [if_pos h0.symm, if_pos (by omega), if_pos h0]
    · rw [if_neg (fun e => h0 e.symm), List.getElem?_replicate, if_pos h', if_neg h0]
  rw [List.getElem?_eq_getElem h] at e
  exact Option.some.inj e
theorem dep_l0 (p : S44) (hn : p.f3.length ≤ 16384) (r : List Int × Bool) (h1 : Ev (fun k => sacristanref11_Depths.l1 k (Flow.zero_ p.f3.length) l0 l1 l2 l3 p.f0 p.f1 p.f2 p.f3) r) : ∀ (d i : Nat), p.f3.length - i = d → i ≤ p.f3.length →
    Ev (fun k => sacristanref11_Depths.l0 k ((Flow.zero_ p.f3.length).take i) (p.f3.length : Int) (i : Int) l0 l1 l2 l3 p.f0 p.f1 p.f2 p.f3) r := by
  have hz : (Flow.zero_ p.f3.length).length = p.f3.length := by unfold Flow.zero_; rw [List.length_set, List.length_replicate]
  intro d
  induction d with
  | zero =>
    intro i hd hi
    refine h1.succ fun k hk => ?_
    unfold sacristanref11_Depths.l0
    rw [if_neg (by omega), List.take_of_length_le (by omega)]
    exact hk
  | succ d ih =>
    intro i hd hi
    have hlt : i < (Flow.zero_ p.f3.length).length := by omega
    have ht : (Flow.zero_ p.f3.length).take (i + 1) = (Flow.zero_ p.f3.length).take i ++ [if i = 0 then 0 else -1] := by
      rw [List.take_add_one, List.getElem?_eq_getElem hlt, zero_get hlt]; rfl
    have hi1 := ih (i + 1) (by omega) (by omega)
    rw [ht] at hi1
    have hl : ((Flow.zero_ p.f3.length).take i).length = i := by rw [List.length_take]; omega
    refine hi1.succ fun k hk => ?_
    unfold sacristanref11_Depths.l0
    rw [if_pos (by omega), w64s (by omega) (by omega)]
    by_cases h0 : i = 0
    · rw [if_pos h0] at hk
      rw [if_pos (by omega), if_pos (by omega)]
      exact hk
    · rw [if_neg h0] at hk
      rw [if_neg (by omega), if_pos (by omega)]
      exact hk
/-- THE REFERENCE's DEPTHS -/
theorem ref_depths (hf : FitM l0 l1 l2 l3) (hm : mayS (insM l0 l1 l2 l3) l0 l1 l2 l3 = true) (a : Int) (ha : 0 ≤ a ∧ a < l2.length) :
    Ev (fun k => sacristanref11_Depths.f k l0 l1 l2 l3 a) (depthsS l0 l1 l2 l3 a, rightB l0 l1 l2 l3 (rd_T44 l2 a)) := by
  have hp := rd44_in ha.1 ha.2
  have hg := good_of ((may_good hm).1 _ hp)
  obtain ⟨r, hA, hE⟩ := dep_l1 (rd_T44 l2 a) hf hp hm _ _ (Nat.le_refl _) (Flow.Known.first _ (grf_fine hg))
  have h0 := dep_l0 (rd_T44 l2 a) hg.few r hE _ 0 rfl (by omega)
  have e : r = (depthsS l0 l1 l2 l3 a, rightB l0 l1 l2 l3 (rd_T44 l2 a)) := by
    rcases hA with ⟨h1, h2, h3⟩ | ⟨h1, h2, h3⟩
    · refine Prod.ext (depths_of ⟨ha, hm, h2, h3⟩).symm ?_
      rw [h1]; exact (rightB_iff.2 h2).symm
    · refine Prod.ext ?_ ?_
      · rw [h2]; exact (depths_no fun D hD => h3 hD.2.2.1).symm
      · rw [h1]
        show false = rightB l0 l1 l2 l3 (rd_T44 l2 a)
        cases hb : rightB l0 l1 l2 l3 (rd_T44 l2 a) with
        | false => rfl
        | true => exact absurd (rightB_iff.1 hb) h3
  rw [e] at h0
  refine h0.map fun k hk => ?_
  show sacristanref11_Depths.f k l0 l1 l2 l3 a = _
  unfold sacristanref11_Depths.f
  rw [if_pos ha.1, if_pos ha.2]
  exact hk
end
end Go.Proofs.YtfncoldcjhkhiaaDoor.Pure
