/- Whether a place is among some, plainly. -/
import Derived.Test.YtfncoldcjhkhiaaDoorKb
namespace Go.Proofs.YtfncoldcjhkhiaaDoor.Pure
open Go.RowKit Go.Proofs.YtfncoldcjhkhiaaDoor.PC Go.Proofs.YtfncoldcjhkhiaaDoor.NW Go.Proofs.YtfncoldcjhkhiaaDoorW.PrintWords Go.Proofs.YtfncoldcjhkhiaaDoorW.PrintLast Go.Proofs.YtfncoldcjhkhiaaDoorW.PrintMore
set_option linter.unusedVariables false
set_option linter.unusedSimpArgs false
theorem rd_nat {l : List Int} {i : Nat} (h : i < l.length) : rd l (i : Int) = l[i] := by
  unfold rd
  simp [List.getD_eq_getElem?_getD, List.getElem?_eq_getElem h]
theorem index_l0 (wy : List Int) (x : Int) (hs : wy.length ≤ 300) : ∀ (d i : Nat), wy.length - i = d → i ≤ wy.length → ∃ r, slices_Index_int_int.l0 (d + 1) wy x (wy.length : Int) (i : Int) = some r ∧ (r ≥ 0 ↔ x ∈ wy.drop i) := by
  intro d
  induction d with
  | zero =>
    intro i hd hi
    refine ⟨-1, ?_, ?_⟩
    · rw [slices_Index_int_int.l0, if_neg (by omega)]
    · rw [List.drop_of_length_le (by omega)]
      simp
  | succ d ih =>
    intro i hd hi
    have hlt : i < wy.length := by omega
    rw [List.drop_eq_getElem_cons hlt]
    by_cases hx : x = wy[i]
    · refine ⟨(i : Int), ?_, ?_⟩
      · rw [slices_Index_int_int.l0, if_pos (by omega), if_pos (by omega), if_pos (by omega), if_pos (by rw [rd_nat hlt]; exact hx)]
      · exact ⟨fun _ => List.mem_cons.2 (.inl hx), fun _ => by omega⟩
    · obtain ⟨r, h1, h2⟩ := ih (i + 1) (by omega) (by omega)
      refine ⟨r, ?_, ?_⟩
      · rw [slices_Index_int_int.l0, if_pos (by omega), if_pos (by omega), if_pos (by omega), if_neg (by rw [rd_nat hlt]; exact hx), show wrap64 ((i : Int) + 1) = ((i + 1 : Nat) : Int) by unfold wrap64; omega]
        exact h1
      · rw [h2, List.mem_cons]; exact ⟨.inr, fun h => h.resolve_left hx⟩
theorem contains_f (wy : List Int) (x : Int) (hs : wy.length ≤ 300) : slices_Contains_int_int.f (wy.length + 1) wy x = some (wy.contains x) := by
  obtain ⟨r, h1, h2⟩ := index_l0 wy x hs wy.length 0 (by omega) (by omega)
  have h1' : slices_Index_int_int.l0 (wy.length + 1) wy x (wy.length : Int) 0 = some r := h1
  unfold slices_Contains_int_int.f slices_Index_int_int.f
  rw [h1', Option.bind_some]
  rw [List.drop_zero] at h2
  congr 1
  rw [Bool.eq_iff_iff, decide_eq_true_iff, h2, List.contains_iff_mem]
section
variable {l0 : List Int} {l1 : List ByteArray} {l2 : List S44} {l3 : List S41}
theorem has_of {a : Int} (h : depthsS l0 l1 l2 l3 a ≠ []) : hasD l0 l1 l2 l3 a (depthsS l0 l1 l2 l3 a) := by
  by_cases hx : ∃ D, hasD l0 l1 l2 l3 a D
  · obtain ⟨D, hD⟩ := hx
    rw [depths_of hD]; exact hD
  · exact absurd (depths_no fun D hD => hx ⟨D, hD⟩) h
theorem AtF.eff {p : S44} {a : Int} {s st : List Bool} (F : AtF p a s st) (hf : FitM l0 l1 l2 l3) (hp : p ∈ l2) : (rd_T32 p.f3 a).f0 = 16 → ∃ k l ok, code_Effect.f k l0 l1 l2 l3 (rd_T32 p.f3 a).f0 (rd_T32 p.f3 a).f1 = some (takesW (rd_T32 p.f3 a).f1, l, ok) := fun h => by
  refine ⟨0 + 20, 1, true, ?_⟩
  rw [codeEff l0 l1 l2 l3 _ _ 0 hf.f (hf.a p hp _ (rd32_in (by have := F.lo; have := F.hi; omega))), h]
  have e0 : effS 16 (rd_T32 p.f3 a).f1 l0.length l1.length l2 l3 = okS (takesW (rd_T32 p.f3 a).f1) 1 (placeB (rd_T32 p.f3 a).f1 32) := by unfold effS; simp
  rw [e0, (F.word h).1]
  rfl
theorem AtF.pure {p : S44} {a : Int} {s st : List Bool} (F : AtF p a s st) : (rd_T32 p.f3 a).f0 = 16 → ∃ k, guess_Pure.f k l0 l1 l2 l3 (rd_T32 p.f3 a).f0 (rd_T32 p.f3 a).f1 = some (pureW (rd_T32 p.f3 a).f1) := fun h => by
  refine ⟨60, ?_⟩
  rw [guessPure_f l0 l1 l2 l3 _ _ 60 (by omega), h]
  unfold pureB
  simp
theorem good_f1 {p : S44} (h : protoS (insM l0 l1 l2 l3 p) p = true) : p.f0 < p.f1 ∧ p.f1 ≤ 256 := by
  unfold protoS at h
  split at h
  · rename_i hc; exact ⟨hc.2.2.1, hc.2.2.2.1⟩
  · cases h
end
end Go.Proofs.YtfncoldcjhkhiaaDoor.Pure
