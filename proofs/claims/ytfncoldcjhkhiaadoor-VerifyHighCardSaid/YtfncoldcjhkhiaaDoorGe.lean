/- So many values as may be are on a stack, plainly. -/
import Derived.Test.YtfncoldcjhkhiaaDoorGc
namespace Go.Proofs.YtfncoldcjhkhiaaDoor.Pure
open Go.RowKit Go.Proofs.YtfncoldcjhkhiaaDoor.PC Go.Proofs.YtfncoldcjhkhiaaDoor.NW Go.Proofs.YtfncoldcjhkhiaaDoorW.PrintWords Go.Proofs.YtfncoldcjhkhiaaDoorW.PrintLast Go.Proofs.YtfncoldcjhkhiaaDoorW.PrintMore
set_option linter.unusedVariables false
set_option linter.unusedSimpArgs false
theorem may_one {l2 : List S44} {p : S44} (h2 : l2 = [p]) (h0 : p.f0 = 0) (hu : p.f2 = 0) (hs : 0 < p.f1 ∧ p.f1 ≤ 256) (hn : p.f3.length ≠ 0) (hl : p.f3.length ≤ 16384) (hi : ∀ x ∈ p.f3, insM [] [] l2 [] p x = true) : mayS (insM [] [] l2 []) [] [] l2 [] = true := by
  subst h2
  unfold mayS
  rw [dif_pos ⟨by simp, by simp⟩]
  show (if p.f0 = 0 ∧ p.f2 = 0 then _ else _) = true
  rw [if_pos ⟨h0, hu⟩]
  show (!(List.any [] longB) && !(List.any [] _) && !([p].any fun q => !(protoS (insM [] [] [p] [] q) q))) = true
  have hp : protoS (insM [] [] [p] [] p) p = true := by
    unfold protoS
    rw [if_pos ⟨by omega, by omega, by omega, by omega, hn, hl⟩, Bool.not_eq_true', List.any_eq_false]
    intro x hx
    rw [hi x hx]; simp
  rw [List.any_cons, hp]
  rfl
theorem right_one {l0 : List Int} {l1 : List ByteArray} {l3 : List S41} {p : S44} (hm : mayS (insM l0 l1 [p] l3) l0 l1 [p] l3 = true) : checkS l0 l1 [p] l3 = (0, if rightB l0 l1 [p] l3 p = true then 0 else 18) := by
  cases h : rightB l0 l1 [p] l3 p with
  | true =>
    rw [if_pos rfl]
    exact check_all hm (fun j hj => by
      obtain rfl : j = 0 := by simpa using hj
      exact h)
  | false =>
    rw [if_neg (by decide)]
    exact check_bad hm (i := 0) (by simp) h (fun j hj hji => by omega)
/-! ### so many values -/
def pHigh (k : Nat) : S44 := ⟨0, 1, 0, List.replicate k ⟨3, 0⟩ ++ [⟨12, 0⟩]⟩
theorem high_len (k : Nat) : (pHigh k).f3.length = k + 1 := by simp [pHigh]
theorem high_at {k : Nat} {a : Int} (h0 : 0 ≤ a) (h : a < k) : rd_T32 (pHigh k).f3 a = ⟨3, 0⟩ := by
  rw [rd_T32, List.getD_eq_getElem?_getD]
  show ((List.replicate k (⟨3, 0⟩ : S32) ++ [⟨12, 0⟩])[a.toNat]?).getD _ = _
  rw [List.getElem?_append_left (by simp; omega), List.getElem?_replicate, if_pos (by omega)]; rfl
theorem high_end {k : Nat} : rd_T32 (pHigh k).f3 (k : Int) = ⟨12, 0⟩ := by
  rw [rd_T32, List.getD_eq_getElem?_getD]
  show ((List.replicate k (⟨3, 0⟩ : S32) ++ [⟨12, 0⟩])[(k : Int).toNat]?).getD _ = _
  rw [Int.toNat_natCast, List.getElem?_append_right (by simp)]; simp
theorem may_high {k : Nat} (hk : k ≤ 300) : mayS (insM [] [] [pHigh k] []) [] [] [pHigh k] [] = true :=
  may_one rfl rfl rfl ⟨by simp [pHigh], by simp [pHigh]⟩ (by rw [high_len]; omega) (by rw [high_len]; omega) (fun x hx => by
    have hx' : x ∈ List.replicate k (⟨3, 0⟩ : S32) ++ [⟨12, 0⟩] := hx
    rcases List.mem_append.1 hx' with h | h
    · obtain rfl := (List.mem_replicate.1 h).2
      unfold insM insS effS restS; simp
    · rw [List.mem_singleton] at h; subst h
      unfold insM insS effS restS; simp)
theorem high_stairs (k : Nat) : Flow.Stairs (grf [] [] [pHigh k] [] (pHigh k)) k := by
  refine ⟨high_len k, fun a d h0 h => ?_, fun a h0 h => ?_, fun d h0 h => ?_, ?_⟩
  · show stepS (effS (rd_T32 (pHigh k).f3 a).f0 _ _ _ _ _).1 (effS (rd_T32 (pHigh k).f3 a).f0 _ _ _ _ _).2.1 d = _
    rw [high_at h0 h]
    show (if (0 : Int) ≤ d ∧ d + (1 - 0) ≤ 256 then some (d + (1 - 0)) else none) = _
    rfl
  · show succS (rd_T32 (pHigh k).f3 a).f0 _ a (endsB (rd_T32 (pHigh k).f3 a).f0) = _
    rw [high_at h0 h]
    rfl
  · show stepS (effS (rd_T32 (pHigh k).f3 k).f0 _ _ _ _ _).1 (effS (rd_T32 (pHigh k).f3 k).f0 _ _ _ _ _).2.1 d = _
    rw [high_end]
    show (if (1 : Int) ≤ d ∧ d + (0 - 1) ≤ 256 then some (d + (0 - 1)) else none) = _
    rw [if_pos ⟨h0, by omega⟩]; rfl
  · show succS (rd_T32 (pHigh k).f3 k).f0 _ k (endsB (rd_T32 (pHigh k).f3 k).f0) = _
    rw [high_end]
    rfl
theorem high_check {k : Nat} (h1 : 1 ≤ k) (hk : k ≤ 300) : checkS [] [] [pHigh k] [] = (0, if k ≤ 256 then 0 else 18) := by
  rw [right_one (may_high hk)]
  have := (high_stairs k).right h1
  by_cases h : k ≤ 256
  · rw [if_pos (rightB_iff.2 (this.2 h)), if_pos h]
  · rw [if_neg (fun e => h (this.1 (rightB_iff.1 e))), if_neg h]
end Go.Proofs.YtfncoldcjhkhiaaDoor.Pure
