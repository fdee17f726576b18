/- A way is safe, plainly. -/
import Derived.Test.YtfncoldcjhkhiaaDoorKc
import Derived.Test.YtfncoldcjhkhiaaDoorTE
namespace Go.Proofs.YtfncoldcjhkhiaaDoor.Pure
open Go.RowKit Go.Proofs.YtfncoldcjhkhiaaDoor.PC Go.Proofs.YtfncoldcjhkhiaaDoor.NW Go.Proofs.YtfncoldcjhkhiaaDoorW.PrintWords Go.Proofs.YtfncoldcjhkhiaaDoorW.PrintLast Go.Proofs.YtfncoldcjhkhiaaDoorW.PrintMore
set_option linter.unusedVariables false
set_option linter.unusedSimpArgs false
theorem goS_ok {op a at_ : Int} {s st : List Bool} (h : (goS op a at_ s st).ok = true) (h0 : 0 ≤ at_) (hj : op = 13 → 0 ≤ a) : (op = 22 ∧ (goS op a at_ s st).nx < 0) ∨ (pureB op a = true ∧ op ≠ 14 ∧ 0 ≤ (goS op a at_ s st).nx) := by
  have hp : ∀ {o : Int}, (1 ≤ o ∧ o ≤ 8 ∨ 13 ≤ o ∧ o ≤ 15) → pureB o a = true := fun h => by unfold pureB; rw [decide_eq_true h]; rfl
  unfold goS at h ⊢
  by_cases c6 : op = 6
  · rw [if_pos c6] at h ⊢
    exact .inr ⟨hp (by omega), by omega, show 0 ≤ at_ + 1 by omega⟩
  rw [if_neg c6] at h ⊢
  by_cases c7 : op = 7
  · rw [if_pos c7] at h ⊢
    exact .inr ⟨hp (by omega), by omega, show 0 ≤ at_ + 1 by omega⟩
  rw [if_neg c7] at h ⊢
  by_cases c15 : op = 15
  · rw [if_pos c15] at h ⊢
    exact .inr ⟨hp (by omega), by omega, show 0 ≤ at_ + 1 by omega⟩
  rw [if_neg c15] at h ⊢
  by_cases c13 : op = 13
  · rw [if_pos c13] at h ⊢
    exact .inr ⟨hp (by omega), by omega, hj c13⟩
  rw [if_neg c13] at h ⊢
  by_cases c22 : op = 22
  · rw [if_pos c22] at h ⊢
    exact .inl ⟨c22, show (-1 : Int) < 0 by decide⟩
  rw [if_neg c22] at h ⊢
  by_cases c16 : op = 16
  · rw [if_pos c16] at h ⊢
    refine .inr ⟨?_, by omega, show 0 ≤ at_ + 1 by omega⟩
    have h' : (pureW a && freeS st (takesW a).toNat) = true := h
    rw [Bool.and_eq_true] at h'
    unfold pureB
    rw [decide_eq_true c16, h'.1]
    simp
  rw [if_neg c16] at h ⊢
  by_cases c8 : 1 ≤ op ∧ op ≤ 8
  · rw [if_pos c8] at h ⊢
    exact .inr ⟨hp (by omega), by omega, show 0 ≤ at_ + 1 by omega⟩
  rw [if_neg c8] at h
  cases h
/-- in the midst of a way -/
def Mid (p : S44) (x : Int) : Prop := (0 ≤ x ∧ x < p.f3.length) ∧ pureB (rd_T32 p.f3 x).f0 (rd_T32 p.f3 x).f1 = true ∧ (rd_T32 p.f3 x).f0 ≠ 14
def End_ (p : S44) (x : Int) : Prop := (0 ≤ x ∧ x < p.f3.length) ∧ (rd_T32 p.f3 x).f0 = 22
section
variable {l0 : List Int} {l1 : List ByteArray} {l2 : List S44} {l3 : List S41}
theorem way_safe {p : S44} (hm : mayS (insM l0 l1 l2 l3) l0 l1 l2 l3 = true) (g : Good (l0 := l0) (l1 := l1) (l2 := l2) (l3 := l3) p) (hR : Flow.Right (grf l0 l1 l2 l3 p)) : ∀ (f : Nat) (wy : List Int) (at_ : Int) (s st : List Bool) (l : List Int), At (l0 := l0) (l1 := l1) (l2 := l2) (l3 := l3) p at_ s st → wy.Nodup → (∀ x ∈ wy, Mid p x) → wayL p f wy at_ s st = (l, true) →
    ∃ wy' z, l = wy' ++ [z] ∧ (∀ x ∈ wy', Mid p x) ∧ End_ p z ∧ l.Nodup ∧ l.length ≤ wy.length + f ∧ (∃ r, wy ++ [at_] ++ r = l) := by
  intro f
  induction f with
  | zero => intro wy at_ s st l _ _ _ h; rw [wayL] at h; cases h
  | succ f ih =>
    intro wy at_ s st l hAt hn hmid h
    obtain ⟨F, hnx⟩ := At.facts hm g hR hAt
    rw [wayL] at h
    by_cases hc : wy.contains at_ = true
    · rw [if_pos hc] at h; cases h
    rw [if_neg hc] at h
    have hni : at_ ∉ wy := fun hx => hc (List.contains_iff_mem.2 hx)
    have hnd : (wy ++ [at_]).Nodup := by
      rw [List.nodup_append]
      exact ⟨hn, by simp, fun x hx y hy e => by rw [List.mem_singleton] at hy; subst hy; subst e; exact hni hx⟩
    by_cases hok : (goP p at_ s st).ok = false
    · rw [if_pos hok] at h
      split at h <;> cases h
    rw [if_neg hok] at h
    have hok' : (goP p at_ s st).ok = true := by simpa using hok
    rcases goS_ok (op := (rd_T32 p.f3 at_).f0) (a := (rd_T32 p.f3 at_).f1) (s := s) (st := st) hok' F.lo F.jump with ⟨h22, hneg⟩ | ⟨hpu, h14, hpos⟩
    · rw [if_pos (show (goP p at_ s st).nx < 0 from hneg)] at h
      injection h with h
      subst h
      exact ⟨wy, at_, rfl, hmid, ⟨⟨F.lo, F.hi⟩, h22⟩, hnd, by simp, [], by simp⟩
    · rw [if_neg (show ¬ (goP p at_ s st).nx < 0 from by have : 0 ≤ (goP p at_ s st).nx := hpos; omega)] at h
      obtain ⟨wy', z, h1, h2, h3, h4, h5, r, h6⟩ := ih _ _ _ _ _ (hnx hok' hpos) hnd (fun x hx => by
        rcases List.mem_append.1 hx with hx | hx
        · exact hmid x hx
        · rw [List.mem_singleton] at hx; subst hx; exact ⟨⟨F.lo, F.hi⟩, hpu, h14⟩) h
      refine ⟨wy', z, h1, h2, h3, h4, ?_, ⟨[(goP p at_ s st).nx] ++ r, by rw [← h6]; simp⟩⟩
      rw [List.length_append] at h5
      simp only [List.length_cons, List.length_nil] at h5
      omega
theorem wayS_true {a : Int} (h : (wayS l0 l1 l2 l3 a).2 = true) : hasD l0 l1 l2 l3 a (depthsS l0 l1 l2 l3 a) ∧ (rd_T44 l2 a).f0 = 2 ∧ wayL (rd_T44 l2 a) 200 [] 0 (slots0 (rd_T44 l2 a)) [] = ((wayS l0 l1 l2 l3 a).1, true) := by
  unfold wayS at h ⊢
  by_cases hr : (refWay l0 l1 l2 l3 a).2 = true
  · rw [if_pos hr]
    unfold refWay at hr ⊢
    by_cases hc : depthsS l0 l1 l2 l3 a ≠ [] ∧ (rd_T44 l2 a).f0 = 2
    · rw [if_pos hc] at hr ⊢
      exact ⟨has_of hc.1, hc.2, Prod.ext rfl hr⟩
    · rw [if_neg hc] at hr; cases hr
  · rw [if_neg hr] at h; cases h
theorem wayS_false {a : Int} (h : (wayS l0 l1 l2 l3 a).2 = false) : wayS l0 l1 l2 l3 a = ([], false) := by
  unfold wayS at h ⊢
  by_cases hr : (refWay l0 l1 l2 l3 a).2 = true
  · rw [if_pos hr] at h; rw [hr] at h; cases h
  · rw [if_neg hr]
end
end Go.Proofs.YtfncoldcjhkhiaaDoor.Pure
