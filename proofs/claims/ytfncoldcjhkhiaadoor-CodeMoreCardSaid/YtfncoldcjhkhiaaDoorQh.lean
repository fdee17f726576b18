/- A module with a number, a text, a table and a function more, plainly. -/
import Derived.Test.YtfncoldcjhkhiaaDoorQf
namespace Go.Proofs.YtfncoldcjhkhiaaDoor.Pure
open Go.RowKit Go.Proofs.YtfncoldcjhkhiaaDoor.PC Go.Proofs.YtfncoldcjhkhiaaDoor.NW Go.Proofs.YtfncoldcjhkhiaaDoorW.PrintWords Go.Proofs.YtfncoldcjhkhiaaDoorW.PrintLast Go.Proofs.YtfncoldcjhkhiaaDoorW.PrintMore
set_option linter.unusedVariables false
set_option linter.unusedSimpArgs false
def tNew : S41 := ⟨[], false, false⟩
def pNew : S44 := ⟨0, 1, 0, [⟨3, 0⟩]⟩
theorem okS_ok (t l : Int) (b : Bool) : (okS t l b).2.2 = b := by unfold okS; cases b <;> rfl
theorem place_more {a : Int} {n : Nat} (h : placeB a n = true) : placeB a (n + 1) = true := by
  unfold placeB at h ⊢
  have := of_decide_eq_true h
  exact decide_eq_true (by omega)
theorem place_moreL {α : Type} {a : Int} {l : List α} {x : α} (h : placeB a l.length = true) : placeB a (l ++ [x]).length = true := by
  rw [List.length_append]
  exact place_more h
theorem rd44_more {l : List S44} {a : Int} {x : S44} (h : placeB a l.length = true) : rd_T44 (l ++ [x]) a = rd_T44 l a := by
  have := of_decide_eq_true h
  rw [rd_T44, rd_T44, List.getD_eq_getElem?_getD, List.getD_eq_getElem?_getD, List.getElem?_append_left (by omega)]
theorem eff_more {op a : Int} {n0 n1 : Nat} {l2 : List S44} {l3 : List S41} {p : S44} {t : S41} (h : (effS op a n0 n1 l2 l3).2.2 = true) : (effS op a (n0 + 1) (n1 + 1) (l2 ++ [p]) (l3 ++ [t])).2.2 = true := by
  unfold effS at h ⊢
  by_cases c1 : op = 1
  · rw [if_pos c1, okS_ok] at h ⊢; exact place_more h
  rw [if_neg c1] at h ⊢
  by_cases c2 : op = 2
  · rw [if_pos c2, okS_ok] at h ⊢; exact place_more h
  rw [if_neg c2] at h ⊢
  by_cases c3 : op = 3 ∨ op = 4 ∨ op = 5 ∨ op = 6 ∨ op = 8
  · rw [if_pos c3]
  rw [if_neg c3] at h ⊢
  by_cases c4 : op = 7 ∨ op = 12 ∨ op = 14 ∨ op = 15
  · rw [if_pos c4]
  rw [if_neg c4] at h ⊢
  by_cases c5 : op = 9
  · rw [if_pos c5] at h ⊢
    by_cases e : placeB a l2.length = true
    · rw [if_pos e, okS_ok] at h
      rw [if_pos (place_moreL e), okS_ok, rd44_more e]
      exact h
    · rw [if_neg e] at h; cases h
  rw [if_neg c5] at h ⊢
  by_cases c6 : op = 10
  · rw [if_pos c6, okS_ok] at h ⊢; exact h
  rw [if_neg c6] at h ⊢
  by_cases c7 : op = 11
  · rw [if_pos c7, okS_ok] at h ⊢; exact h
  rw [if_neg c7] at h ⊢
  by_cases c8 : op = 13
  · rw [if_pos c8]
  rw [if_neg c8] at h ⊢
  by_cases c9 : op = 16
  · rw [if_pos c9, okS_ok] at h ⊢; exact h
  rw [if_neg c9] at h ⊢
  by_cases d1 : op = 17
  · rw [if_pos d1, okS_ok] at h ⊢; exact place_more h
  rw [if_neg d1] at h ⊢
  by_cases d2 : op = 18
  · rw [if_pos d2, okS_ok] at h ⊢; exact place_moreL h
  rw [if_neg d2] at h ⊢
  by_cases d3 : op = 19 ∨ op = 20
  · rw [if_pos d3]
  rw [if_neg d3] at h ⊢
  by_cases d4 : op = 21
  · rw [if_pos d4]
  rw [if_neg d4] at h ⊢
  by_cases d5 : op = 22
  · rw [if_pos d5]
  rw [if_neg d5] at h
  cases h
section
variable {l0 : List Int} {l1 : List ByteArray} {l2 : List S44} {l3 : List S41} (n : Int) (s : ByteArray)
theorem ins_more {p : S44} {x : S32} (h : insM l0 l1 l2 l3 p x = true) : insM (l0 ++ [n]) (l1 ++ [s]) (l2 ++ [pNew]) (l3 ++ [tNew]) p x = true := by
  unfold insM insS at h ⊢
  rw [Bool.and_eq_true] at h ⊢
  refine ⟨?_, h.2⟩
  rw [List.length_append, List.length_append]
  exact eff_more h.1
theorem proto_more {p : S44} (h : protoS (insM l0 l1 l2 l3 p) p = true) : protoS (insM (l0 ++ [n]) (l1 ++ [s]) (l2 ++ [pNew]) (l3 ++ [tNew]) p) p = true := by
  unfold protoS at h ⊢
  split at h
  · rename_i hc
    rw [if_pos hc]
    rw [Bool.not_eq_true', List.any_eq_false] at h ⊢
    intro x hx
    have := h x hx
    simp only [Bool.not_eq_true, Bool.not_eq_false'] at this ⊢
    exact ins_more n s this
  · cases h
theorem proto_new : protoS (insM (l0 ++ [n]) (l1 ++ [s]) (l2 ++ [pNew]) (l3 ++ [tNew]) pNew) pNew = true := by
  have e : insM (l0 ++ [n]) (l1 ++ [s]) (l2 ++ [pNew]) (l3 ++ [tNew]) pNew ⟨3, 0⟩ = true := by
    unfold insM insS effS restS
    simp
  unfold protoS
  rw [if_pos (by simp [pNew])]
  show (!([(⟨3, 0⟩ : S32)].any fun x => !(insM (l0 ++ [n]) (l1 ++ [s]) (l2 ++ [pNew]) (l3 ++ [tNew]) pNew x))) = true
  rw [List.any_cons, e]
  rfl
theorem inT_more {a : Int} (h : inT l1 a = true) : inT (l1 ++ [s]) a = true := by
  unfold inT at h ⊢
  have := of_decide_eq_true h
  exact decide_eq_true (by rw [List.length_append]; simp; omega)
theorem txt_more {ops : List Int} {j : Nat} (h : inT l1 (ops.getD j 0) = true) : txt (l1 ++ [s]) ops j = txt l1 ops j := by
  unfold txt
  unfold inT at h
  have := of_decide_eq_true h
  generalize ops.getD j 0 = a at this ⊢
  rw [rdOf, rdOf, List.getD_eq_getElem?_getD, List.getD_eq_getElem?_getD, List.getElem?_append_left (by omega)]
theorem tab_more {t : S41} (h : tabS l1 t = true) : tabS (l1 ++ [s]) t = true := by
  classical
  rw [tab_fine] at h ⊢
  have h := of_decide_eq_true h
  refine decide_eq_true ⟨h.1, fun i hi hl => ⟨inT_more s (h.2 i hi hl).1, fun j hj => ?_⟩⟩
  rw [txt_more s (h.2 i hi hl).1, txt_more s (h.2 j (by omega) (by omega)).1]
  exact (h.2 i hi hl).2 j hj
theorem tab_new : tabS (l1 ++ [s]) tNew = true := by
  classical
  rw [tab_fine]
  exact decide_eq_true ⟨by simp [tNew], fun i _ hl => by simp [tNew] at hl⟩
theorem may_more (h : mayS (insM l0 l1 l2 l3) l0 l1 l2 l3 = true) (hs : s.size ≤ 1000) (h0 : l0.length ≤ 300) (h1 : l1.length ≤ 300) (h2 : l2.length ≤ 300) (h3 : l3.length ≤ 300) :
    mayS (insM (l0 ++ [n]) (l1 ++ [s]) (l2 ++ [pNew]) (l3 ++ [tNew])) (l0 ++ [n]) (l1 ++ [s]) (l2 ++ [pNew]) (l3 ++ [tNew]) = true := by
  unfold mayS at h ⊢
  split at h
  · rename_i hc
    have hne : l2 ++ [pNew] ≠ [] := by simp
    have hd : (l2 ++ [pNew]).head hne = l2.head hc.2 := List.head_append_of_ne_nil hc.2
    rw [dif_pos ⟨by simp only [List.length_append, List.length_cons, List.length_nil]; omega, hne⟩, hd]
    split at h
    · rename_i hz
      rw [if_pos hz]
      rw [Bool.and_eq_true, Bool.and_eq_true] at h ⊢
      have g1 : ∀ x ∈ l1, longB x = false := by simpa using h.1.1
      have g2 : ∀ x ∈ l3, tabS l1 x = true := by simpa using h.1.2
      have g3 : ∀ x ∈ l2, protoS (insM l0 l1 l2 l3 x) x = true := by simpa using h.2
      refine ⟨⟨?_, ?_⟩, ?_⟩
      · rw [Bool.not_eq_true', List.any_eq_false]
        intro x hx
        rcases List.mem_append.1 hx with hx | hx
        · rw [g1 x hx]; decide
        · rw [List.mem_singleton] at hx; subst hx
          unfold longB; rw [decide_eq_false (by omega)]; decide
      · rw [Bool.not_eq_true', List.any_eq_false]
        intro x hx
        rcases List.mem_append.1 hx with hx | hx
        · rw [tab_more s (g2 x hx)]; decide
        · rw [List.mem_singleton] at hx; subst hx
          rw [tab_new s]; decide
      · rw [Bool.not_eq_true', List.any_eq_false]
        intro x hx
        rcases List.mem_append.1 hx with hx | hx
        · rw [proto_more n s (g3 x hx)]; decide
        · rw [List.mem_singleton] at hx; subst hx
          rw [proto_new n s]; decide
    · cases h
  · cases h
theorem same_more : sameS l0 l1 l2 l3 (l0 ++ [n]) (l1 ++ [s]) (l2 ++ [pNew]) (l3 ++ [tNew]) = false := by
  unfold sameS
  rw [dq_f (p := l0 = l0 ++ [n]) (fun e => by have := congrArg List.length e; simp at this)]
  rfl
theorem fit_more (h : FitM l0 l1 l2 l3) (h0 : l0.length ≤ 300) (h1 : l1.length ≤ 300) (h2 : l2.length ≤ 300) (h3 : l3.length ≤ 300) : FitM (l0 ++ [n]) (l1 ++ [s]) (l2 ++ [pNew]) (l3 ++ [tNew]) := by
  refine ⟨⟨fun t ht => ?_⟩, fun p hp x hx => ?_, by simp; omega, by simp; omega, by simp; omega, by simp; omega, fun p hp => ?_⟩
  · rcases List.mem_append.1 ht with ht | ht
    · exact h.f.ops t ht
    · rw [List.mem_singleton] at ht; subst ht; simp [tNew]
  · rcases List.mem_append.1 hp with hp | hp
    · exact h.a p hp x hx
    · rw [List.mem_singleton] at hp; subst hp
      simp only [pNew, List.mem_singleton] at hx
      subst hx
      exact ⟨by decide, by decide⟩
  · rcases List.mem_append.1 hp with hp | hp
    · exact h.c p hp
    · rw [List.mem_singleton] at hp; subst hp; simp [pNew]
end
end Go.Proofs.YtfncoldcjhkhiaaDoor.Pure
