/- A module that has a number, a text and a copy of one of its functions more, plainly. -/
import Derived.Test.YtfncoldcjhkhiaaDoorGh
namespace Go.Proofs.YtfncoldcjhkhiaaDoor.Pure
open Go.RowKit Go.Proofs.YtfncoldcjhkhiaaDoor.PC Go.Proofs.YtfncoldcjhkhiaaDoor.NW Go.Proofs.YtfncoldcjhkhiaaDoorW.PrintWords Go.Proofs.YtfncoldcjhkhiaaDoorW.PrintLast Go.Proofs.YtfncoldcjhkhiaaDoorW.PrintMore
set_option linter.unusedVariables false
set_option linter.unusedSimpArgs false
/-! ### a module that has a number, a text and a copy of one of its functions more -/
theorem v_okS (t l : Int) (b : Bool) : (okS t l b).2.2 = b := by unfold okS; cases b <;> rfl
theorem v_place {a : Int} {n m : Nat} (hnm : n ≤ m) (h : placeB a n = true) : placeB a m = true := by
  unfold placeB at h ⊢
  have := of_decide_eq_true h
  exact decide_eq_true (by omega)
theorem v_rd {l : List S44} {a : Int} {x : S44} (h : placeB a l.length = true) : rd_T44 (l ++ [x]) a = rd_T44 l a := by
  have := of_decide_eq_true h
  rw [rd_T44, rd_T44, List.getD_eq_getElem?_getD, List.getD_eq_getElem?_getD, List.getElem?_append_left (by omega)]
theorem eff_same {op a : Int} {n0 n1 : Nat} {l2 : List S44} {l3 : List S41} {q : S44} (h : (effS op a n0 n1 l2 l3).2.2 = true) : effS op a (n0 + 1) (n1 + 1) (l2 ++ [q]) l3 = effS op a n0 n1 l2 l3 := by
  have hp : ∀ (t l : Int) {x : Int} {n m : Nat}, n ≤ m → (okS t l (placeB x n)).2.2 = true → okS t l (placeB x m) = okS t l (placeB x n) := fun t l x n m hnm h => by
    rw [v_okS] at h
    rw [h, v_place hnm h]
  unfold effS at h ⊢
  by_cases c1 : op = 1
  · rw [if_pos c1] at h ⊢; rw [if_pos c1]; exact hp _ _ (by omega) h
  rw [if_neg c1] at h ⊢
  rw [if_neg c1]
  by_cases c2 : op = 2
  · rw [if_pos c2] at h ⊢; rw [if_pos c2]; exact hp _ _ (by omega) h
  rw [if_neg c2] at h ⊢
  rw [if_neg c2]
  by_cases c3 : op = 3 ∨ op = 4 ∨ op = 5 ∨ op = 6 ∨ op = 8
  · rw [if_pos c3, if_pos c3]
  rw [if_neg c3] at h ⊢
  rw [if_neg c3]
  by_cases c4 : op = 7 ∨ op = 12 ∨ op = 14 ∨ op = 15
  · rw [if_pos c4, if_pos c4]
  rw [if_neg c4] at h ⊢
  rw [if_neg c4]
  by_cases c5 : op = 9
  · rw [if_pos c5] at h ⊢
    rw [if_pos c5]
    by_cases e : placeB a l2.length = true
    · rw [if_pos e, if_pos (v_place (by simp) e), v_rd e]
    · rw [if_neg e] at h; cases h
  rw [if_neg c5] at h ⊢
  rw [if_neg c5]
  by_cases c6 : op = 10
  · rw [if_pos c6, if_pos c6]
  rw [if_neg c6] at h ⊢
  rw [if_neg c6]
  by_cases c7 : op = 11
  · rw [if_pos c7, if_pos c7]
  rw [if_neg c7] at h ⊢
  rw [if_neg c7]
  by_cases c8 : op = 13
  · rw [if_pos c8, if_pos c8]
  rw [if_neg c8] at h ⊢
  rw [if_neg c8]
  by_cases c9 : op = 16
  · rw [if_pos c9, if_pos c9]
  rw [if_neg c9] at h ⊢
  rw [if_neg c9]
  by_cases d1 : op = 17
  · rw [if_pos d1] at h ⊢; rw [if_pos d1]; exact hp _ _ (by omega) h
  rw [if_neg d1, if_neg d1]
section
variable {l0 : List Int} {l1 : List ByteArray} {l2 : List S44} {l3 : List S41} (n : Int) (s : ByteArray) {q : S44}
theorem v_ins {p : S44} {x : S32} (h : insM l0 l1 l2 l3 p x = true) : insM (l0 ++ [n]) (l1 ++ [s]) (l2 ++ [q]) l3 p x = true := by
  unfold insM insS at h ⊢
  rw [Bool.and_eq_true] at h ⊢
  refine ⟨?_, h.2⟩
  rw [List.length_append, List.length_append]
  show (effS x.f0 x.f1 (l0.length + 1) (l1.length + 1) (l2 ++ [q]) l3).2.2 = true
  rw [eff_same h.1]
  exact h.1
theorem v_proto {p : S44} (h : protoS (insM l0 l1 l2 l3 p) p = true) : protoS (insM (l0 ++ [n]) (l1 ++ [s]) (l2 ++ [q]) l3 p) p = true := by
  unfold protoS at h ⊢
  split at h
  · rename_i hc
    rw [if_pos hc]
    rw [Bool.not_eq_true', List.any_eq_false] at h ⊢
    intro x hx
    have := h x hx
    simp only [Bool.not_eq_true, Bool.not_eq_false'] at this ⊢
    exact v_ins n s this
  · cases h
theorem v_inT {a : Int} (h : inT l1 a = true) : inT (l1 ++ [s]) a = true := by
  unfold inT at h ⊢
  have := of_decide_eq_true h
  exact decide_eq_true (by rw [List.length_append]; simp; omega)
theorem v_txt {ops : List Int} {j : Nat} (h : inT l1 (ops.getD j 0) = true) : txt (l1 ++ [s]) ops j = txt l1 ops j := by
  unfold txt
  unfold inT at h
  have := of_decide_eq_true h
  generalize ops.getD j 0 = a at this ⊢
  rw [rdOf, rdOf, List.getD_eq_getElem?_getD, List.getD_eq_getElem?_getD, List.getElem?_append_left (by omega)]
theorem v_tab {t : S41} (h : tabS l1 t = true) : tabS (l1 ++ [s]) t = true := by
  classical
  rw [tab_fine] at h ⊢
  have h := of_decide_eq_true h
  refine decide_eq_true ⟨h.1, fun i hi hl => ⟨v_inT s (h.2 i hi hl).1, fun j hj => ?_⟩⟩
  rw [v_txt s (h.2 i hi hl).1, v_txt s (h.2 j (by omega) (by omega)).1]
  exact (h.2 i hi hl).2 j hj
theorem v_may (h : mayS (insM l0 l1 l2 l3) l0 l1 l2 l3 = true) (hq : q ∈ l2) (hs : s.size ≤ 1000) (h0 : l0.length ≤ 300) (h1 : l1.length ≤ 300) (h2 : l2.length ≤ 300) (h3 : l3.length ≤ 300) :
    mayS (insM (l0 ++ [n]) (l1 ++ [s]) (l2 ++ [q]) l3) (l0 ++ [n]) (l1 ++ [s]) (l2 ++ [q]) l3 = true := by
  unfold mayS at h ⊢
  split at h
  · rename_i hc
    have hne : l2 ++ [q] ≠ [] := by simp
    have hd : (l2 ++ [q]).head hne = l2.head hc.2 := List.head_append_of_ne_nil hc.2
    rw [dif_pos ⟨by simp only [List.length_append, List.length_cons, List.length_nil]; omega, hne⟩, hd]
    split at h
    · rename_i hz
      rw [if_pos hz]
      rw [Bool.and_eq_true, Bool.and_eq_true] at h ⊢
      have g1 : ∀ x ∈ l1, longB x = false := by simpa using h.1.1
      have g2 : ∀ x ∈ l3, tabS l1 x = true := by simpa using h.1.2
      have g3 : ∀ x ∈ l2, protoS (insM l0 l1 l2 l3 x) x = true := by simpa using h.2
      refine ⟨⟨?_, ?_⟩, ?_⟩
      · rw [Bool.not_eq_true', List.any_eq_false]
        intro x hx
        rcases List.mem_append.1 hx with hx | hx
        · rw [g1 x hx]; decide
        · rw [List.mem_singleton] at hx; subst hx
          unfold longB; rw [decide_eq_false (by omega)]; decide
      · rw [Bool.not_eq_true', List.any_eq_false]
        intro x hx
        rw [v_tab s (g2 x hx)]; decide
      · rw [Bool.not_eq_true', List.any_eq_false]
        intro x hx
        have hx' : x ∈ l2 := by
          rcases List.mem_append.1 hx with hx | hx
          · exact hx
          · rw [List.mem_singleton] at hx; rw [hx]; exact hq
        rw [v_proto n s (g3 x hx')]; decide
    · cases h
  · cases h
theorem v_right {p : S44} (hm : mayS (insM l0 l1 l2 l3) l0 l1 l2 l3 = true) (hm' : mayS (insM (l0 ++ [n]) (l1 ++ [s]) (l2 ++ [q]) l3) (l0 ++ [n]) (l1 ++ [s]) (l2 ++ [q]) l3 = true) (hp : p ∈ l2) (h : rightB l0 l1 l2 l3 p = true) : rightB (l0 ++ [n]) (l1 ++ [s]) (l2 ++ [q]) l3 p = true := by
  have hg := good_of ((may_good hm).1 p hp)
  have hg' := good_of ((may_good hm').1 p (List.mem_append_left _ hp))
  refine rightB_iff.2 (Flow.Right.of_same (grf_fine hg) (grf_fine hg') rfl (fun a d h0 hn => ?_) (fun a h0 hn => rfl) (rightB_iff.1 h))
  have hin : a.toNat < p.f3.length := by have e : (grf l0 l1 l2 l3 p).n = p.f3.length := rfl; omega
  have hi := hg.ins _ (rd32_in hin)
  unfold insM insS at hi
  rw [Bool.and_eq_true] at hi
  show stepS (effS _ _ (l0 ++ [n]).length (l1 ++ [s]).length (l2 ++ [q]) l3).1 (effS _ _ (l0 ++ [n]).length (l1 ++ [s]).length (l2 ++ [q]) l3).2.1 d = stepS _ _ d
  rw [List.length_append, List.length_append]
  show stepS (effS _ _ (l0.length + 1) (l1.length + 1) (l2 ++ [q]) l3).1 (effS _ _ (l0.length + 1) (l1.length + 1) (l2 ++ [q]) l3).2.1 d = stepS _ _ d
  rw [eff_same hi.1]
theorem check_all_of (hm : mayS (insM l0 l1 l2 l3) l0 l1 l2 l3 = true) (h : (checkS l0 l1 l2 l3).2 = 0) : ∀ p ∈ l2, rightB l0 l1 l2 l3 p = true := by
  intro p hp
  unfold checkS at h
  rw [hm, if_pos rfl] at h
  cases hf : l2.findIdx? (fun p => !rightB l0 l1 l2 l3 p) with
  | some i => rw [hf] at h; cases h
  | none =>
    rw [List.findIdx?_eq_none_iff] at hf
    simpa using hf p hp
theorem check_may (h : (checkS l0 l1 l2 l3).2 = 0) : mayS (insM l0 l1 l2 l3) l0 l1 l2 l3 = true := by
  cases hm : mayS (insM l0 l1 l2 l3) l0 l1 l2 l3 with
  | true => rfl
  | false => rw [check_no hm] at h; cases h
/-- it is right -/
theorem v_check (h : (checkS l0 l1 l2 l3).2 = 0) (hq : q ∈ l2) (hs : s.size ≤ 1000) (h0 : l0.length ≤ 300) (h1 : l1.length ≤ 300) (h2 : l2.length ≤ 300) (h3 : l3.length ≤ 300) : checkS (l0 ++ [n]) (l1 ++ [s]) (l2 ++ [q]) l3 = (0, 0) := by
  have hm := check_may h
  have hm' := v_may n s hm hq hs h0 h1 h2 h3
  refine check_all hm' fun j hj => ?_
  have hmem : (l2 ++ [q])[j] ∈ l2 := by
    have := List.getElem_mem hj
    rcases List.mem_append.1 this with h | h
    · exact h
    · rw [List.mem_singleton] at h; rw [h]; exact hq
  exact v_right n s hm hm' hmem (check_all_of hm h _ hmem)
theorem v_depths (h : (checkS l0 l1 l2 l3).2 = 0) (hq : q ∈ l2) (hs : s.size ≤ 1000) (h0 : l0.length ≤ 300) (h1 : l1.length ≤ 300) (h2 : l2.length ≤ 300) (h3 : l3.length ≤ 300) : (depthsS (l0 ++ [n]) (l1 ++ [s]) (l2 ++ [q]) l3 (l2.length : Int)).length = q.f3.length := by
  have hm := check_may h
  have hm' := v_may n s hm hq hs h0 h1 h2 h3
  have e : rd_T44 (l2 ++ [q]) (l2.length : Int) = q := by
    rw [rd_T44, Int.toNat_natCast, List.getD_eq_getElem?_getD, List.getElem?_append_right (Nat.le_refl _)]; simp
  have hr := v_right n s hm hm' hq (check_all_of hm h _ hq)
  have := (has_len (depths_right (a := (l2.length : Int)) ⟨by omega, by simp; omega⟩ hm' (by rw [e]; exact rightB_iff.1 hr))).1
  rw [this, e]
theorem v_fit (h : FitM l0 l1 l2 l3) (hq : q ∈ l2) (h0 : l0.length ≤ 300) (h1 : l1.length ≤ 300) (h2 : l2.length ≤ 300) (h3 : l3.length ≤ 300) : FitM (l0 ++ [n]) (l1 ++ [s]) (l2 ++ [q]) l3 := by
  have hsub : ∀ p, p ∈ l2 ++ [q] → p ∈ l2 := fun p hp => by
    rcases List.mem_append.1 hp with hp | hp
    · exact hp
    · rw [List.mem_singleton] at hp; rw [hp]; exact hq
  exact ⟨h.f, fun p hp x hx => h.a p (hsub p hp) x hx, by simp; omega, by simp; omega, by simp; omega, h.n3, fun p hp => h.c p (hsub p hp)⟩
end
end Go.Proofs.YtfncoldcjhkhiaaDoor.Pure
