/- A value put on the stack and taken off again ahead of a function's code, plainly. -/
import Derived.Test.YtfncoldcjhkhiaaDoorGh
namespace Go.Proofs.YtfncoldcjhkhiaaDoor.Pure
open Go.RowKit Go.Proofs.YtfncoldcjhkhiaaDoor.PC Go.Proofs.YtfncoldcjhkhiaaDoor.NW Go.Proofs.YtfncoldcjhkhiaaDoorW.PrintWords Go.Proofs.YtfncoldcjhkhiaaDoorW.PrintLast Go.Proofs.YtfncoldcjhkhiaaDoorW.PrintMore
set_option linter.unusedVariables false
set_option linter.unusedSimpArgs false
/-! ### a value is put on the stack and taken off again ahead of a function's code -/
def shiftI (x : S32) : S32 := if x.f0 = 13 ∨ x.f0 = 14 then ⟨x.f0, x.f1 + 2⟩ else x
def qOf (p : S44) : S44 := ⟨p.f0, p.f1, p.f2, [⟨3, 0⟩, ⟨15, 0⟩] ++ p.f3.map shiftI⟩
theorem shift_op (x : S32) : (shiftI x).f0 = x.f0 := by unfold shiftI; split <;> rfl
theorem q_len (p : S44) : (qOf p).f3.length = p.f3.length + 2 := by simp [qOf]
theorem q_at {p : S44} {a : Int} (h0 : 0 ≤ a) (h : a < p.f3.length) : rd_T32 (qOf p).f3 (a + 2) = shiftI (rd_T32 p.f3 a) := by
  rw [rd_T32, rd_T32, List.getD_eq_getElem?_getD, List.getD_eq_getElem?_getD]
  show (([⟨3, 0⟩, ⟨15, 0⟩] ++ p.f3.map shiftI : List S32)[(a + 2).toNat]?).getD _ = _
  rw [show (a + 2).toNat = a.toNat + 2 by omega, List.getElem?_append_right (by simp)]
  simp only [List.length_cons, List.length_nil, Nat.add_sub_cancel]
  rw [List.getElem?_map, List.getElem?_eq_getElem (by omega)]; rfl
theorem eff_shift (x : S32) (n0 n1 : Nat) (m2 : List S44) (m3 : List S41) : effS (shiftI x).f0 (shiftI x).f1 n0 n1 m2 m3 = effS x.f0 x.f1 n0 n1 m2 m3 := by
  unfold shiftI
  split
  · rename_i h
    unfold effS
    rcases h with h | h
    · rw [h]; rfl
    · rw [h]; rfl
  · rfl
section
variable {l0 : List Int} {l1 : List ByteArray} {l2 : List S44} {l3 : List S41} {n : Nat}
theorem set_rd {q : S44} (hn : n < l2.length) (hq : q.f2 = (l2[n]).f2) (a : Int) : (rd_T44 (l2.set n q) a).f2 = (rd_T44 l2 a).f2 := by
  rw [rd_T44, rd_T44, List.getD_eq_getElem?_getD, List.getD_eq_getElem?_getD, List.getElem?_set]
  split
  · rename_i h
    rw [← h, List.getElem?_eq_getElem hn]
    first | exact hq | (rw [if_pos (by omega)]; exact hq)
  · rfl
theorem eff_set (hn : n < l2.length) (op a : Int) : effS op a l0.length l1.length (l2.set n (qOf l2[n])) l3 = effS op a l0.length l1.length l2 l3 := by
  unfold effS
  rw [List.length_set, set_rd (q := qOf l2[n]) hn rfl]
theorem ins_set (hn : n < l2.length) {p : S44} {x : S32} (h : insM l0 l1 l2 l3 p x = true) : insM l0 l1 (l2.set n (qOf l2[n])) l3 p x = true := by
  unfold insM insS at h ⊢
  rw [eff_set hn]
  exact h
theorem ins_q (hn : n < l2.length) {p : S44} {x : S32} (h : insM l0 l1 l2 l3 p x = true) : insM l0 l1 (l2.set n (qOf l2[n])) l3 (qOf p) (shiftI x) = true := by
  unfold insM insS at h ⊢
  rw [eff_shift, eff_set hn]
  rw [Bool.and_eq_true] at h ⊢
  refine ⟨h.1, ?_⟩
  have h2 := h.2
  rw [q_len]
  show restS p.f1 p.f2 (p.f3.length + 2) (shiftI x).f0 (shiftI x).f1 = true
  unfold shiftI
  split
  · rename_i hc
    show restS p.f1 p.f2 (p.f3.length + 2) x.f0 (x.f1 + 2) = true
    unfold restS at h2 ⊢
    rw [if_neg (by omega), if_neg (by omega), if_pos hc] at h2
    have h3 := of_decide_eq_true h2
    rw [if_neg (by omega), if_neg (by omega), if_pos hc]
    exact decide_eq_true (by show 0 ≤ x.f1 + 2 ∧ x.f1 + 2 < ((p.f3.length + 2 : Nat) : Int); omega)
  · rename_i hc
    unfold restS at h2 ⊢
    by_cases c1 : x.f0 = 6 ∨ x.f0 = 7
    · rw [if_pos c1] at h2 ⊢; exact h2
    rw [if_neg c1] at h2 ⊢
    by_cases c2 : x.f0 = 8
    · rw [if_pos c2] at h2 ⊢; exact h2
    rw [if_neg c2, if_neg hc] at h2 ⊢
    exact h2
theorem q_mem (hn : n < l2.length) {p : S44} (hp : p ∈ l2.set n (qOf l2[n])) : p ∈ l2 ∨ p = qOf l2[n] := by
  rcases List.mem_or_eq_of_mem_set hp with h | h
  · exact .inl h
  · exact .inr h
theorem may_q (hm : mayS (insM l0 l1 l2 l3) l0 l1 l2 l3 = true) (hn : n < l2.length) (hl : (l2[n]).f3.length + 2 ≤ 16384) : mayS (insM l0 l1 (l2.set n (qOf l2[n])) l3) l0 l1 (l2.set n (qOf l2[n])) l3 = true := by
  have hg := may_good hm
  unfold mayS at hm ⊢
  split at hm
  · rename_i hc
    have hne : l2.set n (qOf l2[n]) ≠ [] := fun e => by have := congrArg List.length e; rw [List.length_set] at this; exact hc.2 (List.eq_nil_of_length_eq_zero this)
    rw [dif_pos ⟨by rw [List.length_set]; exact hc.1, hne⟩]
    split at hm
    · rename_i hz
      have hhead : ((l2.set n (qOf l2[n])).head hne).f0 = 0 ∧ ((l2.set n (qOf l2[n])).head hne).f2 = 0 := by
        rw [List.head_eq_getElem] at hz ⊢
        rw [List.getElem_set]
        split
        · rename_i h0
          subst h0
          exact hz
        · exact hz
      rw [if_pos hhead]
      rw [Bool.and_eq_true] at hm ⊢
      refine ⟨hm.1, ?_⟩
      rw [Bool.not_eq_true', List.any_eq_false]
      intro x hx
      have hgood : protoS (insM l0 l1 (l2.set n (qOf l2[n])) l3 x) x = true := by
        rcases q_mem hn hx with h | h
        · have := hg.1 x h
          unfold protoS at this ⊢
          split at this
          · rename_i hc
            rw [if_pos hc]
            rw [Bool.not_eq_true', List.any_eq_false] at this ⊢
            intro y hy
            have := this y hy
            simp only [Bool.not_eq_true, Bool.not_eq_false'] at this ⊢
            exact ins_set hn this
          · cases this
        · have := hg.1 l2[n] (List.getElem_mem hn)
          subst h
          unfold protoS at this ⊢
          split at this
          · rename_i hc
            rw [if_pos ⟨hc.1, hc.2.1, hc.2.2.1, hc.2.2.2.1, by rw [q_len]; omega, by rw [q_len]; omega⟩]
            rw [Bool.not_eq_true', List.any_eq_false] at this ⊢
            intro y hy
            have hy' : y ∈ [⟨3, 0⟩, ⟨15, 0⟩] ++ (l2[n]).f3.map shiftI := hy
            rcases List.mem_append.1 hy' with hy' | hy'
            · simp only [List.mem_cons, List.not_mem_nil, or_false] at hy'
              rcases hy' with rfl | rfl
              · unfold insM insS effS restS; simp
              · unfold insM insS effS restS; simp
            · obtain ⟨z, hz, rfl⟩ := List.mem_map.1 hy'
              have h2 := this z hz
              simp only [Bool.not_eq_true, Bool.not_eq_false'] at h2 ⊢
              exact ins_q hn h2
          · cases this
      rw [hgood]; decide
    · cases hm
  · cases hm
theorem later_q (hn : n < l2.length) : Flow.Later (grf l0 l1 l2 l3 l2[n]) (grf l0 l1 (l2.set n (qOf l2[n])) l3 (qOf l2[n])) := by
  refine ⟨q_len _, rfl, rfl, rfl, rfl, fun a d h0 h => ?_, fun a s h0 h => ?_⟩
  · show stepS (effS (rd_T32 (qOf l2[n]).f3 (a + 2)).f0 (rd_T32 (qOf l2[n]).f3 (a + 2)).f1 _ _ _ _).1 (effS (rd_T32 (qOf l2[n]).f3 (a + 2)).f0 (rd_T32 (qOf l2[n]).f3 (a + 2)).f1 _ _ _ _).2.1 d = _
    rw [q_at h0 h, eff_shift, eff_set hn]
    rfl
  · show s ∈ succS (rd_T32 (qOf l2[n]).f3 (a + 2)).f0 (rd_T32 (qOf l2[n]).f3 (a + 2)).f1 (a + 2) (endsB (rd_T32 (qOf l2[n]).f3 (a + 2)).f0) ↔ ∃ t, t ∈ succS (rd_T32 (l2[n]).f3 a).f0 (rd_T32 (l2[n]).f3 a).f1 a (endsB (rd_T32 (l2[n]).f3 a).f0) ∧ s = t + 2
    rw [q_at h0 h, shift_op]
    generalize rd_T32 (l2[n]).f3 a = x
    have hj : (x.f0 = 13 ∨ x.f0 = 14) → (shiftI x).f1 = x.f1 + 2 := fun hc => by unfold shiftI; rw [if_pos hc]
    unfold succS
    constructor
    · intro hs
      rcases List.mem_append.1 hs with hs | hs
      · split at hs
        · rename_i hc
          rw [List.mem_singleton, hj hc] at hs
          exact ⟨x.f1, List.mem_append_left _ (by rw [if_pos hc]; simp), hs⟩
        · simp at hs
      · split at hs
        · simp at hs
        · rename_i hc
          rw [List.mem_singleton] at hs
          exact ⟨a + 1, List.mem_append_right _ (by rw [if_neg hc]; simp), by omega⟩
    · rintro ⟨t, ht, rfl⟩
      rcases List.mem_append.1 ht with ht | ht
      · split at ht
        · rename_i hc
          rw [List.mem_singleton] at ht
          subst ht
          exact List.mem_append_left _ (by rw [if_pos hc, hj hc]; simp)
        · simp at ht
      · split at ht
        · simp at ht
        · rename_i hc
          rw [List.mem_singleton] at ht
          subst ht
          exact List.mem_append_right _ (by rw [if_neg hc]; simp; omega)
theorem rd_set (hn : n < l2.length) (q : S44) : rd_T44 (l2.set n q) (n : Int) = q := by
  rw [rd_T44, Int.toNat_natCast, List.getD_eq_getElem?_getD, List.getElem?_set, if_pos rfl, if_pos hn]; rfl
/-- both have depths, or none has -/
theorem pairs_depths (hm : mayS (insM l0 l1 l2 l3) l0 l1 l2 l3 = true) (hn : n < l2.length) (hl : (l2[n]).f3.length + 2 ≤ 16384) :
    ((depthsS l0 l1 l2 l3 (n : Int)).length = 0 ∧ (depthsS l0 l1 (l2.set n (qOf l2[n])) l3 (n : Int)).length = 0) ∨ (0 < (depthsS l0 l1 l2 l3 (n : Int)).length ∧ (depthsS l0 l1 (l2.set n (qOf l2[n])) l3 (n : Int)).length = (depthsS l0 l1 l2 l3 (n : Int)).length + 2) := by
  have hm' := may_q hm hn hl
  have e1 : rd_T44 l2 (n : Int) = l2[n] := rd44 hn
  have e2 := rd_set (l2 := l2) hn (qOf l2[n])
  have hg := good_of ((may_good hm).1 _ (List.getElem_mem hn))
  have hL := (later_q (l0 := l0) (l1 := l1) (l3 := l3) hn).right (grf_fine hg)
  by_cases hr : Flow.Right (grf l0 l1 l2 l3 l2[n])
  · have h1 := has_len (depths_right (a := (n : Int)) ⟨by omega, by omega⟩ hm (by rw [e1]; exact hr))
    have h2 := has_len (depths_right (a := (n : Int)) ⟨by omega, by rw [List.length_set]; omega⟩ hm' (by rw [e2]; exact hL.1 hr))
    rw [e1] at h1
    rw [e2, q_len] at h2
    exact .inr ⟨h1.2, by rw [h2.1, h1.1]⟩
  · have h1 : depthsS l0 l1 l2 l3 (n : Int) = [] := depths_no fun D hD => hr (by have := hD.2.2.1; rw [e1] at this; exact this)
    have h2 : depthsS l0 l1 (l2.set n (qOf l2[n])) l3 (n : Int) = [] := depths_no fun D hD => hr (hL.2 (by have := hD.2.2.1; rw [e2] at this; exact this))
    rw [h1, h2]
    exact .inl ⟨rfl, rfl⟩
theorem fit_q (h : FitM l0 l1 l2 l3) (hm : mayS (insM l0 l1 l2 l3) l0 l1 l2 l3 = true) (hn : n < l2.length) : FitM l0 l1 (l2.set n (qOf l2[n])) l3 := by
  have hg := good_of ((may_good hm).1 _ (List.getElem_mem hn))
  have hfew := hg.few
  refine ⟨h.f, fun p hp x hx => ?_, h.n0, h.n1, by rw [List.length_set]; exact h.n2, h.n3, fun p hp => ?_⟩
  · rcases q_mem hn hp with hp | rfl
    · exact h.a p hp x hx
    · have hx' : x ∈ [⟨3, 0⟩, ⟨15, 0⟩] ++ (l2[n]).f3.map shiftI := hx
      rcases List.mem_append.1 hx' with hx' | hx'
      · simp only [List.mem_cons, List.not_mem_nil, or_false] at hx'
        rcases hx' with rfl | rfl <;> exact ⟨by decide, by decide⟩
      · obtain ⟨z, hz, rfl⟩ := List.mem_map.1 hx'
        have hb := h.a _ (List.getElem_mem hn) z hz
        have hi := hg.ins z hz
        unfold shiftI
        split
        · rename_i hc
          unfold insM insS at hi
          rw [Bool.and_eq_true] at hi
          have h2 := hi.2
          unfold restS at h2
          rw [if_neg (by omega), if_neg (by omega), if_pos hc] at h2
          have := of_decide_eq_true h2
          show -9223372036854775808 ≤ z.f1 + 2 ∧ z.f1 + 2 ≤ 9223372036854775807
          omega
        · exact hb
  · rcases q_mem hn hp with hp | rfl
    · exact h.c p hp
    · rw [q_len]; omega
end
end Go.Proofs.YtfncoldcjhkhiaaDoor.Pure
