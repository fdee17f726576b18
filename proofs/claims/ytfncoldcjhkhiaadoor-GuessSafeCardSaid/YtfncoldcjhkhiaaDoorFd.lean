/- A function's instructions as a graph. -/
import Derived.Test.YtfncoldcjhkhiaaDoorFc
import Derived.Test.YtfncoldcjhkhiaaDoorQd
import Derived.Test.YtfncoldcjhkhiaaDoorTl
namespace Go.Proofs.YtfncoldcjhkhiaaDoor.Pure
open Go.RowKit Go.Proofs.YtfncoldcjhkhiaaDoor.PC Go.Proofs.YtfncoldcjhkhiaaDoor.NW Go.Proofs.YtfncoldcjhkhiaaDoorW.PrintWords Go.Proofs.YtfncoldcjhkhiaaDoorW.PrintLast Go.Proofs.YtfncoldcjhkhiaaDoorW.PrintMore
set_option linter.unusedVariables false
set_option linter.unusedSimpArgs false
def endsB (op : Int) : Bool := decide (op = 11 ∨ op = 12 ∨ op = 13 ∨ op = 22)
theorem endsC (op : Int) : code_Ends.f op = some (endsB op) := by
  show (if op = 11 then (some true) else (if op = 12 then (some true) else (if op = 13 then (some true) else (some (op == 22))))) = some (endsB op)
  unfold endsB
  by_cases h1 : op = 11
  · rw [if_pos h1, decide_eq_true (.inl h1)]
  by_cases h2 : op = 12
  · rw [if_neg h1, if_pos h2, decide_eq_true (.inr (.inl h2))]
  by_cases h3 : op = 13
  · rw [if_neg h1, if_neg h2, if_pos h3, decide_eq_true (.inr (.inr (.inl h3)))]
  rw [if_neg h1, if_neg h2, if_neg h3]
  congr 1
  by_cases h4 : op = 22
  · rw [h4]; rfl
  · rw [beq_eq_false_iff_ne.2 h4, decide_eq_false (by omega)]
theorem endsR (op : Int) : sacristanref09_Ends.f op = some (endsB op) := by
  obtain ⟨b, h1, h2⟩ := ends_f (op := op)
  rw [h2, ← h1, endsC]
section
variable (l0 : List Int) (l1 : List ByteArray) (l2 : List S44) (l3 : List S41)
/-- a function's instructions as a graph -/
def grf (p : S44) : Flow.G where
  n := p.f3.length
  step a d := stepS (effS (rd_T32 p.f3 a).f0 (rd_T32 p.f3 a).f1 l0.length l1.length l2 l3).1 (effS (rd_T32 p.f3 a).f0 (rd_T32 p.f3 a).f1 l0.length l1.length l2 l3).2.1 d
  succ a := succS (rd_T32 p.f3 a).f0 (rd_T32 p.f3 a).f1 a (endsB (rd_T32 p.f3 a).f0)
variable {l0 l1 l2 l3}
theorem instrF_is (p : S44) (D T : List Int) (a : Int) : Flow.instrS (grf l0 l1 l2 l3 p) D T a = instrF p.f3.length (effS (rd_T32 p.f3 a).f0 (rd_T32 p.f3 a).f1 l0.length l1.length l2 l3).1 (effS (rd_T32 p.f3 a).f0 (rd_T32 p.f3 a).f1 l0.length l1.length l2 l3).2.1 (rd_T32 p.f3 a).f0 (rd_T32 p.f3 a).f1 (endsB (rd_T32 p.f3 a).f0) D T a := rfl
def lv (x : Int × Int × Bool) : Prop := 0 ≤ x.2.1 ∧ x.2.1 ≤ 1
theorem lv_ite {c : Prop} [Decidable c] {x y : Int × Int × Bool} (h : lv x) (k : lv y) : lv (if c then x else y) := by
  split
  · exact h
  · exact k
theorem leaves_b (op a : Int) (n0 n1 : Nat) (m2 : List S44) (m3 : List S41) : 0 ≤ (effS op a n0 n1 m2 m3).2.1 ∧ (effS op a n0 n1 m2 m3).2.1 ≤ 1 := by
  have ho : ∀ (t : Int) (b : Bool), lv (okS t 1 b) := fun t b => by unfold okS lv; cases b <;> simp
  have ho0 : ∀ (t : Int) (b : Bool), lv (okS t 0 b) := fun t b => by unfold okS lv; cases b <;> simp
  have h0 : ∀ (t : Int) (b : Bool), lv (t, 0, b) := fun t b => by unfold lv; simp
  have h1 : ∀ (t : Int) (b : Bool), lv (t, 1, b) := fun t b => by unfold lv; simp
  show lv (effS op a n0 n1 m2 m3)
  unfold effS
  repeat' (first | exact ho _ _ | exact ho0 _ _ | exact h0 _ _ | exact h1 _ _ | apply lv_ite)
theorem grf_top (p : S44) {a d e : Int} (h : (grf l0 l1 l2 l3 p).step a d = some e) : e ≤ 256 ∧ 0 ≤ e := by
  have hb := leaves_b (rd_T32 p.f3 a).f0 (rd_T32 p.f3 a).f1 l0.length l1.length l2 l3
  simp only [grf, stepS] at h
  split at h
  · injection h with h; omega
  · cases h
theorem rd32_out {l : List S32} {a : Int} (h : ¬ a.toNat < l.length) : rd_T32 l a = ⟨0, 0⟩ := by
  rw [rd_T32, List.getD_eq_getElem?_getD, List.getElem?_eq_none (by omega)]; rfl
theorem rd32_in {l : List S32} {a : Int} (h : a.toNat < l.length) : rd_T32 l a ∈ l := by
  rw [rd_T32, List.getD_eq_getElem?_getD, List.getElem?_eq_getElem h]; exact List.getElem_mem h
/-- what code.May grants of a function -/
structure Good (p : S44) : Prop where
  pos : 0 < p.f3.length
  few : p.f3.length ≤ 16384
  ups : p.f2 ≤ 200
  ins : ∀ x ∈ p.f3, insM l0 l1 l2 l3 p x = true
theorem good_of {p : S44} (h : protoS (insM l0 l1 l2 l3 p) p = true) : Good (l0 := l0) (l1 := l1) (l2 := l2) (l3 := l3) p := by
  unfold protoS at h
  split at h
  · rename_i hc
    rw [Bool.not_eq_true', List.any_eq_false] at h
    exact ⟨by omega, by omega, by omega, fun x hx => by simpa using h x hx⟩
  · cases h
theorem may_good (h : mayS (insM l0 l1 l2 l3) l0 l1 l2 l3 = true) : (∀ p ∈ l2, protoS (insM l0 l1 l2 l3 p) p = true) ∧ (∀ t ∈ l3, tabS l1 t = true) ∧ l2 ≠ [] := by
  unfold mayS at h
  split at h
  · rename_i hc
    split at h
    · simp only [Bool.and_eq_true, Bool.not_eq_true', List.any_eq_false, Bool.not_eq_true, Bool.not_eq_false'] at h
      exact ⟨fun p hp => by simpa using h.2 p hp, fun t ht => by simpa using h.1.2 t ht, hc.2⟩
    · cases h
  · cases h
theorem grf_fine {p : S44} (g : Good (l0 := l0) (l1 := l1) (l2 := l2) (l3 := l3) p) : Flow.Fine (grf l0 l1 l2 l3 p) := by
  refine ⟨g.pos, fun a d e h => (grf_top p h).2, fun a d e h => (grf_top p h).1, fun a s h0 hs => ?_⟩
  have hs' : s ∈ succS (rd_T32 p.f3 a).f0 (rd_T32 p.f3 a).f1 a (endsB (rd_T32 p.f3 a).f0) := hs
  unfold succS at hs'
  rcases List.mem_append.1 hs' with h | h
  · split at h
    · rename_i hc
      rw [List.mem_singleton] at h
      subst h
      by_cases hin : a.toNat < p.f3.length
      · have := g.ins _ (rd32_in hin)
        unfold insM insS at this
        rw [Bool.and_eq_true] at this
        have h2 := this.2
        unfold restS at h2
        rw [if_neg (by omega), if_neg (by omega), if_pos hc] at h2
        exact (of_decide_eq_true h2).1
      · rw [rd32_out hin]; decide
    · simp at h
  · split at h
    · simp at h
    · rw [List.mem_singleton] at h; omega
def tk (x : Int × Int × Bool) : Prop := x.2.2 = true → 0 ≤ x.1 ∧ x.1 ≤ 1000
theorem tk_if {c : Prop} [Decidable c] {x y : Int × Int × Bool} (h : c → tk x) (k : ¬ c → tk y) : tk (if c then x else y) := by
  split
  · rename_i hc; exact h hc
  · rename_i hc; exact k hc
theorem tk_ok {t l : Int} {b : Bool} (h : b = true → 0 ≤ t ∧ t ≤ 1000) : tk (okS t l b) := by
  unfold okS tk
  cases b with
  | true => intro _; rw [if_pos rfl]; exact h rfl
  | false => intro hh; rw [if_neg (by decide)] at hh; cases hh
theorem takesW_le (a : Int) : takesW a ≤ 2 := by
  unfold takesW takesRaw
  repeat' (first | decide | split)
theorem bI_b (b : Bool) : 0 ≤ bI b ∧ bI b ≤ 1 := by cases b <;> exact ⟨by decide, by decide⟩
theorem takes_b (hm : mayS (insM l0 l1 l2 l3) l0 l1 l2 l3 = true) (op a : Int) : tk (effS op a l0.length l1.length l2 l3) := by
  have hg := may_good hm
  have hn : ∀ (t l : Int), 0 ≤ t → t ≤ 1000 → ∀ b, tk (t, l, b) := fun t l h1 h2 b _ => ⟨h1, h2⟩
  have hp : ∀ {x : Int} {n : Nat}, placeB x n = true → 0 ≤ x ∧ x < n := fun h => of_decide_eq_true h
  unfold effS
  refine tk_if (fun _ => tk_ok fun _ => by omega) fun _ => tk_if (fun _ => tk_ok fun _ => by omega) fun _ => tk_if (fun _ => hn _ _ (by omega) (by omega) _) fun _ => tk_if (fun _ => hn _ _ (by omega) (by omega) _) fun _ =>
    tk_if (fun _ => tk_if (fun hc => tk_ok fun h0 => ?_) fun _ => hn _ _ (by omega) (by omega) _) fun _ => tk_if (fun _ => tk_ok fun h => ?_) fun _ => tk_if (fun _ => tk_ok fun h => ?_) fun _ => tk_if (fun _ => hn _ _ (by omega) (by omega) _) fun _ =>
    tk_if (fun _ => tk_ok fun h => ?_) fun _ => tk_if (fun _ => tk_ok fun _ => by omega) fun _ => tk_if (fun _ => tk_ok fun h => ?_) fun _ => tk_if (fun _ => hn _ _ (by omega) (by omega) _) fun _ => tk_if (fun _ => hn _ _ (by omega) (by omega) _) fun _ =>
    tk_if (fun _ => hn _ _ (by omega) (by omega) _) fun _ => hn _ _ (by omega) (by omega) _
  · have h1 := hp hc
    have hmem : rd_T44 l2 a ∈ l2 := by
      rw [rd_T44, List.getD_eq_getElem?_getD, List.getElem?_eq_getElem (show a.toNat < l2.length by omega)]; exact List.getElem_mem _
    have := (good_of (hg.1 _ hmem)).ups
    have h2 := of_decide_eq_true h0
    exact ⟨h2, by omega⟩
  · have := hp h; omega
  · have := hp h; omega
  · have h1 := hp h
    exact ⟨(takes_at a h1 60 (by omega)).2.1, by have := takesW_le a; omega⟩
  · have h1 := hp h
    have hmem : rd_T41 l3 a ∈ l3 := by
      rw [rd_T41, List.getD_eq_getElem?_getD, List.getElem?_eq_getElem (show a.toNat < l3.length by omega)]; exact List.getElem_mem _
    have ht := hg.2.1 _ hmem
    unfold tabS at ht
    split at ht
    · have b1 := bI_b (rd_T41 l3 a).f1
      have b2 := bI_b (rd_T41 l3 a).f2
      omega
    · cases ht
theorem reach_le {g : Flow.G} (F : Flow.Fine g) {a d : Int} (h : Flow.Reach g a d) : d ≤ 256 := by
  cases h with
  | start => decide
  | next _ _ hs _ => exact F.top _ _ _ hs
theorem jump_in {p : S44} (g : Good (l0 := l0) (l1 := l1) (l2 := l2) (l3 := l3) p) {a : Int} (h0 : 0 ≤ a) (ha : a < p.f3.length) (hc : (rd_T32 p.f3 a).f0 = 13 ∨ (rd_T32 p.f3 a).f0 = 14) : 0 ≤ (rd_T32 p.f3 a).f1 := by
  have := g.ins _ (rd32_in (show a.toNat < p.f3.length by omega))
  unfold insM insS at this
  rw [Bool.and_eq_true] at this
  have h2 := this.2
  unfold restS at h2
  rw [if_neg (by omega), if_neg (by omega), if_pos hc] at h2
  exact (of_decide_eq_true h2).1
end
end Go.Proofs.YtfncoldcjhkhiaaDoor.Pure
