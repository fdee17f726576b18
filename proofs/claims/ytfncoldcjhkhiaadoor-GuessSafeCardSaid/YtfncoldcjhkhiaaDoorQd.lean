/- The reference's May: its answer is the program's. -/
import Derived.Test.YtfncoldcjhkhiaaDoorQc
namespace Go.Proofs.YtfncoldcjhkhiaaDoor.Pure
open Go.RowKit Go.Proofs.YtfncoldcjhkhiaaDoor.PC Go.Proofs.YtfncoldcjhkhiaaDoor.NW Go.Proofs.YtfncoldcjhkhiaaDoorW.PrintWords Go.Proofs.YtfncoldcjhkhiaaDoorW.PrintLast Go.Proofs.YtfncoldcjhkhiaaDoorW.PrintMore
set_option linter.unusedVariables false
set_option linter.unusedSimpArgs false
theorem rd32 {l : List S32} {i : Nat} (h : i < l.length) : rd_T32 l (i : Int) = l[i] := by
  rw [rd_T32, List.getD_eq_getElem?_getD, show ((i : Int).toNat) = i by omega, List.getElem?_eq_getElem h]; try rfl
theorem drop_all {α : Type} {l : List α} {i : Nat} (h : i < l.length) (p : α → Bool) : (l.drop i).all p = (p l[i] && (l.drop (i + 1)).all p) := by
  rw [List.drop_eq_getElem_cons h, List.all_cons]
theorem drop_end {α : Type} {l : List α} {i : Nat} (h : l.length ≤ i) (p : α → Bool) : (l.drop i).all p = true := by
  rw [List.drop_eq_nil_of_le h]; rfl
/-- lists as long as the statements let them be, numbers as wide -/
structure FitM (l0 : List Int) (l1 : List ByteArray) (l2 : List S44) (l3 : List S41) : Prop where
  f : Fit l3
  a : ∀ p ∈ l2, ∀ x ∈ p.f3, -9223372036854775808 ≤ x.f1 ∧ x.f1 ≤ 9223372036854775807
  n0 : l0.length ≤ 140737488355328
  n1 : l1.length ≤ 140737488355328
  n2 : l2.length ≤ 140737488355328
  n3 : l3.length ≤ 140737488355328
  c : ∀ p ∈ l2, p.f3.length ≤ 140737488355328
section
variable (l0 : List Int) (l1 : List ByteArray) (l2 : List S44) (l3 : List S41)
/-- an instruction's answer -/
abbrev insM (p : S44) (x : S32) : Bool := insS l0.length l1.length l2 l3 p x
theorem instr_ev (h : FitM l0 l1 l2 l3) (p : S44) (hp : p ∈ l2) (x : S32) (hx : x ∈ p.f3) : Ev (fun k => sacristanref09_instr.f k l0 l1 l2 l3 p.f0 p.f1 p.f2 p.f3 x.f0 x.f1) (insM l0 l1 l2 l3 p x) :=
  ⟨100, fun k hk => by
    obtain ⟨k', rfl⟩ : ∃ k', k = k' + 100 := ⟨k - 100, by omega⟩
    exact instr_ref l0 l1 l2 l3 p x k' h.f (h.a p hp x hx)⟩
theorem Ev.use {α β : Type} {f : Nat → Option α} {g : Nat → Option β} {F : Nat → Option β} {r : α} {s : β} (h : Ev f r) (h' : Ev g s) (hs : ∀ k, f k = some r → g k = some s → F (k + 1) = some s) : Ev F s := by
  obtain ⟨N, h⟩ := h.both h'
  refine ⟨N + 1, fun k hk => ?_⟩
  obtain ⟨k', rfl⟩ : ∃ k', k = k' + 1 := ⟨k - 1, by omega⟩
  exact hs k' (h k' (by omega)).1 (h k' (by omega)).2
theorem may_l3 (h : FitM l0 l1 l2 l3) (p : S44) (hp : p ∈ l2) (n i : Int) (r : Bool) (hl : Ev (fun k => sacristanref09_May.l2 k n (wrap64 (i + 1)) l0 l1 l2 l3) r) : ∀ (d j : Nat), p.f3.length - j = d → j ≤ p.f3.length →
    Ev (fun k => sacristanref09_May.l3 k n i (p.f3.length : Int) (j : Int) l0 l1 l2 l3 p.f0 p.f1 p.f2 p.f3) ((p.f3.drop j).all (insM l0 l1 l2 l3 p) && r)
  | 0, j, hd, hj => by
    rw [drop_end (by omega), Bool.true_and]
    refine hl.succ fun k hk => ?_
    unfold sacristanref09_May.l3
    rw [if_neg (by omega)]
    exact hk
  | d + 1, j, hd, hj => by
    have hj' : j < p.f3.length := by omega
    have hc := h.c p hp
    have hi := instr_ev l0 l1 l2 l3 h p hp p.f3[j] (List.getElem_mem hj')
    rw [drop_all hj']
    cases hv : insM l0 l1 l2 l3 p p.f3[j] with
    | false =>
      rw [hv] at hi
      rw [Bool.false_and, Bool.false_and]
      refine hi.succ fun k hk => ?_
      unfold sacristanref09_May.l3
      rw [if_pos (by omega), if_pos (by omega), if_pos (by omega), rd32 hj', hk, Option.bind_some, if_neg (by decide)]
    | true =>
      rw [hv] at hi
      rw [Bool.true_and]
      refine Ev.use hi (may_l3 h p hp n i r hl d (j + 1) (by omega) (by omega)) fun k hk hk2 => ?_
      unfold sacristanref09_May.l3
      rw [if_pos (by omega), if_pos (by omega), if_pos (by omega), rd32 hj', hk, Option.bind_some, if_pos rfl, w64s (by omega) (by omega)]
      exact hk2
theorem j4_bad (n i : Int) (p : S44) : Ev (fun k => sacristanref09_May.j4 k n i true l0 l1 l2 l3 p.f0 p.f1 p.f2 p.f3) false :=
  Ev.now fun k => by unfold sacristanref09_May.j4; rw [if_pos rfl]
theorem may_l2 (h : FitM l0 l1 l2 l3) : ∀ (d i : Nat), l2.length - i = d → i ≤ l2.length →
    Ev (fun k => sacristanref09_May.l2 k (l2.length : Int) (i : Int) l0 l1 l2 l3) ((l2.drop i).all fun p => protoS (insM l0 l1 l2 l3 p) p)
  | 0, i, hd, hi => by
    rw [drop_end (by omega)]
    refine Ev.now fun k => ?_
    unfold sacristanref09_May.l2
    rw [if_neg (by omega)]
  | d + 1, i, hd, hi => by
    have hi' : i < l2.length := by omega
    have hn2 := h.n2
    have ih := may_l2 h d (i + 1) (by omega) (by omega)
    rw [drop_all hi']
    have hmem := List.getElem_mem hi'
    have hc := h.c _ hmem
    have hbad := j4_bad l0 l1 l2 l3 (l2.length : Int) (i : Int) l2[i]
    generalize hr : ((l2.drop (i + 1)).all fun p => protoS (insM l0 l1 l2 l3 p) p) = r at ih
    have hl3 := may_l3 l0 l1 l2 l3 h l2[i] hmem (l2.length : Int) (i : Int) r (by rw [w64s (by omega) (by omega)]; exact ih) l2[i].f3.length 0 (by omega) (by omega)
    rw [List.drop_zero] at hl3
    have hrd := rd44 hi'
    generalize l2[i] = p at *
    unfold protoS
    by_cases k1 : p.f0 < 0
    · rw [if_neg (by omega), Bool.false_and]
      refine hbad.succ fun k hk => ?_
      unfold sacristanref09_May.l2
      rw [if_pos (by omega), if_pos (by omega), if_pos (by omega), hrd, if_pos k1]
      exact hk
    by_cases k2 : p.f0 > 200
    · rw [if_neg (by omega), Bool.false_and]
      refine hbad.succ fun k hk => ?_
      unfold sacristanref09_May.l2
      rw [if_pos (by omega), if_pos (by omega), if_pos (by omega), hrd, if_neg k1, if_pos k2]
      exact hk
    by_cases k3 : p.f2 < 0
    · rw [if_neg (by omega), Bool.false_and]
      refine hbad.succ fun k hk => ?_
      unfold sacristanref09_May.l2
      rw [if_pos (by omega), if_pos (by omega), if_pos (by omega), hrd, if_neg k1, if_neg k2, if_pos k3]
      exact hk
    by_cases k4 : p.f2 > 200
    · rw [if_neg (by omega), Bool.false_and]
      refine hbad.succ fun k hk => ?_
      unfold sacristanref09_May.l2
      rw [if_pos (by omega), if_pos (by omega), if_pos (by omega), hrd, if_neg k1, if_neg k2, if_neg k3, if_pos k4]
      exact hk
    have hw : wrap64 (p.f0 + 1) = p.f0 + 1 := w64s (by omega) (by omega)
    by_cases k5 : p.f1 < p.f0 + 1
    · rw [if_neg (by omega), Bool.false_and]
      refine hbad.succ fun k hk => ?_
      unfold sacristanref09_May.l2
      rw [if_pos (by omega), if_pos (by omega), if_pos (by omega), hrd, if_neg k1, if_neg k2, if_neg k3, if_neg k4, hw, if_pos k5]
      exact hk
    by_cases k6 : p.f1 > 256
    · rw [if_neg (by omega), Bool.false_and]
      refine hbad.succ fun k hk => ?_
      unfold sacristanref09_May.l2
      rw [if_pos (by omega), if_pos (by omega), if_pos (by omega), hrd, if_neg k1, if_neg k2, if_neg k3, if_neg k4, hw, if_neg k5, if_pos k6]
      exact hk
    by_cases k7 : (p.f3.length : Int) = 0
    · rw [if_neg (by omega), Bool.false_and]
      refine hbad.succ fun k hk => ?_
      unfold sacristanref09_May.l2
      rw [if_pos (by omega), if_pos (by omega), if_pos (by omega), hrd, if_neg k1, if_neg k2, if_neg k3, if_neg k4, hw, if_neg k5, if_neg k6, if_pos k7]
      exact hk
    by_cases k8 : (p.f3.length : Int) > 16384
    · rw [if_neg (by omega), Bool.false_and]
      refine hbad.succ fun k hk => ?_
      unfold sacristanref09_May.l2
      rw [if_pos (by omega), if_pos (by omega), if_pos (by omega), hrd, if_neg k1, if_neg k2, if_neg k3, if_neg k4, hw, if_neg k5, if_neg k6, if_neg k7, decide_eq_true k8]
      exact hk
    · rw [if_pos (by omega)]
      have e : (!(p.f3.any fun x => !(insM l0 l1 l2 l3 p x))) = p.f3.all (insM l0 l1 l2 l3 p) := by
        rw [List.not_any_eq_all_not]; simp
      rw [e]
      have hj : Ev (fun k => sacristanref09_May.j4 k (l2.length : Int) (i : Int) false l0 l1 l2 l3 p.f0 p.f1 p.f2 p.f3) (p.f3.all (insM l0 l1 l2 l3 p) && r) :=
        hl3.succ fun k hk => by
          unfold sacristanref09_May.j4
          rw [if_neg (by decide)]
          exact hk
      refine hj.succ fun k hk => ?_
      unfold sacristanref09_May.l2
      rw [if_pos (by omega), if_pos (by omega), if_pos (by omega), hrd, if_neg k1, if_neg k2, if_neg k3, if_neg k4, hw, if_neg k5, if_neg k6, if_neg k7, decide_eq_false k8]
      exact hk
theorem may_l1 (h : FitM l0 l1 l2 l3) (r : Bool) (hr : Ev (fun k => sacristanref09_May.l2 k (l2.length : Int) 0 l0 l1 l2 l3) r) : ∀ (d i : Nat), l3.length - i = d → i ≤ l3.length →
    Ev (fun k => sacristanref09_May.l1 k (l3.length : Int) (i : Int) l0 l1 l2 l3) ((l3.drop i).all (tabS l1) && r)
  | 0, i, hd, hi => by
    rw [drop_end (by omega), Bool.true_and]
    refine hr.succ fun k hk => ?_
    unfold sacristanref09_May.l1
    rw [if_neg (by omega)]
    exact hk
  | d + 1, i, hd, hi => by
    have hi' : i < l3.length := by omega
    have hn3 := h.n3
    have ht := table_ref l0 l1 l2 l3 l3[i]
    rw [drop_all hi']
    have hrd := rd41 hi'
    cases hv : tabS l1 l3[i] with
    | false =>
      rw [hv] at ht
      rw [Bool.false_and, Bool.false_and]
      refine ht.succ fun k hk => ?_
      unfold sacristanref09_May.l1
      rw [if_pos (by omega), if_pos (by omega), if_pos (by omega), hrd, hk, Option.bind_some, if_neg (by decide)]
    | true =>
      rw [hv] at ht
      rw [Bool.true_and]
      refine Ev.use ht (may_l1 h r hr d (i + 1) (by omega) (by omega)) fun k hk hk2 => ?_
      unfold sacristanref09_May.l1
      rw [if_pos (by omega), if_pos (by omega), if_pos (by omega), hrd, hk, Option.bind_some, if_pos rfl, w64s (by omega) (by omega)]
      exact hk2
theorem may_l0 (h : FitM l0 l1 l2 l3) (r : Bool) (hr : Ev (fun k => sacristanref09_May.l1 k (l3.length : Int) 0 l0 l1 l2 l3) r) : ∀ (d i : Nat), l1.length - i = d → i ≤ l1.length →
    Ev (fun k => sacristanref09_May.l0 k (l1.length : Int) (i : Int) l0 l1 l2 l3) ((l1.drop i).all (fun s => !(longB s)) && r)
  | 0, i, hd, hi => by
    rw [drop_end (by omega), Bool.true_and]
    refine hr.succ fun k hk => ?_
    unfold sacristanref09_May.l0
    rw [if_neg (by omega)]
    exact hk
  | d + 1, i, hd, hi => by
    have hi' : i < l1.length := by omega
    have hn1 := h.n1
    rw [drop_all hi']
    have hrd := rdS hi'
    by_cases hv : (l1[i].size : Int) > 65536
    · have e : longB l1[i] = true := by unfold longB; exact decide_eq_true (by omega)
      rw [e, Bool.not_true, Bool.false_and, Bool.false_and]
      refine Ev.now fun k => ?_
      unfold sacristanref09_May.l0
      rw [if_pos (by omega), if_pos (by omega), if_pos (by omega), hrd, if_pos hv]
    · have e : longB l1[i] = false := by unfold longB; exact decide_eq_false (by omega)
      rw [e, Bool.not_false, Bool.true_and]
      refine (may_l0 h r hr d (i + 1) (by omega) (by omega)).succ fun k hk => ?_
      unfold sacristanref09_May.l0
      rw [if_pos (by omega), if_pos (by omega), if_pos (by omega), hrd, if_neg hv, w64s (by omega) (by omega)]
      exact hk
theorem may_bad : Ev (fun k => sacristanref09_May.j0 k true l0 l1 l2 l3) false :=
  Ev.now fun k => by simp only [sacristanref09_May.j0, if_true]
theorem may_ref (h : FitM l0 l1 l2 l3) : Ev (fun k => sacristanref09_May.f k l0 l1 l2 l3) (mayS (insM l0 l1 l2 l3) l0 l1 l2 l3) := by
  have hbad := may_bad l0 l1 l2 l3
  unfold mayS
  by_cases k1 : (l0.length : Int) > 4096
  · rw [dif_neg (by omega)]
    exact hbad.map fun k hk => by show sacristanref09_May.f k l0 l1 l2 l3 = _; unfold sacristanref09_May.f; rw [if_pos k1]; exact hk
  by_cases k2 : (l1.length : Int) > 4096
  · rw [dif_neg (by omega)]
    exact hbad.map fun k hk => by show sacristanref09_May.f k l0 l1 l2 l3 = _; unfold sacristanref09_May.f; rw [if_neg k1, if_pos k2]; exact hk
  by_cases k3 : (l2.length : Int) > 4096
  · rw [dif_neg (by omega)]
    exact hbad.map fun k hk => by show sacristanref09_May.f k l0 l1 l2 l3 = _; unfold sacristanref09_May.f; rw [if_neg k1, if_neg k2, if_pos k3]; exact hk
  by_cases k4 : (l3.length : Int) > 4096
  · rw [dif_neg (by omega)]
    exact hbad.map fun k hk => by show sacristanref09_May.f k l0 l1 l2 l3 = _; unfold sacristanref09_May.f; rw [if_neg k1, if_neg k2, if_neg k3, if_pos k4]; exact hk
  by_cases k5 : l2 = []
  · rw [dif_neg (fun e => e.2 k5)]
    exact hbad.map fun k hk => by show sacristanref09_May.f k l0 l1 l2 l3 = _; unfold sacristanref09_May.f; rw [if_neg k1, if_neg k2, if_neg k3, if_neg k4, if_pos (by rw [k5]; rfl)]; exact hk
  have k5' : l2.length ≠ 0 := fun e => k5 (List.eq_nil_of_length_eq_zero e)
  rw [dif_pos ⟨by omega, k5⟩]
  have hrd : rd_T44 l2 0 = l2.head k5 := by
    have := rd44 (l := l2) (i := 0) (by omega)
    rw [show ((0 : Nat) : Int) = 0 by rfl] at this
    rw [this, List.head_eq_getElem]
  generalize l2.head k5 = y at *
  by_cases k6 : y.f0 = 0
  case neg =>
    rw [if_neg (fun e => k6 e.1)]
    exact hbad.map fun k hk => by show sacristanref09_May.f k l0 l1 l2 l3 = _; unfold sacristanref09_May.f; rw [if_neg k1, if_neg k2, if_neg k3, if_neg k4, if_neg (by omega), if_pos (by omega), hrd, if_neg k6]; exact hk
  by_cases k7 : y.f2 = 0
  case neg =>
    rw [if_neg (fun e => k7 e.2)]
    exact hbad.map fun k hk => by show sacristanref09_May.f k l0 l1 l2 l3 = _; unfold sacristanref09_May.f; rw [if_neg k1, if_neg k2, if_neg k3, if_neg k4, if_neg (by omega), if_pos (by omega), hrd, if_pos k6, bne_iff_ne.2 k7]; exact hk
  rw [if_pos ⟨k6, k7⟩]
  have a2 := may_l2 l0 l1 l2 l3 h l2.length 0 (by omega) (by omega)
  rw [List.drop_zero] at a2
  have a1 := may_l1 l0 l1 l2 l3 h _ a2 l3.length 0 (by omega) (by omega)
  rw [List.drop_zero] at a1
  have a0 := may_l0 l0 l1 l2 l3 h _ a1 l1.length 0 (by omega) (by omega)
  rw [List.drop_zero] at a0
  have e : (!(l1.any longB) && !(l3.any fun t => !(tabS l1 t)) && !(l2.any fun p => !(protoS (insM l0 l1 l2 l3 p) p))) = (l1.all (fun s => !(longB s)) && (l3.all (tabS l1) && l2.all fun p => protoS (insM l0 l1 l2 l3 p) p)) := by
    rw [List.not_any_eq_all_not, List.not_any_eq_all_not, List.not_any_eq_all_not, Bool.and_assoc]
    simp only [Bool.not_not]
  rw [e]
  have aj : Ev (fun k => sacristanref09_May.j0 k false l0 l1 l2 l3) _ := a0.succ fun k hk => by
    simp only [sacristanref09_May.j0, Bool.false_eq_true, if_false]
    exact hk
  exact aj.map fun k hk => by show sacristanref09_May.f k l0 l1 l2 l3 = _; unfold sacristanref09_May.f; rw [if_neg k1, if_neg k2, if_neg k3, if_neg k4, if_neg (by omega), if_pos (by omega), hrd, if_pos k6, show (y.f2 != 0) = false by simp [k7]]; exact hk
end
end Go.Proofs.YtfncoldcjhkhiaaDoor.Pure
