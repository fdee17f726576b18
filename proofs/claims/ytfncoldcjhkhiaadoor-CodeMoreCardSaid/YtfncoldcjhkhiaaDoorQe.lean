/- Equal lists, plainly. -/
import Derived.Test.YtfncoldcjhkhiaaDoorQd
import Derived.Test.YtfncoldcjhkhiaaDoorTj
namespace Go.Proofs.YtfncoldcjhkhiaaDoor.Pure
open Go.RowKit Go.Proofs.YtfncoldcjhkhiaaDoor.PC Go.Proofs.YtfncoldcjhkhiaaDoor.NW Go.Proofs.YtfncoldcjhkhiaaDoorW.PrintWords Go.Proofs.YtfncoldcjhkhiaaDoorW.PrintLast Go.Proofs.YtfncoldcjhkhiaaDoorW.PrintMore
set_option linter.unusedVariables false
set_option linter.unusedSimpArgs false
/-- is it so? -/
noncomputable def dq (p : Prop) : Bool := @decide p (Classical.propDecidable p)
theorem dq_t {p : Prop} (h : p) : dq p = true := by unfold dq; exact @decide_eq_true _ (Classical.propDecidable p) h
theorem dq_f {p : Prop} (h : ¬ p) : dq p = false := by unfold dq; exact @decide_eq_false _ (Classical.propDecidable p) h
theorem dq_of {p : Prop} (h : dq p = true) : p := by unfold dq at h; exact @of_decide_eq_true _ (Classical.propDecidable p) h
theorem dq_congr {p q : Prop} (h : p ↔ q) : dq p = dq q := by rw [propext h]
theorem loop_all {α : Type} (F : Nat → Int → Option Bool) (l m : List α) (hlm : l.length = m.length) (r : Bool) (hend : Ev (fun k => F k (l.length : Int)) r)
    (hstep : ∀ i, i < l.length → l[i]? = m[i]? → ∀ s, Ev (fun k => F k ((i + 1 : Nat) : Int)) s → Ev (fun k => F k (i : Int)) s)
    (hbad : ∀ i, i < l.length → ¬ l[i]? = m[i]? → Ev (fun k => F k (i : Int)) false) : ∀ (d i : Nat), l.length - i = d → i ≤ l.length →
    Ev (fun k => F k (i : Int)) (dq (l.drop i = m.drop i) && r)
  | 0, i, hd, hi => by
    obtain rfl : i = l.length := by omega
    rw [dq_t (by rw [List.drop_length, hlm, List.drop_length]), Bool.true_and]
    exact hend
  | d + 1, i, hd, hi => by
    have hi' : i < l.length := by omega
    have hm' : i < m.length := by omega
    rw [List.drop_eq_getElem_cons hi', List.drop_eq_getElem_cons hm']
    by_cases h : l[i]? = m[i]?
    · have ih := loop_all F l m hlm r hend hstep hbad d (i + 1) (by omega) (by omega)
      have e : l[i] = m[i] := by
        rw [List.getElem?_eq_getElem hi', List.getElem?_eq_getElem hm'] at h
        exact Option.some.inj h
      have e2 : dq (l[i] :: l.drop (i + 1) = m[i] :: m.drop (i + 1)) = dq (l.drop (i + 1) = m.drop (i + 1)) := by
        rw [e]
        exact dq_congr ⟨fun h => (List.cons.inj h).2, fun h => by rw [h]⟩
      rw [e2]
      exact hstep i hi' h _ ih
    · rw [dq_f, Bool.false_and]
      · exact hbad i hi' h
      · intro e
        refine h ?_
        rw [List.getElem?_eq_getElem hi', List.getElem?_eq_getElem hm', (List.cons.inj e).1]
theorem get_iff {α : Type} {l m : List α} {i : Nat} (hi : i < l.length) (hm : i < m.length) : l[i]? = m[i]? ↔ l[i] = m[i] := by
  rw [List.getElem?_eq_getElem hi, List.getElem?_eq_getElem hm]
  exact ⟨Option.some.inj, fun h => by rw [h]⟩
theorem rdN {l : List Int} {i : Nat} (h : i < l.length) : rd l (i : Int) = l[i] := by
  rw [rdI, List.getD_eq_getElem?_getD, List.getElem?_eq_getElem h]; rfl
theorem ne32 (x y : S32) : (!(x.f0 == y.f0) || !(x.f1 == y.f1)) = true ↔ x ≠ y := by
  cases x; cases y
  simp only [S32.mk.injEq, ne_eq, Bool.or_eq_true, Bool.not_eq_true', beq_eq_false_iff_ne]
  omega
theorem baEq (x y : ByteArray) : x.toList = y.toList ↔ x = y := by
  rw [ByteArray.toList_eq, ByteArray.toList_eq]
  exact ⟨fun h => ByteArray.ext (Array.toList_inj.1 h), fun h => by rw [h]⟩
theorem eqI_ev (l m : List Int) (hl : l.length ≤ 140737488355328) : Ev (fun k => slices_Equal_int64_int64.f k l m) (dq (l = m)) := by
  by_cases hlm : l.length = m.length
  case neg =>
    rw [dq_f (fun h => hlm (by rw [h]))]
    exact ⟨0, fun k _ => by dsimp only; unfold slices_Equal_int64_int64.f; rw [if_neg (by omega)]⟩
  have := loop_all (fun k j => slices_Equal_int64_int64.l0 k l m (l.length : Int) j) l m hlm true (Ev.now fun k => by unfold slices_Equal_int64_int64.l0; rw [if_neg (by omega)])
    (fun i hi h s hs => hs.succ fun k hk => by
      unfold slices_Equal_int64_int64.l0
      rw [if_pos (by omega), if_pos (by omega), if_pos (by omega), if_pos (by omega), rdN hi, rdN (hlm ▸ hi), if_pos ((get_iff hi (hlm ▸ hi)).1 h), w64s (by omega) (by omega)]
      exact hk)
    (fun i hi h => Ev.now fun k => by
      unfold slices_Equal_int64_int64.l0
      rw [if_pos (by omega), if_pos (by omega), if_pos (by omega), if_pos (by omega), rdN hi, rdN (hlm ▸ hi), if_neg (fun e => h ((get_iff hi (hlm ▸ hi)).2 e))]) l.length 0 (by omega) (by omega)
  rw [List.drop_zero, List.drop_zero, Bool.and_true] at this
  exact this.map fun k hk => by show slices_Equal_int64_int64.f k l m = _; unfold slices_Equal_int64_int64.f; rw [if_pos (by omega)]; exact hk
theorem eqN_ev (l m : List Int) (hl : l.length ≤ 140737488355328) : Ev (fun k => slices_Equal_int_int.f k l m) (dq (l = m)) := by
  by_cases hlm : l.length = m.length
  case neg =>
    rw [dq_f (fun h => hlm (by rw [h]))]
    exact ⟨0, fun k _ => by dsimp only; unfold slices_Equal_int_int.f; rw [if_neg (by omega)]⟩
  have := loop_all (fun k j => slices_Equal_int_int.l0 k l m (l.length : Int) j) l m hlm true (Ev.now fun k => by unfold slices_Equal_int_int.l0; rw [if_neg (by omega)])
    (fun i hi h s hs => hs.succ fun k hk => by
      unfold slices_Equal_int_int.l0
      rw [if_pos (by omega), if_pos (by omega), if_pos (by omega), if_pos (by omega), rdN hi, rdN (hlm ▸ hi), if_pos ((get_iff hi (hlm ▸ hi)).1 h), w64s (by omega) (by omega)]
      exact hk)
    (fun i hi h => Ev.now fun k => by
      unfold slices_Equal_int_int.l0
      rw [if_pos (by omega), if_pos (by omega), if_pos (by omega), if_pos (by omega), rdN hi, rdN (hlm ▸ hi), if_neg (fun e => h ((get_iff hi (hlm ▸ hi)).2 e))]) l.length 0 (by omega) (by omega)
  rw [List.drop_zero, List.drop_zero, Bool.and_true] at this
  exact this.map fun k hk => by show slices_Equal_int_int.f k l m = _; unfold slices_Equal_int_int.f; rw [if_pos (by omega)]; exact hk
theorem eqS_ev (l m : List ByteArray) (hl : l.length ≤ 140737488355328) : Ev (fun k => slices_Equal_string_string.f k l m) (dq (l = m)) := by
  by_cases hlm : l.length = m.length
  case neg =>
    rw [dq_f (fun h => hlm (by rw [h]))]
    exact ⟨0, fun k _ => by dsimp only; unfold slices_Equal_string_string.f; rw [if_neg (by omega)]⟩
  have := loop_all (fun k j => slices_Equal_string_string.l0 k l m (l.length : Int) j) l m hlm true (Ev.now fun k => by unfold slices_Equal_string_string.l0; rw [if_neg (by omega)])
    (fun i hi h s hs => hs.succ fun k hk => by
      unfold slices_Equal_string_string.l0
      rw [if_pos (by omega), if_pos (by omega), if_pos (by omega), if_pos (by omega), rdS hi, rdS (hlm ▸ hi), if_pos ((baEq _ _).2 ((get_iff hi (hlm ▸ hi)).1 h)), w64s (by omega) (by omega)]
      exact hk)
    (fun i hi h => Ev.now fun k => by
      unfold slices_Equal_string_string.l0
      rw [if_pos (by omega), if_pos (by omega), if_pos (by omega), if_pos (by omega), rdS hi, rdS (hlm ▸ hi), if_neg (fun e => h ((get_iff hi (hlm ▸ hi)).2 ((baEq _ _).1 e)))]) l.length 0 (by omega) (by omega)
  rw [List.drop_zero, List.drop_zero, Bool.and_true] at this
  exact this.map fun k hk => by show slices_Equal_string_string.f k l m = _; unfold slices_Equal_string_string.f; rw [if_pos (by omega)]; exact hk
theorem eqC_ev (l m : List S32) (hl : l.length ≤ 140737488355328) : Ev (fun k => api_Instr_59.f k l m) (dq (l = m)) := by
  by_cases hlm : l.length = m.length
  case neg =>
    rw [dq_f (fun h => hlm (by rw [h]))]
    exact ⟨0, fun k _ => by dsimp only; unfold api_Instr_59.f; rw [if_neg (by omega)]⟩
  have := loop_all (fun k j => api_Instr_59.l0 k l m (l.length : Int) j) l m hlm true (Ev.now fun k => by unfold api_Instr_59.l0; rw [if_neg (by omega)])
    (fun i hi h s hs => hs.succ fun k hk => by
      unfold api_Instr_59.l0
      rw [if_pos (by omega), if_pos (by omega), if_pos (by omega), if_pos (by omega), rd32 hi, rd32 (hlm ▸ hi), if_neg (fun e => (ne32 _ _).1 e ((get_iff hi (hlm ▸ hi)).1 h)), w64s (by omega) (by omega)]
      exact hk)
    (fun i hi h => Ev.now fun k => by
      unfold api_Instr_59.l0
      rw [if_pos (by omega), if_pos (by omega), if_pos (by omega), if_pos (by omega), rd32 hi, rd32 (hlm ▸ hi), if_pos ((ne32 _ _).2 (fun e => h ((get_iff hi (hlm ▸ hi)).2 e)))]) l.length 0 (by omega) (by omega)
  rw [List.drop_zero, List.drop_zero, Bool.and_true] at this
  exact this.map fun k hk => by show api_Instr_59.f k l m = _; unfold api_Instr_59.f; rw [if_pos (by omega)]; exact hk
theorem ext44 (x y : S44) : x = y ↔ x.f0 = y.f0 ∧ x.f1 = y.f1 ∧ x.f2 = y.f2 ∧ x.f3 = y.f3 := by
  cases x; cases y; simp only [S44.mk.injEq]
theorem ext41 (x y : S41) : x = y ↔ x.f0 = y.f0 ∧ x.f1 = y.f1 ∧ x.f2 = y.f2 := by
  cases x; cases y; simp only [S41.mk.injEq]
theorem same1_ev (x y : S44) (hl : x.f3.length ≤ 140737488355328) : Ev (fun k => code_Same_1.f k x.f0 x.f1 x.f2 x.f3 y.f0 y.f1 y.f2 y.f3) (dq (x = y)) := by
  by_cases h0 : x.f0 = y.f0
  case neg =>
    rw [dq_f (fun h => h0 (by rw [h]))]
    exact ⟨0, fun k _ => by dsimp only; unfold code_Same_1.f; rw [if_neg h0]⟩
  by_cases h1 : x.f1 = y.f1
  case neg =>
    rw [dq_f (fun h => h1 (by rw [h]))]
    exact ⟨0, fun k _ => by dsimp only; unfold code_Same_1.f; rw [if_pos h0, if_neg h1]⟩
  by_cases h2 : x.f2 = y.f2
  case neg =>
    rw [dq_f (fun h => h2 (by rw [h]))]
    exact ⟨0, fun k _ => by dsimp only; unfold code_Same_1.f; rw [if_pos h0, if_pos h1, if_neg h2]⟩
  have e : dq (x = y) = dq (x.f3 = y.f3) := by
    exact dq_congr ⟨fun h => by rw [h], fun h => (ext44 x y).2 ⟨h0, h1, h2, h⟩⟩
  rw [e]
  exact (eqC_ev x.f3 y.f3 hl).map fun k hk => by show code_Same_1.f k x.f0 x.f1 x.f2 x.f3 y.f0 y.f1 y.f2 y.f3 = _; unfold code_Same_1.f; rw [if_pos h0, if_pos h1, if_pos h2, hk]; rfl
theorem same2_ev (x y : S41) (hl : x.f0.length ≤ 140737488355328) : Ev (fun k => code_Same_2.f k x.f0 x.f1 x.f2 y.f0 y.f1 y.f2) (dq (x = y)) := by
  refine (eqN_ev x.f0 y.f0 hl).map fun k hk => ?_
  show code_Same_2.f k x.f0 x.f1 x.f2 y.f0 y.f1 y.f2 = _
  unfold code_Same_2.f
  rw [hk, Option.bind_some]
  by_cases h0 : x.f0 = y.f0
  case neg => rw [dq_f h0, if_neg (by decide), dq_f (fun h => h0 (by rw [h]))]
  rw [dq_t h0, if_pos rfl]
  by_cases h1 : x.f1 = y.f1
  case neg => rw [if_neg (by simpa using h1), dq_f (fun h => h1 (by rw [h]))]
  rw [if_pos (by simpa using h1)]
  congr 1
  by_cases h2 : x.f2 = y.f2
  · rw [dq_t ((ext41 x y).2 ⟨h0, h1, h2⟩), h2]; simp
  · rw [dq_f (fun h => h2 (by rw [h]))]; simpa using h2
theorem eqF_dec {α : Type} (l m : List α) : eqF (fun x y => dq (x = y)) l m = dq (l = m) := by
  by_cases h : l = m
  · subst h
    rw [dq_t rfl]
    exact eqF_all rfl fun k _ _ => dq_t rfl
  · rw [dq_f h]
    cases he : eqF (fun x y => dq (x = y)) l m with
    | false => rfl
    | true =>
      exfalso
      unfold eqF at he
      split at he
      · rename_i hl
        refine h (List.ext_getElem hl fun i h1 h2 => ?_)
        have := List.all_eq_true.1 he ((l.zip m)[i]'(by rw [List.length_zip]; omega)) (List.getElem_mem _)
        rw [List.getElem_zip] at this
        exact dq_of this
      · cases he
end Go.Proofs.YtfncoldcjhkhiaaDoor.Pure
