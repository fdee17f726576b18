/- The reference's Same: its answer is the program's; May and Same as contracts. -/
import Derived.Test.YtfncoldcjhkhiaaDoorQe
import Derived.Test.YtfncoldcjhkhiaaDoorPCx16
import Derived.Test.YtfncoldcjhkhiaaDoorPCx17
namespace Go.Proofs.YtfncoldcjhkhiaaDoor.Pure
open Go.RowKit Go.Proofs.YtfncoldcjhkhiaaDoor.PC Go.Proofs.YtfncoldcjhkhiaaDoor.NW Go.Proofs.YtfncoldcjhkhiaaDoorW.PrintWords Go.Proofs.YtfncoldcjhkhiaaDoorW.PrintLast Go.Proofs.YtfncoldcjhkhiaaDoorW.PrintMore
set_option linter.unusedVariables false
set_option linter.unusedSimpArgs false
theorem loop_bad {α : Type} (F : Nat → Int → Option Bool) (l m : List α) (hlm : l.length = m.length)
    (hstep : ∀ i, i < l.length → l[i]? = m[i]? → ∀ s, Ev (fun k => F k ((i + 1 : Nat) : Int)) s → Ev (fun k => F k (i : Int)) s)
    (hbad : ∀ i, i < l.length → ¬ l[i]? = m[i]? → Ev (fun k => F k (i : Int)) false) : ∀ (d i : Nat), l.length - i = d → i ≤ l.length → ¬ l.drop i = m.drop i → Ev (fun k => F k (i : Int)) false
  | 0, i, hd, hi, hne => by
    obtain rfl : i = l.length := by omega
    exact absurd (by rw [List.drop_length, hlm, List.drop_length]) hne
  | d + 1, i, hd, hi, hne => by
    have hi' : i < l.length := by omega
    have hm' : i < m.length := by omega
    by_cases h : l[i]? = m[i]?
    · refine hstep i hi' h _ (loop_bad F l m hlm hstep hbad d (i + 1) (by omega) (by omega) fun e => hne ?_)
      rw [List.drop_eq_getElem_cons hi', List.drop_eq_getElem_cons hm', e, (get_iff hi' hm').1 h]
    · exact hbad i hi' h
theorem same_ev (x y : S44) (hl : x.f3.length ≤ 140737488355328) : Ev (fun k => sacristanref09_same.f k x.f0 x.f1 x.f2 x.f3 y.f0 y.f1 y.f2 y.f3) (dq (x = y)) := by
  have hbad : Ev (fun k => sacristanref09_same.j0 k true x.f0 x.f1 x.f2 x.f3 y.f0 y.f1 y.f2 y.f3) false := Ev.now fun k => by simp only [sacristanref09_same.j0, if_true]
  by_cases h0 : x.f0 = y.f0
  case neg =>
    rw [dq_f (fun h => h0 (by rw [h]))]
    exact hbad.map fun k hk => by unfold sacristanref09_same.f; rw [if_neg h0]; exact hk
  by_cases h1 : x.f1 = y.f1
  case neg =>
    rw [dq_f (fun h => h1 (by rw [h]))]
    exact hbad.map fun k hk => by unfold sacristanref09_same.f; rw [if_pos h0, if_neg h1]; exact hk
  by_cases h2 : x.f2 = y.f2
  case neg =>
    rw [dq_f (fun h => h2 (by rw [h]))]
    exact hbad.map fun k hk => by unfold sacristanref09_same.f; rw [if_pos h0, if_pos h1, if_neg h2]; exact hk
  by_cases hlm : x.f3.length = y.f3.length
  case neg =>
    rw [dq_f (fun h => hlm (by rw [h]))]
    exact hbad.map fun k hk => by unfold sacristanref09_same.f; rw [if_pos h0, if_pos h1, if_pos h2, bne_iff_ne.2 (by omega)]; exact hk
  have e : dq (x = y) = dq (x.f3 = y.f3) := dq_congr ⟨fun h => by rw [h], fun h => (ext44 x y).2 ⟨h0, h1, h2, h⟩⟩
  rw [e]
  have := loop_all (fun k j => sacristanref09_same.l0 k (x.f3.length : Int) j x.f0 x.f1 x.f2 x.f3 y.f0 y.f1 y.f2 y.f3) x.f3 y.f3 hlm true (Ev.now fun k => by unfold sacristanref09_same.l0; rw [if_neg (by omega)])
    (fun i hi h s hs => hs.succ fun k hk => by
      unfold sacristanref09_same.l0
      rw [if_pos (by omega), if_pos (by omega), if_pos (by omega), if_pos (by omega), rd32 hi, rd32 (hlm ▸ hi), if_neg (fun e => (ne32 _ _).1 e ((get_iff hi (hlm ▸ hi)).1 h)), w64s (by omega) (by omega)]
      exact hk)
    (fun i hi h => Ev.now fun k => by
      unfold sacristanref09_same.l0
      rw [if_pos (by omega), if_pos (by omega), if_pos (by omega), if_pos (by omega), rd32 hi, rd32 (hlm ▸ hi), if_pos ((ne32 _ _).2 (fun e => h ((get_iff hi (hlm ▸ hi)).2 e)))]) x.f3.length 0 (by omega) (by omega)
  rw [List.drop_zero, List.drop_zero, Bool.and_true] at this
  have hj : Ev (fun k => sacristanref09_same.j0 k false x.f0 x.f1 x.f2 x.f3 y.f0 y.f1 y.f2 y.f3) (dq (x.f3 = y.f3)) := this.succ fun k hk => by simp only [sacristanref09_same.j0, Bool.false_eq_true, if_false]; exact hk
  exact hj.map fun k hk => by unfold sacristanref09_same.f; rw [if_pos h0, if_pos h1, if_pos h2, show ((x.f3.length : Int) != (y.f3.length : Int)) = false by rw [hlm]; simp]; exact hk
section
variable (l0 : List Int) (l1 : List ByteArray) (l2 : List S44) (l3 : List S41) (m0 : List Int) (m1 : List ByteArray) (m2 : List S44) (m3 : List S41)
theorem ref_l3 (h : FitM l0 l1 l2 l3) (hlm : l3.length = m3.length) : Ev (fun k => sacristanref09_Same.l3 k (l3.length : Int) 0 l0 l1 l2 l3 m0 m1 m2 m3) (dq (l3 = m3)) := by
  have hn3 := h.n3
  have hbad : ∀ (i : Nat) (x y : S41), Ev (fun k => sacristanref09_Same.j5 k (l3.length : Int) (i : Int) true l0 l1 l2 l3 m0 m1 m2 m3 x.f0 x.f1 x.f2 y.f0 y.f1 y.f2) false := fun i x y => Ev.now fun k => by simp only [sacristanref09_Same.j5, if_true]
  -- one place: the operations' rows, and what follows
  have hrow : ∀ (i : Nat) (x y : S41) (hi : i < l3.length) (hx : x ∈ l3) (hxy : x.f0.length = y.f0.length) (s : Bool), Ev (fun k => sacristanref09_Same.l3 k (l3.length : Int) ((i + 1 : Nat) : Int) l0 l1 l2 l3 m0 m1 m2 m3) s →
      Ev (fun k => sacristanref09_Same.j5 k (l3.length : Int) (i : Int) false l0 l1 l2 l3 m0 m1 m2 m3 x.f0 x.f1 x.f2 y.f0 y.f1 y.f2) (dq (x.f0 = y.f0) && s) := by
    intro i x y hi hx hxy s hs
    have hn := h.f.ops x hx
    have := loop_all (fun k j => sacristanref09_Same.l4 k (l3.length : Int) (i : Int) (x.f0.length : Int) j l0 l1 l2 l3 m0 m1 m2 m3 x.f0 x.f1 x.f2 y.f0 y.f1 y.f2) x.f0 y.f0 hxy s
      (hs.succ fun k hk => by
        unfold sacristanref09_Same.l4
        rw [if_neg (by omega), w64s (by omega) (by omega)]
        exact hk)
      (fun j hj hh s hs => hs.succ fun k hk => by
        unfold sacristanref09_Same.l4
        rw [if_pos (by omega), if_pos (by omega), if_pos (by omega), if_pos (by omega), rdN hj, rdN (hxy ▸ hj), if_pos ((get_iff hj (hxy ▸ hj)).1 hh), w64s (by omega) (by omega)]
        exact hk)
      (fun j hj hh => Ev.now fun k => by
        unfold sacristanref09_Same.l4
        rw [if_pos (by omega), if_pos (by omega), if_pos (by omega), if_pos (by omega), rdN hj, rdN (hxy ▸ hj), if_neg (fun e => hh ((get_iff hj (hxy ▸ hj)).2 e))]) x.f0.length 0 (by omega) (by omega)
    rw [List.drop_zero, List.drop_zero] at this
    exact this.succ fun k hk => by simp only [sacristanref09_Same.j5, Bool.false_eq_true, if_false]; exact hk
  have := loop_all (fun k j => sacristanref09_Same.l3 k (l3.length : Int) j l0 l1 l2 l3 m0 m1 m2 m3) l3 m3 hlm true (Ev.now fun k => by unfold sacristanref09_Same.l3; rw [if_neg (by omega)])
    (fun i hi hh s hs => by
      have e := (get_iff hi (hlm ▸ hi)).1 hh
      have hr := hrow i l3[i] l3[i] hi (List.getElem_mem hi) rfl s hs
      rw [dq_t rfl, Bool.true_and] at hr
      refine hr.succ fun k hk => ?_
      unfold sacristanref09_Same.l3
      rw [if_pos (by omega), if_pos (by omega), if_pos (by omega), if_pos (by omega), rd41 hi, rd41 (hlm ▸ hi), ← e, if_pos rfl, if_neg (by simp), show (l3[i].f2 != l3[i].f2) = false by simp]
      exact hk)
    (fun i hi hh => by
      have e : ¬ l3[i] = m3[i]'(hlm ▸ hi) := fun e => hh ((get_iff hi (hlm ▸ hi)).2 e)
      have hm := List.getElem_mem hi
      have q1 := rd41 hi
      have q2 := rd41 (l := m3) (i := i) (hlm ▸ hi)
      generalize l3[i] = x at *
      generalize m3[i]'(hlm ▸ hi) = y at *
      have hb := hbad i x y
      by_cases g0 : (x.f0.length : Int) = (y.f0.length : Int)
      case neg =>
        refine hb.succ fun k hk => ?_
        unfold sacristanref09_Same.l3
        rw [if_pos (by omega), if_pos (by omega), if_pos (by omega), if_pos (by omega), q1, q2, if_neg g0]
        exact hk
      by_cases g1 : x.f1 = y.f1
      case neg =>
        refine hb.succ fun k hk => ?_
        unfold sacristanref09_Same.l3
        rw [if_pos (by omega), if_pos (by omega), if_pos (by omega), if_pos (by omega), q1, q2, if_pos g0, if_pos (bne_iff_ne.2 g1)]
        exact hk
      by_cases g2 : x.f2 = y.f2
      case neg =>
        refine hb.succ fun k hk => ?_
        unfold sacristanref09_Same.l3
        rw [if_pos (by omega), if_pos (by omega), if_pos (by omega), if_pos (by omega), q1, q2, if_pos g0, if_neg (by rw [g1]; simp), bne_iff_ne.2 g2]
        exact hk
      have g3 : ¬ x.f0 = y.f0 := fun g => e ((ext41 x y).2 ⟨g, g1, g2⟩)
      -- the rows of operations are not one
      have hrow' : Ev (fun k => sacristanref09_Same.j5 k (l3.length : Int) (i : Int) false l0 l1 l2 l3 m0 m1 m2 m3 x.f0 x.f1 x.f2 y.f0 y.f1 y.f2) false := by
        have hxy : x.f0.length = y.f0.length := by omega
        have hn := h.f.ops x hm
        have := loop_bad (fun k j => sacristanref09_Same.l4 k (l3.length : Int) (i : Int) (x.f0.length : Int) j l0 l1 l2 l3 m0 m1 m2 m3 x.f0 x.f1 x.f2 y.f0 y.f1 y.f2) x.f0 y.f0 hxy
          (fun j hj hh s hs => hs.succ fun k hk => by
            unfold sacristanref09_Same.l4
            rw [if_pos (by omega), if_pos (by omega), if_pos (by omega), if_pos (by omega), rdN hj, rdN (hxy ▸ hj), if_pos ((get_iff hj (hxy ▸ hj)).1 hh), w64s (by omega) (by omega)]
            exact hk)
          (fun j hj hh => Ev.now fun k => by
            unfold sacristanref09_Same.l4
            rw [if_pos (by omega), if_pos (by omega), if_pos (by omega), if_pos (by omega), rdN hj, rdN (hxy ▸ hj), if_neg (fun e => hh ((get_iff hj (hxy ▸ hj)).2 e))]) x.f0.length 0 (by omega) (by omega) (by rw [List.drop_zero, List.drop_zero]; exact g3)
        exact this.succ fun k hk => by simp only [sacristanref09_Same.j5, Bool.false_eq_true, if_false]; exact hk
      refine hrow'.succ fun k hk => ?_
      unfold sacristanref09_Same.l3
      rw [if_pos (by omega), if_pos (by omega), if_pos (by omega), if_pos (by omega), q1, q2, if_pos g0, if_neg (by rw [g1]; simp), show (x.f2 != y.f2) = false by rw [g2]; simp]
      exact hk) l3.length 0 (by omega) (by omega)
  rw [List.drop_zero, List.drop_zero, Bool.and_true] at this
  exact this
theorem ref_l2 (h : FitM l0 l1 l2 l3) (hlm : l2.length = m2.length) (hl3 : l3.length = m3.length) : Ev (fun k => sacristanref09_Same.l2 k (l2.length : Int) 0 l0 l1 l2 l3 m0 m1 m2 m3) (dq (l2 = m2) && dq (l3 = m3)) := by
  have hn := h.n2
  have := loop_all (fun k j => sacristanref09_Same.l2 k (l2.length : Int) j l0 l1 l2 l3 m0 m1 m2 m3) l2 m2 hlm (dq (l3 = m3)) ((ref_l3 l0 l1 l2 l3 m0 m1 m2 m3 h hl3).succ fun k hk => by
      unfold sacristanref09_Same.l2
      rw [if_neg (by omega)]
      exact hk)
    (fun i hi hh s hs => by
      have he := same_ev l2[i] (m2[i]'(hlm ▸ hi)) (h.c _ (List.getElem_mem hi))
      rw [dq_t ((get_iff hi (hlm ▸ hi)).1 hh)] at he
      refine Ev.use he hs fun k hk hk2 => ?_
      unfold sacristanref09_Same.l2
      rw [if_pos (by omega), if_pos (by omega), if_pos (by omega), if_pos (by omega), rd44 hi, rd44 (hlm ▸ hi), hk, Option.bind_some, if_pos rfl, w64s (by omega) (by omega)]
      exact hk2)
    (fun i hi hh => by
      have he := same_ev l2[i] (m2[i]'(hlm ▸ hi)) (h.c _ (List.getElem_mem hi))
      rw [dq_f (fun e => hh ((get_iff hi (hlm ▸ hi)).2 e))] at he
      refine he.succ fun k hk => ?_
      unfold sacristanref09_Same.l2
      rw [if_pos (by omega), if_pos (by omega), if_pos (by omega), if_pos (by omega), rd44 hi, rd44 (hlm ▸ hi), hk, Option.bind_some, if_neg (by decide)]) l2.length 0 (by omega) (by omega)
  rw [List.drop_zero, List.drop_zero] at this
  exact this
theorem ref_l1 (h : FitM l0 l1 l2 l3) (hlm : l1.length = m1.length) (r : Bool) (hr : Ev (fun k => sacristanref09_Same.l2 k (l2.length : Int) 0 l0 l1 l2 l3 m0 m1 m2 m3) r) : Ev (fun k => sacristanref09_Same.l1 k (l1.length : Int) 0 l0 l1 l2 l3 m0 m1 m2 m3) (dq (l1 = m1) && r) := by
  have hn := h.n1
  have := loop_all (fun k j => sacristanref09_Same.l1 k (l1.length : Int) j l0 l1 l2 l3 m0 m1 m2 m3) l1 m1 hlm r (hr.succ fun k hk => by
      unfold sacristanref09_Same.l1
      rw [if_neg (by omega)]
      exact hk)
    (fun i hi hh s hs => hs.succ fun k hk => by
      unfold sacristanref09_Same.l1
      rw [if_pos (by omega), if_pos (by omega), if_pos (by omega), if_pos (by omega), rdS hi, rdS (hlm ▸ hi), if_pos ((baEq _ _).2 ((get_iff hi (hlm ▸ hi)).1 hh)), w64s (by omega) (by omega)]
      exact hk)
    (fun i hi hh => Ev.now fun k => by
      unfold sacristanref09_Same.l1
      rw [if_pos (by omega), if_pos (by omega), if_pos (by omega), if_pos (by omega), rdS hi, rdS (hlm ▸ hi), if_neg (fun e => hh ((get_iff hi (hlm ▸ hi)).2 ((baEq _ _).1 e)))]) l1.length 0 (by omega) (by omega)
  rw [List.drop_zero, List.drop_zero] at this
  exact this
theorem ref_l0 (h : FitM l0 l1 l2 l3) (hlm : l0.length = m0.length) (r : Bool) (hr : Ev (fun k => sacristanref09_Same.l1 k (l1.length : Int) 0 l0 l1 l2 l3 m0 m1 m2 m3) r) : Ev (fun k => sacristanref09_Same.l0 k (l0.length : Int) 0 l0 l1 l2 l3 m0 m1 m2 m3) (dq (l0 = m0) && r) := by
  have hn := h.n0
  have := loop_all (fun k j => sacristanref09_Same.l0 k (l0.length : Int) j l0 l1 l2 l3 m0 m1 m2 m3) l0 m0 hlm r (hr.succ fun k hk => by
      unfold sacristanref09_Same.l0
      rw [if_neg (by omega)]
      exact hk)
    (fun i hi hh s hs => hs.succ fun k hk => by
      unfold sacristanref09_Same.l0
      rw [if_pos (by omega), if_pos (by omega), if_pos (by omega), if_pos (by omega), rdN hi, rdN (hlm ▸ hi), if_pos ((get_iff hi (hlm ▸ hi)).1 hh), w64s (by omega) (by omega)]
      exact hk)
    (fun i hi hh => Ev.now fun k => by
      unfold sacristanref09_Same.l0
      rw [if_pos (by omega), if_pos (by omega), if_pos (by omega), if_pos (by omega), rdN hi, rdN (hlm ▸ hi), if_neg (fun e => hh ((get_iff hi (hlm ▸ hi)).2 e))]) l0.length 0 (by omega) (by omega)
  rw [List.drop_zero, List.drop_zero] at this
  exact this
/-- are the modules one? -/
noncomputable def sameS : Bool := dq (l0 = m0) && dq (l1 = m1) && dq (l2 = m2) && dq (l3 = m3)
theorem ref_Same (h : FitM l0 l1 l2 l3) : Ev (fun k => sacristanref09_Same.f k l0 l1 l2 l3 m0 m1 m2 m3) (sameS l0 l1 l2 l3 m0 m1 m2 m3) := by
  have hbad : Ev (fun k => sacristanref09_Same.j0 k true l0 l1 l2 l3 m0 m1 m2 m3) false := Ev.now fun k => by simp only [sacristanref09_Same.j0, if_true]
  unfold sameS
  by_cases h0 : l0.length = m0.length
  case neg =>
    rw [dq_f (fun e => h0 (by rw [e])), Bool.false_and, Bool.false_and, Bool.false_and]
    exact hbad.map fun k hk => by unfold sacristanref09_Same.f; rw [if_neg (by omega)]; exact hk
  by_cases h1 : l1.length = m1.length
  case neg =>
    rw [dq_f (p := l1 = m1) (fun e => h1 (by rw [e])), Bool.and_false, Bool.false_and, Bool.false_and]
    exact hbad.map fun k hk => by unfold sacristanref09_Same.f; rw [if_pos (by omega), if_neg (by omega)]; exact hk
  by_cases h2 : l2.length = m2.length
  case neg =>
    rw [dq_f (p := l2 = m2) (fun e => h2 (by rw [e])), Bool.and_false, Bool.false_and]
    exact hbad.map fun k hk => by unfold sacristanref09_Same.f; rw [if_pos (by omega), if_pos (by omega), if_neg (by omega)]; exact hk
  by_cases h3 : l3.length = m3.length
  case neg =>
    rw [dq_f (p := l3 = m3) (fun e => h3 (by rw [e])), Bool.and_false]
    exact hbad.map fun k hk => by unfold sacristanref09_Same.f; rw [if_pos (by omega), if_pos (by omega), if_pos (by omega), bne_iff_ne.2 (by omega)]; exact hk
  have a := ref_l0 l0 l1 l2 l3 m0 m1 m2 m3 h h0 _ (ref_l1 l0 l1 l2 l3 m0 m1 m2 m3 h h1 _ (ref_l2 l0 l1 l2 l3 m0 m1 m2 m3 h h2 h3))
  rw [Bool.and_assoc, Bool.and_assoc]
  have aj : Ev (fun k => sacristanref09_Same.j0 k false l0 l1 l2 l3 m0 m1 m2 m3) (dq (l0 = m0) && (dq (l1 = m1) && (dq (l2 = m2) && dq (l3 = m3)))) := a.succ fun k hk => by simp only [sacristanref09_Same.j0, Bool.false_eq_true, if_false]; exact hk
  exact aj.map fun k hk => by unfold sacristanref09_Same.f; rw [if_pos (by omega), if_pos (by omega), if_pos (by omega), show ((l3.length : Int) != (m3.length : Int)) = false by rw [h3]; simp]; exact hk
theorem sameS_self : sameS l0 l1 l2 l3 l0 l1 l2 l3 = true := by
  unfold sameS
  rw [dq_t rfl, dq_t rfl, dq_t rfl, dq_t rfl]
  rfl
theorem sameS_eqF : (dq (l0 = m0) && dq (l1 = m1) && eqF (fun x y => dq (x = y)) l2 m2 && eqF (fun x y => dq (x = y)) l3 m3) = sameS l0 l1 l2 l3 m0 m1 m2 m3 := by
  unfold sameS
  rw [eqF_dec, eqF_dec]
end
section
variable {A0 : Option Addr} {c0 : Nat} {l0 : List Int} {A1 : Option Addr} {c1 : Nat} {l1 : List ByteArray} {A2 : Option Addr} {c2 : Nat} {l2 : List S44} {A3 : Option Addr} {c3 : Nat} {l3 : List S41}
variable {B0 : Option Addr} {d0 : Nat} {m0 : List Int} {B1 : Option Addr} {d1 : Nat} {m1 : List ByteArray} {B2 : Option Addr} {d2 : Nat} {m2 : List S44} {B3 : Option Addr} {d3 : Nat} {m3 : List S41}
theorem _root_.Go.Proofs.YtfncoldcjhkhiaaDoor.Pure.Ev.ex {α : Type} {f : Nat → Option α} {r : α} (h : Ev f r) : ∃ k, f k = some r := by
  obtain ⟨N, h⟩ := h
  exact ⟨N, h N (by omega)⟩
/-- code.Same answers whether the modules are one -/
theorem Same_calls (w : World) (h : FitM l0 l1 l2 l3) (hmd : ModIs w A0 c0 l0 A1 c1 l1 A2 c2 l2 A3 c3 l3) (hme : ModIs w B0 d0 m0 B1 d1 m1 B2 d2 m2 B3 d3 m3) :
    Calls Tryd.prog 26 #[.agg #[.slice A0 l0.length c0, .slice A1 l1.length c1, .slice A2 l2.length c2, .slice A3 l3.length c3], .agg #[.slice B0 m0.length d0, .slice B1 m1.length d1, .slice B2 m2.length d2, .slice B3 m3.length d3]] w fun e w' => e = .returned (.bool (sameS l0 l1 l2 l3 m0 m1 m2 m3)) ∧ Below w.heap.size w w' := by
  rw [← sameS_eqF]
  exact same_calls (dq (l0 = m0)) (dq (l1 = m1)) (fun x y => dq (x = y)) (fun x y => dq (x = y)) w hmd hme (eqI_ev l0 m0 h.n0).ex (eqS_ev l1 m1 h.n1).ex
    (fun x hx y _ => (same1_ev x y (h.c x hx)).ex) (fun x hx y _ => (same2_ev x y (h.f.ops x hx)).ex)
/-- code.May answers as the document says -/
theorem May_calls (w : World) (h : FitM l0 l1 l2 l3) (hsz : ∀ s ∈ l1, s.size ≤ reachBytes) (hM : MaxOk w) (hmd : ModIs w A0 c0 l0 A1 c1 l1 A2 c2 l2 A3 c3 l3) :
    Calls Tryd.prog 24 #[.agg #[.slice A0 l0.length c0, .slice A1 l1.length c1, .slice A2 l2.length c2, .slice A3 l3.length c3]] w fun e w' => e = .returned (.bool (mayS (insM l0 l1 l2 l3) l0 l1 l2 l3)) ∧ Below w.heap.size w w' :=
  may_calls (insM l0 l1 l2 l3) w hmd hM hsz fun p hp x hx => ⟨20, instr_code l0 l1 l2 l3 p x 0 h.f (h.a p hp x hx)⟩
end
end Go.Proofs.YtfncoldcjhkhiaaDoor.Pure
