/- In a block that was spread nobody reads, at the end, a register that a move was the last to put into, if that out of which it was put has been the same since: for every block. -/
import Derived.Test.YtjkjbfhhfdbnoaaSa
import Derived.Test.YtjkjbfhhfdbnoaaPBx13
import Derived.Test.YtjkjbfhhfdbnoaaPBx14
import Derived.Test.YtjkjbfhhfdbnoaaPBx4
namespace Go.Proofs.Ytjkjbfhhfdbnoaa.Pure
open Go.RowKit Go.Maps Go.Proofs.Ytjkjbfhhfdbnoaa.PB Go.Proofs.Ytjkjbfhhfdbnoaa.NW Go.Proofs.YtjkjbfhhfdbnoaaW.PrintWords Go.Proofs.YtjkjbfhhfdbnoaaW.PrintLast Go.Proofs.YtjkjbfhhfdbnoaaW.PrintMore Go.Proofs.YtjkjbfhhfdbnoaaW.Own
set_option linter.unusedVariables false
set_option linter.unusedSimpArgs false

/-! ### What Spread knows at the end -/
/-- does an instruction put something into this register? -/
def puts (y : S39) (r : Int) : Prop := y.f0 ≠ 6 ∧ y.f0 ≠ 8 ∧ y.f1 = r
/-- the last to put into r was a move out of a, and a has been the same since -/
def Moved (out : List S39) (r a : Int) : Prop := ∃ pre m post, out = pre ++ m :: post ∧ m.f0 = 2 ∧ m.f1 = r ∧ m.f2 = a ∧ ∀ y ∈ post, ¬ puts y r ∧ ¬ puts y a
theorem moved_snoc {out : List S39} {y : S39} {r a : Int} (h : Moved (out ++ [y]) r a) : (y.f0 = 2 ∧ y.f1 = r ∧ y.f2 = a) ∨ (Moved out r a ∧ ¬ puts y r ∧ ¬ puts y a) := by
  obtain ⟨pre, m, post, e, h1, h2, h3, h4⟩ := h
  rcases List.eq_nil_or_concat post with rfl | ⟨p, z, rfl⟩
  · have e2 := List.append_inj' e (by simp)
    simp at e2
    obtain ⟨_, rfl⟩ := e2
    exact .inl ⟨h1, h2, h3⟩
  · have e' : out ++ [y] = (pre ++ m :: p) ++ [z] := by rw [e]; simp
    have e2 := List.append_inj' e' (by simp)
    simp at e2
    obtain ⟨e3, rfl⟩ := e2
    exact .inr ⟨⟨pre, m, p, e3, h1, h2, h3, fun x hx => h4 x (by simp [hx])⟩, (h4 y (by simp)).1, (h4 y (by simp)).2⟩
/-- what holds of what is known, and what has been put out -/
structure Knows (f : Int → Option Int) (out : List S39) : Prop where
  moved : ∀ r a, Moved out r a → f r = some a
  flat : ∀ s r, f s = some r → f r = none ∧ s ≠ r
theorem ofF_none {f : Int → Option Int} (h : ∀ s r, f s = some r → f r = none ∧ s ≠ r) (x : Int) : f (ofF f x) = none := by
  unfold ofF
  cases hx : f x with
  | none => exact hx
  | some c => exact (h x c hx).1
theorem putF_flat {f : Int → Option Int} (h : ∀ s r, f s = some r → f r = none ∧ s ≠ r) (d : Int) : ∀ s r, putF f d s = some r → putF f d r = none ∧ s ≠ r := by
  intro s r hs
  unfold putF at hs ⊢
  by_cases e : s = d
  · rw [if_pos e] at hs; cases hs
  rw [if_neg e] at hs
  by_cases e2 : f s = some d
  · rw [if_pos e2] at hs; cases hs
  rw [if_neg e2] at hs
  obtain ⟨h1, h2⟩ := h s r hs
  refine ⟨?_, h2⟩
  split
  · rfl
  · rw [h1]; simp
theorem knows_put {f : Int → Option Int} {out : List S39} {y : S39} (h : Knows f out) (h2 : y.f0 ≠ 2) (h6 : y.f0 ≠ 6) (h8 : y.f0 ≠ 8) : Knows (putF f y.f1) (out ++ [y]) := by
  refine ⟨fun r a hm => ?_, putF_flat h.flat _⟩
  rcases moved_snoc hm with ⟨e, _⟩ | ⟨hm, n1, n2⟩
  · exact absurd e h2
  · have hf := h.moved r a hm
    have e1 : r ≠ y.f1 := fun e => n1 ⟨h6, h8, e.symm⟩
    have e2 : a ≠ y.f1 := fun e => n2 ⟨h6, h8, e.symm⟩
    unfold putF
    rw [if_neg e1, if_neg (by rw [hf]; intro e; injection e with e; exact e2 e), hf]
theorem knows_same {f : Int → Option Int} {out : List S39} {y : S39} (h : Knows f out) (h2 : y.f0 ≠ 2) : Knows f (out ++ [y]) := by
  refine ⟨fun r a hm => ?_, h.flat⟩
  rcases moved_snoc hm with ⟨e, _⟩ | ⟨hm, _, _⟩
  · exact absurd e h2
  · exact h.moved r a hm
theorem knows_step {f : Int → Option Int} {out : List S39} (h : Knows f out) (x : S39) : Knows (runS (f, out) x).1 (runS (f, out) x).2 := by
  unfold runS stepI
  dsimp only
  by_cases c6 : x.f0 = 6
  · rw [if_pos c6]; exact knows_same (y := x) h (by omega)
  rw [if_neg c6]
  by_cases c8 : x.f0 = 8
  · rw [if_pos c8]; exact knows_same (y := { x with f2 := ofF f x.f2 }) h (by show x.f0 ≠ 2; omega)
  rw [if_neg c8]
  by_cases c2 : x.f0 = 2
  · rw [if_pos c2]
    by_cases e : ofF f x.f2 = x.f1
    · rw [if_pos e]; exact h
    rw [if_neg e]
    have hn := ofF_none h.flat x.f2
    generalize ofF f x.f2 = a0 at e hn
    refine ⟨fun r a hm => ?_, fun s r hs => ?_⟩
    · show setF (putF f x.f1) x.f1 a0 r = some a
      rcases moved_snoc hm with ⟨_, e1, e2⟩ | ⟨hm, n1, n2⟩
      · unfold setF
        have e1' : x.f1 = r := e1
        have e2' : a0 = a := e2
        rw [if_pos e1'.symm, e2']
      · have hf := h.moved r a hm
        have e1 : r ≠ x.f1 := fun e => n1 ⟨c6, c8, e.symm⟩
        have e2 : a ≠ x.f1 := fun e => n2 ⟨c6, c8, e.symm⟩
        unfold setF putF
        rw [if_neg e1, if_neg e1, if_neg (by rw [hf]; intro e; injection e with e; exact e2 e), hf]
    · have hs' : setF (putF f x.f1) x.f1 a0 s = some r := hs
      show setF (putF f x.f1) x.f1 a0 r = none ∧ s ≠ r
      unfold setF at hs' ⊢
      by_cases es : s = x.f1
      · rw [if_pos es] at hs'
        injection hs' with hs'
        subst hs'
        refine ⟨?_, fun e' => e (e' ▸ es)⟩
        rw [if_neg e]
        unfold putF
        rw [if_neg e, hn]
        simp
      · rw [if_neg es] at hs'
        obtain ⟨h1, h2⟩ := putF_flat h.flat x.f1 s r hs'
        refine ⟨?_, h2⟩
        have hr : r ≠ x.f1 := by
          intro er
          unfold putF at hs'
          rw [if_neg es] at hs'
          by_cases e2 : f s = some x.f1
          · rw [if_pos e2] at hs'; cases hs'
          · rw [if_neg e2, er] at hs'; exact e2 hs'
        rw [if_neg hr]
        exact h1
  rw [if_neg c2]
  by_cases c4 : x.f0 = 4
  · rw [if_pos c4]; exact knows_put (y := { x with f3 := ofF f x.f3, f2 := ofF f x.f2 }) h c2 c6 c8
  rw [if_neg c4]
  by_cases c3 : x.f0 = 3
  · rw [if_pos c3]; exact knows_put (y := { x with f2 := ofF f x.f2 }) h c2 c6 c8
  rw [if_neg c3]
  exact knows_put h c2 c6 c8
theorem knows_foldl : ∀ (l : List S39) (s : (Int → Option Int) × List S39), Knows s.1 s.2 → Knows (l.foldl runS s).1 (l.foldl runS s).2
  | [], _, h => h
  | x :: l, (f, out), h => knows_foldl l _ (knows_step h x)
theorem knows_run (l : List S39) : Knows (runL l).1 (runL l).2 := knows_foldl l _ ⟨fun r a hm => by
  obtain ⟨pre, m, post, e, _⟩ := hm
  simp at e, fun s r h => by cases h⟩
/-- no register at the end is one that a move was the last to put into, out of one that has been the same since -/
theorem no_moved (l : List S39) (s a : Int) : ¬ Moved (runL l).2 (ofF (runL l).1 s) a := by
  intro hm
  have h := knows_run l
  have h1 := h.moved _ _ hm
  rw [ofF_none h.flat] at h1
  cases h1
theorem run_le (l : List S39) : (runL l).2.length ≤ l.length := by
  have := runL_len l l.length
  rwa [List.take_of_length_le (Nat.le_refl _)] at this

/-! ### The law's loops -/
theorem awake_f : sacristanlaw17_awake.f = some true := by decide +kernel
theorem touched_l0 (l : List S39) (a : Int) (hn : l.length ≤ 1000) : ∀ (d k i : Nat), l.length - i = d → i ≤ l.length → 2 * d < k →
    ∃ b, sacristanlaw17_touched.l0 k l a (i : Int) = some b ∧ (b = false → ∀ y ∈ l.drop i, ¬ puts y a) := by
  intro d
  induction d with
  | zero =>
    intro k i hd hi hk
    obtain ⟨k, rfl⟩ : ∃ m, k = m + 1 := ⟨k - 1, by omega⟩
    refine ⟨false, ?_, fun _ y hy => ?_⟩
    · simp only [sacristanlaw17_touched.l0]
      rw [if_neg (by omega)]
    · rw [List.drop_of_length_le (by omega)] at hy; simp at hy
  | succ d ih =>
    intro k i hd hi hk
    obtain ⟨k, rfl⟩ : ∃ m, k = m + 2 := ⟨k - 2, by omega⟩
    have hlt : i < l.length := by omega
    obtain ⟨b, hb, hj⟩ := ih k (i + 1) (by omega) (by omega) (by omega)
    have hw : wrap64 ((i : Int) + 1) = ((i + 1 : Nat) : Int) := by rw [w64s (by omega) (by omega)]; omega
    have hgo : ∀ q, sacristanlaw17_touched.j1 (k + 1) l a (i : Int) q = if q = true then some true else some b := by
      intro q
      simp only [sacristanlaw17_touched.j1]
      rw [hw, hb]
    simp only [sacristanlaw17_touched.l0]
    rw [if_pos (by omega), if_pos (by omega), rdT_nat hlt, hgo, hgo]
    by_cases h6 : l[i].f0 = 6
    · rw [if_pos h6, if_neg (by decide)]
      refine ⟨b, rfl, fun e y hy => ?_⟩
      rw [List.drop_eq_getElem_cons hlt] at hy
      rcases List.mem_cons.1 hy with rfl | hy
      · exact fun p => p.1 h6
      · exact hj e y hy
    rw [if_neg h6]
    by_cases h8 : l[i].f0 = 8
    · rw [if_pos h8, if_neg (by decide)]
      refine ⟨b, rfl, fun e y hy => ?_⟩
      rw [List.drop_eq_getElem_cons hlt] at hy
      rcases List.mem_cons.1 hy with rfl | hy
      · exact fun p => p.2.1 h8
      · exact hj e y hy
    rw [if_neg h8]
    by_cases h1 : l[i].f1 = a
    · rw [if_pos (beq_iff_eq.2 h1)]
      exact ⟨true, rfl, fun e => by cases e⟩
    · rw [if_neg (by rw [beq_iff_eq]; exact h1)]
      refine ⟨b, rfl, fun e y hy => ?_⟩
      rw [List.drop_eq_getElem_cons hlt] at hy
      rcases List.mem_cons.1 hy with rfl | hy
      · exact fun p => h1 p.2.2
      · exact hj e y hy
/-- from some number of rounds on, it answers true -/
def Evt (g : Nat → Option Bool) : Prop := ∃ K, ∀ k, K ≤ k → g k = some true
theorem Evt.step {g h : Nat → Option Bool} (n : Nat) (hg : Evt g) (hh : ∀ k, h (k + n) = g k) : Evt h := by
  obtain ⟨K, hK⟩ := hg
  refine ⟨K + n, fun k hk => ?_⟩
  obtain ⟨m, rfl⟩ : ∃ m, k = m + n := ⟨k - n, by omega⟩
  rw [hh]
  exact hK m (by omega)
theorem ends_l1 (out : List S39) (save : List Int) (z0 z1 z2 z4 : Int) (stack : List Int) (z7 z8 z9 : Int) (q : Nat) (hq : q < save.length) (hs : save.length ≤ 400) (hn : out.length ≤ 100) (hno : ∀ a, ¬ Moved out save[q] a)
    (h0 : Evt fun k => sacristanlaw17_SpreadEnds.l0 k ((q + 1 : Nat) : Int) z0 z1 z2 out z4 save stack z7 z8 z9) :
    ∀ (d : Nat), d ≤ out.length → (∀ y ∈ out.drop d, ¬ puts y save[q]) → Evt fun k => sacristanlaw17_SpreadEnds.l1 k (q : Int) ((d : Int) - 1) z0 z1 z2 out z4 save stack z7 z8 z9 := by
  have hwq : wrap64 ((q : Int) + 1) = ((q + 1 : Nat) : Int) := by rw [w64s (by omega) (by omega)]; omega
  intro d
  induction d with
  | zero =>
    intro hd hp
    refine h0.step 1 fun k => ?_
    simp only [sacristanlaw17_SpreadEnds.l1]
    rw [if_neg (by omega), hwq]
  | succ d ih =>
    intro hd hp
    have hlt : d < out.length := by omega
    have he : (((d + 1 : Nat) : Int) - 1) = (d : Int) := by omega
    have hw1 : wrap64 ((d : Int) - 1) = (d : Int) - 1 := w64s (by omega) (by omega)
    have hw2 : wrap64 ((d : Int) + 1) = ((d + 1 : Nat) : Int) := by rw [w64s (by omega) (by omega)]; omega
    rw [he]
    have hdrop : out.drop d = out[d] :: out.drop (d + 1) := List.drop_eq_getElem_cons hlt
    by_cases hput : puts out[d] save[q]
    · -- the last put: no move, or one out of what has been touched since
      obtain ⟨h6, h8, h1⟩ := hput
      have key : Evt fun k => sacristanlaw17_SpreadEnds.j3 (k + 1) (q : Int) (d : Int) (out[d].f1 != save[q]) z0 z1 z2 out z4 save stack z7 z8 z9 out[d].f0 out[d].f1 out[d].f2 out[d].f3 out[d].f4 out[d].f5.f0 out[d].f5.f1 out[d].f5.f2 := by
        obtain ⟨K, hK⟩ := h0
        refine ⟨K + 400, fun k hk => ?_⟩
        simp only [sacristanlaw17_SpreadEnds.j3]
        rw [if_neg (by rw [h1]; simp)]
        by_cases h2 : out[d].f0 = 2
        · rw [if_pos h2, hw2, if_pos (by omega), if_pos (by omega), show (((d + 1 : Nat) : Int)).toNat = d + 1 by omega]
          obtain ⟨b, hb, hj⟩ := touched_l0 (out.drop (d + 1)) out[d].f2 (by simp; omega) (out.drop (d + 1)).length k 0 (by omega) (by omega) (by simp; omega)
          have hb' : sacristanlaw17_touched.f k (out.drop (d + 1)) out[d].f2 = some b := hb
          rw [hb', Option.bind_some]
          cases b with
          | true => rw [if_pos rfl, hwq]; exact hK k (by omega)
          | false =>
            exfalso
            refine hno out[d].f2 ⟨out.take d, out[d], out.drop (d + 1), ?_, h2, h1, rfl, fun y hy => ⟨hp y hy, hj rfl y (by simpa using hy)⟩⟩
            rw [← hdrop, List.take_append_drop]
        · rw [if_neg h2, hwq]; exact hK k (by omega)
      refine key.step 2 fun k => ?_
      simp only [sacristanlaw17_SpreadEnds.l1]
      rw [if_pos (by omega), if_pos (by omega), if_pos (by omega), rdT_nat hlt, if_neg h6, if_neg h8, if_pos (by omega), if_pos (by omega), rd_nat hq]
    · have hgo := ih (by omega) (fun y hy => by
        rw [hdrop] at hy
        rcases List.mem_cons.1 hy with rfl | hy
        · exact hput
        · exact hp y hy)
      refine hgo.step 2 fun k => ?_
      simp only [sacristanlaw17_SpreadEnds.l1]
      rw [if_pos (by omega), if_pos (by omega), if_pos (by omega), rdT_nat hlt]
      have hj : sacristanlaw17_SpreadEnds.j3 (k + 1) (q : Int) (d : Int) true z0 z1 z2 out z4 save stack z7 z8 z9 out[d].f0 out[d].f1 out[d].f2 out[d].f3 out[d].f4 out[d].f5.f0 out[d].f5.f1 out[d].f5.f2 = sacristanlaw17_SpreadEnds.l1 k (q : Int) ((d : Int) - 1) z0 z1 z2 out z4 save stack z7 z8 z9 := by
        simp only [sacristanlaw17_SpreadEnds.j3, if_true]
        rw [hw1]
      by_cases h6 : out[d].f0 = 6
      · rw [if_pos h6, hj]
      rw [if_neg h6]
      by_cases h8 : out[d].f0 = 8
      · rw [if_pos h8, hj]
      rw [if_neg h8, if_pos (by omega), if_pos (by omega), rd_nat hq, show (out[d].f1 != save[q]) = true from bne_iff_ne.2 (fun e => hput ⟨h6, h8, e⟩), hj]
theorem ends_l0 (out : List S39) (save : List Int) (z0 z1 z2 z4 : Int) (stack : List Int) (z7 z8 z9 : Int) (hs : save.length ≤ 400) (hn : out.length ≤ 100) (hno : ∀ (q : Nat) (h : q < save.length) a, ¬ Moved out save[q] a) :
    ∀ (d q : Nat), save.length - q = d → q ≤ save.length → Evt fun k => sacristanlaw17_SpreadEnds.l0 k (q : Int) z0 z1 z2 out z4 save stack z7 z8 z9 := by
  intro d
  induction d with
  | zero =>
    intro q hd hq
    refine ⟨1, fun k hk => ?_⟩
    obtain ⟨k, rfl⟩ : ∃ m, k = m + 1 := ⟨k - 1, by omega⟩
    simp only [sacristanlaw17_SpreadEnds.l0]
    rw [if_neg (by omega), awake_f]
    rfl
  | succ d ih =>
    intro q hd hq
    have h := ends_l1 out save z0 z1 z2 z4 stack z7 z8 z9 q (by omega) hs hn (hno q (by omega)) (ih (q + 1) (by omega) (by omega)) out.length (Nat.le_refl _) (fun y hy => by rw [List.drop_length] at hy; simp at hy)
    refine h.step 1 fun k => ?_
    simp only [sacristanlaw17_SpreadEnds.l0]
    rw [if_pos (by omega), w64s (by omega) (by omega)]
theorem spread_f {z0 z1 z2 : Int} {l3 : List S39} {z4 : Int} {l5 l6 : List Int} {z7 z8 z9 : Int} (h3 : l3.length ≤ 100) (h5 : l5.length ≤ 400) (h6 : l6.length ≤ 400) (hw : ∀ x ∈ l3, x.f4.size ≤ 100) :
    spread_Spread.f z0 z1 z2 l3 z4 l5 l6 z7 z8 z9 = some (z0, z1, z2, (spreadF z0 z1 z2 l3 z4 l5 l6 z7 z8 z9).1, z4, (spreadF z0 z1 z2 l3 z4 l5 l6 z7 z8 z9).2.1, (spreadF z0 z1 z2 l3 z4 l5 l6 z7 z8 z9).2.2.1, (spreadF z0 z1 z2 l3 z4 l5 l6 z7 z8 z9).2.2.2, z8, z9) := by
  unfold spread_Spread.f
  rw [if_pos]
  simp only [Bool.and_eq_true, List.all_eq_true, decide_eq_true_eq]
  exact ⟨fun x hx => by have := hw x hx; omega, by omega, by omega, by omega⟩
/-- THE LAW, plainly -/
theorem SpreadEnds (z0 z1 z2 : Int) (l3 : List S39) (z4 : Int) (l5 l6 : List Int) (z7 z8 z9 : Int) : ∃ k, sacristanlaw17_SpreadEnds.f k z0 z1 z2 l3 z4 l5 l6 z7 z8 z9 = some true := by
  have ht : ∀ k, sacristanlaw17_SpreadEnds.j0 (k + 1) true z0 z1 z2 l3 z4 l5 l6 z7 z8 z9 = some true := by
    intro k
    simp only [sacristanlaw17_SpreadEnds.j0, if_true]
    rw [awake_f]; rfl
  obtain ⟨b, hb, hsm⟩ := great_f z0 z1 z2 l3 z4 l5 l6 z7 z8 z9 [] [] [] []
  cases b with
  | true =>
    refine ⟨6000, ?_⟩
    unfold sacristanlaw17_SpreadEnds.f
    rw [hb _ (by omega), Option.bind_some, if_pos rfl]
    exact ht 5999
  | false =>
    have hs := hsm rfl
    cases hm : mayBlk z0 z1 z2 l3 z4 l5 l6 z7 z8 z9 with
    | false =>
      refine ⟨6000, ?_⟩
      unfold sacristanlaw17_SpreadEnds.f
      rw [hb _ (by omega), Option.bind_some, if_neg (by decide), may_f _ _ _ _ _ _ _ _ _ _ hs.save hs.stack _ (by omega), Option.bind_some, hm]
      exact ht 5999
    | true =>
      have hsp : spreadF z0 z1 z2 l3 z4 l5 l6 z7 z8 z9 = ((runL l3).2, l5.map (ofF (runL l3).1), l6.map (ofF (runL l3).1), if 0 ≤ z7 then ofF (runL l3).1 z7 else z7) := by unfold spreadF; rw [if_pos hm]
      have hl := run_le l3
      have h3 := hs.insts
      obtain ⟨K, hK⟩ := ends_l0 (runL l3).2 (l5.map (ofF (runL l3).1)) z0 z1 z2 z4 (l6.map (ofF (runL l3).1)) (if 0 ≤ z7 then ofF (runL l3).1 z7 else z7) z8 z9 (by rw [List.length_map]; exact hs.save) (by omega)
        (fun q h a => by rw [List.getElem_map]; exact no_moved l3 _ a) _ 0 rfl (Nat.zero_le _)
      refine ⟨K + 6000, ?_⟩
      unfold sacristanlaw17_SpreadEnds.f
      rw [hb _ (by omega), Option.bind_some, if_neg (by decide), may_f _ _ _ _ _ _ _ _ _ _ hs.save hs.stack _ (by omega), Option.bind_some, hm]
      show sacristanlaw17_SpreadEnds.j0 (K + 5999 + 1) false z0 z1 z2 l3 z4 l5 l6 z7 z8 z9 = some true
      simp only [sacristanlaw17_SpreadEnds.j0, Bool.false_eq_true, if_false]
      rw [spread_f hs.insts hs.save hs.stack (fun x hx => (hs.words x hx).1), hsp, Option.bind_some]
      exact hK (K + 5999) (by omega)
end Go.Proofs.Ytjkjbfhhfdbnoaa.Pure
