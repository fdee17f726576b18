/- A block that was spread tells what the block tells, plainly. -/
import Derived.Test.YtjkjbfhhfdbnoaaRj
import Derived.Test.YtjkjbfhhfdbnoaaRl
namespace Go.Proofs.Ytjkjbfhhfdbnoaa.NW
open Go.RowKit Go.Proofs.YtjkjbfhhfdbnoaaW.PrintWords Go.Proofs.YtjkjbfhhfdbnoaaW.PrintMore Go.Proofs.Ytjkjbfhhfdbnoaa.PB
set_option linter.unusedVariables false
set_option linter.unusedSimpArgs false

/-! ### How a block goes, plainly -/
/-- what a word answers at one value, at two: none where it has an error -/
structure Ops where
  one : ByteArray → S37 → Option S37
  two : ByteArray → S37 → S37 → Option S37
/-- what an instruction puts -/
def valK (O : Ops) (ups : List S37) (i : S39) (r : List S37) (g : List S54) : Option S37 :=
  if i.f0 = 1 then some i.f5
  else if i.f0 = 2 then some (rd_T37 r i.f2)
  else if i.f0 = 3 then O.one i.f4 (rd_T37 r i.f2)
  else if i.f0 = 4 then O.two i.f4 (rd_T37 r i.f2) (rd_T37 r i.f3)
  else if i.f0 = 5 then (if i.f2 < ups.length then some (rd_T37 ups i.f2) else none)
  else if i.f0 = 7 then (if i.f2 < (rd_T54 g i.f3).f3.length then some (rd_T37 (rd_T54 g i.f3).f3 i.f2) else none)
  else some z37
/-- what a guard keeps -/
def onK (ons : List S54) (i : S39) : Option S54 :=
  if (onF ons i.f4).2 = true then (if (onF ons i.f4).1.f1 = i.f2 then (if (onF ons i.f4).1.f2 = i.f3 then some (onF ons i.f4).1 else none) else none) else none
/-- sacristanref15.does -/
def doesK (O : Ops) (ups : List S37) (ons : List S54) (i : S39) (r : List S37) (g : List S54) : Option (List S37 × List S54) :=
  if i.f0 = 6 then (onK ons i).map fun o => (r, g ++ [o])
  else if i.f0 = 8 then (if (rd_T37 r i.f2).f0 = 2 then some (r, g) else none)
  else (valK O ups i r g).map fun v => (r.set i.f1.toNat v, g)
def runK (O : Ops) (ups : List S37) (ons : List S54) : List S39 → List S37 → List S54 → Option (List S37 × List S54)
  | [], r, g => some (r, g)
  | x :: l, r, g => (doesK O ups ons x r g).bind fun p => runK O ups ons l p.1 p.2
def nextK (r : List S37) (z7 z8 z9 : Int) : Option Int :=
  if 0 ≤ z7 then (if (rd_T37 r z7).f0 = 2 then (if (rd_T37 r z7).f1 = 0 then some z9 else some z8) else none) else some z8
def startK (z2 : Int) (slots stack : List S37) : List S37 := slots ++ stack ++ List.replicate (z2.toNat - (slots.length + stack.length)) z37
/-- sacristanref15.Eval -/
def evalK (O : Ops) (ups : List S37) (ons : List S54) (z0 z1 z2 : Int) (l3 : List S39) (z4 : Int) (l5 l6 : List Int) (z7 z8 z9 : Int) (slots stack : List S37) : Option (List S37 × List S37 × Int) :=
  if mayBlk z0 z1 z2 l3 z4 l5 l6 z7 z8 z9 = true then
    (if (slots.length : Int) = z0 then (if (stack.length : Int) = z1 then
      (runK O ups ons l3 (startK z2 slots stack) []).bind fun p => (nextK p.1 z7 z8 z9).map fun n => (l5.map (rd_T37 p.1), l6.map (rd_T37 p.1), n)
    else none) else none)
  else none

/-! ### Spread keeps what is told -/
def outs (f : Int → Option Int) : List S39 → List S39
  | [] => []
  | x :: l => (if (stepI f x).2.2 = true then [(stepI f x).2.1] else []) ++ outs (stepI f x).1 l
def fin (f : Int → Option Int) : List S39 → Int → Option Int
  | [] => f
  | x :: l => fin (stepI f x).1 l
theorem runS_foldl : ∀ (l : List S39) (f : Int → Option Int) (o : List S39), l.foldl runS (f, o) = (fin f l, o ++ outs f l)
  | [], f, o => by simp [fin, outs]
  | x :: l, f, o => by
    rw [List.foldl_cons, show runS (f, o) x = ((stepI f x).1, if (stepI f x).2.2 = true then o ++ [(stepI f x).2.1] else o) from rfl, runS_foldl l, fin, outs]
    congr 1
    by_cases h : (stepI f x).2.2 = true
    · rw [if_pos h, if_pos h, List.append_assoc]
    · rw [if_neg h, if_neg h]; rfl
theorem runL_eq (l : List S39) : runL l = (fin (fun _ => none) l, outs (fun _ => none) l) := by
  unfold runL
  rw [runS_foldl]
  rfl
/-- what is known of registers is so -/
structure SameIn (R : Int) (f : Int → Option Int) (r : List S37) : Prop where
  len : (r.length : Int) = R
  reg : ∀ k x, f k = some x → 0 ≤ k ∧ 0 ≤ x ∧ x < R
  eq : ∀ k x, f k = some x → rd_T37 r k = rd_T37 r x
theorem SameIn.of {R : Int} {f : Int → Option Int} {r : List S37} (h : SameIn R f r) (x : Int) : rd_T37 r (ofF f x) = rd_T37 r x := by
  unfold ofF
  cases e : f x with
  | none => rfl
  | some y => exact (h.eq x y e).symm
/-- registers that are copies stay registers -/
def InR (R : Int) (f : Int → Option Int) : Prop := ∀ k x, f k = some x → 0 ≤ k ∧ 0 ≤ x ∧ x < R
theorem InR.of {R : Int} {f : Int → Option Int} (h : InR R f) {x : Int} (hx : 0 ≤ x ∧ x < R) : 0 ≤ ofF f x ∧ ofF f x < R := by
  unfold ofF
  cases e : f x with
  | none => exact hx
  | some y => exact (h x y e).2
theorem InR.put {R : Int} {f : Int → Option Int} (h : InR R f) (d : Int) : InR R (putF f d) := fun k x e => by
  unfold putF at e
  split at e
  · cases e
  · split at e
    · cases e
    · exact h k x e
theorem InR.set {R : Int} {f : Int → Option Int} (h : InR R f) {d a : Int} (hd : 0 ≤ d) (ha : 0 ≤ a ∧ a < R) : InR R (setF f d a) := fun k x e => by
  unfold setF at e
  split at e
  · rename_i hk; injection e with e; subst e; subst hk; exact ⟨hd, ha⟩
  · exact h k x e
theorem rd_set_self {r : List S37} {d : Int} {v : S37} (h0 : 0 ≤ d) (h1 : d < r.length) : rd_T37 (r.set d.toNat v) d = v := by
  rw [rd_T37, List.getD_eq_getElem?_getD, List.getElem?_set_self (by omega)]; rfl
theorem rd_set_ne {r : List S37} {d k : Int} {v : S37} (h0 : 0 ≤ d) (hk : 0 ≤ k) (h : k ≠ d) : rd_T37 (r.set d.toNat v) k = rd_T37 r k := by
  rw [rd_T37, rd_T37, List.getD_eq_getElem?_getD, List.getD_eq_getElem?_getD, List.getElem?_set_ne (by omega)]
theorem rd_set_same {r : List S37} {d : Int} (h0 : 0 ≤ d) (h1 : d < r.length) : r.set d.toNat (rd_T37 r d) = r := by
  rw [rd_T37, List.getD_eq_getElem?_getD, List.getElem?_eq_getElem (by omega)]
  simp
theorem SameIn.put {R : Int} {f : Int → Option Int} {r : List S37} (h : SameIn R f r) {d : Int} (v : S37) (h0 : 0 ≤ d) (h1 : d < R) : SameIn R (putF f d) (r.set d.toNat v) := by
  refine ⟨by rw [List.length_set]; exact h.len, InR.put h.reg d, fun k x e => ?_⟩
  unfold putF at e
  split at e
  · cases e
  rename_i hk
  split at e
  · cases e
  rename_i hx
  have hr := h.reg k x e
  rw [rd_set_ne h0 hr.1 hk, rd_set_ne h0 hr.2.1 (fun ee => hx (by rw [e, ee])), h.eq k x e]
theorem SameIn.set {R : Int} {f : Int → Option Int} {r : List S37} (h : SameIn R f r) {d a : Int} (h0 : 0 ≤ d) (h1 : d < R) (ha : 0 ≤ a ∧ a < R) (hne : a ≠ d) (hv : rd_T37 r d = rd_T37 r a) : SameIn R (setF f d a) r := by
  refine ⟨h.len, InR.set h.reg h0 ha, fun k x e => ?_⟩
  unfold setF at e
  split at e
  · rename_i hk; injection e with e; subst e; subst hk; exact hv
  · exact h.eq k x e
/-- one instruction: what it becomes does the same -/
theorem step_tells {O : Ops} {ups : List S37} {ons : List S54} {R : Int} {f : Int → Option Int} {x : S39} {r : List S37} (g : List S54) (hx : RegsOk R x) (h : SameIn R f r) :
    (if (stepI f x).2.2 = true then doesK O ups ons (stepI f x).2.1 r g else some (r, g)) = doesK O ups ons x r g ∧ ∀ p, doesK O ups ons x r g = some p → SameIn R (stepI f x).1 p.1 := by
  unfold stepI
  by_cases c6 : x.f0 = 6
  · rw [if_pos c6]
    refine ⟨if_pos rfl, fun p hp => ?_⟩
    unfold doesK at hp
    rw [if_pos c6, Option.map_eq_some_iff] at hp
    obtain ⟨o, _, rfl⟩ := hp
    exact h
  rw [if_neg c6]
  by_cases c8 : x.f0 = 8
  · rw [if_pos c8]
    refine ⟨?_, fun p hp => ?_⟩
    · show doesK O ups ons { x with f2 := ofF f x.f2 } r g = doesK O ups ons x r g
      unfold doesK
      rw [if_neg (by exact c6), if_pos (by exact c8), if_neg c6, if_pos c8]
      show (if (rd_T37 r (ofF f x.f2)).f0 = 2 then _ else _) = _
      rw [h.of]
    · unfold doesK at hp
      rw [if_neg c6, if_pos c8] at hp
      split at hp
      · injection hp with hp; subst hp; exact h
      · cases hp
  rw [if_neg c8]
  obtain ⟨d0, d1⟩ := hx.dst c6 c8
  have hl := h.len
  have hdo : ∀ y : S39, y.f0 = x.f0 → y.f1 = x.f1 → valK O ups y r g = valK O ups x r g → doesK O ups ons y r g = doesK O ups ons x r g := fun y e0 e1 ev => by
    unfold doesK
    rw [if_neg (by rw [e0]; exact c6), if_neg (by rw [e0]; exact c8), if_neg c6, if_neg c8, ev, e1]
  have hput : ∀ p, doesK O ups ons x r g = some p → SameIn R (putF f x.f1) p.1 := fun p hp => by
    unfold doesK at hp
    rw [if_neg c6, if_neg c8, Option.map_eq_some_iff] at hp
    obtain ⟨v, _, rfl⟩ := hp
    exact h.put v d0 d1
  by_cases c2 : x.f0 = 2
  · rw [if_pos c2]
    have hd2 : doesK O ups ons x r g = some (r.set x.f1.toNat (rd_T37 r x.f2), g) := by
      unfold doesK valK
      rw [if_neg c6, if_neg c8, if_neg (by omega), if_pos c2]; rfl
    have ha := InR.of h.reg (hx.a (.inl c2))
    by_cases ce : ofF f x.f2 = x.f1
    · rw [if_pos ce]
      have hsame : r.set x.f1.toNat (rd_T37 r x.f2) = r := by
        rw [← h.of x.f2, ce]; exact rd_set_same d0 (by omega)
      refine ⟨?_, fun p hp => ?_⟩
      · show some (r, g) = _
        rw [hd2, hsame]
      · rw [hd2, hsame] at hp; injection hp with hp; subst hp; exact h
    · rw [if_neg ce]
      refine ⟨?_, fun p hp => ?_⟩
      · show doesK O ups ons { x with f2 := ofF f x.f2 } r g = doesK O ups ons x r g
        refine hdo _ rfl rfl ?_
        unfold valK
        show (if x.f0 = 1 then _ else if x.f0 = 2 then some (rd_T37 r (ofF f x.f2)) else _) = _
        rw [h.of, if_neg (by omega), if_pos c2, if_neg (by omega), if_pos c2]
      · have h1 := hput p hp
        rw [hd2] at hp
        injection hp with hp
        subst hp
        refine h1.set d0 d1 ha ce ?_
        show rd_T37 (r.set x.f1.toNat _) x.f1 = rd_T37 (r.set x.f1.toNat _) (ofF f x.f2)
        rw [rd_set_self d0 (by omega), rd_set_ne d0 ha.1 ce, h.of]
  rw [if_neg c2]
  by_cases c4 : x.f0 = 4
  · rw [if_pos c4]
    refine ⟨?_, hput⟩
    show doesK O ups ons { x with f3 := ofF f x.f3, f2 := ofF f x.f2 } r g = doesK O ups ons x r g
    refine hdo _ rfl rfl ?_
    unfold valK
    show (if x.f0 = 1 then _ else if x.f0 = 2 then _ else if x.f0 = 3 then _ else if x.f0 = 4 then O.two x.f4 (rd_T37 r (ofF f x.f2)) (rd_T37 r (ofF f x.f3)) else _) = _
    rw [h.of, h.of]
    simp only [c4, show ¬ (4 : Int) = 1 by omega, show ¬ (4 : Int) = 2 by omega, show ¬ (4 : Int) = 3 by omega, if_true, if_false]
  rw [if_neg c4]
  by_cases c3 : x.f0 = 3
  · rw [if_pos c3]
    refine ⟨?_, hput⟩
    show doesK O ups ons { x with f2 := ofF f x.f2 } r g = doesK O ups ons x r g
    refine hdo _ rfl rfl ?_
    unfold valK
    show (if x.f0 = 1 then _ else if x.f0 = 2 then _ else if x.f0 = 3 then O.one x.f4 (rd_T37 r (ofF f x.f2)) else _) = _
    rw [h.of]
    simp only [c3, show ¬ (3 : Int) = 1 by omega, show ¬ (3 : Int) = 2 by omega, if_true, if_false]
  rw [if_neg c3]
  exact ⟨if_pos rfl, hput⟩
theorem outs_tells {O : Ops} {ups : List S37} {ons : List S54} {R : Int} : ∀ (l : List S39) (f : Int → Option Int) (r : List S37) (g : List S54), (∀ x ∈ l, RegsOk R x) → SameIn R f r →
    runK O ups ons (outs f l) r g = runK O ups ons l r g ∧ ∀ p, runK O ups ons l r g = some p → SameIn R (fin f l) p.1
  | [], f, r, g, _, h => ⟨rfl, fun p hp => by unfold runK at hp; injection hp with hp; subst hp; exact h⟩
  | x :: l, f, r, g, hl, h => by
    obtain ⟨h1, h2⟩ := step_tells (O := O) (ups := ups) (ons := ons) g (hl x (by simp)) h
    have ih := fun p (hp : doesK O ups ons x r g = some p) => outs_tells (O := O) (ups := ups) (ons := ons) l (stepI f x).1 p.1 p.2 (fun y hy => hl y (by simp [hy])) (h2 p hp)
    rw [outs, fin]
    constructor
    · rw [runK]
      by_cases hs : (stepI f x).2.2 = true
      · rw [if_pos hs] at h1 ⊢
        rw [List.singleton_append, runK, h1]
        cases hd : doesK O ups ons x r g with
        | none => rfl
        | some p => exact (ih p hd).1
      · rw [if_neg hs] at h1 ⊢
        rw [← h1, List.nil_append, Option.bind_some]
        exact (ih (r, g) h1.symm).1
    · intro p hp
      rw [runK, Option.bind_eq_some_iff] at hp
      obtain ⟨q, hq, hp⟩ := hp
      exact (ih q hq).2 p hp
theorem ofF_pos {R : Int} {f : Int → Option Int} (h : InR R f) {x : Int} : 0 ≤ x → 0 ≤ ofF f x := fun hx => by
  unfold ofF
  cases e : f x with
  | none => exact hx
  | some y => exact (h x y e).2.1
theorem start_len {z2 : Int} {slots stack : List S37} (h : (slots.length : Int) + stack.length ≤ z2) : ((startK z2 slots stack).length : Int) = z2 := by
  unfold startK
  simp
  omega
theorem regB_of {R x : Int} {f : Int → Option Int} (h : InR R f) (hx : regB R x = true) : regB R (ofF f x) = true := regB_iff.2 (InR.of h (regB_iff.1 hx))
theorem ifT {c : Prop} [Decidable c] {b : Bool} : (if c then b else false) = true ↔ c ∧ b = true := by by_cases h : c <;> simp [h]
theorem inst_tells {R : Int} {f : Int → Option Int} (h : InR R f) {x : S39} {g : Int} (hx : instB R x.f0 x.f1 x.f2 x.f3 x.f4 x.f5.f0 x.f5.f1 x.f5.f2 g = true) :
    (fun y : S39 => instB R y.f0 y.f1 y.f2 y.f3 y.f4 y.f5.f0 y.f5.f1 y.f5.f2 g = true ∧ y.f0 = x.f0) (stepI f x).2.1 ∧ InR R (stepI f x).1 ∧ ((stepI f x).2.2 = false → x.f0 = 2) := by
  have hr := regsOk_of hx
  unfold stepI
  by_cases c6 : x.f0 = 6
  · rw [if_pos c6]; exact ⟨⟨hx, rfl⟩, h, fun e => by cases e⟩
  rw [if_neg c6]
  by_cases c8 : x.f0 = 8
  · rw [if_pos c8]
    refine ⟨⟨?_, rfl⟩, h, fun e => by cases e⟩
    show instB R x.f0 x.f1 (ofF f x.f2) x.f3 x.f4 x.f5.f0 x.f5.f1 x.f5.f2 g = true
    unfold instB at hx ⊢
    simp only [c8, show ¬ (8 : Int) = 1 by omega, show ¬ (8 : Int) = 2 by omega, show ¬ (8 : Int) = 3 by omega, show ¬ (8 : Int) = 4 by omega, show ¬ (8 : Int) = 5 by omega, show ¬ (8 : Int) = 6 by omega, show ¬ (8 : Int) = 7 by omega, if_true, if_false] at hx ⊢
    exact regB_of h hx
  rw [if_neg c8]
  obtain ⟨d0, d1⟩ := hr.dst c6 c8
  by_cases c2 : x.f0 = 2
  · rw [if_pos c2]
    have hb : instB R x.f0 x.f1 (ofF f x.f2) x.f3 x.f4 x.f5.f0 x.f5.f1 x.f5.f2 g = true := by
      unfold instB at hx ⊢
      simp only [c2, show ¬ (2 : Int) = 1 by omega, if_true, if_false] at hx ⊢
      rw [ifT] at hx ⊢
      exact ⟨hx.1, regB_of h hx.2⟩
    by_cases ce : ofF f x.f2 = x.f1
    · rw [if_pos ce]; exact ⟨⟨hb, rfl⟩, h, fun _ => c2⟩
    · rw [if_neg ce]; exact ⟨⟨hb, rfl⟩, InR.set (InR.put h _) d0 (InR.of h (hr.a (.inl c2))), fun e => by cases e⟩
  rw [if_neg c2]
  by_cases c4 : x.f0 = 4
  · rw [if_pos c4]
    refine ⟨⟨?_, rfl⟩, InR.put h _, fun e => by cases e⟩
    show instB R x.f0 x.f1 (ofF f x.f2) (ofF f x.f3) x.f4 x.f5.f0 x.f5.f1 x.f5.f2 g = true
    unfold instB at hx ⊢
    simp only [c4, show ¬ (4 : Int) = 1 by omega, show ¬ (4 : Int) = 2 by omega, show ¬ (4 : Int) = 3 by omega, if_true, if_false] at hx ⊢
    rw [ifT, ifT, ifT] at hx ⊢
    exact ⟨hx.1, regB_of h hx.2.1, regB_of h hx.2.2.1, hx.2.2.2⟩
  rw [if_neg c4]
  by_cases c3 : x.f0 = 3
  · rw [if_pos c3]
    refine ⟨⟨?_, rfl⟩, InR.put h _, fun e => by cases e⟩
    show instB R x.f0 x.f1 (ofF f x.f2) x.f3 x.f4 x.f5.f0 x.f5.f1 x.f5.f2 g = true
    unfold instB at hx ⊢
    simp only [c3, show ¬ (3 : Int) = 1 by omega, show ¬ (3 : Int) = 2 by omega, if_true, if_false] at hx ⊢
    rw [ifT, ifT] at hx ⊢
    exact ⟨hx.1, regB_of h hx.2.1, hx.2.2⟩
  rw [if_neg c3]
  exact ⟨⟨hx, rfl⟩, InR.put h _, fun e => by cases e⟩
theorem outs_gs {R : Int} : ∀ (l : List S39) (f : Int → Option Int) (g : Int), InR R f → gsOk R l g = true → gsOk R (outs f l) g = true ∧ InR R (fin f l)
  | [], f, g, h, _ => ⟨rfl, h⟩
  | x :: l, f, g, h, hg => by
    rw [gsOk_cons, ifT] at hg
    obtain ⟨⟨h1, h2⟩, h3, h4⟩ := inst_tells h hg.1
    have ih := outs_gs l (stepI f x).1 _ h3 hg.2
    rw [outs, fin]
    refine ⟨?_, ih.2⟩
    by_cases hs : (stepI f x).2.2 = true
    · rw [if_pos hs, List.singleton_append, gsOk_cons, if_pos h1, h2]
      exact ih.1
    · rw [if_neg hs, List.nil_append]
      have e := h4 (by simpa using hs)
      rw [if_neg (by omega)] at ih
      exact ih.1
theorem outs_len : ∀ (l : List S39) (f : Int → Option Int), (outs f l).length ≤ l.length
  | [], f => Nat.le_refl _
  | x :: l, f => by
    have := outs_len l (stepI f x).1
    rw [outs]
    split <;> simp <;> omega
theorem bad_map {R : Int} {f : Int → Option Int} (h : InR R f) {l : List Int} (hl : l.any (badB R) = false) : (l.map (ofF f)).any (badB R) = false := by
  rw [List.any_eq_false]
  intro y hy
  obtain ⟨n, hn, rfl⟩ := List.mem_map.1 hy
  have := badB_iff.2 (InR.of h (any_bad hl n hn))
  simp [this]
theorem spread_may {z0 z1 z2 : Int} {l3 : List S39} {z4 : Int} {l5 l6 : List Int} {z7 z8 z9 : Int} (f : Int → Option Int) (hf : f = (runL l3).1) (h : MayIs z0 z1 z2 l3 z4 l5 l6 z7 z8 z9) :
    MayIs z0 z1 z2 (runL l3).2 z4 (l5.map (ofF f)) (l6.map (ofF f)) (if 0 ≤ z7 then ofF f z7 else z7) z8 z9 := by
  subst hf
  have h0 : InR z2 (fun _ => none) := fun k x e => by cases e
  obtain ⟨h1, h2⟩ := outs_gs l3 _ 0 h0 h.gs
  have h3 := outs_len l3 (fun _ => none)
  rw [runL_eq]
  refine ⟨h.pos, h.few, h.regs, Nat.le_trans h3 h.insts, h1, by rw [List.length_map]; exact h.save, by rw [List.length_map]; exact h.stack, ?_, bad_map h2 h.r5, bad_map h2 h.r6⟩
  have hc := h.cond
  by_cases hz : 0 ≤ z7
  · rw [if_pos hz]
    have h4 := InR.of h2 ⟨hz, hc.2⟩
    exact ⟨Int.le_trans (by decide) h4.1, h4.2⟩
  · rw [if_neg hz]; exact hc
/-- a block spread tells what the block tells -/
theorem spread_tells (O : Ops) (ups : List S37) (ons : List S54) (z0 z1 z2 : Int) (l3 : List S39) (z4 : Int) (l5 l6 : List Int) (z7 z8 z9 : Int) (slots stack : List S37) :
    evalK O ups ons z0 z1 z2 (spreadF z0 z1 z2 l3 z4 l5 l6 z7 z8 z9).1 z4 (spreadF z0 z1 z2 l3 z4 l5 l6 z7 z8 z9).2.1 (spreadF z0 z1 z2 l3 z4 l5 l6 z7 z8 z9).2.2.1 (spreadF z0 z1 z2 l3 z4 l5 l6 z7 z8 z9).2.2.2 z8 z9 slots stack
      = evalK O ups ons z0 z1 z2 l3 z4 l5 l6 z7 z8 z9 slots stack ∧
    mayBlk z0 z1 z2 (spreadF z0 z1 z2 l3 z4 l5 l6 z7 z8 z9).1 z4 (spreadF z0 z1 z2 l3 z4 l5 l6 z7 z8 z9).2.1 (spreadF z0 z1 z2 l3 z4 l5 l6 z7 z8 z9).2.2.1 (spreadF z0 z1 z2 l3 z4 l5 l6 z7 z8 z9).2.2.2 z8 z9 = mayBlk z0 z1 z2 l3 z4 l5 l6 z7 z8 z9 ∧
    (spreadF z0 z1 z2 l3 z4 l5 l6 z7 z8 z9).1.length ≤ l3.length := by
  cases hm : mayBlk z0 z1 z2 l3 z4 l5 l6 z7 z8 z9 with
  | false =>
    have hsp : spreadF z0 z1 z2 l3 z4 l5 l6 z7 z8 z9 = (l3, l5, l6, z7) := by unfold spreadF; rw [if_neg (by rw [hm]; decide)]
    rw [hsp]
    exact ⟨rfl, hm, Nat.le_refl _⟩
  | true =>
    have hsp : spreadF z0 z1 z2 l3 z4 l5 l6 z7 z8 z9 = ((runL l3).2, l5.map (ofF (runL l3).1), l6.map (ofF (runL l3).1), if 0 ≤ z7 then ofF (runL l3).1 z7 else z7) := by unfold spreadF; rw [if_pos hm]
    have hi := mayBlk_iff.1 hm
    have hi2 := spread_may _ rfl hi
    have hm2 := mayBlk_iff.2 hi2
    rw [hsp]
    dsimp only
    refine ⟨?_, hm2, by rw [runL_eq]; exact outs_len _ _⟩
    unfold evalK
    rw [hm, hm2, if_pos rfl, if_pos rfl]
    by_cases c0 : (slots.length : Int) = z0
    case neg => rw [if_neg c0, if_neg c0]
    by_cases c1 : (stack.length : Int) = z1
    case neg => rw [if_pos c0, if_pos c0, if_neg c1, if_neg c1]
    rw [if_pos c0, if_pos c0, if_pos c1, if_pos c1]
    have hst := start_len (z2 := z2) (slots := slots) (stack := stack) (by have := hi.regs; omega)
    have hs0 : SameIn z2 (fun _ => none) (startK z2 slots stack) := ⟨hst, fun k x (e : (none : Option Int) = some x) => (by cases e), fun k x (e : (none : Option Int) = some x) => (by cases e)⟩
    obtain ⟨h1, h2⟩ := outs_tells (O := O) (ups := ups) (ons := ons) l3 (fun _ => none) (startK z2 slots stack) [] (gsOk_regs hi.gs) hs0
    rw [runL_eq]
    dsimp only
    rw [h1]
    cases hr : runK O ups ons l3 (startK z2 slots stack) [] with
    | none => rfl
    | some p =>
      have hs := h2 p hr
      generalize hfin : fin (fun _ => none) l3 = f at hs
      rw [Option.bind_some, Option.bind_some]
      have hmap : ∀ l : List Int, (l.map (ofF f)).map (rd_T37 p.1) = l.map (rd_T37 p.1) := fun l => by
        rw [List.map_map]
        exact List.map_congr_left fun x _ => hs.of x
      rw [hmap, hmap]
      have hn : nextK p.1 (if 0 ≤ z7 then ofF f z7 else z7) z8 z9 = nextK p.1 z7 z8 z9 := by
        by_cases hz : 0 ≤ z7
        · rw [if_pos hz]
          unfold nextK
          rw [if_pos (ofF_pos hs.reg hz), if_pos hz, hs.of]
        · rw [if_neg hz]
      rw [hn]
end Go.Proofs.Ytjkjbfhhfdbnoaa.NW
