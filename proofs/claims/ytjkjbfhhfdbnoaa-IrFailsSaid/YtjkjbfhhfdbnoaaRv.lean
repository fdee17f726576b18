/- What Eval keeps of the values; its answers' form. -/
import Derived.Test.YtjkjbfhhfdbnoaaRu
import Derived.Test.YtjkjbfhhfdbnoaaRs
namespace Go.Proofs.Ytjkjbfhhfdbnoaa.NW
open Go.RowKit Go.Proofs.YtjkjbfhhfdbnoaaW.PrintWords Go.Proofs.YtjkjbfhhfdbnoaaW.PrintMore Go.Proofs.Ytjkjbfhhfdbnoaa.PB
set_option linter.unusedVariables false
set_option linter.unusedSimpArgs false

/-- the values that come in, and those that a block may put -/
structure AllP (P : S37 → Prop) (l7 l8 ups : List S37) (ons : List S54) (l3 : List S39) : Prop where
  s : ∀ v ∈ l7, P v
  t : ∀ v ∈ l8, P v
  u : ∀ v ∈ ups, P v
  o : ∀ x ∈ ons, ∀ v ∈ x.f3, P v
  k : ∀ x ∈ l3, x.f0 = 1 → mayB x.f5.f0 x.f5.f1 x.f5.f2 = true → P x.f5
  z : P z37
theorem onF_mem {l : List S54} {s : ByteArray} (h : (onF l s).2 = true) : (onF l s).1 ∈ l := by
  unfold onF at h ⊢
  cases e : l.find? (fun o => o.f0.toList == s.toList) with
  | none => rw [e] at h; cases h
  | some o => exact List.mem_of_find?_eq_some e
theorem instOk_of {R : Int} {x : S39} {r : List S37} {g : List S54} (hR : (r.length : Int) = R) (h : instB R x.f0 x.f1 x.f2 x.f3 x.f4 x.f5.f0 x.f5.f1 x.f5.f2 g.length = true) : InstOk r.length g.length x := by
  have hr := regsOk_of h
  refine ⟨fun a b => by rw [hR]; exact hr.dst a b, fun a => by rw [hR]; exact hr.a a, fun a => by rw [hR]; exact hr.b a, fun a => ?_, fun a => ?_⟩
  · unfold instB at h
    rcases a with a | a
    · simp only [a, show ¬ (5 : Int) = 1 by omega, show ¬ (5 : Int) = 2 by omega, show ¬ (5 : Int) = 3 by omega, show ¬ (5 : Int) = 4 by omega, if_true, if_false] at h
      rw [ifT] at h
      simpa using h.2
    · simp only [a, show ¬ (7 : Int) = 1 by omega, show ¬ (7 : Int) = 2 by omega, show ¬ (7 : Int) = 3 by omega, show ¬ (7 : Int) = 4 by omega, show ¬ (7 : Int) = 5 by omega, show ¬ (7 : Int) = 6 by omega, if_true, if_false] at h
      rw [ifT, ifT, ifT] at h
      exact h.2.1
  · unfold instB at h
    simp only [a, show ¬ (7 : Int) = 1 by omega, show ¬ (7 : Int) = 2 by omega, show ¬ (7 : Int) = 3 by omega, show ¬ (7 : Int) = 4 by omega, show ¬ (7 : Int) = 5 by omega, show ¬ (7 : Int) = 6 by omega, if_true, if_false] at h
    rw [ifT, ifT, ifT] at h
    exact ⟨h.2.2.1, by simpa using h.2.2.2⟩
theorem mem_rd54 {l : List S54} {i : Int} (h0 : 0 ≤ i) (h1 : i < l.length) : rd_T54 l i ∈ l := by
  rw [rd_T54, List.getD_eq_getElem?_getD, List.getElem?_eq_getElem (by omega)]
  exact List.getElem_mem _
/-- what an instruction leaves -/
structure Left (P : S37 → Prop) (R : Nat) (r : List S37) (g : List S54) : Prop where
  len : r.length = R
  r : ∀ v ∈ r, P v
  g : ∀ o ∈ g, ∀ v ∈ o.f3, P v
theorem does_keeps {O : Ops} {P : S37 → Prop} (hO : OpsAre O P) {l7 l8 ups : List S37} {ons : List S54} {l3 : List S39} (hA : AllP P l7 l8 ups ons l3) {R : Nat} {x : S39} {r r' : List S37} {g g' : List S54} (hL : Left P R r g) (hm : x ∈ l3)
    (hx : instB R x.f0 x.f1 x.f2 x.f3 x.f4 x.f5.f0 x.f5.f1 x.f5.f2 g.length = true) (h : doesK O ups ons x r g = some (r', g')) : Left P R r' g' ∧ g'.length = (if x.f0 = 6 then g.length + 1 else g.length) := by
  have hi := instOk_of (r := r) (g := g) (by rw [hL.len]) hx
  unfold doesK at h
  by_cases c6 : x.f0 = 6
  · rw [if_pos c6, Option.map_eq_some_iff] at h
    obtain ⟨o, ho, h⟩ := h
    simp only [Prod.mk.injEq] at h
    obtain ⟨rfl, rfl⟩ := h
    unfold onK at ho
    split at ho
    case isFalse => cases ho
    rename_i h2
    split at ho
    case isFalse => cases ho
    split at ho
    case isFalse => cases ho
    injection ho with ho
    subst ho
    refine ⟨⟨hL.len, hL.r, fun o ho v hv => ?_⟩, by rw [if_pos c6]; simp⟩
    rcases List.mem_append.1 ho with ho | ho
    · exact hL.g o ho v hv
    · rw [List.mem_singleton.1 ho] at hv
      exact hA.o _ (onF_mem h2) v hv
  rw [if_neg c6] at h
  rw [if_neg c6]
  by_cases c8 : x.f0 = 8
  · rw [if_pos c8] at h
    split at h
    · injection h with h; simp only [Prod.mk.injEq] at h; obtain ⟨rfl, rfl⟩ := h; exact ⟨hL, rfl⟩
    · cases h
  rw [if_neg c8, Option.map_eq_some_iff] at h
  obtain ⟨v, hv, h⟩ := h
  simp only [Prod.mk.injEq] at h
  obtain ⟨rfl, rfl⟩ := h
  have hPv : P v := by
    unfold valK at hv
    by_cases c1 : x.f0 = 1
    · rw [if_pos c1] at hv
      injection hv with hv
      subst hv
      unfold instB at hx
      rw [if_pos c1, ifT, ifT] at hx
      exact hA.k x hm c1 hx.2.2
    rw [if_neg c1] at hv
    by_cases c2 : x.f0 = 2
    · rw [if_pos c2] at hv
      injection hv with hv
      subst hv
      obtain ⟨a0, a1⟩ := hi.a (.inl c2)
      exact hL.r _ (mem_rd a0 a1)
    rw [if_neg c2] at hv
    by_cases c3 : x.f0 = 3
    · rw [if_pos c3] at hv
      obtain ⟨a0, a1⟩ := hi.a (.inr (.inl c3))
      obtain ⟨rr, er, _, h2, h3⟩ := hO.one x.f4 _ (hL.r _ (mem_rd a0 a1))
      rw [h2] at hv
      split at hv
      · rename_i he; injection hv with hv; subst hv; exact h3 he
      · cases hv
    rw [if_neg c3] at hv
    by_cases c4 : x.f0 = 4
    · rw [if_pos c4] at hv
      obtain ⟨a0, a1⟩ := hi.a (.inr (.inr (.inl c4)))
      obtain ⟨b0, b1⟩ := hi.b c4
      obtain ⟨rr, er, _, h2, h3⟩ := hO.two x.f4 _ _ (hL.r _ (mem_rd a0 a1)) (hL.r _ (mem_rd b0 b1))
      rw [h2] at hv
      split at hv
      · rename_i he; injection hv with hv; subst hv; exact h3 he
      · cases hv
    rw [if_neg c4] at hv
    by_cases c5 : x.f0 = 5
    · rw [if_pos c5] at hv
      split at hv
      · rename_i hlt; injection hv with hv; subst hv; exact hA.u _ (mem_rd (hi.up (.inl c5)) hlt)
      · cases hv
    rw [if_neg c5] at hv
    by_cases c7 : x.f0 = 7
    · rw [if_pos c7] at hv
      split at hv
      · rename_i hlt
        injection hv with hv
        subst hv
        obtain ⟨b0, b1⟩ := hi.gd c7
        exact hL.g _ (mem_rd54 b0 b1) _ (mem_rd (hi.up (.inr c7)) hlt)
      · cases hv
    rw [if_neg c7] at hv
    injection hv with hv
    subst hv
    exact hA.z
  refine ⟨⟨by rw [List.length_set]; exact hL.len, fun u hu => ?_, hL.g⟩, rfl⟩
  rcases List.mem_or_eq_of_mem_set hu with hu | rfl
  · exact hL.r u hu
  · exact hPv
theorem evalK_len (O : Ops) (ups : List S37) (ons : List S54) (z0 z1 z2 : Int) (l3 : List S39) (z4 : Int) (l5 l6 : List Int) (z7 z8 z9 : Int) (l7 l8 : List S37) (h5 : l5.length ≤ 400) (h6 : l6.length ≤ 400) : ∀ s t n, evalK O ups ons z0 z1 z2 l3 z4 l5 l6 z7 z8 z9 l7 l8 = some (s, t, n) → s.length ≤ 400 ∧ t.length ≤ 400 := by
  intro s t n h
  unfold evalK at h
  split at h
  case isFalse => cases h
  split at h
  case isFalse => cases h
  split at h
  case isFalse => cases h
  rw [Option.bind_eq_some_iff] at h
  obtain ⟨p, _, h⟩ := h
  rw [Option.map_eq_some_iff] at h
  obtain ⟨m, _, h⟩ := h
  simp only [Prod.mk.injEq] at h
  obtain ⟨rfl, rfl, _⟩ := h
  rw [List.length_map, List.length_map]
  exact ⟨h5, h6⟩
/-- what Eval gives back -/
def Evald (o : Option (List S37 × List S37 × Int)) (w : World) (e : Ending) (w' : World) : Prop :=
  ∃ s t n ok A c B b, e = .returned (.tuple #[.slice A s.length c, .slice B t.length b, .int .i64 n, .bool ok]) ∧ s.length ≤ c ∧ t.length ≤ b ∧ k37.C w' A s.length s ∧ k37.C w' B t.length t ∧ Below w.heap.size w w' ∧ o = (if ok = true then some (s, t, n) else none) ∧ (ok = false → s = [] ∧ t = [] ∧ n = 0)
def lenOf : Value → Nat
  | .slice _ n _ => n
  | _ => 0
theorem nil_C {w : World} (a : Option Addr) : k37.C w a ([] : List S37).length [] := ⟨rfl, by decide, fun h => absurd h (by decide)⟩
theorem nil_C54 {w : World} (a : Option Addr) : k54.C w a ([] : List S54).length [] := ⟨rfl, by decide, fun h => absurd h (by decide)⟩
theorem evald_some {o : Option (List S37 × List S37 × Int)} {s t : List S37} {n : Int} {w w' : World} {A B : Option Addr} {c b m1 m2 : Nat} (h : o = some (s, t, n)) (e1 : m1 = s.length) (e2 : m2 = t.length) (hc : m1 ≤ c) (hb : m2 ≤ b) (h1 : k37.C w' A s.length s) (h2 : k37.C w' B t.length t) (hB : Below w.heap.size w w') : Evald o w (.returned (.tuple #[.slice A m1 c, .slice B m2 b, .int .i64 n, .bool true])) w' := by
  subst e1 e2
  exact ⟨s, t, n, true, A, c, B, b, rfl, hc, hb, h1, h2, hB, by rw [h]; rfl, fun h => by cases h⟩
theorem evald_none {o : Option (List S37 × List S37 × Int)} {w w' : World} (a : Option Addr) (h : o = none) (hb : Below w.heap.size w w') : Evald o w (.returned (.tuple #[.slice a 0 0, .slice a 0 0, .int .i64 0, .bool false])) w' :=
  ⟨[], [], 0, false, a, 0, a, 0, rfl, Nat.le_refl _, Nat.le_refl _, nil_C a, nil_C a, hb, h, fun _ => ⟨rfl, rfl, rfl⟩⟩
end Go.Proofs.Ytjkjbfhhfdbnoaa.NW
