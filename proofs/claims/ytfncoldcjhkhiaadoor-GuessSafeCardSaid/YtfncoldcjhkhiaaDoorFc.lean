/- Graphs that are alike. -/
import Derived.Test.YtfncoldcjhkhiaaDoorFb
namespace Go.Proofs.YtfncoldcjhkhiaaDoor.Flow
set_option linter.unusedVariables false
/-- the same instructions behind two more -/
structure Later (g h : G) : Prop where
  n : h.n = g.n + 2
  s0 : h.step 0 0 = some 1
  s1 : h.step 1 1 = some 0
  u0 : h.succ 0 = [1]
  u1 : h.succ 1 = [2]
  step : ∀ a d : Int, 0 ≤ a → a < g.n → h.step (a + 2) d = g.step a d
  succ : ∀ a s : Int, 0 ≤ a → a < g.n → (s ∈ h.succ (a + 2) ↔ ∃ t, t ∈ g.succ a ∧ s = t + 2)
theorem Later.up {g h : G} (L : Later g h) (F : Fine g) {a d : Int} (hr : Reach g a d) : Reach h (a + 2) d := by
  have n0 := L.n
  induction hr with
  | start => exact .next (.next .start (by omega) L.s0 (by rw [L.u0]; simp)) (by omega) L.s1 (by rw [L.u1]; simp)
  | next hr hn hs hm ih =>
    have h0 := (hr.low F).1
    exact .next ih (by omega) (by rw [L.step _ _ h0 hn]; exact hs) ((L.succ _ _ h0 hn).2 ⟨_, hm, rfl⟩)
theorem Later.down {g h : G} (L : Later g h) (F : Fine g) {b d : Int} (hr : Reach h b d) : (b = 0 ∧ d = 0) ∨ (b = 1 ∧ d = 1) ∨ ∃ a, b = a + 2 ∧ Reach g a d := by
  have n0 := L.n
  induction hr with
  | start => exact .inl ⟨rfl, rfl⟩
  | next hr hn hs hm ih =>
    rcases ih with ⟨rfl, rfl⟩ | ⟨rfl, rfl⟩ | ⟨a, rfl, ha⟩
    · rw [L.s0] at hs; injection hs with hs; subst hs
      rw [L.u0, List.mem_singleton] at hm; exact .inr (.inl ⟨hm, rfl⟩)
    · rw [L.s1] at hs; injection hs with hs; subst hs
      rw [L.u1, List.mem_singleton] at hm; exact .inr (.inr ⟨0, by omega, .start⟩)
    · have h0 := (ha.low F).1
      have hn' : a < g.n := by omega
      rw [L.step _ _ h0 hn'] at hs
      obtain ⟨t, ht, rfl⟩ := (L.succ _ _ h0 hn').1 hm
      exact .inr (.inr ⟨t, rfl, .next ha hn' hs ht⟩)
theorem Later.right {g h : G} (L : Later g h) (F : Fine g) : Right g ↔ Right h := by
  have n0 := L.n
  have nn := F.ne
  constructor
  · intro R b d hr
    rcases L.down F hr with ⟨rfl, rfl⟩ | ⟨rfl, rfl⟩ | ⟨a, rfl, ha⟩
    · refine ⟨by omega, ⟨1, L.s0⟩, fun e he => ?_⟩
      rcases L.down F he with ⟨_, e0⟩ | ⟨e0, _⟩ | ⟨a, e0, ha⟩
      · exact e0
      · omega
      · have := (ha.low F).1; omega
    · refine ⟨by omega, ⟨0, L.s1⟩, fun e he => ?_⟩
      rcases L.down F he with ⟨e0, _⟩ | ⟨_, e0⟩ | ⟨a, e0, ha⟩
      · omega
      · exact e0
      · have := (ha.low F).1; omega
    · have h0 := (ha.low F).1
      obtain ⟨k1, ⟨x, k2⟩, k3⟩ := R a d ha
      refine ⟨by omega, ⟨x, by rw [L.step _ _ h0 k1]; exact k2⟩, fun e he => ?_⟩
      rcases L.down F he with ⟨e0, _⟩ | ⟨e0, _⟩ | ⟨a', e0, ha'⟩
      · omega
      · omega
      · obtain rfl : a' = a := by omega
        exact k3 e ha'
  · intro R a d ha
    have h0 := (ha.low F).1
    obtain ⟨k1, ⟨x, k2⟩, k3⟩ := R _ d (L.up F ha)
    have hn' : a < g.n := by omega
    exact ⟨hn', ⟨x, by rw [← L.step _ _ h0 hn']; exact k2⟩, fun e he => k3 e (L.up F he)⟩
/-- so many values, one behind the other -/
structure Stairs (g : G) (k : Nat) : Prop where
  n : g.n = k + 1
  step : ∀ a d : Int, 0 ≤ a → a < k → g.step a d = if 0 ≤ d ∧ d + 1 ≤ 256 then some (d + 1) else none
  succ : ∀ a : Int, 0 ≤ a → a < k → g.succ a = [a + 1]
  last : ∀ d : Int, 1 ≤ d → d ≤ 256 → g.step k d = some (d - 1)
  none : g.succ k = []
theorem Stairs.up {g : G} {k : Nat} (S : Stairs g k) : ∀ i : Nat, i ≤ k → i ≤ 256 → Reach g i i
  | 0, _, _ => .start
  | i + 1, h1, h2 => .next (S.up i (by omega) (by omega)) (by have := S.n; omega) (by rw [S.step i i (by omega) (by omega), if_pos (by omega)]; rfl) (by rw [S.succ i (by omega) (by omega)]; simp)
theorem Stairs.down {g : G} {k : Nat} (S : Stairs g k) {a d : Int} (h : Reach g a d) : 0 ≤ a ∧ a ≤ k ∧ d = a := by
  induction h with
  | start => exact ⟨by omega, by omega, rfl⟩
  | @next a d e s hr hn hs hm ih =>
    have n0 := S.n
    by_cases hk : a = k
    · subst hk; rw [S.none] at hm; simp at hm
    · rw [S.step a d ih.1 (by omega)] at hs
      rw [S.succ a ih.1 (by omega), List.mem_singleton] at hm
      split at hs
      · injection hs with hs; omega
      · cases hs
theorem Stairs.right {g : G} {k : Nat} (S : Stairs g k) (hk : 1 ≤ k) : Right g ↔ k ≤ 256 := by
  have n0 := S.n
  constructor
  · intro R
    false_or_by_contra
    have := S.up 256 (by omega) (by omega)
    obtain ⟨_, ⟨x, hx⟩, _⟩ := R _ _ this
    rw [S.step _ _ (by omega) (by omega), if_neg (by omega)] at hx
    cases hx
  · intro h a d ha
    obtain ⟨h0, h1, rfl⟩ := S.down ha
    refine ⟨by omega, ?_, fun e he => (S.down he).2.2⟩
    by_cases hd : d = k
    · subst hd; exact ⟨_, S.last _ (by omega) (by omega)⟩
    · exact ⟨d + 1, by rw [S.step d d h0 (by omega), if_pos (by omega)]⟩
/-- two places alone are reached -/
structure Two (g : G) : Prop where
  n : 2 ≤ g.n
  s0 : g.step 0 0 = some 1
  s1 : g.step 1 1 = some 0
  u0 : g.succ 0 = [1]
  u1 : g.succ 1 = []
theorem Two.down {g : G} (S : Two g) {a d : Int} (h : Reach g a d) : (a = 0 ∧ d = 0) ∨ (a = 1 ∧ d = 1) := by
  induction h with
  | start => exact .inl ⟨rfl, rfl⟩
  | next hr hn hs hm ih =>
    rcases ih with ⟨rfl, rfl⟩ | ⟨rfl, rfl⟩
    · rw [S.s0] at hs; injection hs with hs; subst hs
      rw [S.u0, List.mem_singleton] at hm; exact .inr ⟨hm, rfl⟩
    · rw [S.u1] at hm; simp at hm
theorem Two.right {g : G} (S : Two g) : Right g := by
  have n0 := S.n
  intro a d ha
  rcases S.down ha with ⟨rfl, rfl⟩ | ⟨rfl, rfl⟩
  · exact ⟨by omega, ⟨_, S.s0⟩, fun e he => by rcases S.down he with k | k <;> omega⟩
  · exact ⟨by omega, ⟨_, S.s1⟩, fun e he => by rcases S.down he with k | k <;> omega⟩
theorem Two.tab {g : G} (S : Two g) (F : Fine g) {D : List Int} (T : Tab g D) : at_ D 0 = 0 ∧ at_ D 1 = 1 ∧ (2 < g.n → at_ D 2 = -1) := by
  have n0 := S.n
  have r1 : Reach g 1 1 := .next .start (by omega) S.s0 (by rw [S.u0]; simp)
  refine ⟨?_, ?_, fun h => ?_⟩
  · rcases T.tells 0 (by omega) (by omega) with ⟨_, k⟩ | k
    · exact absurd .start (k 0)
    · rcases S.down k with k | k <;> omega
  · rcases T.tells 1 (by omega) (by omega) with ⟨_, k⟩ | k
    · exact absurd r1 (k 1)
    · rcases S.down k with k | k <;> omega
  · rcases T.tells 2 (by omega) (by omega) with ⟨k, _⟩ | k
    · exact k
    · rcases S.down k with k | k <;> omega
/-- the same graph -/
theorem Reach.of_same {g h : G} (F : Fine g) (n : g.n = h.n) (st : ∀ a d : Int, 0 ≤ a → a < g.n → h.step a d = g.step a d) (su : ∀ a : Int, 0 ≤ a → a < g.n → h.succ a = g.succ a) {a d : Int} (r : Reach g a d) : Reach h a d := by
  induction r with
  | start => exact .start
  | next hr hn hs hm ih =>
    have h0 := (hr.low F).1
    exact .next ih (by omega) (by rw [st _ _ h0 hn]; exact hs) (by rw [su _ h0 hn]; exact hm)
theorem Right.of_same {g h : G} (F : Fine g) (F' : Fine h) (n : g.n = h.n) (st : ∀ a d : Int, 0 ≤ a → a < g.n → h.step a d = g.step a d) (su : ∀ a : Int, 0 ≤ a → a < g.n → h.succ a = g.succ a) (R : Right g) : Right h := by
  intro a d r
  have r' : Reach g a d := Reach.of_same F' n.symm (fun a d h0 hn => (st a d h0 (by omega)).symm) (fun a h0 hn => (su a h0 (by omega)).symm) r
  obtain ⟨k1, ⟨x, k2⟩, k3⟩ := R a d r'
  have h0 := (r'.low F).1
  exact ⟨by omega, ⟨x, by rw [st _ _ h0 k1]; exact k2⟩, fun e he => k3 e (Reach.of_same F' n.symm (fun a d h0 hn => (st a d h0 (by omega)).symm) (fun a h0 hn => (su a h0 (by omega)).symm) he)⟩
theorem Tab.made (g : G) : ∃ D, Tab g D := by
  classical
  refine ⟨(List.range g.n).map fun i : Nat => if h : ∃ d, Reach g (i : Int) d then Classical.choose h else -1, by simp, fun a h0 hn => ?_⟩
  have e : at_ ((List.range g.n).map fun i : Nat => if h : ∃ d, Reach g (i : Int) d then Classical.choose h else -1) a = if h : ∃ d, Reach g (a.toNat : Int) d then Classical.choose h else -1 := by
    unfold at_
    rw [List.getD_eq_getElem?_getD, List.getElem?_map, List.getElem?_range (by omega)]; rfl
  rw [e, show ((a.toNat : Nat) : Int) = a by omega]
  by_cases h : ∃ d, Reach g a d
  · rw [dif_pos h]; exact .inr (Classical.choose_spec h)
  · rw [dif_neg h]; exact .inl ⟨rfl, fun d hd => h ⟨d, hd⟩⟩
end Go.Proofs.YtfncoldcjhkhiaaDoor.Flow
