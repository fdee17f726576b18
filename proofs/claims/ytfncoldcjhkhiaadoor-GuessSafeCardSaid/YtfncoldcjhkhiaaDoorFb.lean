/- The reference's way to the depths. -/
import Derived.Test.YtfncoldcjhkhiaaDoorFa
namespace Go.Proofs.YtfncoldcjhkhiaaDoor.Flow
set_option linter.unusedVariables false
/-! ### the reference's way: over and over, until nothing is new -/
def toS (n : Nat) (e : Int) : List Int → List Int → Bool → Option (List Int × Bool)
  | [], D, m => some (D, m)
  | s :: l, D, m => if s ≥ n ∨ (at_ D s ≥ 0 ∧ at_ D s ≠ e) then none else if at_ D s < 0 then toS n e l (D.set s.toNat e) true else toS n e l D m
def passS (g : G) : Nat → Int → List Int → Bool → Option (List Int × Bool)
  | 0, _, D, m => some (D, m)
  | k + 1, a, D, m => if at_ D a < 0 then passS g k (a + 1) D m else (g.step a (at_ D a)).bind fun e => (toS g.n e (g.succ a).reverse D m).bind fun x => passS g k (a + 1) x.1 x.2
theorem to_inv {g : G} {e : Int} (F : Fine g) (he : 0 ≤ e) : ∀ (l : List Int) {D : List Int} (m : Bool), Known g D → (∀ s ∈ l, 0 ≤ s ∧ Reach g s e) →
    (toS g.n e l D m = none → ¬ Right g) ∧ ∀ D' m', toS g.n e l D m = some (D', m') → Known g D' ∧ Le g D D' ∧ (∀ s ∈ l, s < g.n ∧ at_ D' s = e) ∧ ((m' = m ∧ D' = D) ∨ (m' = true ∧ open_ D' < open_ D))
  | [], D, m, h, _ => ⟨fun hh => by simp [toS] at hh, fun D' m' hh => by
    simp only [toS, Option.some.injEq, Prod.mk.injEq] at hh
    obtain ⟨rfl, rfl⟩ := hh
    exact ⟨h, Le.refl _ _, fun s hs => by simp at hs, .inl ⟨rfl, rfl⟩⟩⟩
  | s :: l, D, m, h, hl => by
    have hs := hl s (by simp)
    have hl' : ∀ t ∈ l, 0 ≤ t ∧ Reach g t e := fun t ht => hl t (by simp [ht])
    unfold toS
    by_cases c : s ≥ g.n ∨ (at_ D s ≥ 0 ∧ at_ D s ≠ e)
    · rw [if_pos c]
      refine ⟨fun _ hR => ?_, fun D' m' hh => by cases hh⟩
      have k := hR s e hs.2
      rcases c with c | c
      · omega
      · rcases h.sound s hs.1 k.1 with q | q
        · omega
        · exact c.2 (k.2.2 _ q)
    rw [if_neg c]
    have hlt : s < g.n := by omega
    by_cases d : at_ D s < 0
    · rw [if_pos d]
      have d1 : at_ D s = -1 := (h.sound s hs.1 hlt).resolve_right fun q => by have := (q.low F).2; omega
      have hset : ∀ b : Int, 0 ≤ b → at_ (D.set s.toNat e) b = if b = s then e else at_ D b := fun b hb => at_set hs.1 hb (by rw [h.len]; exact hlt)
      have hle : Le g D (D.set s.toNat e) := fun a h0 hn hd => by rw [hset a h0, if_neg (fun hh => hd (by rw [hh]; exact d1))]
      have hk : Known g (D.set s.toNat e) := ⟨by rw [List.length_set]; exact h.len, by rw [hset 0 (by omega), if_neg (fun hh => by rw [← hh] at d; have := h.start; omega)]; exact h.start, fun a h0 hn => by
        rw [hset a h0]
        by_cases ha : a = s
        · rw [if_pos ha, ha]; exact .inr hs.2
        · rw [if_neg ha]; exact h.sound a h0 hn⟩
      have ho := open_set (D := D) (i := s.toNat) (e := e) (by have := h.len; omega) (by rw [show ((s.toNat : Nat) : Int) = s by omega]; exact d1) (by omega)
      have q := to_inv F he l true hk hl'
      refine ⟨q.1, fun D' m' hh => ?_⟩
      obtain ⟨k1, k2, k3, k4⟩ := q.2 D' m' hh
      refine ⟨k1, hle.trans k2, fun t ht => ?_, .inr ?_⟩
      · rcases List.mem_cons.1 ht with rfl | ht
        · exact ⟨hlt, by rw [k2 t hs.1 hlt (by rw [hset t hs.1, if_pos rfl]; omega), hset t hs.1, if_pos rfl]⟩
        · exact k3 t ht
      · rcases k4 with ⟨e1, e2⟩ | ⟨e1, e2⟩
        · exact ⟨e1, by rw [e2]; omega⟩
        · exact ⟨e1, by omega⟩
    · rw [if_neg d]
      have q := to_inv F he l m h hl'
      refine ⟨q.1, fun D' m' hh => ?_⟩
      obtain ⟨k1, k2, k3, k4⟩ := q.2 D' m' hh
      refine ⟨k1, k2, fun t ht => ?_, k4⟩
      rcases List.mem_cons.1 ht with rfl | ht
      · exact ⟨hlt, by rw [k2 t hs.1 hlt (by omega)]; omega⟩
      · exact k3 t ht
theorem pass_inv {g : G} (F : Fine g) : ∀ (k : Nat) {a : Int} {D : List Int} (m : Bool), Known g D → 0 ≤ a → a + k = g.n → (m = false → ∀ b : Int, 0 ≤ b → b < a → at_ D b ≠ -1 → Closed g D b) →
    (passS g k a D m = none → ¬ Right g) ∧ ∀ D' m', passS g k a D m = some (D', m') → Known g D' ∧ open_ D' ≤ open_ D ∧ (m' = true → m = true ∨ open_ D' < open_ D) ∧ (m' = false → Right g ∧ Tab g D')
  | 0, a, D, m, h, h0, hn, hc => ⟨fun hh => by simp [passS] at hh, fun D' m' hh => by
    simp only [passS, Option.some.injEq, Prod.mk.injEq] at hh
    obtain ⟨rfl, rfl⟩ := hh
    exact ⟨h, Nat.le_refl _, fun hm => .inl hm, fun hm => h.right F fun b b0 bn bd => hc hm b b0 (by omega) bd⟩⟩
  | k + 1, a, D, m, h, h0, hn, hc => by
    unfold passS
    have hlt : a < g.n := by omega
    by_cases d : at_ D a < 0
    · rw [if_pos d]
      have d1 : at_ D a = -1 := (h.sound a h0 hlt).resolve_right fun q => by have := (q.low F).2; omega
      exact pass_inv F k m h (by omega) (by omega) fun hm b b0 bn bd => hc hm b b0 (by have : b ≠ a := fun hh => bd (by rw [hh]; exact d1); omega) bd
    rw [if_neg d]
    have hr : Reach g a (at_ D a) := (h.sound a h0 hlt).resolve_left (by omega)
    cases hst : g.step a (at_ D a) with
    | none => exact ⟨fun _ hR => (by obtain ⟨e, he⟩ := (hR _ _ hr).2.1; rw [hst] at he; cases he), fun D' m' hh => by cases hh⟩
    | some e =>
      have q := to_inv F (F.pos _ _ _ hst) (g.succ a).reverse m h (fun s hs => ⟨F.low _ _ h0 (List.mem_reverse.1 hs), .next hr hlt hst (List.mem_reverse.1 hs)⟩)
      rw [Option.bind_some]
      cases ht : toS g.n e (g.succ a).reverse D m with
      | none => exact ⟨fun _ => q.1 ht, fun D' m' hh => by cases hh⟩
      | some x =>
        obtain ⟨D1, m1⟩ := x
        obtain ⟨k1, k2, k3, k4⟩ := q.2 D1 m1 ht
        rw [Option.bind_some]
        have p := pass_inv F k m1 k1 (a := a + 1) (by omega) (by omega) fun hm b b0 bn bd => by
          rcases k4 with ⟨e1, e2⟩ | ⟨e1, _⟩
          · subst e2
            by_cases hb : b = a
            · subst hb; exact ⟨e, hst, fun s hs => k3 s (List.mem_reverse.2 hs)⟩
            · exact hc (e1 ▸ hm) b b0 (by omega) bd
          · rw [e1] at hm; cases hm
        refine ⟨p.1, fun D' m' hh => ?_⟩
        obtain ⟨p1, p2, p3, p4⟩ := p.2 D' m' hh
        refine ⟨p1, ?_, fun hm => ?_, p4⟩
        · rcases k4 with ⟨_, e2⟩ | ⟨_, e2⟩
          · rw [← e2]; exact p2
          · omega
        · rcases k4 with ⟨e1, e2⟩ | ⟨e1, e2⟩
          · rcases p3 hm with hm | hm
            · exact .inl (e1 ▸ hm)
            · rw [e2] at hm; exact .inr hm
          · exact .inr (by omega)
/-- what is answered -/
def Ans (g : G) (l : List Int) (ok : Bool) : Prop := (ok = true ∧ Right g ∧ Tab g l) ∨ (ok = false ∧ l = [] ∧ ¬ Right g)
theorem Ans.one {g : G} (F : Fine g) {l m : List Int} {a b : Bool} (h : Ans g l a) (k : Ans g m b) : l = m ∧ a = b := by
  rcases h with ⟨rfl, h1, h2⟩ | ⟨rfl, rfl, h1⟩ <;> rcases k with ⟨rfl, k1, k2⟩ | ⟨rfl, rfl, k1⟩
  · exact ⟨h2.one F h1 k2, rfl⟩
  · exact absurd h1 k1
  · exact absurd k1 h1
  · exact ⟨rfl, rfl⟩
end Go.Proofs.YtfncoldcjhkhiaaDoor.Flow
