/- A word between blanks in the lists of words; which words are reckoned. -/
import Derived.Test.YtjkjbfhhfdbnoaaRi
namespace Go.Proofs.Ytjkjbfhhfdbnoaa.NW
open Go.RowKit Go.Maps Go.Proofs.YtjkjbfhhfdbnoaaW.PrintWords Go.Proofs.YtjkjbfhhfdbnoaaW.PrintMore Go.Proofs.Ytjkjbfhhfdbnoaa.PB
set_option linter.unusedVariables false
set_option linter.unusedSimpArgs false

/-! ### A word between blanks in a list of words -/
theorem contains_iff (s sub : List UInt8) : Lib.contains s sub = true ↔ sub <:+: s := by
  unfold Lib.contains
  rw [decide_eq_true_iff]
  rcases Lib.index_spec s sub with ⟨h1, h2⟩ | ⟨i, h1, h2, h3, h4⟩
  · rw [h1]
    constructor
    · intro h; omega
    · rintro ⟨a, b, rfl⟩
      have h := h2 a.length (by simp)
      unfold Lib.occAt at h
      rw [List.append_assoc, List.drop_left] at h
      have h' : sub.isPrefixOf (sub ++ b) = true := List.isPrefixOf_iff_prefix.2 (List.prefix_append _ _)
      rw [h'] at h
      cases h
  · rw [h1]
    constructor
    · intro _
      unfold Lib.occAt at h3
      obtain ⟨b, hb⟩ := List.isPrefixOf_iff_prefix.1 h3
      exact ⟨s.take i, b, by rw [List.append_assoc, hb, List.take_append_drop]⟩
    · intro _; omega
def jn : List (List UInt8) → List UInt8
  | [] => [32]
  | a :: l => 32 :: (a ++ jn l)
theorem jn_head (l : List (List UInt8)) : ∃ r, jn l = 32 :: r := by cases l <;> exact ⟨_, rfl⟩
theorem split_same : ∀ {a w r t : List UInt8}, 32 ∉ a → 32 ∉ w → a ++ 32 :: r = w ++ 32 :: t → a = w
  | [], [], _, _, _, _, _ => rfl
  | [], y :: w, _, _, _, hw, h => by
    simp at h
    exact absurd (by rw [h.1]; simp) hw
  | x :: a, [], _, _, ha, _, h => by
    simp at h
    exact absurd (by rw [h.1]; simp) ha
  | x :: a, y :: w, _, _, ha, hw, h => by
    simp at h
    rw [h.1, split_same (fun e => ha (by simp [e])) (fun e => hw (by simp [e])) h.2]
theorem jn_iff (w : List UInt8) (hw : 32 ∉ w) : ∀ (ws : List (List UInt8)), (∀ a ∈ ws, 32 ∉ a) → ((32 :: w ++ [32]) <:+: jn ws ↔ w ∈ ws)
  | [], _ => by
    constructor
    · rintro ⟨s, t, h⟩
      have := congrArg List.length h
      simp [jn] at this
      omega
    · intro h; simp at h
  | a :: l, hl => by
    have ha : 32 ∉ a := hl a (by simp)
    have ih := jn_iff w hw l (fun x hx => hl x (by simp [hx]))
    obtain ⟨r, hr⟩ := jn_head l
    constructor
    · rintro ⟨s, t, h⟩
      cases s with
      | nil =>
        have h' : a ++ 32 :: r = w ++ 32 :: t := by
          simp [jn, hr] at h
          exact h.symm
        rw [split_same ha hw h']
        simp
      | cons x s =>
        have h' : s ++ (32 :: w ++ [32]) ++ t = a ++ jn l := by
          simp [jn] at h ⊢
          exact h.2
        have hin : a.length ≤ s.length := by
          rcases Nat.lt_or_ge s.length a.length with hlt | hge
          · exfalso
            have e := congrArg (fun z : List UInt8 => z[s.length]?) h'
            simp only [List.append_assoc] at e
            rw [List.getElem?_append_right (Nat.le_refl _), List.getElem?_append_left hlt] at e
            simp at e
            exact ha (List.mem_of_getElem? e.symm)
          · exact hge
        obtain ⟨s', rfl⟩ : ∃ s', s = a ++ s' := by
          have e := congrArg (List.take a.length) h'
          simp only [List.append_assoc] at e
          rw [List.take_append_of_le_length hin, List.take_left] at e
          have e2 := List.take_append_drop a.length s
          rw [e] at e2
          exact ⟨_, e2.symm⟩
        have h2 : s' ++ (32 :: w ++ [32]) ++ t = jn l := by
          simp only [List.append_assoc] at h' ⊢
          exact List.append_cancel_left h'
        exact List.mem_cons_of_mem _ (ih.1 ⟨s', t, h2⟩)
    · intro h
      rcases List.mem_cons.1 h with rfl | h
      · exact ⟨[], r, by simp [jn, hr]⟩
      · obtain ⟨s, t, e⟩ := ih.2 h
        exact ⟨32 :: (a ++ s), t, by simp only [jn, ← e]; simp⟩
def ws0 : List (List UInt8) := [[105, 110]]
def ws1 : List (List UInt8) := [[110, 101, 103], [110, 111, 116], [108, 101, 110], [105, 56], [105, 49, 54], [105, 51, 50], [117, 56], [117, 49, 54], [117, 51, 50], [102, 115, 116], [115, 110, 100], [99, 101, 108, 108], [103, 101, 116], [111, 117, 116]]
def ws2 : List (List UInt8) := [[43], [45], [42], [47], [37], [97, 110, 100], [111, 114], [120, 111, 114], [115, 104, 108], [115, 104, 114], [117, 115, 104, 114], [60], [61], [99, 97, 116], [97, 116], [112, 97, 105, 114], [115, 101, 116]]
theorem hasIn_iff (l : ByteArray) (ws : List (List UInt8)) (hl : l.data.toList = jn ws) (hws : ∀ a ∈ ws, 32 ∉ a) (s : ByteArray) (hs : 32 ∉ s.data.toList) : hasIn l s = true ↔ s.data.toList ∈ ws := by
  unfold hasIn
  rw [contains_iff, hl, ← jn_iff _ hs ws hws]
  have e : (⟨#[32]⟩ ++ s ++ ⟨#[32]⟩ : ByteArray).data.toList = 32 :: s.data.toList ++ [32] := by
    simp [ByteArray.data_append]
  rw [e]
theorem has0 (s : ByteArray) (hs : 32 ∉ s.data.toList) : hasIn S0 s = true ↔ s.data.toList ∈ ws0 := hasIn_iff S0 ws0 (by decide) (by decide) s hs
theorem has1 (s : ByteArray) (hs : 32 ∉ s.data.toList) : hasIn S1 s = true ↔ s.data.toList ∈ ws1 := hasIn_iff S1 ws1 (by decide) (by decide) s hs
theorem has2 (s : ByteArray) (hs : 32 ∉ s.data.toList) : hasIn S2 s = true ↔ s.data.toList ∈ ws2 := hasIn_iff S2 ws2 (by decide) (by decide) s hs
theorem contains_blank (s : List UInt8) : Lib.contains s [32] = true ↔ 32 ∈ s := by
  rw [contains_iff]
  constructor
  · rintro ⟨a, b, rfl⟩; simp
  · intro h
    obtain ⟨a, b, rfl⟩ := List.append_of_mem h
    exact ⟨a, b, by simp⟩
def onesL : List (List UInt8) := [[110, 101, 103], [110, 111, 116], [108, 101, 110], [105, 56], [105, 49, 54], [105, 51, 50], [117, 56], [117, 49, 54], [117, 51, 50]]
def twosL : List (List UInt8) := [[43], [45], [42], [47], [37], [97, 110, 100], [111, 114], [120, 111, 114], [115, 104, 108], [115, 104, 114], [117, 115, 104, 114], [60], [61], [99, 97, 116], [97, 116]]
def impL : List (List UInt8) := [[102, 115, 116], [115, 110, 100], [99, 101, 108, 108], [103, 101, 116], [111, 117, 116], [105, 110], [112, 97, 105, 114], [115, 101, 116]]
theorem impure_iff (s : ByteArray) : impureB s = true ↔ s.data.toList ∈ impL := by
  have e : s.toList = s.data.toList := Lib.toList_data s
  unfold impureB impL
  rw [e]
  simp
/-- what Takes tells, word by word -/
def takesL (l : List UInt8) : Int := if l ∈ ws0 then 0 else if l ∈ ws1 then 1 else if l ∈ ws2 then 2 else -1
theorem takesRaw_eq (s : ByteArray) : takesRaw s = takesL s.data.toList := by
  have e : s.toList = s.data.toList := Lib.toList_data s
  unfold takesRaw takesL
  rw [e]
  by_cases h0 : s.data.toList = []
  · rw [if_pos h0, h0]; rfl
  rw [if_neg h0]
  by_cases h1 : Lib.contains s.data.toList [32] = true
  · rw [if_pos h1]
    have hb := (contains_blank _).1 h1
    have n0 : ∀ a ∈ ws0, 32 ∉ a := by decide
    have n1 : ∀ a ∈ ws1, 32 ∉ a := by decide
    have n2 : ∀ a ∈ ws2, 32 ∉ a := by decide
    rw [if_neg (fun h => n0 _ h hb), if_neg (fun h => n1 _ h hb), if_neg (fun h => n2 _ h hb)]
  · rw [if_neg h1]
    have hb : 32 ∉ s.data.toList := fun h => h1 ((contains_blank _).2 h)
    simp only [has0 s hb, has1 s hb, has2 s hb]
theorem pureL (l : List UInt8) (n : Int) (hn : n = 1 ∨ n = 2) : ((if l ∈ impL then false else (takesL l == n)) = true) ↔ l ∈ (if n = 1 then onesL else twosL) := by
  by_cases h1 : l ∈ ws1
  · have h0 : l ∉ ws0 := by intro h; revert h1; unfold ws0 at h; simp at h; subst h; decide
    have h2 : l ∉ ws2 := by intro h; revert h1; unfold ws2 at h; simp at h; rcases h with rfl | rfl | rfl | rfl | rfl | rfl | rfl | rfl | rfl | rfl | rfl | rfl | rfl | rfl | rfl | rfl | rfl <;> decide
    unfold takesL
    rw [if_neg h0, if_pos h1]
    unfold ws1 at h1
    simp at h1
    rcases hn with rfl | rfl
    · rcases h1 with rfl | rfl | rfl | rfl | rfl | rfl | rfl | rfl | rfl | rfl | rfl | rfl | rfl | rfl <;> decide
    · rcases h1 with rfl | rfl | rfl | rfl | rfl | rfl | rfl | rfl | rfl | rfl | rfl | rfl | rfl | rfl <;> decide
  by_cases h2 : l ∈ ws2
  · have h0 : l ∉ ws0 := by intro h; revert h2; unfold ws0 at h; simp at h; subst h; decide
    unfold takesL
    rw [if_neg h0, if_neg h1, if_pos h2]
    unfold ws2 at h2
    simp at h2
    rcases hn with rfl | rfl
    · rcases h2 with rfl | rfl | rfl | rfl | rfl | rfl | rfl | rfl | rfl | rfl | rfl | rfl | rfl | rfl | rfl | rfl | rfl <;> decide
    · rcases h2 with rfl | rfl | rfl | rfl | rfl | rfl | rfl | rfl | rfl | rfl | rfl | rfl | rfl | rfl | rfl | rfl | rfl <;> decide
  · have s1 : ∀ x ∈ onesL, x ∈ ws1 := by decide
    have s2 : ∀ x ∈ twosL, x ∈ ws2 := by decide
    constructor
    · intro h
      exfalso
      split at h
      · cases h
      · unfold takesL at h
        rw [if_neg h1, if_neg h2] at h
        split at h <;> rcases hn with rfl | rfl <;> simp at h
    · intro h
      exfalso
      rcases hn with rfl | rfl
      · exact h1 (s1 l h)
      · exact h2 (s2 l h)
theorem pureB_one (s : ByteArray) : pureB s 1 = true ↔ s.data.toList ∈ onesL := by
  rw [← show (if (1 : Int) = 1 then onesL else twosL) = onesL from rfl, ← pureL _ 1 (.inl rfl)]
  unfold pureB
  rw [takesRaw_eq]
  simp only [impure_iff]
theorem pureB_two (s : ByteArray) : pureB s 2 = true ↔ s.data.toList ∈ twosL := by
  rw [← show (if (2 : Int) = 1 then onesL else twosL) = twosL from rfl, ← pureL _ 2 (.inr rfl)]
  unfold pureB
  rw [takesRaw_eq]
  simp only [impure_iff]
end Go.Proofs.Ytjkjbfhhfdbnoaa.NW
