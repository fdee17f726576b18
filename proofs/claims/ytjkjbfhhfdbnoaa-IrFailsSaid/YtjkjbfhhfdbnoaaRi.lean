/- What a block that may be has; what Spread reckons. -/
import Derived.Test.YtjkjbfhhfdbnoaaRh
import Derived.Test.YtjkjbfhhfdbnoaaQBa
namespace Go.Proofs.Ytjkjbfhhfdbnoaa.NW
open Go.RowKit Go.Maps Go.Proofs.YtjkjbfhhfdbnoaaW.PrintWords Go.Proofs.YtjkjbfhhfdbnoaaW.PrintMore Go.Proofs.Ytjkjbfhhfdbnoaa.PB
set_option linter.unusedVariables false
set_option linter.unusedSimpArgs false

theorem wfI_of {x : Int} (h0 : -1 ≤ x) (h1 : x ≤ 4096) : wfI x := by
  have e1 : IntKind.i64.min = -9223372036854775808 := by decide
  have e2 : IntKind.i64.max = 9223372036854775807 := by decide
  show (decide (IntKind.i64.min ≤ x) && decide (x ≤ IntKind.i64.max)) = true
  rw [e1, e2]
  simp
  omega
theorem regB_iff {R n : Int} : regB R n = true ↔ 0 ≤ n ∧ n < R := by
  unfold regB
  by_cases h : 0 ≤ n
  · rw [if_pos h]; simp [h]
  · rw [if_neg h]; simp; omega
theorem badB_iff {R n : Int} : badB R n = false ↔ 0 ≤ n ∧ n < R := by
  unfold badB
  by_cases h : n < 0
  · rw [if_pos h]; simp; omega
  · rw [if_neg h]; simp; omega
theorem any_bad {R : Int} {l : List Int} (h : l.any (badB R) = false) : ∀ n ∈ l, 0 ≤ n ∧ n < R := fun n hn => by
  rw [List.any_eq_false] at h
  exact badB_iff.1 (by simpa using h n hn)
/-- which numbers of an instruction that may be are registers -/
structure RegsOk (R : Int) (x : S39) : Prop where
  op : 1 ≤ x.f0 ∧ x.f0 ≤ 8
  dst : x.f0 ≠ 6 → x.f0 ≠ 8 → 0 ≤ x.f1 ∧ x.f1 < R
  a : x.f0 = 2 ∨ x.f0 = 3 ∨ x.f0 = 4 ∨ x.f0 = 8 → 0 ≤ x.f2 ∧ x.f2 < R
  b : x.f0 = 4 → 0 ≤ x.f3 ∧ x.f3 < R
theorem regsOk_of {R : Int} {x : S39} {g : Int} (h : instB R x.f0 x.f1 x.f2 x.f3 x.f4 x.f5.f0 x.f5.f1 x.f5.f2 g = true) : RegsOk R x := by
  unfold instB at h
  by_cases h1 : x.f0 = 1
  · rw [if_pos h1] at h
    have hd : regB R x.f1 = true := by by_cases hd : regB R x.f1 = true; · exact hd
                                       · rw [if_neg hd] at h; cases h
    exact ⟨by omega, fun _ _ => regB_iff.1 hd, fun e => by omega, fun e => by omega⟩
  rw [if_neg h1] at h
  by_cases h2 : x.f0 = 2
  · rw [if_pos h2] at h
    have hd : regB R x.f1 = true := by by_cases hd : regB R x.f1 = true; · exact hd
                                       · rw [if_neg hd] at h; cases h
    rw [if_pos hd] at h
    exact ⟨by omega, fun _ _ => regB_iff.1 hd, fun _ => regB_iff.1 h, fun e => by omega⟩
  rw [if_neg h2] at h
  by_cases h3 : x.f0 = 3
  · rw [if_pos h3] at h
    have hd : regB R x.f1 = true := by by_cases hd : regB R x.f1 = true; · exact hd
                                       · rw [if_neg hd] at h; cases h
    rw [if_pos hd] at h
    have ha : regB R x.f2 = true := by by_cases hd : regB R x.f2 = true; · exact hd
                                       · rw [if_neg hd] at h; cases h
    exact ⟨by omega, fun _ _ => regB_iff.1 hd, fun _ => regB_iff.1 ha, fun e => by omega⟩
  rw [if_neg h3] at h
  by_cases h4 : x.f0 = 4
  · rw [if_pos h4] at h
    have hd : regB R x.f1 = true := by by_cases hd : regB R x.f1 = true; · exact hd
                                       · rw [if_neg hd] at h; cases h
    rw [if_pos hd] at h
    have ha : regB R x.f2 = true := by by_cases hd : regB R x.f2 = true; · exact hd
                                       · rw [if_neg hd] at h; cases h
    rw [if_pos ha] at h
    have hb : regB R x.f3 = true := by by_cases hd : regB R x.f3 = true; · exact hd
                                       · rw [if_neg hd] at h; cases h
    exact ⟨by omega, fun _ _ => regB_iff.1 hd, fun _ => regB_iff.1 ha, fun _ => regB_iff.1 hb⟩
  rw [if_neg h4] at h
  by_cases h5 : x.f0 = 5
  · rw [if_pos h5] at h
    have hd : regB R x.f1 = true := by by_cases hd : regB R x.f1 = true; · exact hd
                                       · rw [if_neg hd] at h; cases h
    exact ⟨by omega, fun _ _ => regB_iff.1 hd, fun e => by omega, fun e => by omega⟩
  rw [if_neg h5] at h
  by_cases h6 : x.f0 = 6
  · exact ⟨by omega, fun e => absurd h6 e, fun e => by omega, fun e => by omega⟩
  rw [if_neg h6] at h
  by_cases h7 : x.f0 = 7
  · rw [if_pos h7] at h
    have hd : regB R x.f1 = true := by by_cases hd : regB R x.f1 = true; · exact hd
                                       · rw [if_neg hd] at h; cases h
    exact ⟨by omega, fun _ _ => regB_iff.1 hd, fun e => by omega, fun e => by omega⟩
  rw [if_neg h7] at h
  by_cases h8 : x.f0 = 8
  · rw [if_pos h8] at h
    exact ⟨by omega, fun _ e => absurd h8 e, fun _ => regB_iff.1 h, fun e => by omega⟩
  rw [if_neg h8] at h
  cases h
theorem gsOk_regs {R : Int} : ∀ {l : List S39} {g : Int}, gsOk R l g = true → ∀ x ∈ l, RegsOk R x
  | [], _, _, x, hx => by simp at hx
  | y :: l, g, h, x, hx => by
    rw [gsOk_cons] at h
    by_cases hi : instB R y.f0 y.f1 y.f2 y.f3 y.f4 y.f5.f0 y.f5.f1 y.f5.f2 g = true
    · rw [if_pos hi] at h
      rcases List.mem_cons.1 hx with rfl | hx
      · exact regsOk_of hi
      · exact gsOk_regs h x hx
    · rw [if_neg hi] at h; cases h
/-- what holds of a block that may be -/
structure MayIs (z0 z1 z2 : Int) (l3 : List S39) (z4 : Int) (l5 l6 : List Int) (z7 z8 z9 : Int) : Prop where
  pos : 0 ≤ z0 ∧ 0 ≤ z1 ∧ 0 ≤ z4 ∧ 0 ≤ z8 ∧ 0 ≤ z9
  few : z0 ≤ 4096 ∧ z1 ≤ 4096 ∧ z2 ≤ 4096
  regs : z0 + z1 ≤ z2
  insts : l3.length ≤ 4096
  gs : gsOk z2 l3 0 = true
  save : (l5.length : Int) = z0
  stack : l6.length ≤ 256
  cond : -1 ≤ z7 ∧ z7 < z2
  r5 : l5.any (badB z2) = false
  r6 : l6.any (badB z2) = false
theorem mayBlk_iff {z0 z1 z2 : Int} {l3 : List S39} {z4 : Int} {l5 l6 : List Int} {z7 z8 z9 : Int} : mayBlk z0 z1 z2 l3 z4 l5 l6 z7 z8 z9 = true ↔ MayIs z0 z1 z2 l3 z4 l5 l6 z7 z8 z9 := by
  have a := mn5_spec z0 z1 z4 z8 z9
  have b := mx3_spec z0 z1 z2
  unfold mayBlk
  constructor
  · intro h
    by_cases h1 : mn5 z0 z1 z4 z8 z9 < 0
    · rw [if_pos h1] at h; cases h
    rw [if_neg h1] at h
    by_cases h2 : 4096 < mx3 z0 z1 z2
    · rw [if_pos h2] at h; cases h
    rw [if_neg h2] at h
    by_cases h3 : z2 < z0 + z1
    · rw [if_pos h3] at h; cases h
    rw [if_neg h3] at h
    by_cases h4 : 4096 < l3.length
    · rw [if_pos h4] at h; cases h
    rw [if_neg h4] at h
    by_cases h5 : gsOk z2 l3 0 = false
    · rw [if_pos h5] at h; cases h
    rw [if_neg h5] at h
    by_cases h6 : (l5.length : Int) = z0
    case neg => rw [if_neg h6] at h; cases h
    rw [if_pos h6] at h
    by_cases h7 : l6.length ≤ 256
    case neg => rw [if_neg h7] at h; cases h
    rw [if_pos h7] at h
    by_cases h8 : -1 ≤ z7
    case neg => rw [if_neg h8] at h; cases h
    rw [if_pos h8] at h
    by_cases h9 : z7 < z2
    case neg => rw [if_neg h9] at h; cases h
    rw [if_pos h9] at h
    by_cases h10 : l5.any (badB z2) = true
    · rw [if_pos h10] at h; cases h
    rw [if_neg h10] at h
    exact ⟨by omega, by omega, by omega, by omega, by simpa using h5, h6, h7, ⟨h8, h9⟩, by simpa using h10, by simpa using h⟩
  · intro h
    obtain ⟨p, f, r, i, g, s, t, c, r5, r6⟩ := h
    rw [if_neg (by omega), if_neg (by omega), if_neg (by omega), if_neg (by omega), if_neg (by rw [g]; decide), if_pos s, if_pos t, if_pos c.1, if_pos c.2, if_neg (by rw [r5]; decide), r6]
    rfl

/-- one round of Spread -/
def runS (s : (Int → Option Int) × List S39) (x : S39) : (Int → Option Int) × List S39 := ((stepI s.1 x).1, if (stepI s.1 x).2.2 = true then s.2 ++ [(stepI s.1 x).2.1] else s.2)
def runL (l : List S39) : (Int → Option Int) × List S39 := l.foldl runS (fun _ => none, [])
theorem runL_take {l : List S39} {k : Nat} {x : S39} (hk : k < l.length) (hx : l[k]? = some x) : runL (l.take (k + 1)) = runS (runL (l.take k)) x := by
  unfold runL
  rw [List.take_add_one, hx, List.foldl_append]
  rfl
theorem runL_len (l : List S39) (k : Nat) : (runL (l.take k)).2.length ≤ k := by
  induction k with
  | zero => simp [runL]
  | succ k ih =>
    by_cases hk : k < l.length
    · rw [runL_take hk (List.getElem?_eq_getElem hk)]
      unfold runS
      dsimp only
      split
      · simp; exact ih
      · omega
    · rw [List.take_of_length_le (by omega)]
      rw [List.take_of_length_le (by omega)] at ih
      omega
/-- spread.Spread -/
def spreadF (z0 z1 z2 : Int) (l3 : List S39) (z4 : Int) (l5 l6 : List Int) (z7 z8 z9 : Int) : List S39 × List Int × List Int × Int :=
  if mayBlk z0 z1 z2 l3 z4 l5 l6 z7 z8 z9 = true then ((runL l3).2, l5.map (ofF (runL l3).1), l6.map (ofF (runL l3).1), if 0 ≤ z7 then ofF (runL l3).1 z7 else z7) else (l3, l5, l6, z7)
end Go.Proofs.Ytjkjbfhhfdbnoaa.NW
