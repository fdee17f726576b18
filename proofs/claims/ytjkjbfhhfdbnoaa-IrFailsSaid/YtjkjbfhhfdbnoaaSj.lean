/- Great, words and registers, plainly. -/
import Derived.Test.YtjkjbfhhfdbnoaaRe
import Derived.Test.YtjkjbfhhfdbnoaaRi
import Derived.Test.YtjkjbfhhfdbnoaaRk
import Derived.Test.YtjkjbfhhfdbnoaaPBx3
import Derived.Test.YtjkjbfhhfdbnoaaPBx4
import Derived.Test.YtjkjbfhhfdbnoaaPBx5
import Derived.Test.YtjkjbfhhfdbnoaaPBx7
namespace Go.Proofs.Ytjkjbfhhfdbnoaa.Pure
open Go.RowKit Go.Maps Go.Proofs.Ytjkjbfhhfdbnoaa.PB Go.Proofs.Ytjkjbfhhfdbnoaa.NW Go.Proofs.YtjkjbfhhfdbnoaaW.PrintWords Go.Proofs.YtjkjbfhhfdbnoaaW.PrintLast Go.Proofs.YtjkjbfhhfdbnoaaW.PrintMore
set_option linter.unusedVariables false
set_option linter.unusedSimpArgs false

theorem w64s {i : Int} (h0 : -9223372036854775808 ≤ i) (h1 : i ≤ 9223372036854775807) : wrap64 i = i := by unfold wrap64; omega
theorem rdT_nat {l : List S39} {i : Nat} (h : i < l.length) : rd_T39 l (i : Int) = l[i] := by
  rw [rd_T39, List.getD_eq_getElem?_getD, show ((i : Int).toNat) = i by omega, List.getElem?_eq_getElem h]; rfl
theorem rd_nat {l : List Int} {i : Nat} (h : i < l.length) : rd l (i : Int) = l[i] := by
  rw [rd, List.getD_eq_getElem?_getD, show ((i : Int).toNat) = i by omega, List.getElem?_eq_getElem h]; rfl

/-! ### Great -/
theorem great_l0 (z0 z1 z2 : Int) (l3 : List S39) (z4 : Int) (l5 l6 : List Int) (z7 z8 z9 : Int) (hn : l3.length ≤ 100) : ∀ (d i : Nat), l3.length - i = d → i ≤ l3.length →
    ∃ b, (∀ k, d < k → sacristanref15_Great.l0 k (l3.length : Int) (i : Int) z0 z1 z2 l3 z4 l5 l6 z7 z8 z9 = some b) ∧ (b = false → ∀ (j : Nat) (h : j < l3.length), i ≤ j → l3[j].f4.size ≤ 100 ∧ l3[j].f5.f2.size ≤ 70000) := by
  intro d
  induction d with
  | zero =>
    intro i hd hi
    refine ⟨false, fun k hk => ?_, fun _ j h hj => by omega⟩
    obtain ⟨k, rfl⟩ : ∃ m, k = m + 1 := ⟨k - 1, by omega⟩
    simp only [sacristanref15_Great.l0]
    rw [if_neg (by omega)]
  | succ d ih =>
    intro i hd hi
    have hlt : i < l3.length := by omega
    have hgo : ∀ k, d + 1 < k → ∃ m, k = m + 1 ∧ d < m := fun k hk => ⟨k - 1, by omega, by omega⟩
    by_cases h1 : (l3[i].f4.size : Int) > 100
    · refine ⟨true, fun k hk => ?_, fun h => by cases h⟩
      obtain ⟨k, rfl, hk'⟩ := hgo k hk
      simp only [sacristanref15_Great.l0]
      rw [if_pos (by omega), if_pos (by omega), if_pos (by omega), rdT_nat hlt, if_pos h1]
    by_cases h2 : (l3[i].f5.f2.size : Int) > 70000
    · refine ⟨true, fun k hk => ?_, fun h => by cases h⟩
      obtain ⟨k, rfl, hk'⟩ := hgo k hk
      simp only [sacristanref15_Great.l0]
      rw [if_pos (by omega), if_pos (by omega), if_pos (by omega), rdT_nat hlt, if_neg h1, if_pos h2]
    obtain ⟨b, hb, hj⟩ := ih (i + 1) (by omega) (by omega)
    refine ⟨b, fun k hk => ?_, fun e j h hij => ?_⟩
    · obtain ⟨k, rfl, hk'⟩ := hgo k hk
      simp only [sacristanref15_Great.l0]
      rw [if_pos (by omega), if_pos (by omega), if_pos (by omega), rdT_nat hlt, if_neg h1, if_neg h2, w64s (by omega) (by omega), show ((i : Int) + 1) = ((i + 1 : Nat) : Int) by omega]
      exact hb k hk'
    by_cases e2 : j = i
    · subst e2; omega
    · exact hj e j h (by omega)
structure Small (z2 : Int) (l3 : List S39) (l5 l6 : List Int) (v1 v2 v3 : List S37) (v4 : List S54) : Prop where
  insts : l3.length ≤ 100
  regs : z2 ≤ 300
  save : l5.length ≤ 400
  stack : l6.length ≤ 400
  v1 : v1.length ≤ 400
  v2 : v2.length ≤ 400
  v3 : v3.length ≤ 100
  v4 : v4.length ≤ 100
  words : ∀ x ∈ l3, x.f4.size ≤ 100 ∧ x.f5.f2.size ≤ 70000
theorem great_f (z0 z1 z2 : Int) (l3 : List S39) (z4 : Int) (l5 l6 : List Int) (z7 z8 z9 : Int) (v1 v2 v3 : List S37) (v4 : List S54) :
    ∃ b, (∀ k, 102 < k → sacristanref15_Great.f k z0 z1 z2 l3 z4 l5 l6 z7 z8 z9 v1 v2 v3 v4 = some b) ∧ (b = false → Small z2 l3 l5 l6 v1 v2 v3 v4) := by
  have ht : ∀ k, 102 < k → sacristanref15_Great.j0 k true z0 z1 z2 l3 z4 l5 l6 z7 z8 z9 = some true := fun k hk => by
    obtain ⟨k, rfl⟩ : ∃ m, k = m + 1 := ⟨k - 1, by omega⟩
    simp only [sacristanref15_Great.j0, if_true]
  by_cases h1 : (l3.length : Int) > 100
  · exact ⟨true, fun k hk => by unfold sacristanref15_Great.f; rw [if_pos h1]; exact ht k hk, fun h => by cases h⟩
  by_cases h2 : z2 > 300
  · exact ⟨true, fun k hk => by unfold sacristanref15_Great.f; rw [if_neg h1, if_pos h2]; exact ht k hk, fun h => by cases h⟩
  by_cases h3 : (l5.length : Int) > 400
  · exact ⟨true, fun k hk => by unfold sacristanref15_Great.f; rw [if_neg h1, if_neg h2, if_pos h3]; exact ht k hk, fun h => by cases h⟩
  by_cases h4 : (l6.length : Int) > 400
  · exact ⟨true, fun k hk => by unfold sacristanref15_Great.f; rw [if_neg h1, if_neg h2, if_neg h3, if_pos h4]; exact ht k hk, fun h => by cases h⟩
  by_cases h5 : (v1.length : Int) > 400
  · exact ⟨true, fun k hk => by unfold sacristanref15_Great.f; rw [if_neg h1, if_neg h2, if_neg h3, if_neg h4, if_pos h5]; exact ht k hk, fun h => by cases h⟩
  by_cases h6 : (v2.length : Int) > 400
  · exact ⟨true, fun k hk => by unfold sacristanref15_Great.f; rw [if_neg h1, if_neg h2, if_neg h3, if_neg h4, if_neg h5, if_pos h6]; exact ht k hk, fun h => by cases h⟩
  by_cases h7 : (v3.length : Int) > 100
  · exact ⟨true, fun k hk => by unfold sacristanref15_Great.f; rw [if_neg h1, if_neg h2, if_neg h3, if_neg h4, if_neg h5, if_neg h6, if_pos h7]; exact ht k hk, fun h => by cases h⟩
  by_cases h8 : (v4.length : Int) > 100
  · exact ⟨true, fun k hk => by unfold sacristanref15_Great.f; rw [if_neg h1, if_neg h2, if_neg h3, if_neg h4, if_neg h5, if_neg h6, if_neg h7, decide_eq_true h8]; exact ht k hk, fun h => by cases h⟩
  obtain ⟨b, hb, hj⟩ := great_l0 z0 z1 z2 l3 z4 l5 l6 z7 z8 z9 (by omega) l3.length 0 (by omega) (by omega)
  refine ⟨b, fun k hk => ?_, fun e => ⟨by omega, by omega, by omega, by omega, by omega, by omega, by omega, by omega, fun x hx => ?_⟩⟩
  · unfold sacristanref15_Great.f
    obtain ⟨k, rfl⟩ : ∃ m, k = m + 1 := ⟨k - 1, by omega⟩
    rw [if_neg h1, if_neg h2, if_neg h3, if_neg h4, if_neg h5, if_neg h6, if_neg h7, decide_eq_false h8]
    simp only [sacristanref15_Great.j0, Bool.false_eq_true, if_false]
    exact hb k (by omega)
  obtain ⟨j, hj1, rfl⟩ := List.getElem_of_mem hx
  exact hj e j hj1 (by omega)

/-! ### May -/
theorem in_l0 (s : ByteArray) (l : List ByteArray) (hn : l.length ≤ 1000) : ∀ (d k i : Nat), l.length - i = d → i ≤ l.length → d < k →
    sacristanref15_in.l0 k s l (l.length : Int) (i : Int) = some ((l.drop i).any (fun x => x.toList == s.toList)) := by
  intro d
  induction d with
  | zero =>
    intro k i hd hi hk
    obtain ⟨k, rfl⟩ : ∃ m, k = m + 1 := ⟨k - 1, by omega⟩
    simp only [sacristanref15_in.l0]
    rw [if_neg (by omega), List.drop_of_length_le (by omega)]
    rfl
  | succ d ih =>
    intro k i hd hi hk
    obtain ⟨k, rfl⟩ : ∃ m, k = m + 1 := ⟨k - 1, by omega⟩
    have hlt : i < l.length := by omega
    have hrd : rdOf ByteArray.empty l (i : Int) = l[i] := by
      rw [rdOf, List.getD_eq_getElem?_getD, show ((i : Int).toNat) = i by omega, List.getElem?_eq_getElem hlt]; rfl
    simp only [sacristanref15_in.l0]
    rw [if_pos (by omega), if_pos (by omega), if_pos (by omega), hrd, List.drop_eq_getElem_cons hlt, List.any_cons]
    by_cases h : l[i].toList = s.toList
    · rw [if_pos h, h]; simp
    · rw [if_neg h, w64s (by omega) (by omega), show ((i : Int) + 1) = ((i + 1 : Nat) : Int) by omega, ih k (i + 1) (by omega) (by omega) (by omega)]
      rw [show (l[i].toList == s.toList) = false from beq_eq_false_iff_ne.2 h, Bool.false_or]
theorem any_words (s : ByteArray) (l : List ByteArray) : (l.any (fun x => x.toList == s.toList)) = true ↔ s.data.toList ∈ l.map (fun x => x.data.toList) := by
  rw [List.any_eq_true, List.mem_map]
  simp only [beq_iff_eq, Lib.toList_data]
theorem in_ones (s : ByteArray) (k : Nat) (hk : 20 < k) : ((sacristanref01_Ones.f).bind fun t139 => ((sacristanref15_in.f k s t139).bind fun t142 => (some t142))) = some (pureB s 1) := by
  unfold sacristanref01_Ones.f
  simp only [Option.bind_some]
  unfold sacristanref15_in.f
  have h0 := fun l hl hk => in_l0 s l hl l.length k 0 rfl (Nat.zero_le _) hk
  simp only [show ((0 : Nat) : Int) = 0 from rfl, List.drop_zero] at h0
  rw [h0 _ (by decide) (by simp; omega)]
  rw [Option.bind_some]
  congr 1
  rw [Bool.eq_iff_iff, pureB_one, any_words]
  exact Iff.rfl
theorem in_twos (s : ByteArray) (k : Nat) (hk : 20 < k) : ((sacristanref01_Twos.f).bind fun t143 => ((sacristanref15_in.f k s t143).bind fun t146 => (some t146))) = some (pureB s 2) := by
  unfold sacristanref01_Twos.f
  simp only [Option.bind_some]
  unfold sacristanref15_in.f
  have h0 := fun l hl hk => in_l0 s l hl l.length k 0 rfl (Nat.zero_le _) hk
  simp only [show ((0 : Nat) : Int) = 0 from rfl, List.drop_zero] at h0
  rw [h0 _ (by decide) (by simp; omega)]
  rw [Option.bind_some]
  congr 1
  rw [Bool.eq_iff_iff, pureB_two, any_words]
  exact Iff.rfl
theorem rmay_f (t n : Int) (s : ByteArray) (k : Nat) (hk : 3 < k) : sacristanref01_May.f k t n s = some (mayB t n s) := by
  obtain ⟨k, rfl⟩ : ∃ m, k = m + 2 := ⟨k - 2, by omega⟩
  have hs : s.toList = [] ↔ s.size = 0 := by
    rw [Lib.toList_data]
    constructor
    · intro h
      have := congrArg List.length h
      simpa using this
    · intro h
      exact List.eq_nil_of_length_eq_zero (by simpa using h)
  unfold sacristanref01_May.f mayB
  by_cases h7 : t > 7
  · rw [if_pos h7]
    simp only [sacristanref01_May.j0, if_true]
    rw [if_neg (by omega)]
    split
    · rfl
    · rfl
  rw [if_neg h7]
  by_cases h3 : t = 3
  · rw [if_pos h3, if_pos h3]
    simp only [sacristanref01_May.j0, sacristanref01_May.j1]
    subst h3
    by_cases hz : (s.size : Int) > 65536
    · rw [decide_eq_true hz]
      simp only [if_true]
      split
      · rw [decide_eq_false (by omega)]
      · rfl
    · rw [decide_eq_false hz]
      simp
      by_cases hn : n = 0
      · rw [hn, decide_eq_true (show s.size ≤ 65536 by omega)]; rfl
      · simp [hn]
  rw [if_neg h3, if_neg h3]
  by_cases he : s.toList = []
  · rw [if_pos he, if_neg (by simpa using he)]
    have hz := hs.1 he
    rw [decide_eq_false (by omega), if_neg (by omega)]
    simp only [sacristanref01_May.j0, sacristanref01_May.j1, Bool.false_eq_true, if_false]
    by_cases h0 : t = 0
    · rw [if_pos h0, if_pos h0]; simp
    rw [if_neg h0, if_neg h0]
    rw [show (t == 3) = false from beq_eq_false_iff_ne.2 h3]
    simp only [Bool.false_eq_true, if_false]
    by_cases h2 : t = 2
    · rw [if_pos h2, if_pos h2]
      by_cases hn : n = 0
      · rw [if_pos hn, hn]; rfl
      · rw [if_neg hn]; simp [hn]
    rw [if_neg h2, if_neg h2]
    by_cases h1 : t = 1
    · rw [if_pos h1, if_pos h1]
    · rw [if_neg h1, if_neg h1]
  · rw [if_neg he, if_pos he]
    simp only [sacristanref01_May.j0, if_true]
theorem regs_l0 (z0 z1 z2 : Int) (l3 : List S39) (z4 : Int) (l5 l6 : List Int) (z7 z8 z9 : Int) (l : List Int) (hn : l.length ≤ 1000) : ∀ (d k i : Nat), l.length - i = d → i ≤ l.length → d < k →
    sacristanref15_regs.l0 k l (l.length : Int) (i : Int) z0 z1 z2 l3 z4 l5 l6 z7 z8 z9 = some (!((l.drop i).any (badB z2))) := by
  intro d
  induction d with
  | zero =>
    intro k i hd hi hk
    obtain ⟨k, rfl⟩ : ∃ m, k = m + 1 := ⟨k - 1, by omega⟩
    simp only [sacristanref15_regs.l0]
    rw [if_neg (by omega), List.drop_of_length_le (by omega)]
    rfl
  | succ d ih =>
    intro k i hd hi hk
    obtain ⟨k, rfl⟩ : ∃ m, k = m + 1 := ⟨k - 1, by omega⟩
    have hlt : i < l.length := by omega
    simp only [sacristanref15_regs.l0]
    rw [if_pos (by omega), if_pos (by omega), if_pos (by omega), rd_nat hlt, List.drop_eq_getElem_cons hlt, List.any_cons]
    unfold badB
    by_cases h : l[i] < 0
    · rw [if_pos h, if_pos h]; rfl
    rw [if_neg h, if_neg h]
    by_cases h2 : l[i] ≥ z2
    · rw [if_pos h2, decide_eq_true h2]; rfl
    · rw [if_neg h2, decide_eq_false h2, w64s (by omega) (by omega), show ((i : Int) + 1) = ((i + 1 : Nat) : Int) by omega, ih k (i + 1) (by omega) (by omega) (by omega), Bool.false_or]
      rfl
end Go.Proofs.Ytjkjbfhhfdbnoaa.Pure
