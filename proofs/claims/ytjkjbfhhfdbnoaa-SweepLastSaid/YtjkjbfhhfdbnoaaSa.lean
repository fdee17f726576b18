/- What Great, May and the instructions' tests of the reference answer is what the program's do. -/
import Derived.Test.YtjkjbfhhfdbnoaaRk
import Derived.Test.YtjkjbfhhfdbnoaaPBx3
import Derived.Test.YtjkjbfhhfdbnoaaPBx4
import Derived.Test.YtjkjbfhhfdbnoaaPBx5
import Derived.Test.YtjkjbfhhfdbnoaaPBx6
import Derived.Test.YtjkjbfhhfdbnoaaPBx7
import Derived.Test.YtjkjbfhhfdbnoaaPBx8
namespace Go.Proofs.Ytjkjbfhhfdbnoaa.Pure
open Go.RowKit Go.Maps Go.Proofs.Ytjkjbfhhfdbnoaa.PB Go.Proofs.Ytjkjbfhhfdbnoaa.NW Go.Proofs.YtjkjbfhhfdbnoaaW.PrintWords Go.Proofs.YtjkjbfhhfdbnoaaW.PrintLast Go.Proofs.YtjkjbfhhfdbnoaaW.PrintMore Go.Proofs.YtjkjbfhhfdbnoaaW.Own
set_option linter.unusedVariables false
set_option linter.unusedSimpArgs false

theorem w64s {i : Int} (h0 : -9223372036854775808 ≤ i) (h1 : i ≤ 9223372036854775807) : wrap64 i = i := by unfold wrap64; omega
theorem rdT_nat {l : List S39} {i : Nat} (h : i < l.length) : rd_T39 l (i : Int) = l[i] := by
  rw [rd_T39, List.getD_eq_getElem?_getD, show ((i : Int).toNat) = i by omega, List.getElem?_eq_getElem h]; rfl
theorem rd_nat {l : List Int} {i : Nat} (h : i < l.length) : rd l (i : Int) = l[i] := by
  rw [rd, List.getD_eq_getElem?_getD, show ((i : Int).toNat) = i by omega, List.getElem?_eq_getElem h]; rfl

/-! ### Great -/
theorem great_l0 (z0 z1 z2 : Int) (l3 : List S39) (z4 : Int) (l5 l6 : List Int) (z7 z8 z9 : Int) (hn : l3.length ≤ 100) : ∀ (d i : Nat), l3.length - i = d → i ≤ l3.length →
    ∃ b, (∀ k, d < k → sacristanref15_Great.l0 k (l3.length : Int) (i : Int) z0 z1 z2 l3 z4 l5 l6 z7 z8 z9 = some b) ∧ (b = false → ∀ (j : Nat) (h : j < l3.length), i ≤ j → l3[j].f4.size ≤ 100 ∧ l3[j].f5.f2.size ≤ 70000) := by
  intro d
  induction d with
  | zero =>
    intro i hd hi
    refine ⟨false, fun k hk => ?_, fun _ j h hj => by omega⟩
    obtain ⟨k, rfl⟩ : ∃ m, k = m + 1 := ⟨k - 1, by omega⟩
    simp only [sacristanref15_Great.l0]
    rw [if_neg (by omega)]
  | succ d ih =>
    intro i hd hi
    have hlt : i < l3.length := by omega
    have hgo : ∀ k, d + 1 < k → ∃ m, k = m + 1 ∧ d < m := fun k hk => ⟨k - 1, by omega, by omega⟩
    by_cases h1 : (l3[i].f4.size : Int) > 100
    · refine ⟨true, fun k hk => ?_, fun h => by cases h⟩
      obtain ⟨k, rfl, hk'⟩ := hgo k hk
      simp only [sacristanref15_Great.l0]
      rw [if_pos (by omega), if_pos (by omega), if_pos (by omega), rdT_nat hlt, if_pos h1]
    by_cases h2 : (l3[i].f5.f2.size : Int) > 70000
    · refine ⟨true, fun k hk => ?_, fun h => by cases h⟩
      obtain ⟨k, rfl, hk'⟩ := hgo k hk
      simp only [sacristanref15_Great.l0]
      rw [if_pos (by omega), if_pos (by omega), if_pos (by omega), rdT_nat hlt, if_neg h1, if_pos h2]
    obtain ⟨b, hb, hj⟩ := ih (i + 1) (by omega) (by omega)
    refine ⟨b, fun k hk => ?_, fun e j h hij => ?_⟩
    · obtain ⟨k, rfl, hk'⟩ := hgo k hk
      simp only [sacristanref15_Great.l0]
      rw [if_pos (by omega), if_pos (by omega), if_pos (by omega), rdT_nat hlt, if_neg h1, if_neg h2, w64s (by omega) (by omega), show ((i : Int) + 1) = ((i + 1 : Nat) : Int) by omega]
      exact hb k hk'
    by_cases e2 : j = i
    · subst e2; omega
    · exact hj e j h (by omega)
structure Small (z2 : Int) (l3 : List S39) (l5 l6 : List Int) (v1 v2 v3 : List S37) (v4 : List S54) : Prop where
  insts : l3.length ≤ 100
  regs : z2 ≤ 300
  save : l5.length ≤ 400
  stack : l6.length ≤ 400
  v1 : v1.length ≤ 400
  v2 : v2.length ≤ 400
  v3 : v3.length ≤ 100
  v4 : v4.length ≤ 100
  words : ∀ x ∈ l3, x.f4.size ≤ 100 ∧ x.f5.f2.size ≤ 70000
theorem great_f (z0 z1 z2 : Int) (l3 : List S39) (z4 : Int) (l5 l6 : List Int) (z7 z8 z9 : Int) (v1 v2 v3 : List S37) (v4 : List S54) :
    ∃ b, (∀ k, 102 < k → sacristanref15_Great.f k z0 z1 z2 l3 z4 l5 l6 z7 z8 z9 v1 v2 v3 v4 = some b) ∧ (b = false → Small z2 l3 l5 l6 v1 v2 v3 v4) := by
  have ht : ∀ k, 102 < k → sacristanref15_Great.j0 k true z0 z1 z2 l3 z4 l5 l6 z7 z8 z9 = some true := fun k hk => by
    obtain ⟨k, rfl⟩ : ∃ m, k = m + 1 := ⟨k - 1, by omega⟩
    simp only [sacristanref15_Great.j0, if_true]
  by_cases h1 : (l3.length : Int) > 100
  · exact ⟨true, fun k hk => by unfold sacristanref15_Great.f; rw [if_pos h1]; exact ht k hk, fun h => by cases h⟩
  by_cases h2 : z2 > 300
  · exact ⟨true, fun k hk => by unfold sacristanref15_Great.f; rw [if_neg h1, if_pos h2]; exact ht k hk, fun h => by cases h⟩
  by_cases h3 : (l5.length : Int) > 400
  · exact ⟨true, fun k hk => by unfold sacristanref15_Great.f; rw [if_neg h1, if_neg h2, if_pos h3]; exact ht k hk, fun h => by cases h⟩
  by_cases h4 : (l6.length : Int) > 400
  · exact ⟨true, fun k hk => by unfold sacristanref15_Great.f; rw [if_neg h1, if_neg h2, if_neg h3, if_pos h4]; exact ht k hk, fun h => by cases h⟩
  by_cases h5 : (v1.length : Int) > 400
  · exact ⟨true, fun k hk => by unfold sacristanref15_Great.f; rw [if_neg h1, if_neg h2, if_neg h3, if_neg h4, if_pos h5]; exact ht k hk, fun h => by cases h⟩
  by_cases h6 : (v2.length : Int) > 400
  · exact ⟨true, fun k hk => by unfold sacristanref15_Great.f; rw [if_neg h1, if_neg h2, if_neg h3, if_neg h4, if_neg h5, if_pos h6]; exact ht k hk, fun h => by cases h⟩
  by_cases h7 : (v3.length : Int) > 100
  · exact ⟨true, fun k hk => by unfold sacristanref15_Great.f; rw [if_neg h1, if_neg h2, if_neg h3, if_neg h4, if_neg h5, if_neg h6, if_pos h7]; exact ht k hk, fun h => by cases h⟩
  by_cases h8 : (v4.length : Int) > 100
  · exact ⟨true, fun k hk => by unfold sacristanref15_Great.f; rw [if_neg h1, if_neg h2, if_neg h3, if_neg h4, if_neg h5, if_neg h6, if_neg h7, decide_eq_true h8]; exact ht k hk, fun h => by cases h⟩
  obtain ⟨b, hb, hj⟩ := great_l0 z0 z1 z2 l3 z4 l5 l6 z7 z8 z9 (by omega) l3.length 0 (by omega) (by omega)
  refine ⟨b, fun k hk => ?_, fun e => ⟨by omega, by omega, by omega, by omega, by omega, by omega, by omega, by omega, fun x hx => ?_⟩⟩
  · unfold sacristanref15_Great.f
    obtain ⟨k, rfl⟩ : ∃ m, k = m + 1 := ⟨k - 1, by omega⟩
    rw [if_neg h1, if_neg h2, if_neg h3, if_neg h4, if_neg h5, if_neg h6, if_neg h7, decide_eq_false h8]
    simp only [sacristanref15_Great.j0, Bool.false_eq_true, if_false]
    exact hb k (by omega)
  obtain ⟨j, hj1, rfl⟩ := List.getElem_of_mem hx
  exact hj e j hj1 (by omega)

/-! ### May -/
theorem in_l0 (s : ByteArray) (l : List ByteArray) (hn : l.length ≤ 1000) : ∀ (d k i : Nat), l.length - i = d → i ≤ l.length → d < k →
    sacristanref15_in.l0 k s l (l.length : Int) (i : Int) = some ((l.drop i).any (fun x => x.toList == s.toList)) := by
  intro d
  induction d with
  | zero =>
    intro k i hd hi hk
    obtain ⟨k, rfl⟩ : ∃ m, k = m + 1 := ⟨k - 1, by omega⟩
    simp only [sacristanref15_in.l0]
    rw [if_neg (by omega), List.drop_of_length_le (by omega)]
    rfl
  | succ d ih =>
    intro k i hd hi hk
    obtain ⟨k, rfl⟩ : ∃ m, k = m + 1 := ⟨k - 1, by omega⟩
    have hlt : i < l.length := by omega
    have hrd : rdOf ByteArray.empty l (i : Int) = l[i] := by
      rw [rdOf, List.getD_eq_getElem?_getD, show ((i : Int).toNat) = i by omega, List.getElem?_eq_getElem hlt]; rfl
    simp only [sacristanref15_in.l0]
    rw [if_pos (by omega), if_pos (by omega), if_pos (by omega), hrd, List.drop_eq_getElem_cons hlt, List.any_cons]
    by_cases h : l[i].toList = s.toList
    · rw [if_pos h, h]; simp
    · rw [if_neg h, w64s (by omega) (by omega), show ((i : Int) + 1) = ((i + 1 : Nat) : Int) by omega, ih k (i + 1) (by omega) (by omega) (by omega)]
      rw [show (l[i].toList == s.toList) = false from beq_eq_false_iff_ne.2 h, Bool.false_or]
theorem any_words (s : ByteArray) (l : List ByteArray) : (l.any (fun x => x.toList == s.toList)) = true ↔ s.data.toList ∈ l.map (fun x => x.data.toList) := by
  rw [List.any_eq_true, List.mem_map]
  simp only [beq_iff_eq, Lib.toList_data]
theorem in_ones (s : ByteArray) (k : Nat) (hk : 20 < k) : ((sacristanref01_Ones.f).bind fun t139 => ((sacristanref15_in.f k s t139).bind fun t142 => (some t142))) = some (pureB s 1) := by
  unfold sacristanref01_Ones.f
  simp only [Option.bind_some]
  unfold sacristanref15_in.f
  have h0 := fun l hl hk => in_l0 s l hl l.length k 0 rfl (Nat.zero_le _) hk
  simp only [show ((0 : Nat) : Int) = 0 from rfl, List.drop_zero] at h0
  rw [h0 _ (by decide) (by simp; omega)]
  rw [Option.bind_some]
  congr 1
  rw [Bool.eq_iff_iff, pureB_one, any_words]
  exact Iff.rfl
theorem in_twos (s : ByteArray) (k : Nat) (hk : 20 < k) : ((sacristanref01_Twos.f).bind fun t143 => ((sacristanref15_in.f k s t143).bind fun t146 => (some t146))) = some (pureB s 2) := by
  unfold sacristanref01_Twos.f
  simp only [Option.bind_some]
  unfold sacristanref15_in.f
  have h0 := fun l hl hk => in_l0 s l hl l.length k 0 rfl (Nat.zero_le _) hk
  simp only [show ((0 : Nat) : Int) = 0 from rfl, List.drop_zero] at h0
  rw [h0 _ (by decide) (by simp; omega)]
  rw [Option.bind_some]
  congr 1
  rw [Bool.eq_iff_iff, pureB_two, any_words]
  exact Iff.rfl
theorem rmay_f (t n : Int) (s : ByteArray) (k : Nat) (hk : 3 < k) : sacristanref01_May.f k t n s = some (mayB t n s) := by
  obtain ⟨k, rfl⟩ : ∃ m, k = m + 2 := ⟨k - 2, by omega⟩
  have hs : s.toList = [] ↔ s.size = 0 := by
    rw [Lib.toList_data]
    constructor
    · intro h
      have := congrArg List.length h
      simpa using this
    · intro h
      exact List.eq_nil_of_length_eq_zero (by simpa using h)
  unfold sacristanref01_May.f mayB
  by_cases h7 : t > 7
  · rw [if_pos h7]
    simp only [sacristanref01_May.j0, if_true]
    rw [if_neg (by omega)]
    split
    · rfl
    · rfl
  rw [if_neg h7]
  by_cases h3 : t = 3
  · rw [if_pos h3, if_pos h3]
    simp only [sacristanref01_May.j0, sacristanref01_May.j1]
    subst h3
    by_cases hz : (s.size : Int) > 65536
    · rw [decide_eq_true hz]
      simp only [if_true]
      split
      · rw [decide_eq_false (by omega)]
      · rfl
    · rw [decide_eq_false hz]
      simp
      by_cases hn : n = 0
      · rw [hn, decide_eq_true (show s.size ≤ 65536 by omega)]; rfl
      · simp [hn]
  rw [if_neg h3, if_neg h3]
  by_cases he : s.toList = []
  · rw [if_pos he, if_neg (by simpa using he)]
    have hz := hs.1 he
    rw [decide_eq_false (by omega), if_neg (by omega)]
    simp only [sacristanref01_May.j0, sacristanref01_May.j1, Bool.false_eq_true, if_false]
    by_cases h0 : t = 0
    · rw [if_pos h0, if_pos h0]; simp
    rw [if_neg h0, if_neg h0]
    rw [show (t == 3) = false from beq_eq_false_iff_ne.2 h3]
    simp only [Bool.false_eq_true, if_false]
    by_cases h2 : t = 2
    · rw [if_pos h2, if_pos h2]
      by_cases hn : n = 0
      · rw [if_pos hn, hn]; rfl
      · rw [if_neg hn]; simp [hn]
    rw [if_neg h2, if_neg h2]
    by_cases h1 : t = 1
    · rw [if_pos h1, if_pos h1]
    · rw [if_neg h1, if_neg h1]
  · rw [if_neg he, if_pos he]
    simp only [sacristanref01_May.j0, if_true]
theorem iinst_f (z0 z1 z2 : Int) (l3 : List S39) (z4 : Int) (l5 l6 : List Int) (z7 z8 z9 : Int) (op d a b : Int) (wd : ByteArray) (t n : Int) (s : ByteArray) (g : Int) (k : Nat) (hk : 30 < k) :
    sacristanref15_inst.f k z0 z1 z2 l3 z4 l5 l6 z7 z8 z9 op d a b wd t n s g = some (instB z2 op d a b wd t n s g) := by
  obtain ⟨k, rfl⟩ : ∃ m, k = m + 3 := ⟨k - 3, by omega⟩
  have e0 : ∀ x, (if d ≥ 0 then (sacristanref15_inst.j0 (k + 3) g (decide (d < z2)) z0 z1 z2 l3 z4 l5 l6 z7 z8 z9 op d a b wd t n s) else (sacristanref15_inst.j0 (k + 3) g false z0 z1 z2 l3 z4 l5 l6 z7 z8 z9 op d a b wd t n s)) = some x ↔ sacristanref15_inst.j0 (k + 3) g (regB z2 d) z0 z1 z2 l3 z4 l5 l6 z7 z8 z9 op d a b wd t n s = some x := by
    intro x
    unfold regB
    split <;> rfl
  unfold sacristanref15_inst.f
  rw [e0]
  simp only [sacristanref15_inst.j0]
  have e1 : (if a ≥ 0 then (sacristanref15_inst.j1 (k + 2) g (regB z2 d) (decide (a < z2)) z0 z1 z2 l3 z4 l5 l6 z7 z8 z9 op d a b wd t n s) else (sacristanref15_inst.j1 (k + 2) g (regB z2 d) false z0 z1 z2 l3 z4 l5 l6 z7 z8 z9 op d a b wd t n s)) = sacristanref15_inst.j1 (k + 2) g (regB z2 d) (regB z2 a) z0 z1 z2 l3 z4 l5 l6 z7 z8 z9 op d a b wd t n s := by
    unfold regB
    split <;> rfl
  rw [e1]
  simp only [sacristanref15_inst.j1]
  have e2 : (if b ≥ 0 then (sacristanref15_inst.j2 (k + 1) g (regB z2 d) (regB z2 a) (decide (b < z2)) op d a b wd t n s) else (sacristanref15_inst.j2 (k + 1) g (regB z2 d) (regB z2 a) false op d a b wd t n s)) = sacristanref15_inst.j2 (k + 1) g (regB z2 d) (regB z2 a) (regB z2 b) op d a b wd t n s := by
    unfold regB
    split <;> rfl
  rw [e2]
  simp only [sacristanref15_inst.j2]
  unfold instB
  have o1 := in_ones wd k (by omega)
  have o2 := in_twos wd k (by omega)
  have o3 := rmay_f t n s k (by omega)
  rw [o3]
  simp only [Option.bind_some] at o1 o2 ⊢
  by_cases h1 : op = 1
  · rw [if_pos h1, if_pos h1]; (repeat' split) <;> rfl
  rw [if_neg h1, if_neg h1]
  by_cases h2 : op = 2
  · rw [if_pos h2, if_pos h2]; (repeat' split) <;> rfl
  rw [if_neg h2, if_neg h2]
  by_cases h3 : op = 3
  · rw [if_pos h3, if_pos h3, o1]; (repeat' split) <;> rfl
  rw [if_neg h3, if_neg h3]
  by_cases h4 : op = 4
  · rw [if_pos h4, if_pos h4, o2]; (repeat' split) <;> rfl
  rw [if_neg h4, if_neg h4]
  by_cases h5 : op = 5
  · rw [if_pos h5, if_pos h5]; (repeat' split) <;> rfl
  rw [if_neg h5, if_neg h5]
  by_cases h6 : op = 6
  · rw [if_pos h6, if_pos h6]
  rw [if_neg h6, if_neg h6]
  by_cases h7 : op = 7
  · rw [if_pos h7, if_pos h7]; (repeat' split) <;> rfl
  rw [if_neg h7, if_neg h7]
  by_cases h8 : op = 8
  · rw [if_pos h8, if_pos h8]
  rw [if_neg h8, if_neg h8]
theorem regs_l0 (z0 z1 z2 : Int) (l3 : List S39) (z4 : Int) (l5 l6 : List Int) (z7 z8 z9 : Int) (l : List Int) (hn : l.length ≤ 1000) : ∀ (d k i : Nat), l.length - i = d → i ≤ l.length → d < k →
    sacristanref15_regs.l0 k l (l.length : Int) (i : Int) z0 z1 z2 l3 z4 l5 l6 z7 z8 z9 = some (!((l.drop i).any (badB z2))) := by
  intro d
  induction d with
  | zero =>
    intro k i hd hi hk
    obtain ⟨k, rfl⟩ : ∃ m, k = m + 1 := ⟨k - 1, by omega⟩
    simp only [sacristanref15_regs.l0]
    rw [if_neg (by omega), List.drop_of_length_le (by omega)]
    rfl
  | succ d ih =>
    intro k i hd hi hk
    obtain ⟨k, rfl⟩ : ∃ m, k = m + 1 := ⟨k - 1, by omega⟩
    have hlt : i < l.length := by omega
    simp only [sacristanref15_regs.l0]
    rw [if_pos (by omega), if_pos (by omega), if_pos (by omega), rd_nat hlt, List.drop_eq_getElem_cons hlt, List.any_cons]
    unfold badB
    by_cases h : l[i] < 0
    · rw [if_pos h, if_pos h]; rfl
    rw [if_neg h, if_neg h]
    by_cases h2 : l[i] ≥ z2
    · rw [if_pos h2, decide_eq_true h2]; rfl
    · rw [if_neg h2, decide_eq_false h2, w64s (by omega) (by omega), show ((i : Int) + 1) = ((i + 1 : Nat) : Int) by omega, ih k (i + 1) (by omega) (by omega) (by omega), Bool.false_or]
      rfl
def tailB (z0 z2 : Int) (l5 l6 : List Int) (z7 : Int) : Bool :=
  if (l5.length : Int) = z0 then (if l6.length ≤ 256 then (if -1 ≤ z7 then (if z7 < z2 then (if l5.any (badB z2) = true then false else !(l6.any (badB z2))) else false) else false) else false) else false
theorem may_l0 (z0 z1 z2 : Int) (l3 : List S39) (z4 : Int) (l5 l6 : List Int) (z7 z8 z9 : Int) (h3 : l3.length ≤ 4096) (h5 : l5.length ≤ 400) (h6 : l6.length ≤ 400) : ∀ (d k i : Nat) (g : Int), l3.length - i = d → i ≤ l3.length → d + 500 < k → 0 ≤ g → g ≤ i →
    sacristanref15_May.l0 k g (l3.length : Int) (i : Int) z0 z1 z2 l3 z4 l5 l6 z7 z8 z9 = some (if gsOk z2 (l3.drop i) g = false then false else tailB z0 z2 l5 l6 z7) := by
  intro d
  induction d with
  | zero =>
    intro k i g hd hi hk hg0 hg1
    obtain ⟨k, rfl⟩ : ∃ m, k = m + 1 := ⟨k - 1, by omega⟩
    simp only [sacristanref15_May.l0]
    rw [if_neg (by omega), List.drop_of_length_le (by omega)]
    have r5 := regs_l0 z0 z1 z2 l3 z4 l5 l6 z7 z8 z9 l5 (by omega) l5.length k 0 (by omega) (by omega) (by omega)
    have r6 := regs_l0 z0 z1 z2 l3 z4 l5 l6 z7 z8 z9 l6 (by omega) l6.length k 0 (by omega) (by omega) (by omega)
    rw [List.drop_zero] at r5 r6
    have r5' : sacristanref15_regs.f k z0 z1 z2 l3 z4 l5 l6 z7 z8 z9 l5 = some (!(l5.any (badB z2))) := r5
    have r6' : sacristanref15_regs.f k z0 z1 z2 l3 z4 l5 l6 z7 z8 z9 l6 = some (!(l6.any (badB z2))) := r6
    rw [r5', r6']
    simp only [Option.bind_some]
    rw [show gsOk z2 [] g = true from rfl, if_neg (show ¬ (true = false) by decide)]
    unfold tailB
    by_cases h1 : (l5.length : Int) = z0
    case neg => rw [if_neg h1, if_neg h1]
    rw [if_pos h1, if_pos h1]
    by_cases h2 : l6.length ≤ 256
    case neg => rw [if_neg (by omega), if_neg h2]
    rw [if_pos (by omega), if_pos h2]
    by_cases h3 : -1 ≤ z7
    case neg => rw [if_neg (by omega), if_neg h3]
    rw [if_pos (by omega), if_pos h3]
    by_cases h4 : z7 < z2
    case neg => rw [if_neg h4, if_neg h4]
    rw [if_pos h4, if_pos h4]
    cases h5 : l5.any (badB z2) <;> rfl
  | succ d ih =>
    intro k i g hd hi hk hg0 hg1
    obtain ⟨k, rfl⟩ : ∃ m, k = m + 1 := ⟨k - 1, by omega⟩
    have hlt : i < l3.length := by omega
    simp only [sacristanref15_May.l0]
    rw [if_pos (by omega), if_pos (by omega), if_pos (by omega), rdT_nat hlt, List.drop_eq_getElem_cons hlt, gsOk_cons, iinst_f _ _ _ _ _ _ _ _ _ _ _ _ _ _ _ _ _ _ _ _ (by omega)]
    rw [Option.bind_some]
    cases hi2 : instB z2 l3[i].f0 l3[i].f1 l3[i].f2 l3[i].f3 l3[i].f4 l3[i].f5.f0 l3[i].f5.f1 l3[i].f5.f2 g with
    | false => simp
    | true =>
      rw [if_pos rfl, if_pos rfl]
      by_cases h6' : l3[i].f0 = 6
      · rw [if_pos h6', if_pos h6', w64s (by omega) (by omega), w64s (by omega) (by omega), show ((i : Int) + 1) = ((i + 1 : Nat) : Int) by omega, ih k (i + 1) (g + 1) (by omega) (by omega) (by omega) (by omega) (by omega)]
      · rw [if_neg h6', if_neg h6', w64s (by omega) (by omega), show ((i : Int) + 1) = ((i + 1 : Nat) : Int) by omega, ih k (i + 1) g (by omega) (by omega) (by omega) (by omega) (by omega)]
theorem may_f (z0 z1 z2 : Int) (l3 : List S39) (z4 : Int) (l5 l6 : List Int) (z7 z8 z9 : Int) (h5 : l5.length ≤ 400) (h6 : l6.length ≤ 400) (k : Nat) (hk : 5000 < k) :
    sacristanref15_May.f k z0 z1 z2 l3 z4 l5 l6 z7 z8 z9 = some (mayBlk z0 z1 z2 l3 z4 l5 l6 z7 z8 z9) := by
  obtain ⟨k, rfl⟩ : ∃ m, k = m + 1 := ⟨k - 1, by omega⟩
  have a := mn5_spec z0 z1 z4 z8 z9
  have b := mx3_spec z0 z1 z2
  have ht : sacristanref15_May.j0 (k + 1) true z0 z1 z2 l3 z4 l5 l6 z7 z8 z9 = some false := by simp only [sacristanref15_May.j0, if_true]
  unfold sacristanref15_May.f mayBlk
  by_cases q : mn5 z0 z1 z4 z8 z9 < 0
  · rw [if_pos q]
    have q' := a.1 q
    by_cases q0 : z0 < 0
    · rw [if_pos q0, ht]
    rw [if_neg q0]
    by_cases q1 : z1 < 0
    · rw [if_pos q1, ht]
    rw [if_neg q1]
    by_cases q2 : z4 < 0
    · rw [if_pos q2, ht]
    rw [if_neg q2]
    by_cases q3 : z8 < 0
    · rw [if_pos q3, ht]
    rw [if_neg q3, if_pos (by omega), ht]
  rw [if_neg q, if_neg (by omega), if_neg (by omega), if_neg (by omega), if_neg (by omega), if_neg (by omega)]
  by_cases p : 4096 < mx3 z0 z1 z2
  · rw [if_pos p]
    have p' := b.1 p
    by_cases q0 : z2 > 4096
    · rw [if_pos q0, ht]
    rw [if_neg q0]
    by_cases q1 : z0 > 4096
    · rw [if_pos q1, ht]
    rw [if_neg q1, if_pos (by omega), ht]
  rw [if_neg p, if_neg (by omega), if_neg (by omega), if_neg (by omega), w64s (by omega) (by omega)]
  by_cases r : z2 < z0 + z1
  · rw [if_pos r, if_pos r, ht]
  rw [if_neg r, if_neg r]
  by_cases s : 4096 < l3.length
  · rw [decide_eq_true (by omega), ht, if_pos s]
  rw [decide_eq_false (by omega), if_neg s]
  simp only [sacristanref15_May.j0, Bool.false_eq_true, if_false]
  have h := may_l0 z0 z1 z2 l3 z4 l5 l6 z7 z8 z9 (by omega) h5 h6 l3.length k 0 0 (by omega) (by omega) (by omega) (by omega) (by omega)
  rw [List.drop_zero] at h
  exact h
end Go.Proofs.Ytjkjbfhhfdbnoaa.Pure
