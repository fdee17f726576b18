/- What an instruction takes and leaves, plainly: the program's and the reference's answer are one. -/
import Derived.Test.YtfncoldcjhkhiaaDoorTa
import Derived.Test.YtfncoldcjhkhiaaDoorPCx3
import Derived.Test.YtfncoldcjhkhiaaDoorPCx4
import Derived.Test.YtfncoldcjhkhiaaDoorPCx6
import Derived.Test.YtfncoldcjhkhiaaDoorPCx7
import Derived.Test.YtfncoldcjhkhiaaDoorPCx8
import Derived.Test.YtfncoldcjhkhiaaDoorPCx9
namespace Go.Proofs.YtfncoldcjhkhiaaDoor.Pure
open Go.RowKit Go.Proofs.YtfncoldcjhkhiaaDoor.PC Go.Proofs.YtfncoldcjhkhiaaDoor.NW Go.Proofs.YtfncoldcjhkhiaaDoorW.PrintWords Go.Proofs.YtfncoldcjhkhiaaDoorW.PrintLast Go.Proofs.YtfncoldcjhkhiaaDoorW.PrintMore
set_option linter.unusedVariables false
set_option linter.unusedSimpArgs false
theorem w64s {i : Int} (h0 : -9223372036854775808 ≤ i) (h1 : i ≤ 9223372036854775807) : wrap64 i = i := by unfold wrap64; omega
theorem mn_nat (n : Nat) : mn (n : Int) 70000 = ((min n 70000 : Nat) : Int) := by unfold mn; split <;> omega
theorem rd44 {l : List S44} {i : Nat} (h : i < l.length) : rd_T44 l (i : Int) = l[i] := by
  rw [rd_T44, List.getD_eq_getElem?_getD, show ((i : Int).toNat) = i by omega, List.getElem?_eq_getElem h]; try rfl
theorem rd41 {l : List S41} {i : Nat} (h : i < l.length) : rd_T41 l (i : Int) = l[i] := by
  rw [rd_T41, List.getD_eq_getElem?_getD, show ((i : Int).toNat) = i by omega, List.getElem?_eq_getElem h]; try rfl
theorem rdS {l : List ByteArray} {i : Nat} (h : i < l.length) : rdOf ByteArray.empty l (i : Int) = l[i] := by
  rw [rdOf, List.getD_eq_getElem?_getD, show ((i : Int).toNat) = i by omega, List.getElem?_eq_getElem h]; try rfl
/-- from some number of rounds on, it answers so -/
theorem le_at {α : Type} {f : Nat → Option α} (hm : ∀ k, LeO (f k) (f (k + 1))) {r : α} {n : Nat} (h : f n = some r) : ∀ k, n ≤ k → f k = some r := by
  intro k hk
  obtain ⟨d, rfl⟩ : ∃ d, k = n + d := ⟨k - n, by omega⟩
  induction d with
  | zero => exact h
  | succ d ih => exact hm (n + d) r (ih (by omega))
/-! ### Great -/
def g1 (l : List ByteArray) : Nat := (l.map fun s => min s.size 70000).sum
def g2 (l : List S44) : Nat := (l.map fun p => min p.f3.length 70000).sum
def g3 (l : List S41) : Nat := (l.map fun t => min t.f0.length 70000).sum
def greatS (l0 : List Int) (l1 : List ByteArray) (l2 : List S44) (l3 : List S41) : Bool := decide (300 < l0.length ∨ 300 < l1.length ∨ 300 < l2.length ∨ 300 < l3.length ∨ 70000 < g1 l1 + g2 l2 + g3 l3)
section
variable (l0 : List Int) (l1 : List ByteArray) (l2 : List S44) (l3 : List S41)
theorem great_l2 (hn : l3.length ≤ 300) : ∀ (d k i acc : Nat), l3.length - i = d → i ≤ l3.length → d < k → acc ≤ 100000000 - 70000 * d → sacristanref09_Great.l2 k (acc : Int) (l3.length : Int) (i : Int) l0 l1 l2 l3 = some (decide (70000 < acc + g3 (l3.drop i))) := by
  intro d
  induction d with
  | zero =>
    intro k i acc hd hi hk ha
    obtain ⟨k, rfl⟩ : ∃ m, k = m + 1 := ⟨k - 1, by omega⟩
    simp only [sacristanref09_Great.l2]
    rw [if_neg (by omega), List.drop_of_length_le (by omega)]
    simp [g3]
    omega
  | succ d ih =>
    intro k i acc hd hi hk ha
    obtain ⟨k, rfl⟩ : ∃ m, k = m + 1 := ⟨k - 1, by omega⟩
    have hlt : i < l3.length := by omega
    have hw : wrap64 ((i : Int) + 1) = ((i + 1 : Nat) : Int) := by rw [w64s (by omega) (by omega)]; omega
    simp only [sacristanref09_Great.l2]
    rw [if_pos (by omega), if_pos (by omega), if_pos (by omega), rd41 hlt, mn_nat, hw, show wrap64 ((acc : Int) + ((min l3[i].f0.length 70000 : Nat) : Int)) = ((acc + min l3[i].f0.length 70000 : Nat) : Int) by rw [w64s (by omega) (by omega)]; omega,
      ih k (i + 1) _ (by omega) (by omega) (by omega) (by omega), List.drop_eq_getElem_cons hlt]
    simp only [g3, List.map_cons, List.sum_cons, Nat.add_assoc]
theorem great_l1 (hn : l2.length ≤ 300) (hn3 : l3.length ≤ 300) : ∀ (d k i acc : Nat), l2.length - i = d → i ≤ l2.length → d + 310 < k → acc ≤ 70000000 - 70000 * d → sacristanref09_Great.l1 k (acc : Int) (l2.length : Int) (i : Int) l0 l1 l2 l3 = some (decide (70000 < acc + g2 (l2.drop i) + g3 l3)) := by
  intro d
  induction d with
  | zero =>
    intro k i acc hd hi hk ha
    obtain ⟨k, rfl⟩ : ∃ m, k = m + 1 := ⟨k - 1, by omega⟩
    simp only [sacristanref09_Great.l1]
    have h := great_l2 l0 l1 l2 l3 hn3 l3.length k 0 acc (by omega) (by omega) (by omega) (by omega)
    rw [if_neg (by omega), List.drop_of_length_le (by omega)]
    rw [List.drop_zero] at h
    simpa [g2] using h
  | succ d ih =>
    intro k i acc hd hi hk ha
    obtain ⟨k, rfl⟩ : ∃ m, k = m + 1 := ⟨k - 1, by omega⟩
    have hlt : i < l2.length := by omega
    have hw : wrap64 ((i : Int) + 1) = ((i + 1 : Nat) : Int) := by rw [w64s (by omega) (by omega)]; omega
    simp only [sacristanref09_Great.l1]
    rw [if_pos (by omega), if_pos (by omega), if_pos (by omega), rd44 hlt, mn_nat, hw, show wrap64 ((acc : Int) + ((min l2[i].f3.length 70000 : Nat) : Int)) = ((acc + min l2[i].f3.length 70000 : Nat) : Int) by rw [w64s (by omega) (by omega)]; omega,
      ih k (i + 1) _ (by omega) (by omega) (by omega) (by omega), List.drop_eq_getElem_cons hlt]
    simp only [g2, List.map_cons, List.sum_cons, Nat.add_assoc]
theorem great_l0 (hn : l1.length ≤ 300) (hn2 : l2.length ≤ 300) (hn3 : l3.length ≤ 300) : ∀ (d k i acc : Nat), l1.length - i = d → i ≤ l1.length → d + 620 < k → acc ≤ 40000000 - 70000 * d → sacristanref09_Great.l0 k (acc : Int) (l1.length : Int) (i : Int) l0 l1 l2 l3 = some (decide (70000 < acc + g1 (l1.drop i) + g2 l2 + g3 l3)) := by
  intro d
  induction d with
  | zero =>
    intro k i acc hd hi hk ha
    obtain ⟨k, rfl⟩ : ∃ m, k = m + 1 := ⟨k - 1, by omega⟩
    simp only [sacristanref09_Great.l0]
    have h := great_l1 l0 l1 l2 l3 hn2 hn3 l2.length k 0 acc (by omega) (by omega) (by omega) (by omega)
    rw [if_neg (by omega), List.drop_of_length_le (by omega)]
    rw [List.drop_zero] at h
    simpa [g1] using h
  | succ d ih =>
    intro k i acc hd hi hk ha
    obtain ⟨k, rfl⟩ : ∃ m, k = m + 1 := ⟨k - 1, by omega⟩
    have hlt : i < l1.length := by omega
    have hw : wrap64 ((i : Int) + 1) = ((i + 1 : Nat) : Int) := by rw [w64s (by omega) (by omega)]; omega
    simp only [sacristanref09_Great.l0]
    rw [if_pos (by omega), if_pos (by omega), if_pos (by omega), rdS hlt, mn_nat, hw, show wrap64 ((acc : Int) + ((min l1[i].size 70000 : Nat) : Int)) = ((acc + min l1[i].size 70000 : Nat) : Int) by rw [w64s (by omega) (by omega)]; omega,
      ih k (i + 1) _ (by omega) (by omega) (by omega) (by omega), List.drop_eq_getElem_cons hlt]
    simp only [g1, List.map_cons, List.sum_cons, Nat.add_assoc]
theorem great_f (k : Nat) (hk : 1000 < k) : sacristanref09_Great.f k l0 l1 l2 l3 = some (greatS l0 l1 l2 l3) := by
  obtain ⟨k, rfl⟩ : ∃ m, k = m + 1 := ⟨k - 1, by omega⟩
  unfold sacristanref09_Great.f
  have ht : ∀ b, (b = true → greatS l0 l1 l2 l3 = true) → (b = false → greatS l0 l1 l2 l3 = decide (70000 < g1 l1 + g2 l2 + g3 l3) ∧ l0.length ≤ 300 ∧ l1.length ≤ 300 ∧ l2.length ≤ 300 ∧ l3.length ≤ 300) → sacristanref09_Great.j0 (k + 1) b l0 l1 l2 l3 = some (greatS l0 l1 l2 l3) := by
    intro b h1 h2
    simp only [sacristanref09_Great.j0]
    cases b with
    | true => rw [if_pos rfl, h1 rfl]
    | false =>
      obtain ⟨e, a0, a1, a2, a3⟩ := h2 rfl
      have h := great_l0 l0 l1 l2 l3 a1 a2 a3 l1.length k 0 0 (by omega) (by omega) (by omega) (by omega)
      rw [if_neg (by decide), e]
      rw [List.drop_zero] at h
      simpa using h
  by_cases h0 : (l0.length : Int) > 300
  · rw [if_pos h0]; exact ht _ (fun _ => decide_eq_true (by omega)) (fun e => by cases e)
  rw [if_neg h0]
  by_cases h1 : (l1.length : Int) > 300
  · rw [if_pos h1]; exact ht _ (fun _ => decide_eq_true (by omega)) (fun e => by cases e)
  rw [if_neg h1]
  by_cases h2 : (l2.length : Int) > 300
  · rw [if_pos h2]; exact ht _ (fun _ => decide_eq_true (by omega)) (fun e => by cases e)
  rw [if_neg h2]
  refine ht _ (fun e => decide_eq_true (by have := of_decide_eq_true e; omega)) (fun e => ?_)
  have h3 := of_decide_eq_false e
  refine ⟨?_, by omega, by omega, by omega, by omega⟩
  unfold greatS
  rw [Bool.eq_iff_iff, decide_eq_true_iff, decide_eq_true_iff]
  omega
end
/-! ### Effect -/
def placeB (a : Int) (n : Nat) : Bool := decide (0 ≤ a ∧ a < (n : Int))
def okS (t l : Int) (b : Bool) : Int × Int × Bool := if b = true then (t, l, true) else (0, 0, false)
def takesW (a : Int) : Int := takesRaw (rdOf ByteArray.empty wordsL a)
def bI (b : Bool) : Int := if b = true then 1 else 0
def effS (op a : Int) (n0 n1 : Nat) (l2 : List S44) (l3 : List S41) : Int × Int × Bool :=
  if op = 1 then okS 0 1 (placeB a n0)
  else if op = 2 then okS 0 1 (placeB a n1)
  else if op = 3 ∨ op = 4 ∨ op = 5 ∨ op = 6 ∨ op = 8 then (0, 1, true)
  else if op = 7 ∨ op = 12 ∨ op = 14 ∨ op = 15 then (1, 0, true)
  else if op = 9 then (if placeB a l2.length = true then okS (rd_T44 l2 a).f2 1 (decide (0 ≤ (rd_T44 l2 a).f2)) else (0, 0, false))
  else if op = 10 then okS (a + 1) 1 (placeB a 201)
  else if op = 11 then okS (a + 1) 0 (placeB a 201)
  else if op = 13 then (0, 0, true)
  else if op = 16 then okS (takesW a) 1 (placeB a 32)
  else if op = 17 then okS 1 1 (placeB a n1)
  else if op = 18 then okS (1 + ((rd_T41 l3 a).f0.length : Int) + bI (rd_T41 l3 a).f1 + bI (rd_T41 l3 a).f2) 1 (placeB a l3.length)
  else if op = 19 ∨ op = 20 then (2, 1, true)
  else if op = 21 then (3, 1, true)
  else if op = 22 then (2, 0, true)
  else (0, 0, false)
theorem in_f (a : Int) (n : Int) : code_in.f a n = some (decide (0 ≤ a ∧ a < n)) := by
  unfold code_in.f
  by_cases h : a ≥ 0
  · rw [if_pos h]; congr 1; rw [Bool.eq_iff_iff, decide_eq_true_iff, decide_eq_true_iff]; omega
  · rw [if_neg h, decide_eq_false (by omega)]
theorem place_f (a : Int) (n : Int) : sacristanref09_place.f a n = some (decide (0 ≤ a ∧ a < n)) := by
  unfold sacristanref09_place.f
  by_cases h : a ≥ 0
  · rw [if_pos h]; congr 1; rw [Bool.eq_iff_iff, decide_eq_true_iff, decide_eq_true_iff]; omega
  · rw [if_neg h, decide_eq_false (by omega)]
theorem effect_f (t l : Int) (b : Bool) : code_effect.f t l b = some (okS t l b) := by
  unfold code_effect.f okS
  cases b <;> rfl
theorem handle_f (k : Nat) (l : List Int) (hl : l.length ≤ 140737488355328) (b c : Bool) : code_handle.f (k + 3) l b c = some (1 + (l.length : Int) + bI b + bI c) := by
  have e1 : wrap64 (1 + (l.length : Int)) = 1 + (l.length : Int) := w64s (by omega) (by omega)
  have e2 : wrap64 (1 + (l.length : Int) + 1) = 1 + (l.length : Int) + 1 := w64s (by omega) (by omega)
  have e3 : wrap64 (1 + (l.length : Int) + 1 + 1) = 1 + (l.length : Int) + 1 + 1 := w64s (by omega) (by omega)
  have w1 : wrap64 (1 : Int) = 1 := w64s (by omega) (by omega)
  have w2 : wrap64 ((1 : Int) + 1) = 2 := w64s (by omega) (by omega)
  have w3 : wrap64 (2 : Int) = 2 := w64s (by omega) (by omega)
  cases b <;> cases c <;> simp [code_handle.f, code_handle.l0, rdOf, bI, e1, e2, e3, w1, w2, w3]
theorem takes_ok : ∀ i : Fin 32, sacristanref05_Takes.f 60 (rdOf ByteArray.empty wordsL ((i.val : Nat) : Int)) = some (takesW ((i.val : Nat) : Int)) ∧ 0 ≤ takesW ((i.val : Nat) : Int) ∧ (rdOf ByteArray.empty wordsL ((i.val : Nat) : Int)).size ≤ 100 := by decide +kernel
theorem takes_at (a : Int) (h : 0 ≤ a ∧ a < 32) (k : Nat) (hk : 60 ≤ k) : sacristanref05_Takes.f k (rdOf ByteArray.empty wordsL a) = some (takesW a) ∧ 0 ≤ takesW a ∧ tree_Takes.f (rdOf ByteArray.empty wordsL a) = some (takesW a) := by
  have := takes_ok ⟨a.toNat, by omega⟩
  simp only [show ((a.toNat : Nat) : Int) = a by omega] at this
  refine ⟨le_at (fun k => sacristanref05_Takes.mono _ k) this.1 k hk, this.2.1, ?_⟩
  unfold tree_Takes.f
  rw [if_pos (by have := this.2.2; omega)]
  rfl
theorem refWords_f : sacristanref09_Words.f = some wordsL := by decide +kernel
theorem awake_f : ∀ k, 10 ≤ k → sacristanlaw09_awake.f k = some true := le_at (fun k => sacristanlaw09_awake.mono k) (by decide +kernel)

section
variable (l0 : List Int) (l1 : List ByteArray) (l2 : List S44) (l3 : List S41) (op a : Int)
/-- lists as long as the statements let them be -/
structure Fit (l3 : List S41) : Prop where
  ops : ∀ t ∈ l3, t.f0.length ≤ 140737488355328
theorem codeEff (k : Nat) (h3 : Fit l3) (ha : -9223372036854775808 ≤ a ∧ a ≤ 9223372036854775807) : code_Effect.f (k + 20) l0 l1 l2 l3 op a = some (effS op a l0.length l1.length l2 l3) := by
  have hj2 : ∀ (m : Nat) (op : Int), op ≠ 19 → op ≠ 20 → code_Effect.j2 (m + 1) op false = some (if op = 22 then (2, 0, true) else if op = 21 then (3, 1, true) else (0, 0, false)) := by
    intro m op h1 h2
    simp only [code_Effect.j2, Bool.false_eq_true, if_false]
    by_cases h : op = 22
    · rw [if_pos h, if_pos h]
    · rw [if_neg h, if_neg h]
      by_cases h' : op = 21
      · rw [if_pos h', if_pos h']
      · rw [if_neg h', if_neg h']
  unfold code_Effect.f effS
  simp only [in_f, effect_f, Option.bind_some]
  by_cases o1 : op = 1
  · rw [if_pos o1, if_pos o1]; try rfl
  rw [if_neg o1, if_neg o1]
  by_cases o2 : op = 2
  · rw [if_pos o2, if_pos o2]; try rfl
  rw [if_neg o2, if_neg o2]
  have j0t : code_Effect.j0 (k + 20) op true l0 l1 l2 l3 op a = some (0, 1, true) := by simp only [code_Effect.j0, if_true]
  by_cases o3 : op = 3 ∨ op = 4 ∨ op = 5 ∨ op = 6 ∨ op = 8
  · rw [if_pos o3]
    rcases o3 with rfl | rfl | rfl | rfl | rfl <;> exact j0t
  rw [if_neg o3, if_neg (by omega), if_neg (by omega), if_neg (by omega), if_neg (by omega), show (op == 8) = false from beq_eq_false_iff_ne.2 (by omega)]
  have j1t : code_Effect.j1 (k + 19) op true l0 l1 l2 l3 op a = some (1, 0, true) := by simp only [code_Effect.j1, if_true]
  simp only [code_Effect.j0, Bool.false_eq_true, if_false]
  by_cases o7 : op = 7
  · rw [if_pos o7, if_pos (.inl o7), show (op == 7) = true from beq_iff_eq.2 o7]; exact j1t
  rw [if_neg o7]
  by_cases o14 : op = 14
  · rw [if_pos o14, if_pos (by omega), show (op == 14) = true from beq_iff_eq.2 o14]; exact j1t
  rw [if_neg o14]
  by_cases o15 : op = 15
  · rw [if_pos (by omega), show (op == 15) = true from beq_iff_eq.2 o15]; exact j1t
  rw [show (op == 15) = false from beq_eq_false_iff_ne.2 o15]
  simp only [code_Effect.j1, Bool.false_eq_true, if_false, in_f, effect_f, Option.bind_some]
  by_cases o12 : op = 12
  · rw [if_pos (show op = 7 ∨ op = 12 ∨ op = 14 ∨ op = 15 by omega), if_neg (show ¬ op = 9 by omega), if_neg (show ¬ op = 10 by omega), if_neg (show ¬ op = 11 by omega), if_pos o12]
  rw [if_neg (show ¬ (op = 7 ∨ op = 12 ∨ op = 14 ∨ op = 15) by omega)]
  by_cases o9 : op = 9
  · rw [if_pos o9, if_pos o9]
    by_cases hp : 0 ≤ a ∧ a < (l2.length : Int)
    · rw [if_pos (by simpa using hp), if_pos hp.1, if_pos hp.2, if_pos (show placeB a l2.length = true from decide_eq_true hp)]; try rfl
    · rw [if_neg (by simpa using hp), if_neg (show ¬ placeB a l2.length = true by unfold placeB; simpa using hp)]
  rw [if_neg o9, if_neg o9]
  have hw : ∀ b : Bool, okS (wrap64 (a + 1)) 1 (placeB a 201) = okS (a + 1) 1 (placeB a 201) ∧ okS (wrap64 (a + 1)) 0 (placeB a 201) = okS (a + 1) 0 (placeB a 201) := by
    intro b
    by_cases hp : 0 ≤ a ∧ a < ((201 : Nat) : Int)
    · rw [w64s (by omega) (by omega)]; exact ⟨rfl, rfl⟩
    · have : placeB a 201 = false := decide_eq_false hp
      rw [this]; exact ⟨rfl, rfl⟩
  by_cases o10 : op = 10
  · rw [if_pos o10, if_pos o10]; exact congrArg some (hw true).1
  rw [if_neg o10, if_neg o10]
  by_cases o11 : op = 11
  · rw [if_pos o11, if_pos o11]; exact congrArg some (hw true).2
  rw [if_neg o11, if_neg o11, if_neg o12]
  by_cases o13 : op = 13
  · rw [if_pos o13, if_pos o13]
  rw [if_neg o13, if_neg o13]
  by_cases o16 : op = 16
  · rw [if_pos o16, if_pos o16, show code_Words.f = some wordsL from rfl]
    simp only [Option.bind_some, show wordsL.length = 32 from by decide]
    by_cases hp : 0 ≤ a ∧ a < ((32 : Nat) : Int)
    · have ht := takes_at a ⟨hp.1, by omega⟩ 60 (Nat.le_refl _)
      rw [if_pos (by simpa using hp), if_pos hp.1, if_pos (by simpa using hp.2), ht.2.2, Option.bind_some, show placeB a 32 = true from decide_eq_true hp]; try rfl
    · rw [if_neg (by simpa using hp), show placeB a 32 = false from decide_eq_false hp]; try rfl
  rw [if_neg o16, if_neg o16]
  by_cases o17 : op = 17
  · rw [if_pos o17, if_pos o17]; try rfl
  rw [if_neg o17, if_neg o17]
  by_cases o18 : op = 18
  · rw [if_pos o18, if_pos o18]
    by_cases hp : 0 ≤ a ∧ a < (l3.length : Int)
    · have hi : a.toNat < l3.length := by omega
      have hl := h3.ops _ (List.getElem_mem hi)
      have hr : rd_T41 l3 a = l3[a.toNat] := by rw [← rd41 hi]; congr 1; omega
      rw [if_pos (by simpa using hp), if_pos hp.1, if_pos hp.2, hr, handle_f _ _ hl, Option.bind_some, show placeB a l3.length = true from decide_eq_true hp]; try rfl
    · rw [if_neg (by simpa using hp), show placeB a l3.length = false from decide_eq_false hp]; try rfl
  rw [if_neg o18, if_neg o18]
  by_cases o19 : op = 19
  · rw [if_pos o19, if_pos (.inl o19), show (op == 19) = true from beq_iff_eq.2 o19]; simp only [code_Effect.j2, if_true]
  rw [if_neg o19]
  by_cases o20 : op = 20
  · rw [if_pos (.inr o20), show (op == 20) = true from beq_iff_eq.2 o20]; simp only [code_Effect.j2, if_true]
  rw [if_neg (show ¬ (op = 19 ∨ op = 20) by omega), show (op == 20) = false from beq_eq_false_iff_ne.2 o20, hj2 _ op o19 o20]
  by_cases o21 : op = 21
  · rw [if_pos o21, if_neg (by omega), if_pos o21]
  rw [if_neg o21, if_neg o21]
theorem refEff (k : Nat) (h3 : Fit l3) (ha : -9223372036854775808 ≤ a ∧ a ≤ 9223372036854775807) : sacristanref09_Effect.f (k + 100) l0 l1 l2 l3 op a = some (effS op a l0.length l1.length l2 l3) := by
  have j7 : ∀ (m : Nat) (x y : Int), sacristanref09_Effect.j7 (m + 1) x y = some (okS x y (decide (0 ≤ x))) := by
    intro m x y
    simp only [sacristanref09_Effect.j7, okS]
    by_cases h : x < 0
    · rw [if_pos h, if_neg (by simp; omega)]
    · rw [if_neg h, if_pos (by simp; omega)]
  have j7n : ∀ (m : Nat) (y : Int), sacristanref09_Effect.j7 (m + 1) (-1) y = some (0, 0, false) := fun m y => by rw [j7]; rfl
  have hS : ∀ (x y : Int) (b : Bool), 0 ≤ x → (if b = true then some (okS x y (decide (0 ≤ x))) else some (0, 0, false)) = some (okS x y b) := by
    intro x y b hx
    rw [show decide (0 ≤ x) = true from decide_eq_true hx]
    cases b <;> rfl
  unfold sacristanref09_Effect.f effS
  simp only [place_f, Option.bind_some, j7, j7n]
  by_cases o1 : op = 1
  · rw [if_pos o1, if_pos o1]; exact hS 0 1 (placeB a l0.length) (by decide)
  rw [if_neg o1, if_neg o1]
  by_cases o2 : op = 2
  · rw [if_pos o2, if_pos o2]; exact hS 0 1 (placeB a l1.length) (by decide)
  rw [if_neg o2, if_neg o2]
  have j0t : sacristanref09_Effect.j0 (k + 100) (-1) 1 op true l0 l1 l2 l3 op a = some (0, 1, true) := by simp only [sacristanref09_Effect.j0, if_true, j7]; rfl
  by_cases o3 : op = 3 ∨ op = 4 ∨ op = 5 ∨ op = 6 ∨ op = 8
  · rw [if_pos o3]
    rcases o3 with rfl | rfl | rfl | rfl | rfl <;> exact j0t
  rw [if_neg o3, if_neg (by omega), if_neg (by omega), if_neg (by omega), if_neg (by omega), show (op == 8) = false from beq_eq_false_iff_ne.2 (by omega)]
  have j1t : sacristanref09_Effect.j1 (k + 99) (-1) 1 op true l0 l1 l2 l3 op a = some (1, 0, true) := by simp only [sacristanref09_Effect.j1, if_true, j7]; rfl
  simp only [sacristanref09_Effect.j0, Bool.false_eq_true, if_false]
  by_cases o7 : op = 7
  · rw [if_pos o7, if_pos (.inl o7), show (op == 7) = true from beq_iff_eq.2 o7]; exact j1t
  rw [if_neg o7]
  by_cases o12 : op = 12
  · rw [if_pos o12, if_pos (show op = 7 ∨ op = 12 ∨ op = 14 ∨ op = 15 by omega), show (op == 12) = true from beq_iff_eq.2 o12]; exact j1t
  rw [if_neg o12]
  by_cases o14 : op = 14
  · rw [if_pos o14, if_pos (show op = 7 ∨ op = 12 ∨ op = 14 ∨ op = 15 by omega), show (op == 14) = true from beq_iff_eq.2 o14]; exact j1t
  rw [if_neg o14]
  by_cases o15 : op = 15
  · rw [if_pos (show op = 7 ∨ op = 12 ∨ op = 14 ∨ op = 15 by omega), show (op == 15) = true from beq_iff_eq.2 o15]; exact j1t
  rw [show (op == 15) = false from beq_eq_false_iff_ne.2 o15, if_neg (show ¬ (op = 7 ∨ op = 12 ∨ op = 14 ∨ op = 15) by omega)]
  simp only [sacristanref09_Effect.j1, Bool.false_eq_true, if_false, place_f, Option.bind_some, j7, j7n]
  by_cases o9 : op = 9
  · rw [if_pos o9, if_pos o9]
    by_cases hp : 0 ≤ a ∧ a < (l2.length : Int)
    · rw [if_pos (by simpa using hp), if_pos hp.1, if_pos hp.2, if_pos (show placeB a l2.length = true from decide_eq_true hp)]
    · rw [if_neg (by simpa using hp), if_neg (show ¬ placeB a l2.length = true by unfold placeB; simpa using hp)]; rfl
  rw [if_neg o9, if_neg o9]
  have h34 : ∀ (m : Nat) (y : Int) (b : Bool), (b = true → 0 ≤ a ∧ a ≤ 200) → sacristanref09_Effect.j3 (m + 5) (-1) 1 b op a = some (okS (a + 1) (if op = 11 then 0 else 1) b) := by
    intro m y b hb
    simp only [sacristanref09_Effect.j3, sacristanref09_Effect.j4, j7, j7n]
    cases b with
    | true =>
      have := hb rfl
      rw [if_pos rfl, w64s (by omega) (by omega), show decide (0 ≤ a + 1) = true from decide_eq_true (by omega)]
      split <;> rfl
    | false => rw [if_neg (by decide)]; split <;> rfl
  have h10 : (if a ≥ 0 then sacristanref09_Effect.j3 (k + 97) (-1) 1 (decide (a ≤ 200)) op a else sacristanref09_Effect.j3 (k + 97) (-1) 1 false op a) = some (okS (a + 1) (if op = 11 then 0 else 1) (placeB a 201)) := by
    by_cases h : a ≥ 0
    · rw [if_pos h, h34 (k + 92) 0 _ (fun e => ⟨h, of_decide_eq_true e⟩)]
      congr 2
      unfold placeB
      rw [Bool.eq_iff_iff, decide_eq_true_iff, decide_eq_true_iff]
      omega
    · rw [if_neg h, h34 (k + 92) 0 _ (fun e => by cases e), show placeB a 201 = false from decide_eq_false (by omega)]
  by_cases o10 : op = 10
  · rw [if_pos o10, if_pos o10, show (op == 10) = true from beq_iff_eq.2 o10]
    simp only [sacristanref09_Effect.j2, if_true]
    rw [h10, if_neg (by omega)]
  rw [if_neg o10, if_neg o10]
  by_cases o11 : op = 11
  · rw [if_pos o11, show (op == 11) = true from beq_iff_eq.2 o11]
    simp only [sacristanref09_Effect.j2, if_true]
    rw [h10, if_pos o11]
  rw [if_neg o11, show (op == 11) = false from beq_eq_false_iff_ne.2 o11]
  simp only [sacristanref09_Effect.j2, Bool.false_eq_true, if_false, place_f, Option.bind_some, j7, j7n]
  by_cases o13 : op = 13
  · rw [if_pos o13, if_pos o13]; rfl
  rw [if_neg o13, if_neg o13]
  by_cases o16 : op = 16
  · rw [if_pos o16, if_pos o16, refWords_f]
    simp only [Option.bind_some, show wordsL.length = 32 from by decide]
    by_cases hp : 0 ≤ a ∧ a < ((32 : Nat) : Int)
    · have ht := takes_at a ⟨hp.1, by omega⟩ (k + 97) (by omega)
      have e1 : placeB a 32 = true := decide_eq_true hp
      have e2 : decide (0 ≤ takesW a) = true := decide_eq_true ht.2.1
      rw [if_pos (by simpa using hp), if_pos hp.1, if_pos (by simpa using hp.2), ht.1, Option.bind_some]
      exact congrArg (fun b => some (okS (takesW a) 1 b)) (e2.trans e1.symm)
    · rw [if_neg (by simpa using hp), show placeB a 32 = false from decide_eq_false hp]; rfl
  rw [if_neg o16, if_neg o16]
  by_cases o17 : op = 17
  · rw [if_pos o17, if_pos o17]; exact hS 1 1 (placeB a l1.length) (by decide)
  rw [if_neg o17, if_neg o17]
  by_cases o18 : op = 18
  · rw [if_pos o18, if_pos o18]
    by_cases hp : 0 ≤ a ∧ a < (l3.length : Int)
    · have hi : a.toNat < l3.length := by omega
      have hl := h3.ops _ (List.getElem_mem hi)
      have hr : rd_T41 l3 a = l3[a.toNat] := by rw [← rd41 hi]; congr 1; omega
      have e1 : wrap64 (1 + (l3[a.toNat].f0.length : Int)) = 1 + (l3[a.toNat].f0.length : Int) := w64s (by omega) (by omega)
      have e2 : wrap64 (1 + (l3[a.toNat].f0.length : Int) + 1) = 1 + (l3[a.toNat].f0.length : Int) + 1 := w64s (by omega) (by omega)
      have e3 : wrap64 (1 + (l3[a.toNat].f0.length : Int) + 1 + 1) = 1 + (l3[a.toNat].f0.length : Int) + 1 + 1 := w64s (by omega) (by omega)
      rw [if_pos (by simpa using hp), if_pos hp.1, if_pos hp.2, hr, show placeB a l3.length = true from decide_eq_true hp]
      simp only [sacristanref09_Effect.j5, e1, e2, e3, hr, if_pos hp.1, if_pos hp.2, j7]
      cases hb : l3[a.toNat].f1 <;> cases hc : l3[a.toNat].f2 <;> simp [okS, bI, e2, e3] <;> omega
    · rw [if_neg (by simpa using hp), show placeB a l3.length = false from decide_eq_false hp]; rfl
  rw [if_neg o18, if_neg o18]
  by_cases o19 : op = 19
  · rw [if_pos o19, if_pos (.inl o19), show (op == 19) = true from beq_iff_eq.2 o19]; simp only [sacristanref09_Effect.j6, if_true, j7]; rfl
  rw [if_neg o19]
  by_cases o20 : op = 20
  · rw [if_pos (.inr o20), show (op == 20) = true from beq_iff_eq.2 o20]; simp only [sacristanref09_Effect.j6, if_true, j7]; rfl
  rw [if_neg (show ¬ (op = 19 ∨ op = 20) by omega), show (op == 20) = false from beq_eq_false_iff_ne.2 o20]
  simp only [sacristanref09_Effect.j6, Bool.false_eq_true, if_false, j7, j7n]
  by_cases o21 : op = 21
  · rw [if_pos o21, if_pos o21]; rfl
  rw [if_neg o21, if_neg o21]
  by_cases o22 : op = 22
  · rw [if_pos o22, if_pos o22]; rfl
  rw [if_neg o22, if_neg o22]; rfl
theorem ends_f : ∃ b, code_Ends.f op = some b ∧ sacristanref09_Ends.f op = some b := by
  unfold code_Ends.f sacristanref09_Ends.f
  by_cases h1 : op = 11
  · rw [if_pos h1]; exact ⟨true, rfl, rfl⟩
  rw [if_neg h1]
  by_cases h2 : op = 12
  · rw [if_pos h2]; exact ⟨true, rfl, rfl⟩
  rw [if_neg h2]
  by_cases h3 : op = 13
  · rw [if_pos h3]; exact ⟨true, rfl, rfl⟩
  rw [if_neg h3]
  exact ⟨_, rfl, rfl⟩
end
end Go.Proofs.YtfncoldcjhkhiaaDoor.Pure
