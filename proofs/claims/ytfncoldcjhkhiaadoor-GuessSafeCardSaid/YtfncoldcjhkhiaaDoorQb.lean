/- Whether an instruction and a table may be, plainly. -/
import Derived.Test.YtfncoldcjhkhiaaDoorQa
import Derived.Test.YtfncoldcjhkhiaaDoorTh
import Derived.Test.YtfncoldcjhkhiaaDoorPCx11
import Derived.Test.YtfncoldcjhkhiaaDoorPCx12
import Derived.Test.YtfncoldcjhkhiaaDoorPCx13
namespace Go.Proofs.YtfncoldcjhkhiaaDoor.Pure
open Go.RowKit Go.Proofs.YtfncoldcjhkhiaaDoor.PC Go.Proofs.YtfncoldcjhkhiaaDoor.NW Go.Proofs.YtfncoldcjhkhiaaDoorW.PrintWords Go.Proofs.YtfncoldcjhkhiaaDoorW.PrintLast Go.Proofs.YtfncoldcjhkhiaaDoorW.PrintMore
set_option linter.unusedVariables false
set_option linter.unusedSimpArgs false
/-- from some number of rounds on, the answer is this -/
def Ev {α : Type} (f : Nat → Option α) (r : α) : Prop := ∃ N, ∀ k, N ≤ k → f k = some r
theorem Ev.succ {α : Type} {f g : Nat → Option α} {r : α} (h : Ev g r) (hs : ∀ k, g k = some r → f (k + 1) = some r) : Ev f r := by
  obtain ⟨N, h⟩ := h
  refine ⟨N + 1, fun k hk => ?_⟩
  obtain ⟨k', rfl⟩ : ∃ k', k = k' + 1 := ⟨k - 1, by omega⟩
  exact hs k' (h k' (by omega))
theorem Ev.now {α : Type} {f : Nat → Option α} {r : α} (hs : ∀ k, f (k + 1) = some r) : Ev f r := ⟨1, fun k hk => by
  obtain ⟨k', rfl⟩ : ∃ k', k = k' + 1 := ⟨k - 1, by omega⟩
  exact hs k'⟩
theorem Ev.map {α β : Type} {f : Nat → Option α} {g : Nat → Option β} {r : α} {s : β} (h : Ev f r) (hs : ∀ k, f k = some r → g k = some s) : Ev g s := by
  obtain ⟨N, h⟩ := h
  exact ⟨N, fun k hk => hs k (h k hk)⟩
theorem Ev.both {α β : Type} {f : Nat → Option α} {g : Nat → Option β} {r : α} {s : β} (h : Ev f r) (h' : Ev g s) : ∃ N, ∀ k, N ≤ k → f k = some r ∧ g k = some s := by
  obtain ⟨N, h⟩ := h
  obtain ⟨M, h'⟩ := h'
  exact ⟨max N M, fun k hk => ⟨h k (by omega), h' k (by omega)⟩⟩
/-! ### instr -/
def restS (f1 f2 : Int) (n : Nat) (op a : Int) : Bool :=
  if op = 6 ∨ op = 7 then decide (0 ≤ a ∧ a < f1)
  else if op = 8 then decide (0 ≤ a ∧ a < f2)
  else if op = 13 ∨ op = 14 then decide (0 ≤ a ∧ a < (n : Int))
  else if op = 3 ∨ op = 4 ∨ op = 5 ∨ op = 12 ∨ op = 15 ∨ op = 19 ∨ op = 20 ∨ op = 21 ∨ op = 22 then a == 0
  else true
def insS (n0 n1 : Nat) (l2 : List S44) (l3 : List S41) (p : S44) (x : S32) : Bool := (effS x.f0 x.f1 n0 n1 l2 l3).2.2 && restS p.f1 p.f2 p.f3.length x.f0 x.f1
theorem eff_range {op a : Int} {n0 n1 : Nat} {l2 : List S44} {l3 : List S41} (h : (effS op a n0 n1 l2 l3).2.2 = true) : 1 ≤ op ∧ op ≤ 22 := by
  false_or_by_contra
  unfold effS at h
  rw [if_neg (by omega), if_neg (by omega), if_neg (by omega), if_neg (by omega), if_neg (by omega), if_neg (by omega), if_neg (by omega), if_neg (by omega), if_neg (by omega), if_neg (by omega), if_neg (by omega), if_neg (by omega), if_neg (by omega), if_neg (by omega)] at h
  cases h
section
variable (l0 : List Int) (l1 : List ByteArray) (l2 : List S44) (l3 : List S41)
theorem cases22 {op : Int} (h : 1 ≤ op ∧ op ≤ 22) : op = 1 ∨ op = 2 ∨ op = 3 ∨ op = 4 ∨ op = 5 ∨ op = 6 ∨ op = 7 ∨ op = 8 ∨ op = 9 ∨ op = 10 ∨ op = 11 ∨ op = 12 ∨ op = 13 ∨ op = 14 ∨ op = 15 ∨ op = 16 ∨ op = 17 ∨ op = 18 ∨ op = 19 ∨ op = 20 ∨ op = 21 ∨ op = 22 := by omega
theorem instr_code (p : S44) (x : S32) (k : Nat) (hf : Fit l3) (ha : -9223372036854775808 ≤ x.f1 ∧ x.f1 ≤ 9223372036854775807) : code_instr.f (k + 20) l0 l1 l2 l3 p.f0 p.f1 p.f2 p.f3 x.f0 x.f1 = some (insS l0.length l1.length l2 l3 p x) := by
  unfold code_instr.f insS
  rw [codeEff l0 l1 l2 l3 x.f0 x.f1 k hf ha, Option.bind_some]
  cases hok : (effS x.f0 x.f1 l0.length l1.length l2 l3).2.2 with
  | false => rfl
  | true =>
    have hr := cases22 (eff_range hok)
    generalize x.f0 = op at hr
    generalize x.f1 = a at *
    clear hok
    rcases hr with rfl | rfl | rfl | rfl | rfl | rfl | rfl | rfl | rfl | rfl | rfl | rfl | rfl | rfl | rfl | rfl | rfl | rfl | rfl | rfl | rfl | rfl <;>
      simp [code_instr.j0, code_instr.j1, code_instr.j2, in_f, restS]
theorem instr_ref (p : S44) (x : S32) (k : Nat) (hf : Fit l3) (ha : -9223372036854775808 ≤ x.f1 ∧ x.f1 ≤ 9223372036854775807) : sacristanref09_instr.f (k + 100) l0 l1 l2 l3 p.f0 p.f1 p.f2 p.f3 x.f0 x.f1 = some (insS l0.length l1.length l2 l3 p x) := by
  unfold sacristanref09_instr.f insS
  rw [refEff l0 l1 l2 l3 x.f0 x.f1 k hf ha, Option.bind_some]
  cases hok : (effS x.f0 x.f1 l0.length l1.length l2 l3).2.2 with
  | false => rfl
  | true =>
    have hr := cases22 (eff_range hok)
    generalize x.f0 = op at hr
    generalize x.f1 = a at *
    clear hok
    rcases hr with rfl | rfl | rfl | rfl | rfl | rfl | rfl | rfl | rfl | rfl | rfl | rfl | rfl | rfl | rfl | rfl | rfl | rfl | rfl | rfl | rfl | rfl <;>
      simp [sacristanref09_instr.j0, sacristanref09_instr.j1, sacristanref09_instr.j2, place_f, restS]
/-! ### table -/
def txt (ops : List Int) (j : Nat) : ByteArray := rdOf ByteArray.empty l1 (ops.getD j 0)
theorem rdI {ops : List Int} (j : Nat) : rd ops (j : Int) = ops.getD j 0 := by
  rw [rd, show ((j : Int).toNat) = j by omega]
/-- from place i on, the reference finds nothing wrong -/
def fine (ops : List Int) (i : Nat) : Prop := ∀ i', i ≤ i' → i' < ops.length → inT l1 (ops.getD i' 0) = true ∧ ∀ j, j < i' → txt l1 ops j ≠ txt l1 ops i'
theorem table_in (ops : List Int) (b c : Bool) (n i : Int) (r : Bool) (i' : Nat) (hi : i = i') (hil : i' < ops.length) (hin : ∀ j, j ≤ i' → inT l1 (ops.getD j 0) = true) (hlen : ops.length ≤ 200) :
    ∀ (d j : Nat), i' - j = d → j ≤ i' → (∀ j', j ≤ j' → j' < i' → txt l1 ops j' ≠ txt l1 ops i') → Ev (fun k => sacristanref09_table.l0 k n (i + 1) l0 l1 l2 l3 ops b c) r →
      Ev (fun k => sacristanref09_table.l1 k i (j : Int) n i l0 l1 l2 l3 ops b c) r
  | 0, j, hd, hj, hne, hl => by
    refine hl.succ fun k hk => ?_
    unfold sacristanref09_table.l1
    rw [if_neg (by omega), w64s (by omega) (by omega)]
    exact hk
  | d + 1, j, hd, hj, hne, hl => by
    refine (table_in ops b c n i r i' hi hil hin hlen d (j + 1) (by omega) (by omega) (fun j' h1 h2 => hne j' (by omega) h2) hl).succ fun k hk => ?_
    have hi' := of_decide_eq_true (hin i' (by omega))
    have hj' := of_decide_eq_true (hin j (by omega))
    have hn := hne j (by omega) (by omega)
    unfold sacristanref09_table.l1
    subst hi
    rw [if_pos (by omega), if_pos (by omega), if_pos (by omega), rdI, rdI, if_pos hi'.1, if_pos hi'.2, if_pos (by omega), if_pos (by omega), if_pos hj'.1, if_pos hj'.2, if_neg, w64s (by omega) (by omega)]
    · exact hk
    · rw [ByteArray.toList_eq, ByteArray.toList_eq]
      intro h
      exact hn (ByteArray.ext (Array.toList_inj.1 h)).symm
theorem table_dup (ops : List Int) (b c : Bool) (n i : Int) (i' : Nat) (hi : i = i') (hil : i' < ops.length) (hin : ∀ j, j ≤ i' → inT l1 (ops.getD j 0) = true) (hlen : ops.length ≤ 200) :
    ∀ (d j : Nat), i' - j = d → j ≤ i' → (∃ j', j ≤ j' ∧ j' < i' ∧ txt l1 ops j' = txt l1 ops i') → Ev (fun k => sacristanref09_table.l1 k i (j : Int) n i l0 l1 l2 l3 ops b c) false
  | 0, j, hd, hj, he => by obtain ⟨j', h1, h2, _⟩ := he; omega
  | d + 1, j, hd, hj, he => by
    have hi' := of_decide_eq_true (hin i' (by omega))
    have hj' := of_decide_eq_true (hin j (by omega))
    by_cases hn : txt l1 ops j = txt l1 ops i'
    · refine Ev.now fun k => ?_
      unfold sacristanref09_table.l1
      subst hi
      rw [if_pos (by omega), if_pos (by omega), if_pos (by omega), rdI, rdI, if_pos hi'.1, if_pos hi'.2, if_pos (by omega), if_pos (by omega), if_pos hj'.1, if_pos hj'.2, if_pos]
      rw [show rdOf ByteArray.empty l1 (ops.getD i' 0) = txt l1 ops i' from rfl, ← hn]
      rfl
    · refine (table_dup ops b c n i i' hi hil hin hlen d (j + 1) (by omega) (by omega) ?_).succ fun k hk => ?_
      · obtain ⟨j', h1, h2, h3⟩ := he
        exact ⟨j', by (have : j' ≠ j := by rintro rfl; exact hn h3); omega, h2, h3⟩
      · unfold sacristanref09_table.l1
        subst hi
        rw [if_pos (by omega), if_pos (by omega), if_pos (by omega), rdI, rdI, if_pos hi'.1, if_pos hi'.2, if_pos (by omega), if_pos (by omega), if_pos hj'.1, if_pos hj'.2, if_neg, w64s (by omega) (by omega)]
        · exact hk
        · rw [ByteArray.toList_eq, ByteArray.toList_eq]
          intro h
          exact hn (ByteArray.ext (Array.toList_inj.1 h)).symm
open Classical in
theorem table_out (ops : List Int) (b c : Bool) (hlen : ops.length ≤ 200) : ∀ (d i : Nat), ops.length - i = d → i ≤ ops.length → (∀ j, j < i → inT l1 (ops.getD j 0) = true) →
    Ev (fun k => sacristanref09_table.l0 k (ops.length : Int) (i : Int) l0 l1 l2 l3 ops b c) (decide (fine l1 ops i))
  | 0, i, hd, hi, hin => by
    refine Ev.now fun k => ?_
    unfold sacristanref09_table.l0
    rw [if_neg (by omega), decide_eq_true]
    intro i' h1 h2
    omega
  | d + 1, i, hd, hi, hin => by
    by_cases hx : inT l1 (ops.getD i 0) = true
    · have hin' : ∀ j, j ≤ i → inT l1 (ops.getD j 0) = true := fun j hj => if e : j = i then e ▸ hx else hin j (by omega)
      have hi' := decide_eq_true (of_decide_eq_true hx)
      by_cases he : ∃ j', 0 ≤ j' ∧ j' < i ∧ txt l1 ops j' = txt l1 ops i
      · rw [decide_eq_false (fun h => by obtain ⟨j', h1, h2, h3⟩ := he; exact (h i (by omega) (by omega)).2 j' h2 h3)]
        refine (table_dup l0 l1 l2 l3 ops b c (ops.length : Int) (i : Int) i rfl (by omega) hin' hlen i 0 (by omega) (by omega) he).succ fun k hk => ?_
        unfold sacristanref09_table.l0
        rw [if_pos (by omega), if_pos (by omega), if_pos (by omega), rdI, place_f, Option.bind_some, if_pos hi']
        exact hk
      · have ih := table_out ops b c hlen d (i + 1) (by omega) (by omega) (fun j hj => hin' j (by omega))
        have e : decide (fine l1 ops (i + 1)) = decide (fine l1 ops i) := by
          congr 1
          refine propext ⟨fun h i' h1 h2 => ?_, fun h i' h1 h2 => h i' (by omega) h2⟩
          by_cases ee : i' = i
          · subst ee; exact ⟨hx, fun j hj h3 => he ⟨j, by omega, hj, h3⟩⟩
          · exact h i' (by omega) h2
        rw [e] at ih
        refine (table_in l0 l1 l2 l3 ops b c (ops.length : Int) (i : Int) _ i rfl (by omega) hin' hlen i 0 (by omega) (by omega) (fun j' h1 h2 h3 => he ⟨j', by omega, h2, h3⟩) ih).succ fun k hk => ?_
        unfold sacristanref09_table.l0
        rw [if_pos (by omega), if_pos (by omega), if_pos (by omega), rdI, place_f, Option.bind_some, if_pos hi']
        exact hk
    · rw [decide_eq_false (fun h => hx (h i (by omega) (by omega)).1)]
      refine Ev.now fun k => ?_
      have hi' := decide_eq_false (fun h => hx (decide_eq_true h))
      unfold sacristanref09_table.l0
      rw [if_pos (by omega), if_pos (by omega), if_pos (by omega), rdI, place_f, Option.bind_some, if_neg (by rw [hi']; decide)]
end
end Go.Proofs.YtfncoldcjhkhiaaDoor.Pure
