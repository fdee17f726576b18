/- The reference's table: its answer is the program's. -/
import Derived.Test.YtfncoldcjhkhiaaDoorQb
import Derived.Test.YtfncoldcjhkhiaaDoorTi
import Derived.Test.YtfncoldcjhkhiaaDoorPCx14
namespace Go.Proofs.YtfncoldcjhkhiaaDoor.Pure
open Go.RowKit Go.Proofs.YtfncoldcjhkhiaaDoor.PC Go.Proofs.YtfncoldcjhkhiaaDoor.NW Go.Proofs.YtfncoldcjhkhiaaDoorW.PrintWords Go.Proofs.YtfncoldcjhkhiaaDoorW.PrintLast Go.Proofs.YtfncoldcjhkhiaaDoorW.PrintMore
set_option linter.unusedVariables false
set_option linter.unusedSimpArgs false
open Maps in
theorem addKey_le : ∀ (xs acc : List Lit), (xs.foldl addKey acc).length ≤ acc.length + xs.length
  | [], acc => by simp
  | x :: xs, acc => by
    rw [List.foldl_cons]
    refine Nat.le_trans (addKey_le xs (addKey acc x)) ?_
    unfold addKey
    split <;> simp <;> omega
open Maps in
theorem addKey_all : ∀ (xs acc : List Lit), (∀ x ∈ xs, WideAt.IsKeyLit x) → ((xs.foldl addKey acc).length = acc.length + xs.length ↔ xs.Pairwise (· ≠ ·) ∧ ∀ x ∈ xs, x ∉ acc)
  | [], acc, _ => by simp
  | x :: xs, acc, hk => by
    have hx := hk x (by simp)
    rw [List.foldl_cons]
    by_cases h : acc.any (fun y => y.sameKey x) = true
    · have e : addKey acc x = acc := by unfold addKey; rw [if_pos h]
      rw [e]
      have hle := addKey_le xs acc
      refine ⟨fun h2 => ?_, fun h2 => ?_⟩
      · simp only [List.length_cons] at h2; omega
      · exfalso
        obtain ⟨y, hy, hs⟩ := List.any_eq_true.1 h
        have := WideAt.sameKey_eq hs
        subst this
        exact h2.2 y (by simp) hy
    · have e : addKey acc x = acc ++ [x] := by unfold addKey; rw [if_neg h]
      have hni : x ∉ acc := fun hm => h (List.any_eq_true.2 ⟨x, hm, WideAt.sameKey_self hx⟩)
      rw [e, show acc.length + (x :: xs).length = (acc ++ [x]).length + xs.length by simp; omega, addKey_all xs (acc ++ [x]) (fun y hy => hk y (by simp [hy])), List.pairwise_cons]
      constructor
      · rintro ⟨h1, h2⟩
        refine ⟨⟨fun y hy e => ?_, h1⟩, fun y hy => ?_⟩
        · subst e; exact h2 x hy (by simp)
        · rcases List.mem_cons.1 hy with rfl | hy
          · exact hni
          · intro hm; exact h2 y hy (by simp [hm])
      · rintro ⟨⟨h1, h2⟩, h3⟩
        refine ⟨h2, fun y hy hm => ?_⟩
        rcases List.mem_append.1 hm with hm | hm
        · exact h3 y (by simp [hy]) hm
        · simp only [List.mem_singleton] at hm; subst hm; exact h1 y hy rfl
section
variable (l0 : List Int) (l1 : List ByteArray) (l2 : List S44) (l3 : List S41)
open Classical in
open Maps in
theorem tab_fine (t : S41) : tabS l1 t = decide (t.f0.length ≤ 200 ∧ fine l1 t.f0 0) := by
  unfold tabS
  by_cases h : t.f0.length ≤ 200
  case neg => rw [if_neg h, decide_eq_false (fun e => h e.1)]
  rw [if_pos h]
  by_cases ha : t.f0.all (inT l1) = true
  case neg =>
    rw [if_neg ha, decide_eq_false]
    rintro ⟨_, hf⟩
    refine ha (List.all_eq_true.2 fun x hx => ?_)
    obtain ⟨j, hj, rfl⟩ := List.mem_iff_getElem.1 hx
    have := (hf j (by omega) hj).1
    rwa [List.getD_eq_getElem?_getD, List.getElem?_eq_getElem hj] at this
  rw [if_pos ha]
  congr 1
  refine propext ?_
  have hkl : ∀ x ∈ keysT l1 t.f0, WideAt.IsKeyLit x := by
    intro x hx
    obtain ⟨n, _, rfl⟩ := List.mem_map.1 hx
    trivial
  have hs : Maps.size (Sn l1 t.f0 t.f0.length) = ((keysT l1 t.f0).foldl addKey []).length := by
    unfold Sn
    rw [List.take_length]
    exact size_setOf _ _ hkl
  have hlk : (keysT l1 t.f0).length = t.f0.length := by unfold keysT; rw [List.length_map]
  have hall := addKey_all (keysT l1 t.f0) [] hkl
  rw [hlk, List.length_nil, Nat.zero_add] at hall
  rw [hs, hall]
  constructor
  · rintro ⟨hp, _⟩
    refine ⟨h, fun i _ hi => ⟨?_, fun j hj e => ?_⟩⟩
    · rw [List.getD_eq_getElem?_getD, List.getElem?_eq_getElem hi]
      exact List.all_eq_true.1 ha _ (List.getElem_mem hi)
    · have := List.pairwise_iff_getElem.1 hp j i (by omega) (by omega) hj
      refine this ?_
      unfold keysT
      rw [List.getElem_map, List.getElem_map]
      unfold txt at e
      rw [List.getD_eq_getElem?_getD, List.getElem?_eq_getElem (by omega), List.getD_eq_getElem?_getD, List.getElem?_eq_getElem (by omega)] at e
      simp only [Option.getD_some] at e
      unfold keyT
      rw [e]
  · rintro ⟨_, hf⟩
    refine ⟨List.pairwise_iff_getElem.2 fun j i hj hi hji e => ?_, by simp⟩
    rw [hlk] at hj hi
    refine (hf i (by omega) hi).2 j hji ?_
    have e : keyT l1 t.f0[j] = keyT l1 t.f0[i] := by
      simpa only [keysT, List.getElem_map] using e
    unfold keyT at e
    unfold txt
    rw [List.getD_eq_getElem?_getD, List.getElem?_eq_getElem hj, List.getD_eq_getElem?_getD, List.getElem?_eq_getElem hi]
    simp only [Lit.string.injEq] at e
    exact ByteArray.ext (Array.toList_inj.1 e)
theorem table_ref (t : S41) : Ev (fun k => sacristanref09_table.f k l0 l1 l2 l3 t.f0 t.f1 t.f2) (tabS l1 t) := by
  classical
  rw [tab_fine]
  by_cases h : t.f0.length ≤ 200
  · have := table_out l0 l1 l2 l3 t.f0 t.f1 t.f2 h t.f0.length 0 (by omega) (by omega) (fun j hj => absurd hj (by omega))
    refine this.map fun k hk => ?_
    show sacristanref09_table.f k l0 l1 l2 l3 t.f0 t.f1 t.f2 = _
    unfold sacristanref09_table.f
    rw [if_neg (by omega)]
    rw [show decide (t.f0.length ≤ 200 ∧ fine l1 t.f0 0) = decide (fine l1 t.f0 0) by congr 1; exact propext ⟨fun x => x.2, fun x => ⟨h, x⟩⟩]
    exact hk
  · rw [decide_eq_false (fun e => h e.1)]
    refine ⟨0, fun k _ => ?_⟩
    show sacristanref09_table.f k l0 l1 l2 l3 t.f0 t.f1 t.f2 = _
    unfold sacristanref09_table.f
    rw [if_pos (by omega)]
end
end Go.Proofs.YtfncoldcjhkhiaaDoor.Pure
