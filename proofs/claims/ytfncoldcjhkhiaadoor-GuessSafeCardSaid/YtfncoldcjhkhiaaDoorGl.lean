/- The reference's Check, plainly. -/
import Derived.Test.YtfncoldcjhkhiaaDoorGb
import Derived.Test.YtfncoldcjhkhiaaDoorPCd3
import Derived.Test.YtfncoldcjhkhiaaDoorTb
import Derived.Test.YtfncoldcjhkhiaaDoorTd
namespace Go.Proofs.YtfncoldcjhkhiaaDoor.Pure
open Go.RowKit Go.Proofs.YtfncoldcjhkhiaaDoor.PC Go.Proofs.YtfncoldcjhkhiaaDoor.NW Go.Proofs.YtfncoldcjhkhiaaDoorW.PrintWords Go.Proofs.YtfncoldcjhkhiaaDoorW.PrintLast Go.Proofs.YtfncoldcjhkhiaaDoorW.PrintMore
set_option linter.unusedVariables false
set_option linter.unusedSimpArgs false
theorem Ev.nxt19 {α β : Type} {f : Nat → Option β} {g : Nat → Option α} {r : α} {s : β} (h : Ev g r) (hs : ∀ k, g k = some r → f (k + 1) = some s) : Ev f s := by
  obtain ⟨N, h⟩ := h
  refine ⟨N + 1, fun k hk => ?_⟩
  obtain ⟨k', rfl⟩ : ∃ k', k = k' + 1 := ⟨k - 1, by omega⟩
  exact hs k' (h k' (by omega))
section
variable {l0 : List Int} {l1 : List ByteArray} {l2 : List S44} {l3 : List S41}
theorem check_two19 : (checkS l0 l1 l2 l3).2 = 0 ∨ (checkS l0 l1 l2 l3).2 = 18 := by
  unfold checkS
  split
  · split
    · exact .inr rfl
    · exact .inl rfl
  · exact .inr rfl
theorem check_no19 (hm : mayS (insM l0 l1 l2 l3) l0 l1 l2 l3 = false) : checkS l0 l1 l2 l3 = (-1, 18) := by unfold checkS; rw [hm]; rfl
theorem check_bad19 (hm : mayS (insM l0 l1 l2 l3) l0 l1 l2 l3 = true) {i : Nat} (hi : i < l2.length) (h : rightB l0 l1 l2 l3 l2[i] = false) (hb : ∀ (j : Nat) (hj : j < l2.length), j < i → rightB l0 l1 l2 l3 l2[j] = true) : checkS l0 l1 l2 l3 = ((i : Int), 18) := by
  unfold checkS
  rw [hm, if_pos rfl, fi_some (p := fun p => !rightB l0 l1 l2 l3 p) hi (by simpa using h) (fun j hj h => by simpa using hb j hj h)]
theorem check_all19 (hm : mayS (insM l0 l1 l2 l3) l0 l1 l2 l3 = true) (hb : ∀ (j : Nat) (hj : j < l2.length), rightB l0 l1 l2 l3 l2[j] = true) : checkS l0 l1 l2 l3 = (0, 0) := by
  unfold checkS
  rw [hm, if_pos rfl, fi_none (p := fun p => !rightB l0 l1 l2 l3 p) (fun j hj => by simpa using hb j hj)]
theorem ref_check19_l0 (hf : FitM l0 l1 l2 l3) (hm : mayS (insM l0 l1 l2 l3) l0 l1 l2 l3 = true) : ∀ (d i : Nat), l2.length - i = d → i ≤ l2.length → (∀ (j : Nat) (hj : j < l2.length), j < i → rightB l0 l1 l2 l3 l2[j] = true) →
    Ev (fun k => sacristanref11_Check.l0 k (l2.length : Int) (i : Int) l0 l1 l2 l3) ((checkS l0 l1 l2 l3).1, (checkS l0 l1 l2 l3).2 == 0) := by
  have hn := hf.n2
  intro d
  induction d with
  | zero =>
    intro i hd hi hb
    rw [check_all19 hm (fun j hj => hb j hj (by omega))]
    exact Ev.now fun k => by
      unfold sacristanref11_Check.l0
      rw [if_neg (by omega)]; rfl
  | succ d ih =>
    intro i hd hi hb
    have hlt : i < l2.length := by omega
    have hD := ref_depths hf hm (i : Int) ⟨by omega, by omega⟩
    rw [rd44 hlt] at hD
    cases hr : rightB l0 l1 l2 l3 l2[i] with
    | true =>
      rw [hr] at hD
      refine Ev.use hD (ih (i + 1) (by omega) (by omega) (fun j hj hji => if e : j = i then (by subst e; exact hr) else hb j hj (by omega))) fun k hk hk2 => ?_
      unfold sacristanref11_Check.l0
      rw [if_pos (by omega), hk, Option.bind_some, if_pos rfl, w64s (by omega) (by omega)]
      exact hk2
    | false =>
      rw [check_bad19 hm hlt hr hb]
      rw [hr] at hD
      refine hD.nxt19 fun k hk => ?_
      unfold sacristanref11_Check.l0
      rw [if_pos (by omega), hk, Option.bind_some, if_neg (by simp)]; rfl
theorem ref_check19 (hf : FitM l0 l1 l2 l3) : Ev (fun k => sacristanref11_Check.f k l0 l1 l2 l3) ((checkS l0 l1 l2 l3).1, (checkS l0 l1 l2 l3).2 == 0) := by
  have hM := may_ref l0 l1 l2 l3 hf
  cases hm : mayS (insM l0 l1 l2 l3) l0 l1 l2 l3 with
  | true =>
    rw [hm] at hM
    obtain ⟨N, hN⟩ := hM.both (ref_check19_l0 hf hm l2.length 0 rfl (by omega) (fun j hj h => by omega))
    refine ⟨N, fun k hk => ?_⟩
    obtain ⟨h1, h2⟩ := hN k hk
    show sacristanref11_Check.f k l0 l1 l2 l3 = _
    unfold sacristanref11_Check.f
    rw [h1, Option.bind_some, if_pos rfl]
    exact h2
  | false =>
    rw [hm] at hM
    rw [check_no19 hm]
    refine hM.map fun k hk => ?_
    unfold sacristanref11_Check.f
    rw [hk, Option.bind_some, if_neg (by decide)]; rfl
end
theorem fitW19 {l0 : List Int} {l1 : List ByteArray} {l2 : List S44} {l3 : List S41} (Q : ModW l0 l1 l2 l3) : FitM l0 l1 l2 l3 := by
  have r : reachBytes ≤ 140737488355328 := by unfold reachBytes; omega
  refine ⟨⟨fun t ht => ?_⟩, fun p hp x hx => i64_b ((Q.w2 p hp).2.2.2.1 x hx).2, ?_, ?_, ?_, ?_, fun p hp => ?_⟩
  · have := (Q.w3 t ht).2; omega
  · have := Q.m0; omega
  · have := Q.m1; omega
  · have := Q.m2; omega
  · have := Q.m3; omega
  · have := (Q.w2 p hp).2.2.2.2; omega
end Go.Proofs.YtfncoldcjhkhiaaDoor.Pure
