/- Whether a module is great, what keeps us awake, plainly. -/
import Derived.Test.YtfncoldcjhkhiaaDoorPCd2
import Derived.Test.YtfncoldcjhkhiaaDoorTb
namespace Go.Proofs.YtfncoldcjhkhiaaDoor.Pure
open Go.RowKit Go.Proofs.YtfncoldcjhkhiaaDoor.PC Go.Proofs.YtfncoldcjhkhiaaDoor.NW Go.Proofs.YtfncoldcjhkhiaaDoorW.PrintWords Go.Proofs.YtfncoldcjhkhiaaDoorW.PrintLast Go.Proofs.YtfncoldcjhkhiaaDoorW.PrintMore
set_option linter.unusedVariables false
set_option linter.unusedSimpArgs false
theorem Ev.nxt {α β : Type} {f : Nat → Option β} {g : Nat → Option α} {r : α} {s : β} (h : Ev g r) (hs : ∀ k, g k = some r → f (k + 1) = some s) : Ev f s := by
  obtain ⟨N, h⟩ := h
  refine ⟨N + 1, fun k hk => ?_⟩
  obtain ⟨k', rfl⟩ : ∃ k', k = k' + 1 := ⟨k - 1, by omega⟩
  exact hs k' (h k' (by omega))
section
variable {l0 : List Int} {l1 : List ByteArray} {l2 : List S44} {l3 : List S41}
theorem check_two : (checkS l0 l1 l2 l3).2 = 0 ∨ (checkS l0 l1 l2 l3).2 = 18 := by
  unfold checkS
  split
  · split
    · exact .inr rfl
    · exact .inl rfl
  · exact .inr rfl
theorem check_no (hm : mayS (insM l0 l1 l2 l3) l0 l1 l2 l3 = false) : checkS l0 l1 l2 l3 = (-1, 18) := by unfold checkS; rw [hm]; rfl
theorem check_bad (hm : mayS (insM l0 l1 l2 l3) l0 l1 l2 l3 = true) {i : Nat} (hi : i < l2.length) (h : rightB l0 l1 l2 l3 l2[i] = false) (hb : ∀ (j : Nat) (hj : j < l2.length), j < i → rightB l0 l1 l2 l3 l2[j] = true) : checkS l0 l1 l2 l3 = ((i : Int), 18) := by
  unfold checkS
  rw [hm, if_pos rfl, fi_some (p := fun p => !rightB l0 l1 l2 l3 p) hi (by simpa using h) (fun j hj h => by simpa using hb j hj h)]
theorem check_all (hm : mayS (insM l0 l1 l2 l3) l0 l1 l2 l3 = true) (hb : ∀ (j : Nat) (hj : j < l2.length), rightB l0 l1 l2 l3 l2[j] = true) : checkS l0 l1 l2 l3 = (0, 0) := by
  unfold checkS
  rw [hm, if_pos rfl, fi_none (p := fun p => !rightB l0 l1 l2 l3 p) (fun j hj => by simpa using hb j hj)]
theorem great11_l0 (hn : l2.length ≤ 300) : ∀ (d i : Nat) (s : Int), l2.length - i = d → i ≤ l2.length → ∃ b, Ev (fun k => sacristanlaw11_great.l0 k s (i : Int) l0 l1 l2 l3) b := by
  intro d
  induction d with
  | zero =>
    intro i s hd hi
    exact ⟨_, Ev.now fun k => by
      unfold sacristanlaw11_great.l0
      rw [if_neg (by omega)]⟩
  | succ d ih =>
    intro i s hd hi
    obtain ⟨b, hb⟩ := ih (i + 1) (wrap64 (s + (((rd_T44 l2 (i : Int)).f3).length : Int))) (by omega) (by omega)
    refine ⟨b, hb.succ fun k hk => ?_⟩
    unfold sacristanlaw11_great.l0
    rw [if_pos (by omega), if_pos (by omega), w64s (i := (i : Int) + 1) (by omega) (by omega)]
    exact hk
theorem great11 : ∃ b, Ev (fun k => sacristanlaw11_great.f k l0 l1 l2 l3) b ∧ (b = false → greatS l0 l1 l2 l3 = false) := by
  have hG : Ev (fun k => sacristanref09_Great.f k l0 l1 l2 l3) (greatS l0 l1 l2 l3) := ⟨1001, fun k hk => great_f l0 l1 l2 l3 k (by omega)⟩
  cases hg : greatS l0 l1 l2 l3 with
  | true =>
    rw [hg] at hG
    refine ⟨true, hG.map fun k hk => ?_, fun h => by cases h⟩
    unfold sacristanlaw11_great.f
    rw [hk, Option.bind_some, if_pos rfl]
  | false =>
    rw [hg] at hG
    have hn : l2.length ≤ 300 := by
      unfold greatS at hg
      have := of_decide_eq_false hg
      omega
    obtain ⟨b, hb⟩ := great11_l0 (l0 := l0) (l1 := l1) (l3 := l3) hn l2.length 0 0 rfl (by omega)
    obtain ⟨N, hN⟩ := hG.both hb
    refine ⟨b, ⟨N, fun k hk => ?_⟩, fun _ => rfl⟩
    obtain ⟨h1, h2⟩ := hN k hk
    show sacristanlaw11_great.f k l0 l1 l2 l3 = _
    unfold sacristanlaw11_great.f
    rw [h1, Option.bind_some, if_neg (by decide)]
    exact h2
end
/-! the document's example -/
def pA : S44 := ⟨0, 1, 0, [⟨15, 0⟩]⟩
def pB : S44 := ⟨0, 1, 0, [⟨3, 0⟩, ⟨12, 0⟩]⟩
theorem fit_one (p : S44) (ha : ∀ x ∈ p.f3, -9223372036854775808 ≤ x.f1 ∧ x.f1 ≤ 9223372036854775807) (hl : p.f3.length ≤ 140737488355328) : FitM [] [] [p] [] :=
  ⟨⟨fun t ht => by simp at ht⟩, fun q hq x hx => by rw [List.mem_singleton] at hq; subst hq; exact ha x hx, by simp, by simp, by simp, by simp, fun q hq => by rw [List.mem_singleton] at hq; subst hq; exact hl⟩
theorem may_A : mayS (insM [] [] [pA] []) [] [] [pA] [] = true := by decide +kernel
theorem may_B : mayS (insM [] [] [pB] []) [] [] [pB] [] = true := by decide +kernel
theorem two_B : Flow.Two (grf [] [] [pB] [] pB) := ⟨by decide, by decide +kernel, by decide +kernel, by decide +kernel, by decide +kernel⟩
theorem check_A : checkS [] [] [pA] [] = (0, 18) :=
  check_bad may_A (i := 0) (by decide) (by
    show rightB [] [] [pA] [] pA = false
    cases h : rightB [] [] [pA] [] pA with
    | false => rfl
    | true =>
      obtain ⟨_, ⟨e, he⟩, _⟩ := rightB_iff.1 h 0 0 .start
      have : (grf [] [] [pA] [] pA).step 0 0 = none := by decide +kernel
      rw [this] at he; cases he) (fun j hj h => by omega)
theorem check_B : checkS [] [] [pB] [] = (0, 0) :=
  check_all may_B (fun j hj => by
    obtain rfl : j = 0 := by simpa using hj
    exact rightB_iff.2 two_B.right)
theorem awake11 : sacristanlaw11_awake.f = some true := by
  have hA : verify_Check.f [] [] [pA] [] = some (0, 18) := by
    unfold verify_Check.f
    rw [if_pos ⟨fit_one pA (by decide) (by decide), fun s hs => by simp at hs⟩, check_A]
  have hB : verify_Check.f [] [] [pB] [] = some (0, 0) := by
    unfold verify_Check.f
    rw [if_pos ⟨fit_one pB (by decide) (by decide), fun s hs => by simp at hs⟩, check_B]
  unfold sacristanlaw11_awake.f
  rw [show ([(⟨0, 1, 0, (([(⟨15, 0⟩ : S32)] : List (S32)))⟩ : S44)] : List S44) = [pA] from rfl, show ([(⟨0, 1, 0, (([(⟨3, 0⟩ : S32), (⟨12, 0⟩ : S32)] : List (S32)))⟩ : S44)] : List S44) = [pB] from rfl, hA, Option.bind_some, hB, Option.bind_some]
  rfl
theorem fitW {l0 : List Int} {l1 : List ByteArray} {l2 : List S44} {l3 : List S41} (Q : ModW l0 l1 l2 l3) : FitM l0 l1 l2 l3 := by
  have r : reachBytes ≤ 140737488355328 := by unfold reachBytes; omega
  refine ⟨⟨fun t ht => ?_⟩, fun p hp x hx => i64_b ((Q.w2 p hp).2.2.2.1 x hx).2, ?_, ?_, ?_, ?_, fun p hp => ?_⟩
  · have := (Q.w3 t ht).2; omega
  · have := Q.m0; omega
  · have := Q.m1; omega
  · have := Q.m2; omega
  · have := Q.m3; omega
  · have := (Q.w2 p hp).2.2.2.2; omega
end Go.Proofs.YtfncoldcjhkhiaaDoor.Pure
