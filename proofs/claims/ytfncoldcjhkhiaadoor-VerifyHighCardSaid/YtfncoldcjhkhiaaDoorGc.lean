/- Whether any module is right, or which function isn't, and the depths, are the document's, plainly. -/
import Derived.Test.YtfncoldcjhkhiaaDoorGb
import Derived.Test.YtfncoldcjhkhiaaDoorPCd2
import Derived.Test.YtfncoldcjhkhiaaDoorPCd3
import Derived.Test.YtfncoldcjhkhiaaDoorPCd4
namespace Go.Proofs.YtfncoldcjhkhiaaDoor.Pure
open Go.RowKit Go.Proofs.YtfncoldcjhkhiaaDoor.PC Go.Proofs.YtfncoldcjhkhiaaDoor.NW Go.Proofs.YtfncoldcjhkhiaaDoorW.PrintWords Go.Proofs.YtfncoldcjhkhiaaDoorW.PrintLast Go.Proofs.YtfncoldcjhkhiaaDoorW.PrintMore
set_option linter.unusedVariables false
set_option linter.unusedSimpArgs false
theorem Ev.nxt {α β : Type} {f : Nat → Option β} {g : Nat → Option α} {r : α} {s : β} (h : Ev g r) (hs : ∀ k, g k = some r → f (k + 1) = some s) : Ev f s := by
  obtain ⟨N, h⟩ := h
  refine ⟨N + 1, fun k hk => ?_⟩
  obtain ⟨k', rfl⟩ : ∃ k', k = k' + 1 := ⟨k - 1, by omega⟩
  exact hs k' (h k' (by omega))
section
variable {l0 : List Int} {l1 : List ByteArray} {l2 : List S44} {l3 : List S41}
theorem check_two : (checkS l0 l1 l2 l3).2 = 0 ∨ (checkS l0 l1 l2 l3).2 = 18 := by
  unfold checkS
  split
  · split
    · exact .inr rfl
    · exact .inl rfl
  · exact .inr rfl
theorem check_no (hm : mayS (insM l0 l1 l2 l3) l0 l1 l2 l3 = false) : checkS l0 l1 l2 l3 = (-1, 18) := by unfold checkS; rw [hm]; rfl
theorem check_bad (hm : mayS (insM l0 l1 l2 l3) l0 l1 l2 l3 = true) {i : Nat} (hi : i < l2.length) (h : rightB l0 l1 l2 l3 l2[i] = false) (hb : ∀ (j : Nat) (hj : j < l2.length), j < i → rightB l0 l1 l2 l3 l2[j] = true) : checkS l0 l1 l2 l3 = ((i : Int), 18) := by
  unfold checkS
  rw [hm, if_pos rfl, fi_some (p := fun p => !rightB l0 l1 l2 l3 p) hi (by simpa using h) (fun j hj h => by simpa using hb j hj h)]
theorem check_all (hm : mayS (insM l0 l1 l2 l3) l0 l1 l2 l3 = true) (hb : ∀ (j : Nat) (hj : j < l2.length), rightB l0 l1 l2 l3 l2[j] = true) : checkS l0 l1 l2 l3 = (0, 0) := by
  unfold checkS
  rw [hm, if_pos rfl, fi_none (p := fun p => !rightB l0 l1 l2 l3 p) (fun j hj => by simpa using hb j hj)]
theorem ref_check_l0 (hf : FitM l0 l1 l2 l3) (hm : mayS (insM l0 l1 l2 l3) l0 l1 l2 l3 = true) : ∀ (d i : Nat), l2.length - i = d → i ≤ l2.length → (∀ (j : Nat) (hj : j < l2.length), j < i → rightB l0 l1 l2 l3 l2[j] = true) →
    Ev (fun k => sacristanref11_Check.l0 k (l2.length : Int) (i : Int) l0 l1 l2 l3) ((checkS l0 l1 l2 l3).1, (checkS l0 l1 l2 l3).2 == 0) := by
  have hn := hf.n2
  intro d
  induction d with
  | zero =>
    intro i hd hi hb
    rw [check_all hm (fun j hj => hb j hj (by omega))]
    exact Ev.now fun k => by
      unfold sacristanref11_Check.l0
      rw [if_neg (by omega)]; rfl
  | succ d ih =>
    intro i hd hi hb
    have hlt : i < l2.length := by omega
    have hD := ref_depths hf hm (i : Int) ⟨by omega, by omega⟩
    rw [rd44 hlt] at hD
    cases hr : rightB l0 l1 l2 l3 l2[i] with
    | true =>
      rw [hr] at hD
      refine Ev.use hD (ih (i + 1) (by omega) (by omega) (fun j hj hji => if e : j = i then (by subst e; exact hr) else hb j hj (by omega))) fun k hk hk2 => ?_
      unfold sacristanref11_Check.l0
      rw [if_pos (by omega), hk, Option.bind_some, if_pos rfl, w64s (by omega) (by omega)]
      exact hk2
    | false =>
      rw [check_bad hm hlt hr hb]
      rw [hr] at hD
      refine hD.nxt fun k hk => ?_
      unfold sacristanref11_Check.l0
      rw [if_pos (by omega), hk, Option.bind_some, if_neg (by simp)]; rfl
theorem ref_check (hf : FitM l0 l1 l2 l3) : Ev (fun k => sacristanref11_Check.f k l0 l1 l2 l3) ((checkS l0 l1 l2 l3).1, (checkS l0 l1 l2 l3).2 == 0) := by
  have hM := may_ref l0 l1 l2 l3 hf
  cases hm : mayS (insM l0 l1 l2 l3) l0 l1 l2 l3 with
  | true =>
    rw [hm] at hM
    obtain ⟨N, hN⟩ := hM.both (ref_check_l0 hf hm l2.length 0 rfl (by omega) (fun j hj h => by omega))
    refine ⟨N, fun k hk => ?_⟩
    obtain ⟨h1, h2⟩ := hN k hk
    show sacristanref11_Check.f k l0 l1 l2 l3 = _
    unfold sacristanref11_Check.f
    rw [h1, Option.bind_some, if_pos rfl]
    exact h2
  | false =>
    rw [hm] at hM
    rw [check_no hm]
    refine hM.map fun k hk => ?_
    unfold sacristanref11_Check.f
    rw [hk, Option.bind_some, if_neg (by decide)]; rfl
theorem great11_l0 (hn : l2.length ≤ 300) : ∀ (d i : Nat) (s : Int), l2.length - i = d → i ≤ l2.length → ∃ b, Ev (fun k => sacristanlaw11_great.l0 k s (i : Int) l0 l1 l2 l3) b := by
  intro d
  induction d with
  | zero =>
    intro i s hd hi
    exact ⟨_, Ev.now fun k => by
      unfold sacristanlaw11_great.l0
      rw [if_neg (by omega)]⟩
  | succ d ih =>
    intro i s hd hi
    obtain ⟨b, hb⟩ := ih (i + 1) (wrap64 (s + (((rd_T44 l2 (i : Int)).f3).length : Int))) (by omega) (by omega)
    refine ⟨b, hb.succ fun k hk => ?_⟩
    unfold sacristanlaw11_great.l0
    rw [if_pos (by omega), if_pos (by omega), w64s (i := (i : Int) + 1) (by omega) (by omega)]
    exact hk
theorem great11 : ∃ b, Ev (fun k => sacristanlaw11_great.f k l0 l1 l2 l3) b ∧ (b = false → greatS l0 l1 l2 l3 = false) := by
  have hG : Ev (fun k => sacristanref09_Great.f k l0 l1 l2 l3) (greatS l0 l1 l2 l3) := ⟨1001, fun k hk => great_f l0 l1 l2 l3 k (by omega)⟩
  cases hg : greatS l0 l1 l2 l3 with
  | true =>
    rw [hg] at hG
    refine ⟨true, hG.map fun k hk => ?_, fun h => by cases h⟩
    unfold sacristanlaw11_great.f
    rw [hk, Option.bind_some, if_pos rfl]
  | false =>
    rw [hg] at hG
    have hn : l2.length ≤ 300 := by
      unfold greatS at hg
      have := of_decide_eq_false hg
      omega
    obtain ⟨b, hb⟩ := great11_l0 (l0 := l0) (l1 := l1) (l3 := l3) hn l2.length 0 0 rfl (by omega)
    obtain ⟨N, hN⟩ := hG.both hb
    refine ⟨b, ⟨N, fun k hk => ?_⟩, fun _ => rfl⟩
    obtain ⟨h1, h2⟩ := hN k hk
    show sacristanlaw11_great.f k l0 l1 l2 l3 = _
    unfold sacristanlaw11_great.f
    rw [h1, Option.bind_some, if_neg (by decide)]
    exact h2
end
/-! the document's example -/
def pA : S44 := ⟨0, 1, 0, [⟨15, 0⟩]⟩
def pB : S44 := ⟨0, 1, 0, [⟨3, 0⟩, ⟨12, 0⟩]⟩
theorem fit_one (p : S44) (ha : ∀ x ∈ p.f3, -9223372036854775808 ≤ x.f1 ∧ x.f1 ≤ 9223372036854775807) (hl : p.f3.length ≤ 140737488355328) : FitM [] [] [p] [] :=
  ⟨⟨fun t ht => by simp at ht⟩, fun q hq x hx => by rw [List.mem_singleton] at hq; subst hq; exact ha x hx, by simp, by simp, by simp, by simp, fun q hq => by rw [List.mem_singleton] at hq; subst hq; exact hl⟩
theorem may_A : mayS (insM [] [] [pA] []) [] [] [pA] [] = true := by decide +kernel
theorem may_B : mayS (insM [] [] [pB] []) [] [] [pB] [] = true := by decide +kernel
theorem two_B : Flow.Two (grf [] [] [pB] [] pB) := ⟨by decide, by decide +kernel, by decide +kernel, by decide +kernel, by decide +kernel⟩
theorem check_A : checkS [] [] [pA] [] = (0, 18) :=
  check_bad may_A (i := 0) (by decide) (by
    show rightB [] [] [pA] [] pA = false
    cases h : rightB [] [] [pA] [] pA with
    | false => rfl
    | true =>
      obtain ⟨_, ⟨e, he⟩, _⟩ := rightB_iff.1 h 0 0 .start
      have : (grf [] [] [pA] [] pA).step 0 0 = none := by decide +kernel
      rw [this] at he; cases he) (fun j hj h => by omega)
theorem check_B : checkS [] [] [pB] [] = (0, 0) :=
  check_all may_B (fun j hj => by
    obtain rfl : j = 0 := by simpa using hj
    exact rightB_iff.2 two_B.right)
theorem awake11 : sacristanlaw11_awake.f = some true := by
  have hA : verify_Check.f [] [] [pA] [] = some (0, 18) := by
    unfold verify_Check.f
    rw [if_pos ⟨fit_one pA (by decide) (by decide), fun s hs => by simp at hs⟩, check_A]
  have hB : verify_Check.f [] [] [pB] [] = some (0, 0) := by
    unfold verify_Check.f
    rw [if_pos ⟨fit_one pB (by decide) (by decide), fun s hs => by simp at hs⟩, check_B]
  unfold sacristanlaw11_awake.f
  rw [show ([(⟨0, 1, 0, (([(⟨15, 0⟩ : S32)] : List (S32)))⟩ : S44)] : List S44) = [pA] from rfl, show ([(⟨0, 1, 0, (([(⟨3, 0⟩ : S32), (⟨12, 0⟩ : S32)] : List (S32)))⟩ : S44)] : List S44) = [pB] from rfl, hA, Option.bind_some, hB, Option.bind_some]
  rfl
section
variable {l0 : List Int} {l1 : List ByteArray} {l2 : List S44} {l3 : List S41}
theorem cmp_same (l m : List Int) (h : l = m) (hn : l.length ≤ 100000) : ∀ (d i : Nat), l.length - i = d → i ≤ l.length → Ev (fun k => sacristanlaw11_VerifyChecks.l0 k l m (i : Int)) true := by
  subst h
  intro d
  induction d with
  | zero =>
    intro i hd hi
    exact Ev.now fun k => by
      unfold sacristanlaw11_VerifyChecks.l0
      rw [if_neg (by omega), awake11, Option.bind_some]
  | succ d ih =>
    intro i hd hi
    refine (ih (i + 1) (by omega) (by omega)).succ fun k hk => ?_
    unfold sacristanlaw11_VerifyChecks.l0
    rw [if_pos (by omega), if_pos (by omega), if_pos (by omega), if_pos rfl, w64s (by omega) (by omega)]
    exact hk
theorem depthsV (hf : FitM l0 l1 l2 l3) (hs : ∀ s ∈ l1, s.size ≤ reachBytes) (a : Int) : verify_Depths.f l0 l1 l2 l3 a = some (depthsS l0 l1 l2 l3 a) := by
  unfold verify_Depths.f; rw [if_pos ⟨hf, hs⟩]
theorem checkV (hf : FitM l0 l1 l2 l3) (hs : ∀ s ∈ l1, s.size ≤ reachBytes) : verify_Check.f l0 l1 l2 l3 = some (checkS l0 l1 l2 l3) := by
  unfold verify_Check.f; rw [if_pos ⟨hf, hs⟩]
/-- THE LAW, plainly -/
theorem VerifyChecks (hf : FitM l0 l1 l2 l3) (hs : ∀ s ∈ l1, s.size ≤ reachBytes) (a : Int) : Ev (fun k => sacristanlaw11_VerifyChecks.f k l0 l1 l2 l3 a) true := by
  obtain ⟨g, hG, hg⟩ := great11 (l0 := l0) (l1 := l1) (l2 := l2) (l3 := l3)
  cases g with
  | true =>
    refine hG.map fun k hk => ?_
    unfold sacristanlaw11_VerifyChecks.f
    rw [hk, Option.bind_some, if_pos rfl, awake11, Option.bind_some]
  | false =>
    have hj1 : ((depthsS l0 l1 l2 l3 a).length : Int) = 0 → Ev (fun k => sacristanlaw11_VerifyChecks.j1 k a (depthsS l0 l1 l2 l3 a) true l0 l1 l2 l3) true := fun h => Ev.now fun k => by
      simp only [sacristanlaw11_VerifyChecks.j1, if_true]
      rw [if_pos h, awake11, Option.bind_some]
    have hM := may_ref l0 l1 l2 l3 hf
    -- behind the first tests
    have hj0 : Ev (fun k => sacristanlaw11_VerifyChecks.j0 k a false l0 l1 l2 l3) true := by
      cases hm : mayS (insM l0 l1 l2 l3) l0 l1 l2 l3 with
      | false =>
        have e0 : depthsS l0 l1 l2 l3 a = [] := depths_no fun D hD => by have := hD.2.1; rw [hm] at this; cases this
        rw [hm] at hM
        refine Ev.use hM (hj1 (by rw [e0]; rfl)) fun k h1 h2 => ?_
        simp only [sacristanlaw11_VerifyChecks.j0, Bool.false_eq_true, if_false, depthsV hf hs, Option.bind_some, h1]
        exact h2
      | true =>
        rw [hm] at hM
        by_cases ha : 0 ≤ a ∧ a < l2.length
        · have hD := ref_depths hf hm a ha
          have hg2 := good_of ((may_good hm).1 _ (rd44_in ha.1 ha.2))
          have hj : Ev (fun k => sacristanlaw11_VerifyChecks.j1 k a (depthsS l0 l1 l2 l3 a) false l0 l1 l2 l3) true := by
            cases hr : rightB l0 l1 l2 l3 (rd_T44 l2 a) with
            | true =>
              rw [hr] at hD
              have hh := has_len (depths_right ha hm (rightB_iff.1 hr))
              refine Ev.use hD (cmp_same (depthsS l0 l1 l2 l3 a) _ rfl (by have := hg2.few; omega) _ 0 rfl (by omega)) fun k h1 h2 => ?_
              simp only [sacristanlaw11_VerifyChecks.j1, Bool.false_eq_true, if_false, h1, Option.bind_some, if_true]
              exact h2
            | false =>
              rw [hr] at hD
              have e0 : depthsS l0 l1 l2 l3 a = [] := depths_no fun D hD => by have := rightB_iff.2 hD.2.2.1; rw [hr] at this; cases this
              refine hD.nxt fun k h1 => ?_
              simp only [sacristanlaw11_VerifyChecks.j1, Bool.false_eq_true, if_false, h1, Option.bind_some]
              rw [e0, if_pos (by rfl), awake11, Option.bind_some]
          refine Ev.use hM hj fun k h1 h2 => ?_
          simp only [sacristanlaw11_VerifyChecks.j0, Bool.false_eq_true, if_false, depthsV hf hs, Option.bind_some, h1, if_true]
          rw [if_neg (by omega), decide_eq_false (by omega)]
          exact h2
        · have e0 : depthsS l0 l1 l2 l3 a = [] := depths_no fun D hD => ha hD.1
          refine Ev.use hM (hj1 (by rw [e0]; rfl)) fun k h1 h2 => ?_
          simp only [sacristanlaw11_VerifyChecks.j0, Bool.false_eq_true, if_false, depthsV hf hs, Option.bind_some, h1, if_true]
          by_cases h0 : a < 0
          · rw [if_pos h0]; exact h2
          · rw [if_neg h0, decide_eq_true (by omega)]; exact h2
    obtain ⟨N1, h1⟩ := hG.both (ref_check hf)
    obtain ⟨N2, h2⟩ := hj0
    refine ⟨max N1 N2, fun k hk => ?_⟩
    obtain ⟨k1, k2⟩ := h1 k (by omega)
    have k3 := h2 k (by omega)
    have k3 : sacristanlaw11_VerifyChecks.j0 k a false l0 l1 l2 l3 = some true := k3
    show sacristanlaw11_VerifyChecks.f k l0 l1 l2 l3 a = some true
    unfold sacristanlaw11_VerifyChecks.f
    rw [k1, Option.bind_some, if_neg (by decide), checkV hf hs, Option.bind_some, k2, Option.bind_some]
    dsimp only
    rw [if_pos rfl]
    have hbb : ((checkS l0 l1 l2 l3).2 == 0) != ((checkS l0 l1 l2 l3).2 == 0) ↔ False := by simp
    rw [if_neg (by simp)]
    rcases check_two (l0 := l0) (l1 := l1) (l2 := l2) (l3 := l3) with h | h
    · rw [h, if_pos (by decide)]; exact k3
    · rw [h, if_neg (by decide)]; exact k3
end
end Go.Proofs.YtfncoldcjhkhiaaDoor.Pure
