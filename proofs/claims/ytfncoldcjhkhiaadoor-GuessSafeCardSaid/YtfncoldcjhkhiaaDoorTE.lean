/- The reference's Pure. -/
import Derived.Test.YtfncoldcjhkhiaaDoorTD
namespace Go.Proofs.YtfncoldcjhkhiaaDoor.Pure
def pureB (op a : Int) : Bool := decide (1 ≤ op ∧ op ≤ 8 ∨ 13 ≤ op ∧ op ≤ 15) || (decide (op = 16) && pureW a)
end Go.Proofs.YtfncoldcjhkhiaaDoor.Pure
namespace Go.Proofs.YtfncoldcjhkhiaaDoor.NW
open Go.RowKit Go.Proofs.YtfncoldcjhkhiaaDoorW.PrintWords Go.Proofs.YtfncoldcjhkhiaaDoorW.PrintMore Go.Proofs.YtfncoldcjhkhiaaDoor.PC
set_option linter.unusedVariables false
set_option linter.unusedSimpArgs false
set_option maxHeartbeats 3200000 in
set_option maxRecDepth 100000 in
/-- the reference's Pure -/
theorem refPure_calls (op a : Int) (h16 : op = 16 → 0 ≤ a ∧ a < 32) (w : World) :
    Calls Tryd.prog 38 #[.agg #[.int .u8 op, .int .i64 a]] w fun e w' => e = .returned (.bool (Pure.pureB op a)) ∧ Below w.heap.size w w' := by
  have HA := Aside0.mk ((Below.refl w.heap.size w).alloc (Nat.le_refl _) (.cells #[.int .u8 op, .int .i64 a] 32 (0, 0)))
  by_cases c16 : op = 16
  · subst c16
    have e_ : Pure.pureB 16 a = Pure.pureW a := by unfold Pure.pureB; simp
    rw [e_]
    have HC := Aside0.mk (reckons_calls a (h16 rfl))
    obtain ⟨r, hr⟩ : ∃ r, Pure.pureW a = r := ⟨_, rfl⟩
    rw [hr] at HC ⊢
    clear e_ hr h16
    go_enter Tryd.func38, Tryd.ntmps38
    go_wp2_with (go_at_call 73; refine (HC.out _).mono ?_; rintro e w1 ⟨rfl, hb1⟩; have HB := Aside0.mk (below_then HA.out HA.out.size hb1); clear hb1)
    go_ret
    exact ⟨rfl, HB.out⟩
  · have o16 : (op == 16) = false := beq_eq_false_iff_ne.2 c16
    by_cases hp : 1 ≤ op ∧ op ≤ 8 ∨ 13 ≤ op ∧ op ≤ 15
    · have e_ : Pure.pureB op a = true := by unfold Pure.pureB; rw [decide_eq_true hp]; rfl
      rw [e_]
      have d1 : decide (1 ≤ op) = true := decide_eq_true (by omega)
      by_cases h8 : op ≤ 8
      · have d2 : decide (op ≤ 8) = true := decide_eq_true h8
        clear e_ hp c16 h16 h8
        go_enter Tryd.func38, Tryd.ntmps38
        go_wp2_with fail
        go_ret
        exact ⟨rfl, HA.out⟩
      · have d2 : decide (op ≤ 8) = false := decide_eq_false h8
        have d3 : decide (13 ≤ op) = true := decide_eq_true (by omega)
        have d4 : decide (op ≤ 15) = true := decide_eq_true (by omega)
        clear e_ hp c16 h16 h8
        go_enter Tryd.func38, Tryd.ntmps38
        go_wp2_with fail
        go_ret
        exact ⟨rfl, HA.out⟩
    · have e_ : Pure.pureB op a = false := by unfold Pure.pureB; rw [decide_eq_false hp, decide_eq_false c16]; rfl
      rw [e_]
      by_cases h1 : 1 ≤ op
      · have d1 : decide (1 ≤ op) = true := decide_eq_true h1
        have d2 : decide (op ≤ 8) = false := decide_eq_false (by omega)
        by_cases h13 : 13 ≤ op
        · have d3 : decide (13 ≤ op) = true := decide_eq_true h13
          have d4 : decide (op ≤ 15) = false := decide_eq_false (by omega)
          clear e_ hp c16 h16 h1 h13
          go_enter Tryd.func38, Tryd.ntmps38
          go_wp2_with fail
          go_ret
          exact ⟨rfl, HA.out⟩
        · have d3 : decide (13 ≤ op) = false := decide_eq_false h13
          clear e_ hp c16 h16 h1 h13
          go_enter Tryd.func38, Tryd.ntmps38
          go_wp2_with fail
          go_ret
          exact ⟨rfl, HA.out⟩
      · have d1 : decide (1 ≤ op) = false := decide_eq_false h1
        have d3 : decide (13 ≤ op) = false := decide_eq_false (by omega)
        clear e_ hp c16 h16 h1
        go_enter Tryd.func38, Tryd.ntmps38
        go_wp2_with fail
        go_ret
        exact ⟨rfl, HA.out⟩
end Go.Proofs.YtfncoldcjhkhiaaDoor.NW
