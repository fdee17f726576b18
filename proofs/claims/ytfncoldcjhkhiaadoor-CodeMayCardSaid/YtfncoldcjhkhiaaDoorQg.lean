/- Whether any module may be, and any two are the same, is the document's, plainly. -/
import Derived.Test.YtfncoldcjhkhiaaDoorTb
import Derived.Test.YtfncoldcjhkhiaaDoorTd
import Derived.Test.YtfncoldcjhkhiaaDoorQf
import Derived.Test.YtfncoldcjhkhiaaDoorPCm1
namespace Go.Proofs.YtfncoldcjhkhiaaDoor.Pure
open Go.RowKit Go.Proofs.YtfncoldcjhkhiaaDoor.PC Go.Proofs.YtfncoldcjhkhiaaDoor.NW Go.Proofs.YtfncoldcjhkhiaaDoorW.PrintWords Go.Proofs.YtfncoldcjhkhiaaDoorW.PrintLast Go.Proofs.YtfncoldcjhkhiaaDoorW.PrintMore
set_option linter.unusedVariables false
set_option linter.unusedSimpArgs false
section
variable {l0 : List Int} {l1 : List ByteArray} {l2 : List S44} {l3 : List S41} {m0 : List Int} {m1 : List ByteArray} {m2 : List S44} {m3 : List S41}
/-- THE LAW, plainly -/
theorem CodeMay (h : FitM l0 l1 l2 l3) (hsz : ∀ s ∈ l1, s.size ≤ reachBytes) : ∃ K, sacristanlaw09_CodeMay.f K l0 l1 l2 l3 m0 m1 m2 m3 = some true := by
  obtain ⟨N1, h1⟩ := may_ref l0 l1 l2 l3 h
  obtain ⟨N2, h2⟩ := ref_Same l0 l1 l2 l3 m0 m1 m2 m3 h
  have hM : code_May.f l0 l1 l2 l3 = some (mayS (insM l0 l1 l2 l3) l0 l1 l2 l3) := by unfold code_May.f; rw [if_pos ⟨h, hsz⟩]
  have hS : code_Same.f l0 l1 l2 l3 m0 m1 m2 m3 = some (sameS l0 l1 l2 l3 m0 m1 m2 m3) := by unfold code_Same.f; rw [if_pos h]
  have hT : code_Same.f l0 l1 l2 l3 l0 l1 l2 l3 = some true := by unfold code_Same.f; rw [if_pos h, sameS_self]
  have hj : ∀ b, sacristanlaw09_CodeMay.j0 (N1 + N2 + 2000 + 1) b l0 l1 l2 l3 m0 m1 m2 m3 = some true := by
    intro b
    have ha := awake_f (N1 + N2 + 2000) (by omega)
    have e1 : sacristanref09_May.f (N1 + N2 + 2000) l0 l1 l2 l3 = some _ := h1 (N1 + N2 + 2000) (by omega)
    have e2 : sacristanref09_Same.f (N1 + N2 + 2000) l0 l1 l2 l3 m0 m1 m2 m3 = some _ := h2 (N1 + N2 + 2000) (by omega)
    cases b with
    | true => simp only [sacristanlaw09_CodeMay.j0, if_true, ha, Option.bind_some]
    | false =>
      unfold sacristanlaw09_CodeMay.j0
      dsimp only
      rw [if_neg (by decide), hM, Option.bind_some, e1, Option.bind_some, if_pos (by simp), hS, Option.bind_some, e2, Option.bind_some, if_pos (by simp), hT, Option.bind_some, if_pos rfl, ha, Option.bind_some]
  refine ⟨N1 + N2 + 2000 + 1, ?_⟩
  unfold sacristanlaw09_CodeMay.f
  rw [great_f _ _ _ _ _ (by omega), Option.bind_some]
  split
  · exact hj true
  · rw [great_f _ _ _ _ _ (by omega), Option.bind_some]
    exact hj _
theorem fit_of (Q : ModW l0 l1 l2 l3) : FitM l0 l1 l2 l3 := by
  have r : reachBytes ≤ 140737488355328 := by unfold reachBytes; omega
  refine ⟨⟨fun t ht => ?_⟩, fun p hp x hx => i64_b ((Q.w2 p hp).2.2.2.1 x hx).2, ?_, ?_, ?_, ?_, fun p hp => ?_⟩
  · have := (Q.w3 t ht).2; omega
  · have := Q.m0; omega
  · have := Q.m1; omega
  · have := Q.m2; omega
  · have := Q.m3; omega
  · have := (Q.w2 p hp).2.2.2.2; omega
end
theorem codeMay_done (A0 : Option Addr) (c0 : Nat) (l0 : List Int) (A1 : Option Addr) (c1 : Nat) (l1 : List ByteArray) (A2 : Option Addr) (c2 : Nat) (l2 : List S44) (A3 : Option Addr) (c3 : Nat) (l3 : List S41)
    (B0 : Option Addr) (d0 : Nat) (m0 : List Int) (B1 : Option Addr) (d1 : Nat) (m1 : List ByteArray) (B2 : Option Addr) (d2 : Nat) (m2 : List S44) (B3 : Option Addr) (d3 : Nat) (m3 : List S41) (W : World)
    (b : ModIs W A0 c0 l0 A1 c1 l1 A2 c2 l2 A3 c3 l3) (q : ModW l0 l1 l2 l3) (c : ModIs W B0 d0 m0 B1 d1 m1 B2 d2 m2 B3 d3 m3) (hM : MaxOk W) :
    Calls Tryd.prog 5 #[.agg #[.slice A0 l0.length c0, .slice A1 l1.length c1, .slice A2 l2.length c2, .slice A3 l3.length c3], .agg #[.slice B0 m0.length d0, .slice B1 m1.length d1, .slice B2 m2.length d2, .slice B3 m3.length d3]] W fun e W' => e = .returned (.bool true) ∧ Below W.heap.size W W' := by
  obtain ⟨K, hK⟩ := CodeMay (m0 := m0) (m1 := m1) (m2 := m2) (m3 := m3) (fit_of q) q.w1
  exact sacristanlaw09_CodeMay.calls K A0 c0 l0 A1 c1 l1 A2 c2 l2 A3 c3 l3 B0 d0 m0 B1 d1 m1 B2 d2 m2 B3 d3 m3 true W b.r0 b.h0 b.r1 b.h1 b.r2 b.h2 b.r3 b.h3 c.r0 c.h0 c.r1 c.h1 c.r2 c.h2 c.r3 c.h3 hM hK
end Go.Proofs.YtfncoldcjhkhiaaDoor.Pure
