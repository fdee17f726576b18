/- Whether any module is right, or which function isn't, and the depths of any one's instructions, are the document's: for every module. -/
import Derived.Test.YtfncoldcjhkhiaaDoorGc
import Derived.Test.YtfncoldcjhkhiaaDoorTb
namespace Go.Proofs.YtfncoldcjhkhiaaDoor.Pure
open Go.RowKit Go.Proofs.YtfncoldcjhkhiaaDoor.PC Go.Proofs.YtfncoldcjhkhiaaDoor.NW Go.Proofs.YtfncoldcjhkhiaaDoorW.PrintWords Go.Proofs.YtfncoldcjhkhiaaDoorW.PrintLast Go.Proofs.YtfncoldcjhkhiaaDoorW.PrintMore
set_option linter.unusedVariables false
set_option linter.unusedSimpArgs false
theorem fitW {l0 : List Int} {l1 : List ByteArray} {l2 : List S44} {l3 : List S41} (Q : ModW l0 l1 l2 l3) : FitM l0 l1 l2 l3 := by
  have r : reachBytes ≤ 140737488355328 := by unfold reachBytes; omega
  refine ⟨⟨fun t ht => ?_⟩, fun p hp x hx => i64_b ((Q.w2 p hp).2.2.2.1 x hx).2, ?_, ?_, ?_, ?_, fun p hp => ?_⟩
  · have := (Q.w3 t ht).2; omega
  · have := Q.m0; omega
  · have := Q.m1; omega
  · have := Q.m2; omega
  · have := Q.m3; omega
  · have := (Q.w2 p hp).2.2.2.2; omega
theorem verifyChecks_done (A0 : Option Addr) (c0 : Nat) (l0 : List Int) (A1 : Option Addr) (c1 : Nat) (l1 : List ByteArray) (A2 : Option Addr) (c2 : Nat) (l2 : List S44) (A3 : Option Addr) (c3 : Nat) (l3 : List S41) (a : Int) (W : World)
    (b : ModIs W A0 c0 l0 A1 c1 l1 A2 c2 l2 A3 c3 l3) (q : ModW l0 l1 l2 l3) (hM : MaxOk W) :
    Calls Tryd.prog 7 #[.agg #[.slice A0 l0.length c0, .slice A1 l1.length c1, .slice A2 l2.length c2, .slice A3 l3.length c3], .int .i64 a] W fun e W' => e = .returned (.bool true) ∧ Below W.heap.size W W' := by
  obtain ⟨K, hK⟩ := VerifyChecks (fitW q) q.w1 a
  exact sacristanlaw11_VerifyChecks.calls K A0 c0 l0 A1 c1 l1 A2 c2 l2 A3 c3 l3 a true W b.r0 b.h0 b.r1 b.h1 b.r2 b.h2 b.r3 b.h3 hM (hK K (Nat.le_refl _))
end Go.Proofs.YtfncoldcjhkhiaaDoor.Pure
