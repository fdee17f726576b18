/- Whether a function may be. -/
import Derived.Test.YtfncoldcjhkhiaaDoorTf
import Derived.Test.YtfncoldcjhkhiaaDoorTd
import Derived.Test.YtfncoldcjhkhiaaDoorPCx11
import Derived.Test.YtfncoldcjhkhiaaDoorPCx2
namespace Go.Proofs.YtfncoldcjhkhiaaDoor.NW
open Go.RowKit Go.Proofs.YtfncoldcjhkhiaaDoorW.PrintWords Go.Proofs.YtfncoldcjhkhiaaDoorW.PrintMore Go.Proofs.YtfncoldcjhkhiaaDoor.PC
set_option linter.unusedVariables false
set_option linter.unusedSimpArgs false
theorem blk_new2 (w : World) (o p : Obj) : ((w.alloc o).alloc p).heap[w.heap.size + 1]? = some p := by
  have h := blk_new (w.alloc o) p
  rwa [World.size_alloc] at h
theorem ModIs.below {w W : World} {A0 : Option Addr} {c0 : Nat} {l0 : List Int} {A1 : Option Addr} {c1 : Nat} {l1 : List ByteArray} {A2 : Option Addr} {c2 : Nat} {l2 : List S44} {A3 : Option Addr} {c3 : Nat} {l3 : List S41} (h : ModIs w A0 c0 l0 A1 c1 l1 A2 c2 l2 A3 c3 l3) (hb : Below w.heap.size w W) : ModIs W A0 c0 l0 A1 c1 l1 A2 c2 l2 A3 c3 l3 :=
  ⟨Kd.C_below h.r0 hb, h.h0, Kd.C_below h.r1 hb, h.h1, Kd.C_below h.r2 hb, h.h2, Kd.C_below h.r3 hb, h.h3⟩
section
variable {A0 : Option Addr} {c0 : Nat} {l0 : List Int} {A1 : Option Addr} {c1 : Nat} {l1 : List ByteArray} {A2 : Option Addr} {c2 : Nat} {l2 : List S44} {A3 : Option Addr} {c3 : Nat} {l3 : List S41}
set_option maxHeartbeats 1600000 in
set_option maxRecDepth 1000000 in
theorem clo80_calls (g q : Nat) (pr : S44) (B : Option Addr) (b : Nat) (x : S32) (r : Bool) (w : World) (hmd : ModIs w A0 c0 l0 A1 c1 l1 A2 c2 l2 A3 c3 l3) (hM : MaxOk w)
    (hG : w.heap[g]? = some (.cells #[.slice A0 l0.length c0, .slice A1 l1.length c1, .slice A2 l2.length c2, .slice A3 l3.length c3] 30 (0, 0)))
    (hQ : w.heap[q]? = some (.cells #[.int .i64 pr.f0, .int .i64 pr.f1, .int .i64 pr.f2, .slice B pr.f3.length b] 44 (0, 0))) (hb : pr.f3.length ≤ b) (hB : Kd.C k32 w B pr.f3.length pr.f3)
    (hx : ∃ k, code_instr.f k l0 l1 l2 l3 pr.f0 pr.f1 pr.f2 pr.f3 x.f0 x.f1 = some r) :
    Calls Tryd.prog 80 #[.agg #[.int .u8 x.f0, .int .i64 x.f1], .pointer (some ⟨g, 0, none⟩), .pointer (some ⟨q, 0, none⟩)] w fun e w' => e = .returned (.bool (!r)) ∧ Below w.heap.size w w' := by
  obtain ⟨k, hk⟩ := hx
  have hA := (Below.refl w.heap.size w).alloc (Nat.le_refl _) (.cells #[.int .u8 x.f0, .int .i64 x.f1] 32 (0, 0))
  have HMD := Aside0.mk (hmd.below hA)
  have HC := Aside0.mk (Kd.C_below hB hA)
  have HMX := Aside0.mk (hM.below hA)
  have HBB := Aside0.mk hb
  have HK := Aside0.mk hk
  have HA := Aside0.mk hA
  have hG' := blk_below hG hA
  have hQ' := blk_below hQ hA
  have hX := blk_new w (.cells #[.int .u8 x.f0, .int .i64 x.f1] 32 (0, 0))
  have g0 := (blk_cell hG' 0).trans rfl
  have g1 := (blk_cell hG' 1).trans rfl
  have g2 := (blk_cell hG' 2).trans rfl
  have g3 := (blk_cell hG' 3).trans rfl
  have q0 := (blk_cell hQ' 0).trans rfl
  have q1 := (blk_cell hQ' 1).trans rfl
  have q2 := (blk_cell hQ' 2).trans rfl
  have q3 := (blk_cell hQ' 3).trans rfl
  have x0 := (blk_cell hX 0).trans rfl
  have x1 := (blk_cell hX 1).trans rfl
  clear hG' hQ' hX hG hQ hA hmd hB hM hb hk
  go_enter Tryd.func80, Tryd.ntmps80
  go_wp2_with (go_at_call 81; refine (code_instr.calls k A0 c0 l0 A1 c1 l1 A2 c2 l2 A3 c3 l3 pr.f0 pr.f1 pr.f2 B b pr.f3 x.f0 x.f1 r _ HMD.out.r0 HMD.out.h0 HMD.out.r1 HMD.out.h1 HMD.out.r2 HMD.out.h2 HMD.out.r3 HMD.out.h3 HC.out HBB.out HMX.out HK.out).mono ?_; rintro e w' ⟨rfl, hb⟩)
  go_ret
  exact ⟨rfl, HA.out.trans (hb.mono (by simp))⟩
/-- may a function be? -/
def protoS (ins : S32 → Bool) (pr : S44) : Bool := if (0 ≤ pr.f0 ∧ pr.f0 < 201) ∧ (0 ≤ pr.f2 ∧ pr.f2 < 201) ∧ pr.f0 < pr.f1 ∧ pr.f1 ≤ 256 ∧ pr.f3.length ≠ 0 ∧ pr.f3.length ≤ 16384 then !(pr.f3.any fun x => !(ins x)) else false

set_option maxHeartbeats 1600000 in
set_option maxRecDepth 1000000 in
theorem in_calls (a n : Int) (w : World) : Calls Tryd.prog 43 #[.int .i64 a, .int .i64 n] w fun e w' => e = .returned (.bool (decide (0 ≤ a ∧ a < n))) ∧ w = w' := by
  by_cases h : 0 ≤ a
  · have e1 : decide (0 ≤ a ∧ a < n) = decide (a < n) := by simp [h]
    rw [e1]
    clear e1
    go_enter Tryd.func43, Tryd.ntmps43
    go_wp2
    go_ret
    exact ⟨rfl, rfl⟩
  · have e1 : decide (0 ≤ a ∧ a < n) = false := decide_eq_false (by omega)
    rw [e1]
    clear e1
    go_enter Tryd.func43, Tryd.ntmps43
    go_wp2
    go_ret
    exact ⟨rfl, rfl⟩

set_option maxHeartbeats 3200000 in
set_option maxRecDepth 1000000 in
theorem proto_calls (pr : S44) (B : Option Addr) (b : Nat) (ins : S32 → Bool) (w : World) (hmd : ModIs w A0 c0 l0 A1 c1 l1 A2 c2 l2 A3 c3 l3) (hM : MaxOk w) (hb : pr.f3.length ≤ b) (hB : Kd.C k32 w B pr.f3.length pr.f3)
    (hx : ∀ x ∈ pr.f3, ∃ k, code_instr.f k l0 l1 l2 l3 pr.f0 pr.f1 pr.f2 pr.f3 x.f0 x.f1 = some (ins x)) :
    Calls Tryd.prog 52 #[.agg #[.slice A0 l0.length c0, .slice A1 l1.length c1, .slice A2 l2.length c2, .slice A3 l3.length c3], .agg #[.int .i64 pr.f0, .int .i64 pr.f1, .int .i64 pr.f2, .slice B pr.f3.length b]] w fun e w' => e = .returned (.bool (protoS ins pr)) ∧ Below w.heap.size w w' := by
  have hA := ((Below.refl w.heap.size w).alloc (Nat.le_refl _) (.cells #[.slice A0 l0.length c0, .slice A1 l1.length c1, .slice A2 l2.length c2, .slice A3 l3.length c3] 30 (0, 0))).alloc (by simp) (.cells #[.int .i64 pr.f0, .int .i64 pr.f1, .int .i64 pr.f2, .slice B pr.f3.length b] 44 (0, 0))
  have HMD := Aside0.mk (hmd.below hA)
  have HC := Aside0.mk (Kd.C_below hB hA)
  have HMX := Aside0.mk (hM.below hA)
  have HBB := Aside0.mk hb
  have HA := Aside0.mk hA
  have HX := Aside0.mk hx
  have hG := blk_alloc (blk_new w (.cells #[.slice A0 l0.length c0, .slice A1 l1.length c1, .slice A2 l2.length c2, .slice A3 l3.length c3] 30 (0, 0))) (.cells #[.int .i64 pr.f0, .int .i64 pr.f1, .int .i64 pr.f2, .slice B pr.f3.length b] 44 (0, 0))
  have hQ := blk_new2 w (.cells #[.slice A0 l0.length c0, .slice A1 l1.length c1, .slice A2 l2.length c2, .slice A3 l3.length c3] 30 (0, 0)) (.cells #[.int .i64 pr.f0, .int .i64 pr.f1, .int .i64 pr.f2, .slice B pr.f3.length b] 44 (0, 0))
  have q0 := (blk_cell hQ 0).trans rfl
  have q1 := (blk_cell hQ 1).trans rfl
  have q2 := (blk_cell hQ 2).trans rfl
  have q3 := (blk_cell hQ 3).trans rfl
  have HG := Aside0.mk hG
  have HQ := Aside0.mk hQ
  have hm := Kd.C_max hB
  clear hA hG hQ hmd hB hM hb hx

  by_cases k1 : 0 ≤ pr.f0 ∧ pr.f0 < 201
  case neg =>
    have e_ : protoS ins pr = false := by unfold protoS; rw [if_neg (fun h => k1 h.1)]
    have H1 := Aside0.mk (decide_eq_false k1)
    have H2 := H1
    clear k1
    rw [e_]
    clear e_
    go_enter Tryd.func52, Tryd.ntmps52
    go_wp2_with ((go_at_call 43; refine (in_calls _ _ _).mono ?_; rintro e w' ⟨rfl, rfl⟩; first | rw [H1.out] | skip; first | rw [H2.out] | skip))
    go_ret
    exact ⟨rfl, HA.out⟩
  have H1 := Aside0.mk (decide_eq_true k1)
  by_cases k2 : 0 ≤ pr.f2 ∧ pr.f2 < 201
  case neg =>
    have e_ : protoS ins pr = false := by unfold protoS; rw [if_neg (fun h => k2 h.2.1)]
    have H2 := Aside0.mk (decide_eq_false k2)
    clear k1 k2
    rw [e_]
    clear e_
    go_enter Tryd.func52, Tryd.ntmps52
    go_wp2_with ((go_at_call 43; refine (in_calls _ _ _).mono ?_; rintro e w' ⟨rfl, rfl⟩; first | rw [H1.out] | skip; first | rw [H2.out] | skip))
    go_ret
    exact ⟨rfl, HA.out⟩
  have H2 := Aside0.mk (decide_eq_true k2)
  have K1 := Aside0.mk k1
  have K2 := Aside0.mk k2
  clear k1 k2
  by_cases k3 : pr.f0 < pr.f1
  case neg =>
    have e_ : protoS ins pr = false := by unfold protoS; rw [if_neg (fun h => k3 h.2.2.1)]
    have d3 : decide (pr.f1 ≤ pr.f0) = true := decide_eq_true (by omega)
    clear k3
    rw [e_]
    clear e_
    go_enter Tryd.func52, Tryd.ntmps52
    go_wp2_with ((go_at_call 43; refine (in_calls _ _ _).mono ?_; rintro e w' ⟨rfl, rfl⟩; first | rw [H1.out] | skip; first | rw [H2.out] | skip))
    go_ret
    exact ⟨rfl, HA.out⟩
  have d3 : decide (pr.f1 ≤ pr.f0) = false := decide_eq_false (by omega)
  by_cases k4 : pr.f1 ≤ 256
  case neg =>
    have e_ : protoS ins pr = false := by unfold protoS; rw [if_neg (fun h => k4 h.2.2.2.1)]
    have d4 : decide (256 < pr.f1) = true := decide_eq_true (by omega)
    clear k3 k4
    rw [e_]
    clear e_
    go_enter Tryd.func52, Tryd.ntmps52
    go_wp2_with ((go_at_call 43; refine (in_calls _ _ _).mono ?_; rintro e w' ⟨rfl, rfl⟩; first | rw [H1.out] | skip; first | rw [H2.out] | skip))
    go_ret
    exact ⟨rfl, HA.out⟩
  have d4 : decide (256 < pr.f1) = false := decide_eq_false (by omega)
  have K3 := Aside0.mk k3
  have K4 := Aside0.mk k4
  clear k3 k4
  by_cases k5 : pr.f3.length = 0
  · have e_ : protoS ins pr = false := by unfold protoS; rw [if_neg (fun h => h.2.2.2.2.1 k5)]
    have d5 : ((pr.f3.length : Int) == 0) = true := beq_iff_eq.2 (by omega)
    have K5 := Aside0.mk k5
    clear k5
    rw [e_]
    clear e_
    go_enter Tryd.func52, Tryd.ntmps52
    go_wp2_with ((go_at_call 43; refine (in_calls _ _ _).mono ?_; rintro e w' ⟨rfl, rfl⟩; first | rw [H1.out] | skip; first | rw [H2.out] | skip))
    go_ret
    exact ⟨rfl, HA.out⟩
  have d5 : ((pr.f3.length : Int) == 0) = false := beq_eq_false_iff_ne.2 (by omega)
  by_cases k6 : pr.f3.length ≤ 16384
  case neg =>
    have e_ : protoS ins pr = false := by unfold protoS; rw [if_neg (fun h => k6 h.2.2.2.2.2)]
    have d6 : decide ((16384 : Int) < (pr.f3.length : Int)) = true := decide_eq_true (by omega)
    have K5 := Aside0.mk k5
    have K6 := Aside0.mk k6
    clear k5 k6
    rw [e_]
    clear e_
    go_enter Tryd.func52, Tryd.ntmps52
    go_wp2_with ((go_at_call 43; refine (in_calls _ _ _).mono ?_; rintro e w' ⟨rfl, rfl⟩; first | rw [H1.out] | skip; first | rw [H2.out] | skip))
    go_ret
    exact ⟨rfl, HA.out⟩
  have d6 : decide ((16384 : Int) < (pr.f3.length : Int)) = false := decide_eq_false (by omega)
  have e_ : protoS ins pr = !(pr.f3.any fun x => !(ins x)) := by unfold protoS; rw [if_pos ⟨K1.out, K2.out, K3.out, K4.out, k5, k6⟩]
  have K5 := Aside0.mk k5
  have K6 := Aside0.mk k6
  clear k5 k6
  rw [e_]
  clear e_
  have HCON := Aside0.mk (con32_calls w.heap.size (w.heap.size + 1) (fun x => !(ins x)) B b pr.f3 _ HC.out (fun x W hxm hbw => clo80_calls w.heap.size (w.heap.size + 1) pr B b x (ins x) W (HMD.out.below hbw) (HMX.out.below hbw) (blk_below HG.out hbw) (blk_below HQ.out hbw) HBB.out (Kd.C_below HC.out hbw) (HX.out x hxm)))
  go_enter Tryd.func52, Tryd.ntmps52
  go_wp2_with (first | (go_at_call 43; refine (in_calls _ _ _).mono ?_; rintro e w' ⟨rfl, rfl⟩; first | rw [H1.out] | skip; first | rw [H2.out] | skip) | (go_at_call 79; refine HCON.out.mono ?_; rintro e w' ⟨rfl, hbw⟩))
  go_ret
  exact ⟨rfl, HA.out.trans (hbw.mono (by simp; omega))⟩


set_option maxHeartbeats 1600000 in
set_option maxRecDepth 1000000 in
theorem clo51_calls (g : Nat) (pr : S44) (B : Option Addr) (b : Nat) (ins : S32 → Bool) (w : World) (hmd : ModIs w A0 c0 l0 A1 c1 l1 A2 c2 l2 A3 c3 l3) (hM : MaxOk w)
    (hG : w.heap[g]? = some (.cells #[.slice A0 l0.length c0, .slice A1 l1.length c1, .slice A2 l2.length c2, .slice A3 l3.length c3] 30 (0, 0))) (hb : pr.f3.length ≤ b) (hB : Kd.C k32 w B pr.f3.length pr.f3)
    (hx : ∀ x ∈ pr.f3, ∃ k, code_instr.f k l0 l1 l2 l3 pr.f0 pr.f1 pr.f2 pr.f3 x.f0 x.f1 = some (ins x)) :
    Calls Tryd.prog 51 #[.agg #[.int .i64 pr.f0, .int .i64 pr.f1, .int .i64 pr.f2, .slice B pr.f3.length b], .pointer (some ⟨g, 0, none⟩)] w fun e w' => e = .returned (.bool (!(protoS ins pr))) ∧ Below w.heap.size w w' := by
  have hA := (Below.refl w.heap.size w).alloc (Nat.le_refl _) (.cells #[.int .i64 pr.f0, .int .i64 pr.f1, .int .i64 pr.f2, .slice B pr.f3.length b] 44 (0, 0))
  have HP := Aside0.mk (proto_calls pr B b ins _ (hmd.below hA) (hM.below hA) hb (Kd.C_below hB hA) hx)
  have HA := Aside0.mk hA
  have hG' := blk_below hG hA
  have hX := blk_new w (.cells #[.int .i64 pr.f0, .int .i64 pr.f1, .int .i64 pr.f2, .slice B pr.f3.length b] 44 (0, 0))
  have g0 := (blk_cell hG' 0).trans rfl
  have g1 := (blk_cell hG' 1).trans rfl
  have g2 := (blk_cell hG' 2).trans rfl
  have g3 := (blk_cell hG' 3).trans rfl
  have x0 := (blk_cell hX 0).trans rfl
  have x1 := (blk_cell hX 1).trans rfl
  have x2 := (blk_cell hX 2).trans rfl
  have x3 := (blk_cell hX 3).trans rfl
  clear hG' hX hG hA hmd hB hM hb hx
  go_enter Tryd.func51, Tryd.ntmps51
  go_wp2_with (go_at_call 52; refine HP.out.mono ?_; rintro e w' ⟨rfl, hb⟩)
  go_ret
  exact ⟨rfl, HA.out.trans (hb.mono (by simp))⟩
end
end Go.Proofs.YtfncoldcjhkhiaaDoor.NW
