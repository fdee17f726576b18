/- Whether a module may be. -/
import Derived.Test.YtfncoldcjhkhiaaDoorTh
namespace Go.Proofs.YtfncoldcjhkhiaaDoor.NW
open Go.RowKit Go.Maps Go.WideMaps Go.Proofs.YtfncoldcjhkhiaaDoorW.PrintWords Go.Proofs.YtfncoldcjhkhiaaDoorW.PrintMore Go.Proofs.YtfncoldcjhkhiaaDoor.PC
set_option linter.unusedVariables false
set_option linter.unusedSimpArgs false
section
variable {A0 : Option Addr} {c0 : Nat} {l0 : List Int} {A1 : Option Addr} {c1 : Nat} {l1 : List ByteArray} {A2 : Option Addr} {c2 : Nat} {l2 : List S44} {A3 : Option Addr} {c3 : Nat} {l3 : List S41}
set_option maxHeartbeats 1600000 in
set_option maxRecDepth 1000000 in
theorem clo49_calls (g : Nat) (t : S41) (B : Option Addr) (b : Nat) (w : World) (hmd : ModIs w A0 c0 l0 A1 c1 l1 A2 c2 l2 A3 c3 l3) (hsz : ∀ s ∈ l1, s.size ≤ reachBytes)
    (hG : w.heap[g]? = some (.cells #[.slice A0 l0.length c0, .slice A1 l1.length c1, .slice A2 l2.length c2, .slice A3 l3.length c3] 30 (0, 0))) (hb : t.f0.length ≤ b) (hB : Kd.C (Kd.int .i64) w B t.f0.length t.f0) :
    Calls Tryd.prog 49 #[.agg #[.slice B t.f0.length b, .bool t.f1, .bool t.f2], .pointer (some ⟨g, 0, none⟩)] w fun e w' => e = .returned (.bool (!(tabS l1 t))) ∧ Below w.heap.size w w' := by
  have hA := (Below.refl w.heap.size w).alloc (Nat.le_refl _) (.cells #[.slice B t.f0.length b, .bool t.f1, .bool t.f2] 41 (0, 0))
  have HP := Aside0.mk (table_calls t B b _ (hmd.below hA) hsz hb (Kd.C_below hB hA))
  have HA := Aside0.mk hA
  have hG' := blk_below hG hA
  have hX := blk_new w (.cells #[.slice B t.f0.length b, .bool t.f1, .bool t.f2] 41 (0, 0))
  have g0 := (blk_cell hG' 0).trans rfl
  have g1 := (blk_cell hG' 1).trans rfl
  have g2 := (blk_cell hG' 2).trans rfl
  have g3 := (blk_cell hG' 3).trans rfl
  have x0 := (blk_cell hX 0).trans rfl
  have x1 := (blk_cell hX 1).trans rfl
  have x2 := (blk_cell hX 2).trans rfl
  clear hG' hX hG hA hmd hB hb hsz
  go_enter Tryd.func49, Tryd.ntmps49
  go_wp2_with (go_at_call 50; refine HP.out.mono ?_; rintro e w' ⟨rfl, hb⟩)
  go_ret
  exact ⟨rfl, HA.out.trans (hb.mono (by simp))⟩
def mx2 (x y : Int) : Int := if x < y then y else x
theorem mx2_le (x y m : Int) : mx2 x y ≤ m ↔ x ≤ m ∧ y ≤ m := by unfold mx2; split <;> omega
theorem mx4_run (w : World) (ts : Array TypeId) (t : TypeId) (a b c d : Int) : (Builtin.max_ ts t #[.int .i64 a, .int .i64 b, .int .i64 c, .int .i64 d]).run Tryd.prog w = .ok (.int .i64 (mx2 (mx2 (mx2 a b) c) d)) w := by
  simp [Builtin.max_, Builtin.max2]
  rfl
theorem mx4_le (a b c d m : Int) : mx2 (mx2 (mx2 a b) c) d ≤ m ↔ a ≤ m ∧ b ≤ m ∧ c ≤ m ∧ d ≤ m := by
  rw [mx2_le, mx2_le, mx2_le]; omega
/-- may a module be? -/
def mayS (ins : S44 → S32 → Bool) (l0 : List Int) (l1 : List ByteArray) (l2 : List S44) (l3 : List S41) : Bool :=
  if h : (l0.length ≤ 4096 ∧ l1.length ≤ 4096 ∧ l2.length ≤ 4096 ∧ l3.length ≤ 4096) ∧ l2 ≠ [] then
    (if (l2.head h.2).f0 = 0 ∧ (l2.head h.2).f2 = 0 then (!(l1.any longB) && !(l3.any fun t => !(tabS l1 t)) && !(l2.any fun p => !(protoS (ins p) p))) else false)
  else false
set_option maxHeartbeats 3200000 in
set_option maxRecDepth 1000000 in
theorem may_calls (ins : S44 → S32 → Bool) (w : World) (hmd : ModIs w A0 c0 l0 A1 c1 l1 A2 c2 l2 A3 c3 l3) (hM : MaxOk w) (hsz : ∀ s ∈ l1, s.size ≤ reachBytes)
    (hx : ∀ pr ∈ l2, ∀ x ∈ pr.f3, ∃ k, code_instr.f k l0 l1 l2 l3 pr.f0 pr.f1 pr.f2 pr.f3 x.f0 x.f1 = some (ins pr x)) :
    Calls Tryd.prog 24 #[.agg #[.slice A0 l0.length c0, .slice A1 l1.length c1, .slice A2 l2.length c2, .slice A3 l3.length c3]] w fun e w' => e = .returned (.bool (mayS ins l0 l1 l2 l3)) ∧ Below w.heap.size w w' := by
  have hA := (Below.refl w.heap.size w).alloc (Nat.le_refl _) (.cells #[.slice A0 l0.length c0, .slice A1 l1.length c1, .slice A2 l2.length c2, .slice A3 l3.length c3] 30 (0, 0))
  have hG := blk_new w (.cells #[.slice A0 l0.length c0, .slice A1 l1.length c1, .slice A2 l2.length c2, .slice A3 l3.length c3] 30 (0, 0))
  have g0 := (blk_cell hG 0).trans rfl
  have g1 := (blk_cell hG 1).trans rfl
  have g2 := (blk_cell hG 2).trans rfl
  have g3 := (blk_cell hG 3).trans rfl
  have m0 := Kd.C_max hmd.r0
  have m1 := Kd.C_max hmd.r1
  have m2 := Kd.C_max hmd.r2
  have m3 := Kd.C_max hmd.r3
  have hmx := fun (u : World) (ts : Array TypeId) (ty : TypeId) => mx4_run u ts ty (l0.length : Int) (l1.length : Int) (l2.length : Int) (l3.length : Int)
  have hle := mx4_le (l0.length : Int) (l1.length : Int) (l2.length : Int) (l3.length : Int) 4096
  have hle2 := mx4_le (l0.length : Int) (l1.length : Int) (l2.length : Int) (l3.length : Int) 9223372036854775807
  have hge := mx4_le (l0.length : Int) (l1.length : Int) (l2.length : Int) (l3.length : Int) (-1)
  generalize mx2 (mx2 (mx2 (l0.length : Int) (l1.length : Int)) (l2.length : Int)) (l3.length : Int) = M at hmx hle hle2 hge
  have mM := hle2.2 ⟨by omega, by omega, by omega, by omega⟩
  replace hge : 0 ≤ M := by omega
  clear hle2
  have HMD := Aside0.mk (hmd.below hA)
  by_cases k1 : M ≤ 4096
  case neg =>
    have e_ : mayS ins l0 l1 l2 l3 = false := by unfold mayS; rw [dif_neg]; intro h; omega
    have d1 : decide (4096 < M) = true := decide_eq_true (by omega)
    rw [e_]
    have HA := Aside0.mk hA
    clear e_ hA hG hmd hM hsz hx hle k1
    go_enter Tryd.func24, Tryd.ntmps24
    go_wp2
    go_ret
    exact ⟨rfl, HA.out⟩
  have d1 : decide (4096 < M) = false := decide_eq_false (by omega)
  by_cases k2 : l2 = []
  case pos =>
    have e_ : mayS ins l0 l1 l2 l3 = false := by unfold mayS; rw [dif_neg]; intro h; exact h.2 k2
    have d2 : ((l2.length : Int) == 0) = true := by rw [k2]; rfl
    rw [e_]
    have HA := Aside0.mk hA
    clear e_ hA hG hmd hM hsz hx hle k1 k2
    go_enter Tryd.func24, Tryd.ntmps24
    go_wp2
    go_ret
    exact ⟨rfl, HA.out⟩
  have d2 : ((l2.length : Int) == 0) = false := beq_eq_false_iff_ne.2 (by intro h; exact k2 (List.eq_nil_of_length_eq_zero (by omega)))
  obtain ⟨y, ys, hyl⟩ := List.exists_cons_of_ne_nil k2
  have hpos : 0 < (l2.length : Int) := by rw [hyl]; simp
  have hat := at_T44 HMD.out.r2 0 (by omega) (by omega)
  have hy0 : rd_T44 l2 0 = y := by rw [hyl]; rfl
  rw [hy0] at hat
  obtain ⟨ad, B, b, ea, q0, q1, q2, q3, hl1, hC1⟩ := hat
  subst ea
  have e0 : mayS ins l0 l1 l2 l3 = if y.f0 = 0 ∧ y.f2 = 0 then (!(l1.any longB) && !(l3.any fun t => !(tabS l1 t)) && !(l2.any fun p => !(protoS (ins p) p))) else false := by
    subst hyl
    unfold mayS
    rw [dif_pos ⟨by omega, by simp⟩]
    rfl
  have ea0 : ad.add ((0 : Int).toNat * 4) = ad := by cases ad; rfl
  rw [ea0] at q0 q1 q2
  clear hy0 hC1 hl1 q3 ea0
  by_cases k3 : y.f0 = 0
  case neg =>
    have e_ : mayS ins l0 l1 l2 l3 = false := by rw [e0, if_neg (fun h => k3 h.1)]
    have d3 : (y.f0 != 0) = true := by simp [k3]
    rw [e_]
    have HA := Aside0.mk hA
    clear e_ hA hG hmd hM hsz hx hle k1 k2 e0 hyl k3
    go_enter Tryd.func24, Tryd.ntmps24
    go_wp2
    go_ret
    exact ⟨rfl, HA.out⟩
  have d3 : (y.f0 != 0) = false := by simp [k3]
  by_cases k4 : y.f2 = 0
  case neg =>
    have e_ : mayS ins l0 l1 l2 l3 = false := by rw [e0, if_neg (fun h => k4 h.2)]
    have d4 : (y.f2 != 0) = true := by simp [k4]
    rw [e_]
    have HA := Aside0.mk hA
    clear e_ hA hG hmd hM hsz hx hle k1 k2 e0 hyl k3 k4
    go_enter Tryd.func24, Tryd.ntmps24
    go_wp2
    go_ret
    exact ⟨rfl, HA.out⟩
  have d4 : (y.f2 != 0) = false := by simp [k4]
  rw [if_pos ⟨k3, k4⟩] at e0
  rw [e0]
  have HA := Aside0.mk hA
  have HS := Aside0.mk (conS_calls A1 c1 l1 _ HMD.out.r1)
  have HH := Aside0.mk (con41_calls w.heap.size (fun t => !(tabS l1 t)) A3 c3 l3 _ HMD.out.r3 (fun x W hxm hbw B b hb hB => clo49_calls w.heap.size x B b W (HMD.out.below hbw) hsz (blk_below hG hbw) hb hB))
  have hMX := hM.below hA
  have HF := Aside0.mk (fun (w2 : World) (hb2 : Below (w.alloc (.cells #[.slice A0 l0.length c0, .slice A1 l1.length c1, .slice (some ad) l2.length c2, .slice A3 l3.length c3] 30 (0, 0))).heap.size (w.alloc (.cells #[.slice A0 l0.length c0, .slice A1 l1.length c1, .slice (some ad) l2.length c2, .slice A3 l3.length c3] 30 (0, 0))) w2) => con44_calls w.heap.size (fun p => !(protoS (ins p) p)) (some ad) c2 l2 w2 (HMD.out.below hb2).r2 (fun x W hxm hbw B b hb hB => clo51_calls w.heap.size x B b (ins x) W ((HMD.out.below hb2).below hbw) ((hMX.below hb2).below hbw) (blk_below (blk_below hG hb2) hbw) hb hB (hx x hxm)))
  have HG := Aside0.mk hG
  clear e0 hA hG hmd hM hMX hsz hx hle k1 k2 hyl k3 k4
  cases hs : l1.any longB with
  | true =>
    have HSB := Aside0.mk hs
    clear hs
    go_enter Tryd.func24, Tryd.ntmps24
    go_wp2_with (go_at_call 53; refine HS.out.mono ?_; rintro e w' ⟨rfl, rfl⟩; rw [HSB.out])
    go_ret
    exact ⟨rfl, HA.out⟩
  | false =>
    have HSB := Aside0.mk hs
    clear hs
    cases hh : l3.any fun t => !(tabS l1 t) with
    | true =>
      have HHB := Aside0.mk hh
      clear hh
      go_enter Tryd.func24, Tryd.ntmps24
      go_wp2_with (first | (go_at_call 53; refine HS.out.mono ?_; rintro e w' ⟨rfl, rfl⟩; rw [HSB.out]) | (go_at_call 54; refine HH.out.mono ?_; rintro e w' ⟨rfl, hb1⟩; rw [HHB.out]))
      go_ret
      exact ⟨rfl, HA.out.trans (hb1.mono (by simp))⟩
    | false =>
      have HHB := Aside0.mk hh
      clear hh
      obtain ⟨r, hr⟩ : ∃ r, (l2.any fun p => !(protoS (ins p) p)) = r := ⟨_, rfl⟩
      rw [hr] at HF ⊢
      clear hr
      go_enter Tryd.func24, Tryd.ntmps24
      go_wp2_with (first | (go_at_call 53; refine HS.out.mono ?_; rintro e w' ⟨rfl, rfl⟩; rw [HSB.out]) | (go_at_call 54; refine HH.out.mono ?_; rintro e w2 ⟨rfl, hb1⟩; rw [HHB.out]; have HB1 := Aside0.mk hb1; have g2' := (blk_cell (blk_below HG.out hb1) 2).trans rfl; clear hb1) | (go_at_call 55; refine (HF.out _ HB1.out).mono ?_; rintro e w3 ⟨rfl, hb3⟩))
      go_ret
      exact ⟨by simp, HA.out.trans ((HB1.out.mono (by simp)).trans (hb3.mono (by have := HB1.out.size; simp at this; omega)))⟩
end
end Go.Proofs.YtfncoldcjhkhiaaDoor.NW
