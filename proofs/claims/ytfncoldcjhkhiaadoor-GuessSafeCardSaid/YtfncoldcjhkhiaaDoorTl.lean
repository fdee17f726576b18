/- verify.instr. -/
import Derived.Test.YtfncoldcjhkhiaaDoorTk
import Derived.Test.YtfncoldcjhkhiaaDoorPCx3
import Derived.Test.YtfncoldcjhkhiaaDoorPCx9
import Derived.Test.YtfncoldcjhkhiaaDoorTg
namespace Go.Proofs.YtfncoldcjhkhiaaDoor.NW
open Go.RowKit Go.Proofs.YtfncoldcjhkhiaaDoorW.PrintWords Go.Proofs.YtfncoldcjhkhiaaDoorW.PrintMore Go.Proofs.YtfncoldcjhkhiaaDoor.PC
set_option linter.unusedVariables false
set_option linter.unusedSimpArgs false
theorem ChkIs.below {w0 w w1 : World} {g h n cd : Nat} {cs : Value → Value → Array Value} {D T : List Int} {v : Value} (H : ChkIs w0 w g h n cs cd D T v) (hb : Below w.heap.size w w1) : ChkIs w0 w1 g h n cs cd D T v :=
  ⟨blk_below H.blk hb, Kd.R_below H.dR hb, Kd.R_below H.tR hb, below_then H.old H.old.size hb, H.gh, H.gl, H.hl, H.len⟩
def stepS (t l d : Int) : Option Int := if t ≤ d ∧ d + (l - t) ≤ 256 then some (d + (l - t)) else none
def succS (op A a : Int) (ends : Bool) : List Int := (if op = 13 ∨ op = 14 then [A] else []) ++ (if ends = true then [] else [a + 1])
def instrF (n : Nat) (t l op A : Int) (ends : Bool) (D T : List Int) (a : Int) : Bool × List Int × List Int :=
  match stepS t l (Flow.at_ D a) with
  | none => (false, D, T)
  | some e => Flow.goesL n e (succS op A a ends) D T
theorem goesL_one (n : Nat) (e s : Int) (D T : List Int) : Flow.goesL n e (if false = true then [] else [s]) D T = Flow.goesS n D T s e := by
  rw [if_neg (by decide)]
  unfold Flow.goesL Flow.goesL
  cases h : Flow.goesS n D T s e with
  | mk b x =>
    cases b with
    | true => rw [if_pos rfl]
    | false => rw [if_neg (by simp)]
theorem goesL_nil (n : Nat) (e s : Int) (D T : List Int) : Flow.goesL n e (if true = true then [] else [s]) D T = (true, D, T) := by
  rw [if_pos rfl]; rfl
section
variable {A0 : Option Addr} {c0 : Nat} {l0 : List Int} {A1 : Option Addr} {c1 : Nat} {l1 : List ByteArray} {A2 : Option Addr} {c2 : Nat} {l2 : List S44} {A3 : Option Addr} {c3 : Nat} {l3 : List S41}
set_option maxHeartbeats 16000000 in
set_option maxRecDepth 1000000 in
theorem instr_calls (w0 w : World) (g h n cd : Nat) (p : S44) (B : Option Addr) (b : Nat) (D T : List Int) (v : Value) (hmd : ModIs w0 A0 c0 l0 A1 c1 l1 A2 c2 l2 A3 c3 l3) (hM : MaxOk w0) (hb : p.f3.length ≤ b) (hB : Kd.C k32 w0 B p.f3.length p.f3)
    (H : ChkIs w0 w g h n (chkCells A0 l0.length c0 A1 l1.length c1 A2 l2.length c2 A3 l3.length c3 p.f0 p.f1 p.f2 B n b) cd D T v) (hn : p.f3.length = n)
    (a t l : Int) (ok ends : Bool) (ha : 0 ≤ a ∧ a < n) (hn1 : n ≤ 16384) (hT : T.length ≤ 90000) (hd : 0 ≤ Flow.at_ D a ∧ Flow.at_ D a ≤ 256) (ht : 0 ≤ t ∧ t ≤ 1000) (hl : 0 ≤ l ∧ l ≤ 1)
    (hE : ∃ k, code_Effect.f k l0 l1 l2 l3 (rd_T32 p.f3 a).f0 (rd_T32 p.f3 a).f1 = some (t, l, ok)) (hN : code_Ends.f (rd_T32 p.f3 a).f0 = some ends) (hA : (rd_T32 p.f3 a).f0 = 13 ∨ (rd_T32 p.f3 a).f0 = 14 → 0 ≤ (rd_T32 p.f3 a).f1) :
    Calls Tryd.prog 68 #[.pointer (some ⟨g, 0, none⟩), .int .i64 a] w fun x w' => x = .returned (.bool (instrF n t l (rd_T32 p.f3 a).f0 (rd_T32 p.f3 a).f1 ends D T a).1) ∧ ∃ v', ChkIs w0 w' g h n (chkCells A0 l0.length c0 A1 l1.length c1 A2 l2.length c2 A3 l3.length c3 p.f0 p.f1 p.f2 B n b) cd (instrF n t l (rd_T32 p.f3 a).f0 (rd_T32 p.f3 a).f1 ends D T a).2.1 (instrF n t l (rd_T32 p.f3 a).f0 (rd_T32 p.f3 a).f1 ends D T a).2.2 v' := by
  have hK := H.blk
  have g0 : w.cell? ⟨g, 0, none⟩ = some (.slice A0 l0.length c0) := (blk_cell hK 0).trans rfl
  have g1 : w.cell? ⟨g, 1, none⟩ = some (.slice A1 l1.length c1) := (blk_cell hK 1).trans rfl
  have g2 : w.cell? ⟨g, 2, none⟩ = some (.slice A2 l2.length c2) := (blk_cell hK 2).trans rfl
  have g3 : w.cell? ⟨g, 3, none⟩ = some (.slice A3 l3.length c3) := (blk_cell hK 3).trans rfl
  have g7 : w.cell? ⟨g, 7, none⟩ = some (.slice B n b) := (blk_cell hK 7).trans rfl
  have g8 : w.cell? ⟨g, 8, none⟩ = some (.slice (some ⟨h, 0, none⟩) D.length cd) := (blk_cell hK 8).trans rfl
  have hlen := H.len
  have hlt1 : a < (p.f3.length : Int) := by omega
  have hltn : a < (n : Int) := by omega
  have hnn : (n : Int) ≤ 9223372036854775807 := by omega
  have hlt2 : a < (D.length : Int) := by omega
  have ha0 := ha.1
  obtain ⟨q0, qf⟩ := Kd.R_cell 0 H.dR a ha.1 hlt2
  rw [show rdOf 0 D a = Flow.at_ D a from rfl] at q0
  obtain ⟨ad, ea, x0, x1⟩ := at_T32 (Kd.C_below hB H.old) a ha.1 hlt1
  subst ea
  obtain ⟨k, hE⟩ := hE
  generalize hop : (rd_T32 p.f3 a).f0 = op at *
  generalize haa : (rd_T32 p.f3 a).f1 = aa at *
  generalize hdd : Flow.at_ D a = d at *
  have HH := Aside0.mk H
  have HMD := Aside0.mk hmd
  have HMX := Aside0.mk hM
  have HE := Aside0.mk hE
  have HN := Aside0.mk hN
  have HHB := Aside0.mk hB
  clear hE hN hmd hM H hB hK
  have hA := ((Below.refl w.heap.size w).alloc (Nat.le_refl _) (.cells #[.int .u8 0, .int .i64 0] 32 (0, 0))).drew
  have y7 := (hA.cell (World.block_lt_of_cell? w _ g7)).trans g7
  have y8 := (hA.cell (World.block_lt_of_cell? w _ g8)).trans g8
  have yq := (hA.cell (World.block_lt_of_cell? w _ q0)).trans q0
  have yx0 := (hA.cell (World.block_lt_of_cell? w _ x0)).trans x0
  have yx1 := (hA.cell (World.block_lt_of_cell? w _ x1)).trans x1
  have hX := blk_drew (blk_new w (.cells #[.int .u8 0, .int .i64 0] 32 (0, 0)))
  have i0 : ((w.alloc (.cells #[.int .u8 0, .int .i64 0] 32 (0, 0))).drew).cell? ⟨w.heap.size, 0, none⟩ = some (.int .u8 0) := (blk_cell hX 0).trans rfl
  have i1 : ((w.alloc (.cells #[.int .u8 0, .int .i64 0] 32 (0, 0))).drew).cell? ⟨w.heap.size, 1, none⟩ = some (.int .i64 0) := (blk_cell hX 1).trans rfl
  have j0 := blk_frozen hX 0
  have j1 := blk_frozen hX 1
  have hA2 := ((Below.refl w.heap.size w).alloc (Nat.le_refl _) (.cells #[.int .u8 op, .int .i64 aa] 32 (0, 0))).drew
  have z8 := (hA2.cell (World.block_lt_of_cell? w _ g8)).trans g8
  have zq := (hA2.cell (World.block_lt_of_cell? w _ q0)).trans q0
  have z0 := (hA2.cell (World.block_lt_of_cell? w _ g0)).trans g0
  have z1 := (hA2.cell (World.block_lt_of_cell? w _ g1)).trans g1
  have z2 := (hA2.cell (World.block_lt_of_cell? w _ g2)).trans g2
  have z3 := (hA2.cell (World.block_lt_of_cell? w _ g3)).trans g3
  have hX2 := blk_drew (blk_new w (.cells #[.int .u8 op, .int .i64 aa] 32 (0, 0)))
  have v0 : ((w.alloc (.cells #[.int .u8 op, .int .i64 aa] 32 (0, 0))).drew).cell? ⟨w.heap.size, 0, none⟩ = some (.int .u8 op) := (blk_cell hX2 0).trans rfl
  have v1 : ((w.alloc (.cells #[.int .u8 op, .int .i64 aa] 32 (0, 0))).drew).cell? ⟨w.heap.size, 1, none⟩ = some (.int .i64 aa) := (blk_cell hX2 1).trans rfl
  have HA2 := Aside0.mk hA2
  have HX2 := Aside0.mk hX2
  clear hA hX g0 g1 g2 g3 hA2 hX2
  have HO := Aside0.mk (below_then HH.out.old HH.out.old.size HA2.out)
  have HC2 := Aside0.mk (HH.out.below HA2.out)
  have HMDD := Aside0.mk (HMD.out.below HO.out.drew)
  have HMXX := Aside0.mk (HMX.out.below HO.out)
  have hw1 : wrap64 (l - t) = l - t := by unfold wrap64; omega
  have hw2 : wrap64 (d + (l - t)) = d + (l - t) := by unfold wrap64; omega
  have hw3 : wrap64 (a + 1) = a + 1 := by unfold wrap64; omega
  have hgw : w.heap.size ≠ g := by have := blk_lt HH.out.blk; omega
  have hhw : w.heap.size ≠ h := by have := Kd.R_lt HH.out.dR h rfl; omega
  have hvw : some w.heap.size ≠ v.ownBlock := fun e => by have := Kd.R_lt HH.out.tR _ e.symm; omega
  have HGW := Aside0.mk hgw
  have HHW := Aside0.mk hhw
  have HVW := Aside0.mk hvw
  clear hgw hhw hvw
  obtain ⟨r, hr⟩ : ∃ r, instrF n t l op aa ends D T a = r := ⟨_, rfl⟩
  rw [hr]
  have HRR := Aside0.mk hr
  clear hr
  go_enter Tryd.func68, Tryd.ntmps68
  go_wp2_with fail
  go_region
  obtain ⟨W2, hW2⟩ : ∃ W2, (w.alloc (.cells #[.int .u8 op, .int .i64 aa] 32 (0, 0))).drew = W2 := ⟨_, rfl⟩
  rw [hW2] at z0 z1 z2 z3 z8 zq v0 v1 HA2 HX2 HO HC2 HMDD HMXX ⊢
  clear hW2 y7 y8 yq yx0 yx1 i0 i1 j0 j1 g7 g8 q0 x0 x1 qf
  go_wp2_with fail
  go_cut [7, 8, 9] (fun s7 s8 s9 wx => s7 = .int .i64 t ∧ s8 = .int .i64 l ∧ s9 = .bool ok ∧ Aside0 (ChkIs w0 wx g h n (chkCells A0 l0.length c0 A1 l1.length c1 A2 l2.length c2 A3 l3.length c3 p.f0 p.f1 p.f2 (some ad) n b) cd D T v) ∧ Aside0 (wx.heap[w.heap.size]? = some (.cells #[.int .u8 op, .int .i64 aa] 32 (0, 0))))
  case first =>
    go_region_with (go_at_call 20; go_loud (refine (code_Effect.calls k A0 c0 l0 A1 c1 l1 A2 c2 l2 A3 c3 l3 op aa t l ok _ HMDD.out.r0 HMDD.out.h0 HMDD.out.r1 HMDD.out.h1 HMDD.out.r2 HMDD.out.h2 HMDD.out.r3 HMDD.out.h3 HMXX.out.drew HE.out).mono ?_); rintro e w1 ⟨rfl, hb1⟩; have HC1 := Aside0.mk ((HC2.out.below (Below.refl _ W2).drew).below hb1); have HB1 := Aside0.mk hb1; have U := Aside0.mk (blk_below (blk_drew HX2.out) hb1); clear hb1)
    all_goals
      go_wp2_with fail
      go_meet
      exact ⟨rfl, rfl, rfl, HC1, U⟩
  case rest =>
    obtain ⟨rfl, rfl, rfl, HC1, U⟩ := hcut
    have u0 : wc.cell? ⟨w.heap.size, 0, none⟩ = some (.int .u8 op) := (blk_cell U.out 0).trans rfl
    have u1 : wc.cell? ⟨w.heap.size, 1, none⟩ = some (.int .i64 aa) := (blk_cell U.out 1).trans rfl
    clear z0 z1 z2 z3 z8 zq v0 v1
    by_cases k1 : t ≤ d
    case neg =>
      have e_ : instrF n t l op aa ends D T a = (false, D, T) := by unfold instrF stepS; rw [hdd, if_neg (fun h => k1 h.1)]
      have d1 : decide (d < t) = true := decide_eq_true (by omega)
      have HRE := Aside0.mk (HRR.out.symm.trans e_)
      clear e_ k1
      go_wp2_with fail
      go_ret
      exact ⟨by rw [HRE.out]; rfl, v, by rw [HRE.out]; exact HC1.out⟩
    have d1 : decide (d < t) = false := decide_eq_false (by omega)
    by_cases k2 : d + (l - t) ≤ 256
    case neg =>
      have e_ : instrF n t l op aa ends D T a = (false, D, T) := by unfold instrF stepS; rw [hdd, if_neg (fun h => k2 h.2)]
      have d2 : decide (256 < d + (l - t)) = true := decide_eq_true (by omega)
      have HRE := Aside0.mk (HRR.out.symm.trans e_)
      clear e_ k1 k2
      go_wp2_with fail
      go_ret
      exact ⟨by rw [HRE.out]; rfl, v, by rw [HRE.out]; exact HC1.out⟩
    have d2 : decide (256 < d + (l - t)) = false := decide_eq_false (by omega)
    have e_ : instrF n t l op aa ends D T a = Flow.goesL n (d + (l - t)) (succS op aa a ends) D T := by unfold instrF stepS; rw [hdd, if_pos ⟨k1, k2⟩]
    have HRE := Aside0.mk (HRR.out.symm.trans e_)
    have hk1 := k1
    have hk2 := k2
    clear e_ k1 k2
    have HE1 := Aside0.mk (show d + (l - t) ≤ 256 ∧ 0 ≤ d + (l - t) from ⟨hk2, by omega⟩)
    clear hk1 hk2
    generalize hee : d + (l - t) = e at hw2 d2 HRE HE1 ⊢
    have ht1 := hT
    have haa1 := ha.1
    by_cases c13 : op = 13 ∨ op = 14
    · have haa0 := hA c13
      have hs_ : Flow.goesL n e (succS op aa a ends) D T = if (Flow.goesS n D T aa e).1 = true then Flow.goesL n e (if ends = true then [] else [a + 1]) (Flow.goesS n D T aa e).2.1 (Flow.goesS n D T aa e).2.2 else (false, (Flow.goesS n D T aa e).2.1, (Flow.goesS n D T aa e).2.2) := by
        unfold succS; rw [if_pos c13]; rfl
      have HS := Aside0.mk (HRE.out.trans hs_)
      have hTl : (Flow.goesS n D T aa e).2.2.length ≤ T.length + 1 := by
        unfold Flow.goesS
        split
        · exact Nat.le_succ _
        · split
          · simp
          · exact Nat.le_succ _
      have HTL := Aside0.mk (show (Flow.goesS n D T aa e).2.2.length ≤ 100000 by omega)
      replace c13 : ((op == 13) = true) ∨ ((op == 13) = false ∧ (op == 14) = true) := by
        rcases c13 with h | h
        · exact .inl (by rw [h]; rfl)
        · exact .inr ⟨by rw [h]; rfl, by rw [h]; rfl⟩
      clear hs_ hTl
      cases hg1 : (Flow.goesS n D T aa e).1 with
      | false =>
        have HG1 := Aside0.mk hg1
        rw [hg1] at HS
        have HR1 := Aside0.mk (HS.out.trans (if_neg (by decide)))
        clear hg1 HS
        rcases c13 with ⟨c⟩ | ⟨c, c'⟩
        all_goals
          go_wp2_with (go_at_call 67; (with_reducible refine (goes_calls w0 _ g h n cd p.f0 p.f1 p.f2 (some ad) b D T v HC1.out aa e haa0 hn1 (Nat.le_trans hT (by decide))).mono ?_); rintro x w2 ⟨rfl, v1, hC, hKp⟩; have U2 := (hKp.block w.heap.size (blk_lt U.out) HGW.out HHW.out HVW.out).trans U.out; have u2 : w2.cell? ⟨w.heap.size, 0, none⟩ = some (.int .u8 op) := (blk_cell U2 0).trans rfl; have HC2 := Aside0.mk hC; clear hC hKp U2; rw [HG1.out])
          go_ret
          exact ⟨by rw [HR1.out]; rfl, v1, by rw [HR1.out]; exact HC2.out⟩
      | true =>
        have HG1 := Aside0.mk hg1
        rw [hg1] at HS
        have HR1 := Aside0.mk (HS.out.trans (if_pos rfl))
        clear hg1 HS
        cases hen : ends with
        | true =>
          have HEN := Aside0.mk hen
          rw [hen] at HR1
          have HR2 := Aside0.mk (HR1.out.trans (goesL_nil n e (a + 1) (Flow.goesS n D T aa e).2.1 (Flow.goesS n D T aa e).2.2))
          clear hen HR1
          rcases c13 with ⟨c⟩ | ⟨c, c'⟩
          all_goals
            go_wp2_with (first | (go_at_call 67; (with_reducible refine (goes_calls w0 _ g h n cd p.f0 p.f1 p.f2 (some ad) b D T v HC1.out aa e haa0 hn1 (Nat.le_trans hT (by decide))).mono ?_); rintro x w2 ⟨rfl, v1, hC, hKp⟩; have U2 := (hKp.block w.heap.size (blk_lt U.out) HGW.out HHW.out HVW.out).trans U.out; have u2 : w2.cell? ⟨w.heap.size, 0, none⟩ = some (.int .u8 op) := (blk_cell U2 0).trans rfl; have HC2 := Aside0.mk hC; clear hC hKp U2; rw [HG1.out]) | (go_at_call 22; go_loud (refine (code_Ends.calls op ends _ HN.out).mono ?_); rintro x w3 ⟨rfl, hdr⟩; obtain ⟨⟨nd, rfl⟩⟩ := hdr; rw [HEN.out]))
            go_ret
            exact ⟨by rw [HR2.out]; exact rfl, v1, by rw [HR2.out]; exact HC2.out.below (pw_below_drewN (Below.refl _ _) nd)⟩
        | false =>
          have HEN := Aside0.mk hen
          rw [hen] at HR1
          have HR2 := Aside0.mk (HR1.out.trans (goesL_one n e (a + 1) (Flow.goesS n D T aa e).2.1 (Flow.goesS n D T aa e).2.2))
          clear hen HR1
          rcases c13 with ⟨c⟩ | ⟨c, c'⟩
          all_goals
            go_wp2_with (first | (go_at_call 67; (with_reducible refine (goes_calls w0 _ g h n cd p.f0 p.f1 p.f2 (some ad) b D T v HC1.out aa e haa0 hn1 (Nat.le_trans hT (by decide))).mono ?_); rintro x w2 ⟨rfl, v1, hC, hKp⟩; have U2 := (hKp.block w.heap.size (blk_lt U.out) HGW.out HHW.out HVW.out).trans U.out; have u2 : w2.cell? ⟨w.heap.size, 0, none⟩ = some (.int .u8 op) := (blk_cell U2 0).trans rfl; have HC2 := Aside0.mk hC; clear hC hKp U2; rw [HG1.out]) | (go_at_call 22; go_loud (refine (code_Ends.calls op ends _ HN.out).mono ?_); rintro x w3 ⟨rfl, hdr⟩; obtain ⟨⟨nd, rfl⟩⟩ := hdr; rw [HEN.out]) | (go_at_call 67; (with_reducible refine (goes_calls w0 _ g h n cd p.f0 p.f1 p.f2 (some ad) b _ _ v1 (HC2.out.below (pw_below_drewN (Below.refl _ _) nd)) (a + 1) e (Int.le_add_one ha0) hn1 HTL.out).mono ?_); rintro x w4 ⟨rfl, v2, hC4, hK4⟩; have HC4 := Aside0.mk hC4; clear hC4 hK4))
            go_ret
            exact ⟨by rw [HR2.out]; exact rfl, v2, by rw [HR2.out]; exact HC4.out⟩
    · have hs_ : Flow.goesL n e (succS op aa a ends) D T = Flow.goesL n e (if ends = true then [] else [a + 1]) D T := by unfold succS; rw [if_neg c13]; rfl
      have HS := Aside0.mk (HRE.out.trans hs_)
      have o13 : (op == 13) = false := beq_eq_false_iff_ne.2 fun h => c13 (.inl h)
      have o14 : (op == 14) = false := beq_eq_false_iff_ne.2 fun h => c13 (.inr h)
      clear hs_ c13
      cases hen : ends with
      | true =>
        have HEN := Aside0.mk hen
        rw [hen] at HS
        have HR2 := Aside0.mk (HS.out.trans (goesL_nil n e (a + 1) D T))
        clear hen HS
        go_wp2_with (go_at_call 22; go_loud (refine (code_Ends.calls op ends _ HN.out).mono ?_); rintro x w3 ⟨rfl, hdr⟩; obtain ⟨⟨nd, rfl⟩⟩ := hdr; rw [HEN.out])
        go_ret
        exact ⟨by rw [HR2.out]; exact rfl, v, by rw [HR2.out]; exact HC1.out.below (pw_below_drewN (Below.refl _ _) nd)⟩
      | false =>
        have HEN := Aside0.mk hen
        rw [hen] at HS
        have HR2 := Aside0.mk (HS.out.trans (goesL_one n e (a + 1) D T))
        clear hen HS
        go_wp2_with (first | (go_at_call 22; go_loud (refine (code_Ends.calls op ends _ HN.out).mono ?_); rintro x w3 ⟨rfl, hdr⟩; obtain ⟨⟨nd, rfl⟩⟩ := hdr; rw [HEN.out]) | (go_at_call 67; (with_reducible refine (goes_calls w0 _ g h n cd p.f0 p.f1 p.f2 (some ad) b D T v (HC1.out.below (pw_below_drewN (Below.refl _ _) nd)) (a + 1) e (Int.le_add_one ha0) hn1 (Nat.le_trans hT (by decide))).mono ?_); rintro x w4 ⟨rfl, v2, hC4, hK4⟩; have HC4 := Aside0.mk hC4; clear hC4 hK4))
        go_ret
        exact ⟨by rw [HR2.out]; exact rfl, v2, by rw [HR2.out]; exact HC4.out⟩
end
end Go.Proofs.YtfncoldcjhkhiaaDoor.NW
