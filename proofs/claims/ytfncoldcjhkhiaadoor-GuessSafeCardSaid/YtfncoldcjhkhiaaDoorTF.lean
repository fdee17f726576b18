/- A way has pure instructions alone, and at its end an OpAgain. -/
import Derived.Test.YtfncoldcjhkhiaaDoorKf
import Derived.Test.YtfncoldcjhkhiaaDoorTA
import Derived.Test.YtfncoldcjhkhiaaDoorTE
import Derived.Test.YtfncoldcjhkhiaaDoorGl
import Derived.Test.YtfncoldcjhkhiaaDoorPCx6
import Derived.Deep.QuietTactic
import Derived.BigQuiet
namespace Go.Proofs.YtfncoldcjhkhiaaDoor.NW
open Go.RowKit Go.Proofs.YtfncoldcjhkhiaaDoorW.PrintWords Go.Proofs.YtfncoldcjhkhiaaDoorW.PrintMore Go.Proofs.YtfncoldcjhkhiaaDoor.PC Go.Proofs.YtfncoldcjhkhiaaDoor.Pure
set_option linter.unusedVariables false
set_option linter.unusedSimpArgs false
section
variable {A0 : Option Addr} {c0 : Nat} {l0 : List Int} {A1 : Option Addr} {c1 : Nat} {l1 : List ByteArray} {A2 : Option Addr} {c2 : Nat} {l2 : List S44} {A3 : Option Addr} {c3 : Nat} {l3 : List S41}
theorem way_is {a : Int} {r : List Int × Bool} (hr : wayS l0 l1 l2 l3 a = r) (w : World) (h : FitM l0 l1 l2 l3) (hsz : ∀ s ∈ l1, s.size ≤ reachBytes) (hM : MaxOk w) (hmd : ModIs w A0 c0 l0 A1 c1 l1 A2 c2 l2 A3 c3 l3) :
    Calls Tryd.prog 35 #[.agg #[.slice A0 l0.length c0, .slice A1 l1.length c1, .slice A2 l2.length c2, .slice A3 l3.length c3], .int .i64 a] w (WayPost w r) := by rw [← hr]; exact way_calls w h hsz hM hmd a
set_option maxHeartbeats 6400000 in
set_option maxRecDepth 1000000 in
theorem guessSafe_all (w : World) (h : FitM l0 l1 l2 l3) (hsz : ∀ s ∈ l1, s.size ≤ reachBytes) (hM : MaxOk w) (hmd : ModIs w A0 c0 l0 A1 c1 l1 A2 c2 l2 A3 c3 l3) (a : Int) :
    Calls Tryd.prog 14 #[.agg #[.slice A0 l0.length c0, .slice A1 l1.length c1, .slice A2 l2.length c2, .slice A3 l3.length c3], .int .i64 a] w fun e w' => e = .returned (.bool true) ∧ Below w.heap.size w w' := by
  have hA := (Below.refl w.heap.size w).alloc (Nat.le_refl _) (.cells #[.slice A0 l0.length c0, .slice A1 l1.length c1, .slice A2 l2.length c2, .slice A3 l3.length c3] 30 (0, 0))
  have hG := blk_new w (.cells #[.slice A0 l0.length c0, .slice A1 l1.length c1, .slice A2 l2.length c2, .slice A3 l3.length c3] 30 (0, 0))
  have g0 := (blk_cell hG 0).trans rfl
  have g1 := (blk_cell hG 1).trans rfl
  have g2 := (blk_cell hG 2).trans rfl
  have g3 := (blk_cell hG 3).trans rfl
  have HA := Aside0.mk hA
  have HG := Aside0.mk hG
  have HMD := Aside0.mk hmd
  have HMX := Aside0.mk hM
  have HD0 := Aside0.mk (hmd.below hA)
  have HX0 := Aside0.mk (hM.below hA)
  obtain ⟨N1, hck⟩ := ref_check19 h
  have HCK := Aside0.mk (show sacristanref11_Check.f N1 l0 l1 l2 l3 = _ from hck N1 (Nat.le_refl _))
  have HGR := Aside0.mk (great_f l0 l1 l2 l3 2000 (by decide))
  have HH := Aside0.mk h
  have HSZ := Aside0.mk hsz
  have m2 := Kd.C_max hmd.r2
  clear hA hG hck h hsz hM hmd
  cases hgr : greatS l0 l1 l2 l3 with
  | true =>
    rw [hgr] at HGR
    clear hgr
    go_enter Tryd.func14, Tryd.ntmps14
    go_wp2_with (first | (go_at_call 19; refine (sacristanref09_Great.calls 2000 A0 c0 l0 A1 c1 l1 A2 c2 l2 A3 c3 l3 true _ HD0.out.r0 HD0.out.h0 HD0.out.r1 HD0.out.h1 HD0.out.r2 HD0.out.h2 HD0.out.r3 HD0.out.h3 HGR.out).mono ?_; rintro e w1 ⟨rfl, hb1⟩; have HB1 := Aside0.mk (below_then HA.out HA.out.size hb1); clear hb1) | (go_at_call 34; refine (awake_calls19 _ (HMX.out.below HB1.out)).mono ?_; rintro e w2 ⟨rfl, hb2⟩; have HB2 := Aside0.mk (below_then HB1.out HB1.out.size hb2); clear hb2))
    go_ret
    exact ⟨rfl, HB2.out⟩
  | false =>
    rw [hgr] at HGR
    clear hgr
    obtain ⟨rt, hrt⟩ : ∃ rt, ((checkS l0 l1 l2 l3).2 == 0) = rt := ⟨_, rfl⟩
    rw [hrt] at HCK
    clear hrt
    cases hw : (wayS l0 l1 l2 l3 a).2 with
    | false =>
      have HN := Aside0.mk (wayS_false hw)
      clear hw
      cases rt with
      | true =>
        go_enter Tryd.func14, Tryd.ntmps14
        go_wp2_with (first | (go_at_call 19; refine (sacristanref09_Great.calls 2000 A0 c0 l0 A1 c1 l1 A2 c2 l2 A3 c3 l3 false _ HD0.out.r0 HD0.out.h0 HD0.out.r1 HD0.out.h1 HD0.out.r2 HD0.out.h2 HD0.out.r3 HD0.out.h3 HGR.out).mono ?_; rintro e w1 ⟨rfl, hb1⟩; have HB1 := Aside0.mk (below_then HA.out HA.out.size hb1); have HG1 := Aside0.mk (blk_below HG.out hb1); have y0 := (blk_cell HG1.out 0).trans rfl; have y1 := (blk_cell HG1.out 1).trans rfl; have y2 := (blk_cell HG1.out 2).trans rfl; have y3 := (blk_cell HG1.out 3).trans rfl; have HD1 := Aside0.mk (HMD.out.below HB1.out); clear hb1) | (go_at_call 31; refine (sacristanref11_Check.calls N1 A0 c0 l0 A1 c1 l1 A2 c2 l2 A3 c3 l3 (checkS l0 l1 l2 l3).1 true _ HD1.out.r0 HD1.out.h0 HD1.out.r1 HD1.out.h1 HD1.out.r2 HD1.out.h2 HD1.out.r3 HD1.out.h3 HCK.out).mono ?_; rintro e w2 ⟨rfl, hb2⟩; have HB2 := Aside0.mk (below_then HB1.out HB1.out.size hb2); have HG2 := Aside0.mk (blk_below HG1.out hb2); have u0 := (blk_cell HG2.out 0).trans rfl; have u1 := (blk_cell HG2.out 1).trans rfl; have u2 := (blk_cell HG2.out 2).trans rfl; have u3 := (blk_cell HG2.out 3).trans rfl; clear hb2 y0 y1 y2 y3) | (go_at_call 35; refine (way_is HN.out _ HH.out HSZ.out (HMX.out.below HB2.out) (HMD.out.below HB2.out)).mono ?_; rintro e w3 ⟨v3, rfl, hr3, hb3⟩; have hr3' : Kd.R (Kd.int .i64) 3 w3 w2.heap.size (fun _ => True) v3 [] := hr3; have HB3 := Aside0.mk (below_then HB2.out HB2.out.size hb3); have HR3 := Aside0.mk hr3'; obtain ⟨V3, cv3, e3⟩ := Kd.R_slice hr3'; subst e3; clear hb3 hr3 hr3' u0 u1 u2 u3) | (go_at_call 34; refine (awake_calls19 _ (HMX.out.below HB3.out)).mono ?_; rintro e w4 ⟨rfl, hb4⟩; have HB4 := Aside0.mk (below_then HB3.out HB3.out.size hb4); clear hb4))
        go_ret
        exact ⟨rfl, HB4.out⟩
      | false =>
        go_enter Tryd.func14, Tryd.ntmps14
        go_wp2_with (first | (go_at_call 19; refine (sacristanref09_Great.calls 2000 A0 c0 l0 A1 c1 l1 A2 c2 l2 A3 c3 l3 false _ HD0.out.r0 HD0.out.h0 HD0.out.r1 HD0.out.h1 HD0.out.r2 HD0.out.h2 HD0.out.r3 HD0.out.h3 HGR.out).mono ?_; rintro e w1 ⟨rfl, hb1⟩; have HB1 := Aside0.mk (below_then HA.out HA.out.size hb1); have HG1 := Aside0.mk (blk_below HG.out hb1); have y0 := (blk_cell HG1.out 0).trans rfl; have y1 := (blk_cell HG1.out 1).trans rfl; have y2 := (blk_cell HG1.out 2).trans rfl; have y3 := (blk_cell HG1.out 3).trans rfl; have HD1 := Aside0.mk (HMD.out.below HB1.out); clear hb1) | (go_at_call 31; refine (sacristanref11_Check.calls N1 A0 c0 l0 A1 c1 l1 A2 c2 l2 A3 c3 l3 (checkS l0 l1 l2 l3).1 false _ HD1.out.r0 HD1.out.h0 HD1.out.r1 HD1.out.h1 HD1.out.r2 HD1.out.h2 HD1.out.r3 HD1.out.h3 HCK.out).mono ?_; rintro e w2 ⟨rfl, hb2⟩; have HB2 := Aside0.mk (below_then HB1.out HB1.out.size hb2); have HG2 := Aside0.mk (blk_below HG1.out hb2); have u0 := (blk_cell HG2.out 0).trans rfl; have u1 := (blk_cell HG2.out 1).trans rfl; have u2 := (blk_cell HG2.out 2).trans rfl; have u3 := (blk_cell HG2.out 3).trans rfl; clear hb2 y0 y1 y2 y3) | (go_at_call 35; refine (way_is HN.out _ HH.out HSZ.out (HMX.out.below HB2.out) (HMD.out.below HB2.out)).mono ?_; rintro e w3 ⟨v3, rfl, hr3, hb3⟩; have hr3' : Kd.R (Kd.int .i64) 3 w3 w2.heap.size (fun _ => True) v3 [] := hr3; have HB3 := Aside0.mk (below_then HB2.out HB2.out.size hb3); have HR3 := Aside0.mk hr3'; obtain ⟨V3, cv3, e3⟩ := Kd.R_slice hr3'; subst e3; clear hb3 hr3 hr3' u0 u1 u2 u3) | (go_at_call 34; refine (awake_calls19 _ (HMX.out.below HB3.out)).mono ?_; rintro e w4 ⟨rfl, hb4⟩; have HB4 := Aside0.mk (below_then HB3.out HB3.out.size hb4); clear hb4))
        go_ret
        exact ⟨rfl, HB4.out⟩
    | true =>
      cases rt with
      | false =>
        obtain ⟨L, hL⟩ : ∃ L, (wayS l0 l1 l2 l3 a).1 = L := ⟨_, rfl⟩
        have HN := Aside0.mk (show wayS l0 l1 l2 l3 a = (L, true) from Prod.ext hL hw)
        clear hw hL
        go_enter Tryd.func14, Tryd.ntmps14
        go_wp2_with (first | (go_at_call 19; refine (sacristanref09_Great.calls 2000 A0 c0 l0 A1 c1 l1 A2 c2 l2 A3 c3 l3 false _ HD0.out.r0 HD0.out.h0 HD0.out.r1 HD0.out.h1 HD0.out.r2 HD0.out.h2 HD0.out.r3 HD0.out.h3 HGR.out).mono ?_; rintro e w1 ⟨rfl, hb1⟩; have HB1 := Aside0.mk (below_then HA.out HA.out.size hb1); have HG1 := Aside0.mk (blk_below HG.out hb1); have y0 := (blk_cell HG1.out 0).trans rfl; have y1 := (blk_cell HG1.out 1).trans rfl; have y2 := (blk_cell HG1.out 2).trans rfl; have y3 := (blk_cell HG1.out 3).trans rfl; have HD1 := Aside0.mk (HMD.out.below HB1.out); clear hb1) | (go_at_call 31; refine (sacristanref11_Check.calls N1 A0 c0 l0 A1 c1 l1 A2 c2 l2 A3 c3 l3 (checkS l0 l1 l2 l3).1 false _ HD1.out.r0 HD1.out.h0 HD1.out.r1 HD1.out.h1 HD1.out.r2 HD1.out.h2 HD1.out.r3 HD1.out.h3 HCK.out).mono ?_; rintro e w2 ⟨rfl, hb2⟩; have HB2 := Aside0.mk (below_then HB1.out HB1.out.size hb2); have HG2 := Aside0.mk (blk_below HG1.out hb2); have u0 := (blk_cell HG2.out 0).trans rfl; have u1 := (blk_cell HG2.out 1).trans rfl; have u2 := (blk_cell HG2.out 2).trans rfl; have u3 := (blk_cell HG2.out 3).trans rfl; clear hb2 y0 y1 y2 y3) | (go_at_call 35; refine (way_is HN.out _ HH.out HSZ.out (HMX.out.below HB2.out) (HMD.out.below HB2.out)).mono ?_; rintro e w3 ⟨v3, rfl, hr3, hb3⟩; have hr3' : Kd.R (Kd.int .i64) 3 w3 w2.heap.size (fun _ => True) v3 L := hr3; have HB3 := Aside0.mk (below_then HB2.out HB2.out.size hb3); have HR3 := Aside0.mk hr3'; obtain ⟨V3, cv3, e3⟩ := Kd.R_slice hr3'; subst e3; clear hb3 hr3 hr3' u0 u1 u2 u3) | (go_at_call 34; refine (awake_calls19 _ (HMX.out.below HB3.out)).mono ?_; rintro e w4 ⟨rfl, hb4⟩; have HB4 := Aside0.mk (below_then HB3.out HB3.out.size hb4); clear hb4))
        go_ret
        exact ⟨rfl, HB4.out⟩
      | true =>
        obtain ⟨hD, h2, hwl⟩ := wayS_true hw
        obtain ⟨L, hL⟩ : ∃ L, (wayS l0 l1 l2 l3 a).1 = L := ⟨_, rfl⟩
        rw [hL] at hwl
        have HN := Aside0.mk (show wayS l0 l1 l2 l3 a = (L, true) from Prod.ext hL hw)
        have hg := good_of ((may_good hD.2.1).1 _ (rd44_in hD.1.1 hD.1.2))
        obtain ⟨wy', z, e1, e2, e3, e4, e5, r, e6⟩ := way_safe hD.2.1 hg hD.2.2.1 200 [] 0 (slots0 (rd_T44 l2 a)) [] _ ⟨.start, by unfold slots0; simp⟩ (by simp) (fun x hx => by simp at hx) hwl
        have hn := hg.ins
        have hmem : rd_T44 l2 a ∈ l2 := rd44_in hD.1.1 hD.1.2
        have ha0 := hD.1.1
        have ha1 := hD.1.2
        clear hw hL hwl hD
        obtain ⟨m, hm⟩ : ∃ m, wy'.length = m := ⟨_, rfl⟩
        have hlen : L.length = m + 1 := by rw [e1]; simp [hm]
        have hl200 : L.length ≤ 200 := by simpa using e5
        have hfew := hg.few
        obtain ⟨ad, B, b, ea, q0, q1, q2, q3, hlb, hCB⟩ := at_T44 HMD.out.r2 a ha0 ha1
        generalize hpp : rd_T44 l2 a = p at *
        subst ea
        obtain ⟨adx, eb, _⟩ := at_T32 hCB 0 (by omega) (by have := hg.pos; omega)
        subst eb
        rw [h2] at q0
        have HPS := Aside0.mk (show 0 < L.length by omega)
        have HF0 := Aside0.mk (show rdOf 0 L 0 = 0 by rw [← e6]; rfl)
        -- what is known of a place
        have hin : ∀ (i : Nat) (h : i < L.length), (0 ≤ L[i] ∧ L[i] < p.f3.length) ∧ (i = m → (rd_T32 p.f3 L[i]).f0 = 22) ∧ (i ≠ m → pureB (rd_T32 p.f3 L[i]).f0 (rd_T32 p.f3 L[i]).f1 = true ∧ (rd_T32 p.f3 L[i]).f0 ≠ 14) := by
          intro i h
          by_cases hi : i = m
          · have hz : L[i] = z := by subst e1; subst hm; subst hi; simp
            rw [hz]
            exact ⟨e3.1, fun _ => e3.2, fun hne => absurd hi hne⟩
          · have hm' : L[i] ∈ wy' := by
              have e : L[i] = wy'[i]'(by omega) := by subst e1; rw [List.getElem_append_left]
              rw [e]; exact List.getElem_mem _
            have := e2 _ hm'
            exact ⟨this.1, fun he => absurd he hi, fun _ => this.2⟩
        have HIN := Aside0.mk hin
        have HND := Aside0.mk e4
        have HLEN := Aside0.mk hlen
        have HCB := Aside0.mk hCB
        have HINS := Aside0.mk hn
        have d0 : decide (a < 0) = false := decide_eq_false (by omega)
        have d1 : decide ((l2.length : Int) ≤ a) = false := decide_eq_false (by omega)
        have hL1 : (L.length : Int) ≤ 200 := by omega
        have hL0 : (1 : Int) ≤ (L.length : Int) := by omega
        have hne0 : ((L.length : Int) == 0) = false := beq_eq_false_iff_ne.2 (by omega)
        have hgt : decide ((200 : Int) < (L.length : Int)) = false := decide_eq_false (by omega)
        have hnn : (p.f3.length : Int) ≤ 9223372036854775807 := by omega
        clear hg e1 e2 e3 e4 e5 e6 hn hlen hl200 h2 hin hCB hmem hpp hm hlb hfew
        go_enter Tryd.func14, Tryd.ntmps14
        go_wp2_with (first | (go_at_call 19; refine (sacristanref09_Great.calls 2000 A0 c0 l0 A1 c1 l1 (some ad) c2 l2 A3 c3 l3 false _ HD0.out.r0 HD0.out.h0 HD0.out.r1 HD0.out.h1 HD0.out.r2 HD0.out.h2 HD0.out.r3 HD0.out.h3 HGR.out).mono ?_; rintro e w1 ⟨rfl, hb1⟩; have HB1 := Aside0.mk (below_then HA.out HA.out.size hb1); have HG1 := Aside0.mk (blk_below HG.out hb1); have y0 := (blk_cell HG1.out 0).trans rfl; have y1 := (blk_cell HG1.out 1).trans rfl; have y2 := (blk_cell HG1.out 2).trans rfl; have y3 := (blk_cell HG1.out 3).trans rfl; have HD1 := Aside0.mk (HMD.out.below HB1.out); clear hb1) | (go_at_call 31; refine (sacristanref11_Check.calls N1 A0 c0 l0 A1 c1 l1 (some ad) c2 l2 A3 c3 l3 (checkS l0 l1 l2 l3).1 true _ HD1.out.r0 HD1.out.h0 HD1.out.r1 HD1.out.h1 HD1.out.r2 HD1.out.h2 HD1.out.r3 HD1.out.h3 HCK.out).mono ?_; rintro e w2 ⟨rfl, hb2⟩; have HB2 := Aside0.mk (below_then HB1.out HB1.out.size hb2); have HG2 := Aside0.mk (blk_below HG1.out hb2); have u0 := (blk_cell HG2.out 0).trans rfl; have u1 := (blk_cell HG2.out 1).trans rfl; have u2 := (blk_cell HG2.out 2).trans rfl; have u3 := (blk_cell HG2.out 3).trans rfl; clear hb2 y0 y1 y2 y3) | (go_at_call 35; go_loud (refine (way_is HN.out _ HH.out HSZ.out (HMX.out.below HB2.out) (HMD.out.below HB2.out)).mono ?_; rintro e w3 ⟨v3, rfl, hr3, hb3⟩; have hr3' : Kd.R (Kd.int .i64) 3 w3 w2.heap.size (fun _ => True) v3 L := hr3; have HB3 := Aside0.mk (below_then HB2.out HB2.out.size hb3); obtain ⟨gb, cap, e3, _⟩ := Kd.R_form hr3' HPS.out; subst e3; have HR3 := Aside0.mk hr3'; have hfst : w3.cell? ⟨gb, 0, none⟩ = some (.int .i64 0) := ((Kd.R_celln 0 hr3' 0 (by omega) (by have := HPS.out; omega)).1).trans (congrArg (fun x => some (Value.int .i64 x)) HF0.out); have hq0 := (HB3.out.cell (World.block_lt_of_cell? _ _ q0)).trans q0; have hq1 := (HB3.out.cell (World.block_lt_of_cell? _ _ q1)).trans q1; have hq2 := (HB3.out.cell (World.block_lt_of_cell? _ _ q2)).trans q2; have hq3 := (HB3.out.cell (World.block_lt_of_cell? _ _ q3)).trans q3; have HG3 := Aside0.mk (blk_below HG2.out hb3); have x0 := (blk_cell HG3.out 0).trans rfl; have x1 := (blk_cell HG3.out 1).trans rfl; have x2 := (blk_cell HG3.out 2).trans rfl; have x3 := (blk_cell HG3.out 3).trans rfl; clear hb3 hr3 hr3' u0 u1 u2 u3)))
        clear hfst hq0 hq1 hq2 x0 x1 x3 q0 q1 q2 q3 g0 g1 g2 g3
        go_loopw [9] (fun s9 wr => ∃ i : Nat, i ≤ L.length ∧ s9 = .int .i64 (i : Int) ∧ Aside0 (Below w3.heap.size w3 wr)) (fun s9 _ => L.length - (intOf s9).toNat)
        case atStart => exact ⟨0, Nat.zero_le _, rfl, ⟨Below.refl _ _⟩⟩
        case round =>
          obtain ⟨i, hi, rfl, hbw⟩ := hrel
          have HBW := Aside0.mk hbw.out
          clear hbw
          by_cases hlt : i < L.length
          · obtain ⟨⟨hy0, hy1⟩, hlast, hmid⟩ := HIN.out i hlt
            have ci := (Kd.R_celln 0 (Kd.R_below HR3.out HBW.out) (i : Int) (by omega) (by omega)).1
            rw [Int.toNat_natCast, show rdOf 0 L (i : Int) = L[i] by unfold rdOf; rw [Int.toNat_natCast, List.getD_eq_getElem?_getD, List.getElem?_eq_getElem hlt]; rfl] at ci
            have v2 := (HBW.out.cell (World.block_lt_of_cell? _ _ x2)).trans x2
            have v3 := (HBW.out.cell (World.block_lt_of_cell? _ _ hq3)).trans hq3
            obtain ⟨y, hy⟩ : ∃ y, L[i] = y := ⟨_, rfl⟩
            rw [hy] at ci hy0 hy1 hlast hmid
            obtain ⟨ad2, ea2, k0, k1⟩ := at_T32 (Kd.C_below (Kd.C_below HCB.out HB3.out) HBW.out) y hy0 hy1
            injection ea2 with ea2
            subst ea2
            have h16 : (rd_T32 p.f3 y).f0 = 16 → 0 ≤ (rd_T32 p.f3 y).f1 ∧ (rd_T32 p.f3 y).f1 < 32 := fun h => by
              have h0 := HINS.out _ (rd32_in (show y.toNat < p.f3.length by omega))
              unfold insM insS at h0
              rw [Bool.and_eq_true] at h0
              have h1 := h0.1
              rw [h, show effS 16 (rd_T32 p.f3 y).f1 l0.length l1.length l2 l3 = okS (takesW (rd_T32 p.f3 y).f1) 1 (placeB (rd_T32 p.f3 y).f1 32) by unfold effS; simp] at h1
              exact of_decide_eq_true (okS_true h1).1
            generalize (rd_T32 p.f3 y).f0 = op at *
            generalize (rd_T32 p.f3 y).f1 = aa at *
            have e0 : decide (y < 0) = false := decide_eq_false (by omega)
            have e1 : decide ((p.f3.length : Int) ≤ y) = false := decide_eq_false (by omega)
            have b0 : (0 : Int) ≤ (i : Int) := by omega
            have b1 : (i : Int) < (L.length : Int) := by omega
            have HHL := Aside0.mk hlast
            have HHM := Aside0.mk hmid
            have H16 := Aside0.mk h16
            have HLT0 := Aside0.mk hlt
            have HY := Aside0.mk hy
            clear hlast hmid h16 hy hi
            go_wp2_with fail
            go_quiet (fail)
            go_wp2_with fail
            obtain ⟨W2, hW2⟩ : ∃ W2, W2 = wr.drewN nq := ⟨_, rfl⟩
            rw [← hW2]
            have bW2 : Below w3.heap.size w3 W2 := by rw [hW2]; exact HBW.out.trans ((pw_below_drewN (Below.refl _ _) nq).mono HBW.out.size)
            have c2 : W2.cell? ⟨w.heap.size, 2, none⟩ = some (.slice (some ad) l2.length c2) := (bW2.cell (World.block_lt_of_cell? _ _ x2)).trans x2
            have c3 := (bW2.cell (World.block_lt_of_cell? _ _ hq3)).trans hq3
            have bB : Below wr.heap.size wr W2 := by rw [hW2]; exact pw_below_drewN (Below.refl _ _) nq
            have c4 := (bB.cell (World.block_lt_of_cell? _ _ ci)).trans ci
            have c5 := (bB.cell (World.block_lt_of_cell? _ _ k0)).trans k0
            have c6 := (bB.cell (World.block_lt_of_cell? _ _ k1)).trans k1
            have hAz := ((Below.refl W2.heap.size W2).alloc (Nat.le_refl _) (.cells #[.int .u8 0, .int .i64 0] 32 (0, 0))).drew
            have z2 := (hAz.cell (World.block_lt_of_cell? _ _ c2)).trans c2
            have z3 := (hAz.cell (World.block_lt_of_cell? _ _ c3)).trans c3
            have z4 := (hAz.cell (World.block_lt_of_cell? _ _ c4)).trans c4
            have z5 := (hAz.cell (World.block_lt_of_cell? _ _ c5)).trans c5
            have z6 := (hAz.cell (World.block_lt_of_cell? _ _ c6)).trans c6
            have hXz := blk_drew (blk_new W2 (.cells #[.int .u8 0, .int .i64 0] 32 (0, 0)))
            have i0 : ((W2.alloc (.cells #[.int .u8 0, .int .i64 0] 32 (0, 0))).drew).cell? ⟨W2.heap.size, 0, none⟩ = some (.int .u8 0) := (blk_cell hXz 0).trans rfl
            have i1 : ((W2.alloc (.cells #[.int .u8 0, .int .i64 0] 32 (0, 0))).drew).cell? ⟨W2.heap.size, 1, none⟩ = some (.int .i64 0) := (blk_cell hXz 1).trans rfl
            have j0 := blk_frozen hXz 0
            have j1 := blk_frozen hXz 1
            have HBW2 := Aside0.mk bW2
            clear hW2 bW2 bB ci k0 k1 v2 v3 hAz hXz
            go_region
            obtain ⟨W3, hW3⟩ : ∃ W3, (W2.alloc (.cells #[.int .u8 op, .int .i64 aa] 32 (0, 0))).drew = W3 := ⟨_, rfl⟩
            have X3 := blk_drew (blk_new W2 (.cells #[.int .u8 op, .int .i64 aa] 32 (0, 0)))
            have B3 : Below w3.heap.size w3 (W2.alloc (.cells #[.int .u8 op, .int .i64 aa] 32 (0, 0))).drew := (below_then HBW2.out HBW2.out.size (below_alloc (Below.refl _ _) _)).drew
            rw [hW3] at X3 B3 ⊢
            have o0 : W3.cell? ⟨W2.heap.size, 0, none⟩ = some (.int .u8 op) := (blk_cell X3 0).trans rfl
            have o1 : W3.cell? ⟨W2.heap.size, 1, none⟩ = some (.int .i64 aa) := (blk_cell X3 1).trans rfl
            have HX3 := Aside0.mk X3
            have BW3 := Aside0.mk B3
            clear hW3 X3 B3 c2 c3 c4 c5 c6 z2 z3 z4 z5 z6 i0 i1 j0 j1
            have hlt := HLT0.out
            have hlast := HHL.out
            have hmid := HHM.out
            have h16 := H16.out
            have hy := HY.out
            have hi := Nat.le_of_lt HLT0.out
            by_cases him : i = m
            · have lb : ((i : Int) == (L.length : Int) - 1) = true := beq_iff_eq.2 (by have := HLEN.out; omega)
              obtain rfl := hlast him
              have BW4 := BW3
              clear him hlast hmid h16 hy hlt hi
              go_wp2_with fail
              have hlt := HLT0.out
              have hi : i ≤ L.length := Nat.le_of_lt hlt
              have hlast := 0; have hmid := 0; have hy := 0; have h16 := 0
              go_loopw [12] (fun s12 wq => ∃ j : Nat, j ≤ i ∧ s12 = .int .i64 (j : Int) ∧ Aside0 (Below w3.heap.size w3 wq)) (fun s12 _ => i - (intOf s12).toNat)
              case atStart => exact ⟨0, Nat.zero_le _, rfl, BW4⟩
              case round =>
                obtain ⟨j, hj, rfl, hbq⟩ := hrel
                have HBQ := Aside0.mk hbq.out
                clear hbq
                by_cases hji : j < i
                · have ci := (Kd.R_celln 0 (Kd.R_below HR3.out HBQ.out) (i : Int) (by omega) (by omega)).1
                  have cj := (Kd.R_celln 0 (Kd.R_below HR3.out HBQ.out) (j : Int) (by omega) (by omega)).1
                  rw [Int.toNat_natCast, show rdOf 0 L (i : Int) = L[i] by unfold rdOf; rw [Int.toNat_natCast, List.getD_eq_getElem?_getD, List.getElem?_eq_getElem hlt]; rfl] at ci
                  rw [Int.toNat_natCast, show rdOf 0 L (j : Int) = L[j]'(by omega) by unfold rdOf; rw [Int.toNat_natCast, List.getD_eq_getElem?_getD, List.getElem?_eq_getElem (by omega)]; rfl] at cj
                  have hne : (L[j]'(by omega) == L[i]) = false := beq_eq_false_iff_ne.2 fun e => by have := (List.getElem_inj HND.out).1 e; omega
                  obtain ⟨yj, hyj⟩ : ∃ yj, L[j]'(by omega) = yj := ⟨_, rfl⟩
                  obtain ⟨yi, hyi⟩ : ∃ yi, L[i] = yi := ⟨_, rfl⟩
                  rw [hyj] at cj hne
                  rw [hyi] at ci hne
                  have b0 : (0 : Int) ≤ (i : Int) := by omega
                  have b1 : (i : Int) < (L.length : Int) := by omega
                  have b2 : (0 : Int) ≤ (j : Int) := by omega
                  have b3 : (j : Int) < (L.length : Int) := by omega
                  have b4 : (j : Int) < (i : Int) := by omega
                  have HJI := Aside0.mk hji
                  clear hji hj hyj hyi hlt hi hlast hmid hy h16
                  go_wp2_with fail
                  go_quiet (fail)
                  go_wp2_with fail
                  go_roundw
                  case rel => exact ⟨j + 1, HJI.out, by go_num, ⟨HBQ.out.trans ((pw_below_drewN (Below.refl _ _) nq).mono HBQ.out.size)⟩⟩
                  case measure => have := HJI.out; simp [intOf]; omega
                · obtain rfl : j = i := by omega
                  have HLT := Aside0.mk (show j < L.length from hlt)
                  have b1 : (j : Int) < (L.length : Int) := by omega
                  clear hji hj hlt hi hlast hmid hy h16
                  go_wp2_with fail
                  go_roundw
                  case rel => exact ⟨j + 1, HLT.out, by go_num, HBQ⟩
                  case measure => have := HLT.out; simp [intOf]; omega
            · have lb : ((i : Int) == (L.length : Int) - 1) = false := beq_eq_false_iff_ne.2 (by have := HLEN.out; omega)
              obtain ⟨hpb, h14⟩ := hmid him
              have o14 : (op == 14) = false := beq_eq_false_iff_ne.2 h14
              have HPB := Aside0.mk hpb
              clear him hlast hmid h16 hy hpb h14 hlt hi
              go_wp2_with (go_at_call 38; go_loud (refine (refPure_calls op aa H16.out _).mono ?_); rintro e w6 ⟨rfl, hb6⟩; rw [HPB.out]; have BW4 := Aside0.mk (below_then BW3.out BW3.out.size hb6); have o6 := (hb6.cell (World.block_lt_of_cell? _ _ o0)).trans o0; clear hb6)
              have hlt := HLT0.out
              have hi : i ≤ L.length := Nat.le_of_lt hlt
              have hlast := 0; have hmid := 0; have hy := 0; have h16 := 0
              go_loopw [12] (fun s12 wq => ∃ j : Nat, j ≤ i ∧ s12 = .int .i64 (j : Int) ∧ Aside0 (Below w3.heap.size w3 wq)) (fun s12 _ => i - (intOf s12).toNat)
              case atStart => exact ⟨0, Nat.zero_le _, rfl, BW4⟩
              case round =>
                obtain ⟨j, hj, rfl, hbq⟩ := hrel
                have HBQ := Aside0.mk hbq.out
                clear hbq
                by_cases hji : j < i
                · have ci := (Kd.R_celln 0 (Kd.R_below HR3.out HBQ.out) (i : Int) (by omega) (by omega)).1
                  have cj := (Kd.R_celln 0 (Kd.R_below HR3.out HBQ.out) (j : Int) (by omega) (by omega)).1
                  rw [Int.toNat_natCast, show rdOf 0 L (i : Int) = L[i] by unfold rdOf; rw [Int.toNat_natCast, List.getD_eq_getElem?_getD, List.getElem?_eq_getElem hlt]; rfl] at ci
                  rw [Int.toNat_natCast, show rdOf 0 L (j : Int) = L[j]'(by omega) by unfold rdOf; rw [Int.toNat_natCast, List.getD_eq_getElem?_getD, List.getElem?_eq_getElem (by omega)]; rfl] at cj
                  have hne : (L[j]'(by omega) == L[i]) = false := beq_eq_false_iff_ne.2 fun e => by have := (List.getElem_inj HND.out).1 e; omega
                  obtain ⟨yj, hyj⟩ : ∃ yj, L[j]'(by omega) = yj := ⟨_, rfl⟩
                  obtain ⟨yi, hyi⟩ : ∃ yi, L[i] = yi := ⟨_, rfl⟩
                  rw [hyj] at cj hne
                  rw [hyi] at ci hne
                  have b0 : (0 : Int) ≤ (i : Int) := by omega
                  have b1 : (i : Int) < (L.length : Int) := by omega
                  have b2 : (0 : Int) ≤ (j : Int) := by omega
                  have b3 : (j : Int) < (L.length : Int) := by omega
                  have b4 : (j : Int) < (i : Int) := by omega
                  have HJI := Aside0.mk hji
                  clear hji hj hyj hyi hlt hi hlast hmid hy h16
                  go_wp2_with fail
                  go_quiet (fail)
                  go_wp2_with fail
                  go_roundw
                  case rel => exact ⟨j + 1, HJI.out, by go_num, ⟨HBQ.out.trans ((pw_below_drewN (Below.refl _ _) nq).mono HBQ.out.size)⟩⟩
                  case measure => have := HJI.out; simp [intOf]; omega
                · obtain rfl : j = i := by omega
                  have HLT := Aside0.mk (show j < L.length from hlt)
                  have b1 : (j : Int) < (L.length : Int) := by omega
                  clear hji hj hlt hi hlast hmid hy h16
                  go_wp2_with fail
                  go_roundw
                  case rel => exact ⟨j + 1, HLT.out, by go_num, HBQ⟩
                  case measure => have := HLT.out; simp [intOf]; omega
          · obtain rfl : i = L.length := by omega
            have HB3' := Aside0.mk (below_then HB3.out HB3.out.size HBW.out)
            clear hi hlt
            go_wp2_with (go_at_call 34; refine (awake_calls19 _ (HMX.out.below HB3'.out)).mono ?_; rintro e w5 ⟨rfl, hb5⟩; have HB5 := Aside0.mk (below_then HB3'.out HB3'.out.size hb5); clear hb5)
            go_ret
            exact ⟨rfl, HB5.out⟩
end
end Go.Proofs.YtfncoldcjhkhiaaDoor.NW
