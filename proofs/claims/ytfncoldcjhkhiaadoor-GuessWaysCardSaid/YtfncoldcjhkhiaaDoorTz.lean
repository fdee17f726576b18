/- The way of any function is the document's. -/
import Derived.Test.YtfncoldcjhkhiaaDoorTA
import Derived.Test.YtfncoldcjhkhiaaDoorTy
import Derived.Test.YtfncoldcjhkhiaaDoorGl
import Derived.Test.YtfncoldcjhkhiaaDoorPCx6
namespace Go.Proofs.YtfncoldcjhkhiaaDoor.NW
open Go.RowKit Go.Proofs.YtfncoldcjhkhiaaDoorW.PrintWords Go.Proofs.YtfncoldcjhkhiaaDoorW.PrintMore Go.Proofs.YtfncoldcjhkhiaaDoor.PC Go.Proofs.YtfncoldcjhkhiaaDoor.Pure
set_option linter.unusedVariables false
set_option linter.unusedSimpArgs false
theorem refWay_len {p : S44} : ∀ (f : Nat) (wy : List Int) (at_ : Int) (s st : List Bool), (wayL p f wy at_ s st).1.length ≤ wy.length + f := by
  intro f
  induction f with
  | zero => intro wy at_ s st; rw [wayL]; exact Nat.zero_le _
  | succ f ih =>
    intro wy at_ s st
    rw [wayL]
    split
    · exact Nat.zero_le _
    · split
      · split
        · simp only [List.length_append, List.length_cons, List.length_nil]; omega
        · exact Nat.zero_le _
      · split
        · simp only [List.length_append, List.length_cons, List.length_nil]; omega
        · have := ih (wy ++ [at_]) (goP p at_ s st).nx (goP p at_ s st).s (goP p at_ s st).st
          simp only [List.length_append, List.length_cons, List.length_nil] at this
          omega
section
variable {A0 : Option Addr} {c0 : Nat} {l0 : List Int} {A1 : Option Addr} {c1 : Nat} {l1 : List ByteArray} {A2 : Option Addr} {c2 : Nat} {l2 : List S44} {A3 : Option Addr} {c3 : Nat} {l3 : List S41}
theorem check_may (h : ((checkS l0 l1 l2 l3).2 == 0) = true) : mayS (insM l0 l1 l2 l3) l0 l1 l2 l3 = true := by
  cases hm : mayS (insM l0 l1 l2 l3) l0 l1 l2 l3 with
  | true => rfl
  | false =>
    unfold checkS at h
    rw [hm, if_neg (by decide)] at h
    exact absurd h (by decide)
theorem refWay_short (a : Int) : (refWay l0 l1 l2 l3 a).1.length ≤ 200 := by
  unfold refWay
  split
  · have := refWay_len (p := rd_T44 l2 a) 200 [] 0 (slots0 (rd_T44 l2 a)) []
    simpa using this
  · exact Nat.zero_le _
theorem aw_calls (w : World) (hM : MaxOk w) : Calls Tryd.prog 34 #[] w fun e w' => e = .returned (.bool true) ∧ Below w.heap.size w w' := awake_calls19 w hM
theorem way_is {a : Int} {r : List Int × Bool} (hr : wayS l0 l1 l2 l3 a = r) (w : World) (h : FitM l0 l1 l2 l3) (hsz : ∀ s ∈ l1, s.size ≤ reachBytes) (hM : MaxOk w) (hmd : ModIs w A0 c0 l0 A1 c1 l1 A2 c2 l2 A3 c3 l3) :
    Calls Tryd.prog 35 #[.agg #[.slice A0 l0.length c0, .slice A1 l1.length c1, .slice A2 l2.length c2, .slice A3 l3.length c3], .int .i64 a] w (WayPost w r) := by rw [← hr]; exact way_calls w h hsz hM hmd a
theorem refWay_is {a : Int} {r : List Int × Bool} (hr : refWay l0 l1 l2 l3 a = r) (w : World) (h : FitM l0 l1 l2 l3) (hmd : ModIs w A0 c0 l0 A1 c1 l1 A2 c2 l2 A3 c3 l3) (hmay : mayS (insM l0 l1 l2 l3) l0 l1 l2 l3 = true) :
    Calls Tryd.prog 36 #[.agg #[.slice A0 l0.length c0, .slice A1 l1.length c1, .slice A2 l2.length c2, .slice A3 l3.length c3], .int .i64 a] w (WayPost w r) := by rw [← hr]; exact refWay_calls w h hmd hmay a
set_option maxHeartbeats 6400000 in
set_option maxRecDepth 1000000 in
theorem guessWays_all (w : World) (h : FitM l0 l1 l2 l3) (hsz : ∀ s ∈ l1, s.size ≤ reachBytes) (hM : MaxOk w) (hmd : ModIs w A0 c0 l0 A1 c1 l1 A2 c2 l2 A3 c3 l3) (a : Int) :
    Calls Tryd.prog 12 #[.agg #[.slice A0 l0.length c0, .slice A1 l1.length c1, .slice A2 l2.length c2, .slice A3 l3.length c3], .int .i64 a] w fun e w' => e = .returned (.bool true) ∧ Below w.heap.size w w' := by
  have hA := (Below.refl w.heap.size w).alloc (Nat.le_refl _) (.cells #[.slice A0 l0.length c0, .slice A1 l1.length c1, .slice A2 l2.length c2, .slice A3 l3.length c3] 30 (0, 0))
  have hG := blk_new w (.cells #[.slice A0 l0.length c0, .slice A1 l1.length c1, .slice A2 l2.length c2, .slice A3 l3.length c3] 30 (0, 0))
  have g0 := (blk_cell hG 0).trans rfl
  have g1 := (blk_cell hG 1).trans rfl
  have g2 := (blk_cell hG 2).trans rfl
  have g3 := (blk_cell hG 3).trans rfl
  have HA := Aside0.mk hA
  have HG := Aside0.mk hG
  have HMD := Aside0.mk hmd
  have HMX := Aside0.mk hM
  have HD0 := Aside0.mk (hmd.below hA)
  have HX0 := Aside0.mk (hM.below hA)
  obtain ⟨N1, hck⟩ := ref_check19 h
  have HCK := Aside0.mk (show sacristanref11_Check.f N1 l0 l1 l2 l3 = _ from hck N1 (Nat.le_refl _))
  have HGR := Aside0.mk (great_f l0 l1 l2 l3 2000 (by decide))
  have HH := Aside0.mk h
  have HSZ := Aside0.mk hsz
  clear hA hG hck h hsz hM hmd
  cases hgr : greatS l0 l1 l2 l3 with
  | true =>
    rw [hgr] at HGR
    clear hgr
    go_enter Tryd.func12, Tryd.ntmps12
    go_wp2_with (first | (go_at_call 19; refine (sacristanref09_Great.calls 2000 A0 c0 l0 A1 c1 l1 A2 c2 l2 A3 c3 l3 true _ HD0.out.r0 HD0.out.h0 HD0.out.r1 HD0.out.h1 HD0.out.r2 HD0.out.h2 HD0.out.r3 HD0.out.h3 HGR.out).mono ?_; rintro e w1 ⟨rfl, hb1⟩; have HB1 := Aside0.mk (below_then HA.out HA.out.size hb1); clear hb1) | (go_at_call 34; refine (aw_calls _ (HMX.out.below HB1.out)).mono ?_; rintro e w2 ⟨rfl, hb2⟩; have HB2 := Aside0.mk (below_then HB1.out HB1.out.size hb2); clear hb2))
    go_ret
    exact ⟨rfl, HB2.out⟩
  | false =>
    rw [hgr] at HGR
    clear hgr
    cases hr : ((checkS l0 l1 l2 l3).2 == 0) with
    | false =>
      rw [hr] at HCK
      clear hr
      go_enter Tryd.func12, Tryd.ntmps12
      go_wp2_with (first | (go_at_call 19; refine (sacristanref09_Great.calls 2000 A0 c0 l0 A1 c1 l1 A2 c2 l2 A3 c3 l3 false _ HD0.out.r0 HD0.out.h0 HD0.out.r1 HD0.out.h1 HD0.out.r2 HD0.out.h2 HD0.out.r3 HD0.out.h3 HGR.out).mono ?_; rintro e w1 ⟨rfl, hb1⟩; have HB1 := Aside0.mk (below_then HA.out HA.out.size hb1); have HG1 := Aside0.mk (blk_below HG.out hb1); have y0 := (blk_cell HG1.out 0).trans rfl; have y1 := (blk_cell HG1.out 1).trans rfl; have y2 := (blk_cell HG1.out 2).trans rfl; have y3 := (blk_cell HG1.out 3).trans rfl; have HD1 := Aside0.mk (HMD.out.below HB1.out); clear hb1) | (go_at_call 31; refine (sacristanref11_Check.calls N1 A0 c0 l0 A1 c1 l1 A2 c2 l2 A3 c3 l3 (checkS l0 l1 l2 l3).1 false _ HD1.out.r0 HD1.out.h0 HD1.out.r1 HD1.out.h1 HD1.out.r2 HD1.out.h2 HD1.out.r3 HD1.out.h3 HCK.out).mono ?_; rintro e w2 ⟨rfl, hb2⟩; have HB2 := Aside0.mk (below_then HB1.out HB1.out.size hb2); clear hb2) | (go_at_call 34; refine (aw_calls _ (HMX.out.below HB2.out)).mono ?_; rintro e w3 ⟨rfl, hb3⟩; have HB3 := Aside0.mk (below_then HB2.out HB2.out.size hb3); clear hb3))
      go_ret
      exact ⟨rfl, HB3.out⟩
    | true =>
      rw [hr] at HCK
      have HMY := Aside0.mk (check_may hr)
      have HSH := Aside0.mk (refWay_short (l0 := l0) (l1 := l1) (l2 := l2) (l3 := l3) a)
      cases hw : (refWay l0 l1 l2 l3 a).2 with
      | false =>
        have HN := Aside0.mk (show wayS l0 l1 l2 l3 a = ([], false) by unfold wayS; rw [if_neg (by rw [hw]; decide)])
        have HW := Aside0.mk hw
        clear hr hw
        go_enter Tryd.func12, Tryd.ntmps12
        go_wp2_with (first | (go_at_call 19; refine (sacristanref09_Great.calls 2000 A0 c0 l0 A1 c1 l1 A2 c2 l2 A3 c3 l3 false _ HD0.out.r0 HD0.out.h0 HD0.out.r1 HD0.out.h1 HD0.out.r2 HD0.out.h2 HD0.out.r3 HD0.out.h3 HGR.out).mono ?_; rintro e w1 ⟨rfl, hb1⟩; have HB1 := Aside0.mk (below_then HA.out HA.out.size hb1); have HG1 := Aside0.mk (blk_below HG.out hb1); have y0 := (blk_cell HG1.out 0).trans rfl; have y1 := (blk_cell HG1.out 1).trans rfl; have y2 := (blk_cell HG1.out 2).trans rfl; have y3 := (blk_cell HG1.out 3).trans rfl; have HD1 := Aside0.mk (HMD.out.below HB1.out); clear hb1) | (go_at_call 31; refine (sacristanref11_Check.calls N1 A0 c0 l0 A1 c1 l1 A2 c2 l2 A3 c3 l3 (checkS l0 l1 l2 l3).1 true _ HD1.out.r0 HD1.out.h0 HD1.out.r1 HD1.out.h1 HD1.out.r2 HD1.out.h2 HD1.out.r3 HD1.out.h3 HCK.out).mono ?_; rintro e w2 ⟨rfl, hb2⟩; have HB2 := Aside0.mk (below_then HB1.out HB1.out.size hb2); have HG2 := Aside0.mk (blk_below HG1.out hb2); have u0 := (blk_cell HG2.out 0).trans rfl; have u1 := (blk_cell HG2.out 1).trans rfl; have u2 := (blk_cell HG2.out 2).trans rfl; have u3 := (blk_cell HG2.out 3).trans rfl; clear hb2 y0 y1 y2 y3) | (go_at_call 35; refine (way_calls _ HH.out HSZ.out (HMX.out.below HB2.out) (HMD.out.below HB2.out) a).mono ?_; rintro e w3 ⟨v3, rfl, hr3, hb3⟩; have HB3 := Aside0.mk (below_then HB2.out HB2.out.size hb3); have HG3 := Aside0.mk (blk_below HG2.out hb3); have x0 := (blk_cell HG3.out 0).trans rfl; have x1 := (blk_cell HG3.out 1).trans rfl; have x2 := (blk_cell HG3.out 2).trans rfl; have x3 := (blk_cell HG3.out 3).trans rfl; rw [HN.out] at hr3 ⊢; have HR3 := Aside0.mk hr3; obtain ⟨V3, cv3, e3⟩ := Kd.R_slice hr3; subst e3; clear hb3 hr3 u0 u1 u2 u3) | (go_at_call 36; refine (refWay_calls _ HH.out (HMD.out.below HB3.out) HMY.out a).mono ?_; rintro e w4 ⟨v4, rfl, hr4, hb4⟩; rw [HW.out]; have HB4 := Aside0.mk (below_then HB3.out HB3.out.size hb4); have HR34 := Aside0.mk (Kd.R_below HR3.out hb4); have HR4 := Aside0.mk hr4; obtain ⟨V4, cv4, e4⟩ := Kd.R_slice hr4; subst e4; clear hb4 hr4) | (go_at_call 34; refine (aw_calls _ (HMX.out.below HB4.out)).mono ?_; rintro e w5 ⟨rfl, hb5⟩; have HB5 := Aside0.mk (below_then HB4.out HB4.out.size hb5); clear hb5))
        go_ret
        exact ⟨rfl, HB5.out⟩
      | true =>
        obtain ⟨L, hL⟩ : ∃ L, (refWay l0 l1 l2 l3 a).1 = L := ⟨_, rfl⟩
        have hW2 : refWay l0 l1 l2 l3 a = (L, true) := Prod.ext hL hw
        have HW2 := Aside0.mk hW2
        have HN := Aside0.mk (show wayS l0 l1 l2 l3 a = (L, true) by unfold wayS; rw [if_pos hw, hW2])
        have HS2 := Aside0.mk (show L.length ≤ 200 by rw [← hL]; exact HSH.out)
        clear hr hw hL hW2
        by_cases hl : L.length = 0
        · obtain rfl : L = [] := List.eq_nil_of_length_eq_zero hl
          clear hl
          go_enter Tryd.func12, Tryd.ntmps12
          go_wp2_with (first | (go_at_call 19; refine (sacristanref09_Great.calls 2000 A0 c0 l0 A1 c1 l1 A2 c2 l2 A3 c3 l3 false _ HD0.out.r0 HD0.out.h0 HD0.out.r1 HD0.out.h1 HD0.out.r2 HD0.out.h2 HD0.out.r3 HD0.out.h3 HGR.out).mono ?_; rintro e w1 ⟨rfl, hb1⟩; have HB1 := Aside0.mk (below_then HA.out HA.out.size hb1); have HG1 := Aside0.mk (blk_below HG.out hb1); have y0 := (blk_cell HG1.out 0).trans rfl; have y1 := (blk_cell HG1.out 1).trans rfl; have y2 := (blk_cell HG1.out 2).trans rfl; have y3 := (blk_cell HG1.out 3).trans rfl; have HD1 := Aside0.mk (HMD.out.below HB1.out); clear hb1) | (go_at_call 31; refine (sacristanref11_Check.calls N1 A0 c0 l0 A1 c1 l1 A2 c2 l2 A3 c3 l3 (checkS l0 l1 l2 l3).1 true _ HD1.out.r0 HD1.out.h0 HD1.out.r1 HD1.out.h1 HD1.out.r2 HD1.out.h2 HD1.out.r3 HD1.out.h3 HCK.out).mono ?_; rintro e w2 ⟨rfl, hb2⟩; have HB2 := Aside0.mk (below_then HB1.out HB1.out.size hb2); have HG2 := Aside0.mk (blk_below HG1.out hb2); have u0 := (blk_cell HG2.out 0).trans rfl; have u1 := (blk_cell HG2.out 1).trans rfl; have u2 := (blk_cell HG2.out 2).trans rfl; have u3 := (blk_cell HG2.out 3).trans rfl; clear hb2 y0 y1 y2 y3) | (go_at_call 35; refine (way_is HN.out _ HH.out HSZ.out (HMX.out.below HB2.out) (HMD.out.below HB2.out)).mono ?_; rintro e w3 ⟨v3, rfl, hr3, hb3⟩; have HB3 := Aside0.mk (below_then HB2.out HB2.out.size hb3); have HG3 := Aside0.mk (blk_below HG2.out hb3); have x0 := (blk_cell HG3.out 0).trans rfl; have x1 := (blk_cell HG3.out 1).trans rfl; have x2 := (blk_cell HG3.out 2).trans rfl; have x3 := (blk_cell HG3.out 3).trans rfl; have hr3' : Kd.R (Kd.int .i64) 3 w3 w2.heap.size (fun _ => True) v3 [] := hr3; have HR3 := Aside0.mk hr3'; obtain ⟨V3, cv3, e3⟩ := Kd.R_slice hr3'; subst e3; clear hr3'; clear hb3 hr3 u0 u1 u2 u3) | (go_at_call 36; refine (refWay_is HW2.out _ HH.out (HMD.out.below HB3.out) HMY.out).mono ?_; rintro e w4 ⟨v4, rfl, hr4, hb4⟩; have hr4' : Kd.R (Kd.int .i64) 3 w4 w3.heap.size (fun _ => True) v4 [] := hr4; have HB4 := Aside0.mk (below_then HB3.out HB3.out.size hb4); have HR34 := Aside0.mk (Kd.R_below HR3.out hb4); have HR4 := Aside0.mk hr4'; obtain ⟨V4, cv4, e4⟩ := Kd.R_slice hr4'; subst e4; clear hb4 hr4 hr4'))
          go_loopw [11] (fun s11 wr => s11 = .int .i64 0 ∧ Aside0 (Below w4.heap.size w4 wr)) (fun _ _ => 0)
          case atStart => exact ⟨rfl, ⟨Below.refl _ _⟩⟩
          case round =>
            obtain ⟨rfl, hbw⟩ := hrel
            have HB4' := Aside0.mk (below_then HB4.out HB4.out.size hbw.out)
            go_wp2_with (go_at_call 34; refine (aw_calls _ (HMX.out.below HB4'.out)).mono ?_; rintro e w5 ⟨rfl, hb5⟩; have HB5 := Aside0.mk (below_then HB4'.out HB4'.out.size hb5); clear hb5)
            go_ret
            exact ⟨rfl, HB5.out⟩
        · have HPS := Aside0.mk (show 0 < L.length by omega)
          clear hl
          have hmx : (L.length : Int) ≤ 200 := by have := HS2.out; omega
          go_enter Tryd.func12, Tryd.ntmps12
          go_wp2_with (first | (go_at_call 19; refine (sacristanref09_Great.calls 2000 A0 c0 l0 A1 c1 l1 A2 c2 l2 A3 c3 l3 false _ HD0.out.r0 HD0.out.h0 HD0.out.r1 HD0.out.h1 HD0.out.r2 HD0.out.h2 HD0.out.r3 HD0.out.h3 HGR.out).mono ?_; rintro e w1 ⟨rfl, hb1⟩; have HB1 := Aside0.mk (below_then HA.out HA.out.size hb1); have HG1 := Aside0.mk (blk_below HG.out hb1); have y0 := (blk_cell HG1.out 0).trans rfl; have y1 := (blk_cell HG1.out 1).trans rfl; have y2 := (blk_cell HG1.out 2).trans rfl; have y3 := (blk_cell HG1.out 3).trans rfl; have HD1 := Aside0.mk (HMD.out.below HB1.out); clear hb1) | (go_at_call 31; refine (sacristanref11_Check.calls N1 A0 c0 l0 A1 c1 l1 A2 c2 l2 A3 c3 l3 (checkS l0 l1 l2 l3).1 true _ HD1.out.r0 HD1.out.h0 HD1.out.r1 HD1.out.h1 HD1.out.r2 HD1.out.h2 HD1.out.r3 HD1.out.h3 HCK.out).mono ?_; rintro e w2 ⟨rfl, hb2⟩; have HB2 := Aside0.mk (below_then HB1.out HB1.out.size hb2); have HG2 := Aside0.mk (blk_below HG1.out hb2); have u0 := (blk_cell HG2.out 0).trans rfl; have u1 := (blk_cell HG2.out 1).trans rfl; have u2 := (blk_cell HG2.out 2).trans rfl; have u3 := (blk_cell HG2.out 3).trans rfl; clear hb2 y0 y1 y2 y3) | (go_at_call 35; refine (way_is HN.out _ HH.out HSZ.out (HMX.out.below HB2.out) (HMD.out.below HB2.out)).mono ?_; rintro e w3 ⟨v3, rfl, hr3, hb3⟩; have HB3 := Aside0.mk (below_then HB2.out HB2.out.size hb3); have HG3 := Aside0.mk (blk_below HG2.out hb3); have x0 := (blk_cell HG3.out 0).trans rfl; have x1 := (blk_cell HG3.out 1).trans rfl; have x2 := (blk_cell HG3.out 2).trans rfl; have x3 := (blk_cell HG3.out 3).trans rfl; have hr3' : Kd.R (Kd.int .i64) 3 w3 w2.heap.size (fun _ => True) v3 L := hr3; have HR3 := Aside0.mk hr3'; obtain ⟨V3, cv3, e3, _⟩ := Kd.R_form hr3' HPS.out; subst e3; clear hr3'; clear hb3 hr3 u0 u1 u2 u3) | (go_at_call 36; refine (refWay_is HW2.out _ HH.out (HMD.out.below HB3.out) HMY.out).mono ?_; rintro e w4 ⟨v4, rfl, hr4, hb4⟩; have hr4' : Kd.R (Kd.int .i64) 3 w4 w3.heap.size (fun _ => True) v4 L := hr4; have HB4 := Aside0.mk (below_then HB3.out HB3.out.size hb4); have HR34 := Aside0.mk (Kd.R_below HR3.out hb4); have HR4 := Aside0.mk hr4'; obtain ⟨V4, cv4, e4, _⟩ := Kd.R_form hr4' HPS.out; subst e4; clear hb4 hr4 hr4'))
          go_loopw [11] (fun s11 wr => ∃ i : Nat, i ≤ L.length ∧ s11 = .int .i64 (i : Int) ∧ Aside0 (Below w4.heap.size w4 wr)) (fun s11 _ => L.length - (intOf s11).toNat)
          case atStart => exact ⟨0, Nat.zero_le _, rfl, ⟨Below.refl _ _⟩⟩
          case round =>
            obtain ⟨i, hi, rfl, hbw⟩ := hrel
            by_cases hlt : i < L.length
            · have c3 := (Kd.R_celln 0 (Kd.R_below HR34.out hbw.out) (i : Int) (by omega) (by omega)).1
              have c4 := (Kd.R_celln 0 (Kd.R_below HR4.out hbw.out) (i : Int) (by omega) (by omega)).1
              rw [Int.toNat_natCast] at c3 c4
              generalize rdOf 0 L (i : Int) = x_ at c3 c4
              have hb1 : (i : Int) < (L.length : Int) := by omega
              have hb0 : (0 : Int) ≤ (i : Int) := by omega
              have HLT := Aside0.mk hlt
              clear hi hlt
              go_wp2_with fail
              go_quiet (fail)
              go_wp2_with fail
              go_roundw
              case rel => exact ⟨i + 1, HLT.out, by go_num, ⟨hbw.out.trans ((pw_below_drewN (Below.refl _ _) nq).mono hbw.out.size)⟩⟩
              case measure => have := HLT.out; simp [intOf]; omega
            · obtain rfl : i = L.length := by omega
              have HB4' := Aside0.mk (below_then HB4.out HB4.out.size hbw.out)
              clear hi hlt
              go_wp2_with (go_at_call 34; refine (aw_calls _ (HMX.out.below HB4'.out)).mono ?_; rintro e w5 ⟨rfl, hb5⟩; have HB5 := Aside0.mk (below_then HB4'.out HB4'.out.size hb5); clear hb5)
              go_ret
              exact ⟨rfl, HB5.out⟩
end
end Go.Proofs.YtfncoldcjhkhiaaDoor.NW
