/- ir.May: which block may be. -/
import Derived.Test.YtjkjbfhhfdbnoaaRd
namespace Go.Proofs.Ytjkjbfhhfdbnoaa.NW
open Go.RowKit Go.Proofs.YtjkjbfhhfdbnoaaW.PrintWords Go.Proofs.YtjkjbfhhfdbnoaaW.PrintMore Go.Proofs.Ytjkjbfhhfdbnoaa.PB
set_option linter.unusedVariables false
set_option linter.unusedSimpArgs false

def mn (a b : Int) : Int := if b < a then b else a
def mx (a b : Int) : Int := if a < b then b else a
def mn5 (a b c d e : Int) : Int := mn (mn (mn (mn a b) c) d) e
def mx3 (a b c : Int) : Int := mx (mx a b) c
theorem min5_run (ats : Array TypeId) (ty : TypeId) (a b c d e : Int) : Builtin.min_ ats ty #[.int .i64 a, .int .i64 b, .int .i64 c, .int .i64 d, .int .i64 e] = pure (.int .i64 (mn5 a b c d e)) := by
  simp only [Builtin.min_, List.foldlM_cons, List.foldlM_nil, min2_int, pure_bind]
  rfl
theorem max3_run (ats : Array TypeId) (ty : TypeId) (a b c : Int) : Builtin.max_ ats ty #[.int .i64 a, .int .i64 b, .int .i64 c] = pure (.int .i64 (mx3 a b c)) := by
  simp only [Builtin.max_, List.foldlM_cons, List.foldlM_nil, max2_int, pure_bind]
  rfl
theorem mn5_spec (a b c d e : Int) : mn5 a b c d e < 0 ↔ (a < 0 ∨ b < 0 ∨ c < 0 ∨ d < 0 ∨ e < 0) := by
  unfold mn5 mn
  omega
theorem mx3_spec (a b c : Int) : 4096 < mx3 a b c ↔ (4096 < a ∨ 4096 < b ∨ 4096 < c) := by
  unfold mx3 mx
  omega
attribute [local go_sem] min5_run max3_run

def gsOk (R : Int) : List S39 → Int → Bool
  | [], _ => true
  | x :: l, g => if instB R x.f0 x.f1 x.f2 x.f3 x.f4 x.f5.f0 x.f5.f1 x.f5.f2 g = true then gsOk R l (if x.f0 = 6 then g + 1 else g) else false
theorem gsOk_cons (R : Int) (x : S39) (l : List S39) (g : Int) : gsOk R (x :: l) g = (if instB R x.f0 x.f1 x.f2 x.f3 x.f4 x.f5.f0 x.f5.f1 x.f5.f2 g = true then gsOk R l (if x.f0 = 6 then g + 1 else g) else false) := rfl
/-- ir.May -/
def mayBlk (z0 z1 z2 : Int) (l3 : List S39) (z4 : Int) (l5 l6 : List Int) (z7 z8 z9 : Int) : Bool :=
  if mn5 z0 z1 z4 z8 z9 < 0 then false else if 4096 < mx3 z0 z1 z2 then false else if z2 < z0 + z1 then false else if 4096 < l3.length then false
  else if gsOk z2 l3 0 = false then false
  else if (l5.length : Int) = z0 then (if l6.length ≤ 256 then (if -1 ≤ z7 then (if z7 < z2 then (if l5.any (badB z2) = true then false else !(l6.any (badB z2))) else false) else false) else false) else false

/-- what a block is in memory -/
structure BlkIs (w : World) (A3 : Option Addr) (c3 : Nat) (l3 : List S39) (A5 : Option Addr) (c5 : Nat) (l5 : List Int) (A6 : Option Addr) (c6 : Nat) (l6 : List Int) : Prop where
  r3 : Kd.C k39 w A3 l3.length l3
  c3 : l3.length ≤ c3
  r5 : Kd.C (Kd.int .i64) w A5 l5.length l5
  c5 : l5.length ≤ c5
  r6 : Kd.C (Kd.int .i64) w A6 l6.length l6
  c6 : l6.length ≤ c6

set_option maxHeartbeats 1600000 in
set_option maxRecDepth 1000000 in
theorem may_calls (z0 z1 z2 : Int) (A3 : Option Addr) (c3 : Nat) (l3 : List S39) (z4 : Int) (A5 : Option Addr) (c5 : Nat) (l5 : List Int) (A6 : Option Addr) (c6 : Nat) (l6 : List Int) (z7 z8 z9 : Int) (w : World)
    (hr : BlkIs w A3 c3 l3 A5 c5 l5 A6 c6 l6) (hs : ∀ x ∈ l3, x.f4.size ≤ 4294967000) (hM : MaxOk w) :
    Calls Try.prog 42 #[.agg #[.int .i64 z0, .int .i64 z1, .int .i64 z2, .slice A3 l3.length c3, .int .i64 z4, .slice A5 l5.length c5, .slice A6 l6.length c6, .int .i64 z7, .int .i64 z8, .int .i64 z9]] w fun e w' => e = .returned (.bool (mayBlk z0 z1 z2 l3 z4 l5 l6 z7 z8 z9)) ∧ Below w.heap.size w w' := by
  have HM := Aside0.mk hM
  have HS := Aside0.mk hs
  have HR := Aside0.mk hr
  have hm3 := Kd.C_max hr.r3
  have hm5 := Kd.C_max hr.r5
  have hm6 := Kd.C_max hr.r6
  have hA : Below w.heap.size w (w.alloc (.cells #[.int .i64 z0, .int .i64 z1, .int .i64 z2, .slice A3 l3.length c3, .int .i64 z4, .slice A5 l5.length c5, .slice A6 l6.length c6, .int .i64 z7, .int .i64 z8, .int .i64 z9] 25)) := (Below.refl _ w).alloc (Nat.le_refl _) _
  have HA := Aside0.mk hA
  clear hM hs hr hA
  by_cases h1 : mn5 z0 z1 z4 z8 z9 < 0
  · rw [show mayBlk z0 z1 z2 l3 z4 l5 l6 z7 z8 z9 = false by unfold mayBlk; rw [if_pos h1]]
    go_enter Try.func42, Try.ntmps42
    go_wp2
    go_ret
    exact ⟨rfl, HA.out⟩
  by_cases h2 : 4096 < mx3 z0 z1 z2
  · rw [show mayBlk z0 z1 z2 l3 z4 l5 l6 z7 z8 z9 = false by unfold mayBlk; rw [if_neg h1, if_pos h2]]
    go_enter Try.func42, Try.ntmps42
    go_wp2
    go_ret
    exact ⟨rfl, HA.out⟩
  have g1 : 0 ≤ z0 ∧ 0 ≤ z1 ∧ z0 ≤ 4096 ∧ z1 ≤ 4096 ∧ z2 ≤ 4096 := by
    have a := mn5_spec z0 z1 z4 z8 z9
    have b := mx3_spec z0 z1 z2
    omega
  obtain ⟨g0, g1, g2, g3, g4⟩ := g1
  by_cases h3 : z2 < z0 + z1
  · rw [show mayBlk z0 z1 z2 l3 z4 l5 l6 z7 z8 z9 = false by unfold mayBlk; rw [if_neg h1, if_neg h2, if_pos h3]]
    go_enter Try.func42, Try.ntmps42
    go_wp2
    go_ret
    exact ⟨rfl, HA.out⟩
  by_cases h4 : 4096 < l3.length
  · rw [show mayBlk z0 z1 z2 l3 z4 l5 l6 z7 z8 z9 = false by unfold mayBlk; rw [if_neg h1, if_neg h2, if_neg h3, if_pos h4]]
    go_enter Try.func42, Try.ntmps42
    go_wp2
    go_ret
    exact ⟨rfl, HA.out⟩
  rw [show mayBlk z0 z1 z2 l3 z4 l5 l6 z7 z8 z9 = (if gsOk z2 l3 0 = false then false
    else if (l5.length : Int) = z0 then (if l6.length ≤ 256 then (if -1 ≤ z7 then (if z7 < z2 then (if l5.any (badB z2) = true then false else !(l6.any (badB z2))) else false) else false) else false) else false) by unfold mayBlk; rw [if_neg h1, if_neg h2, if_neg h3, if_neg h4]]
  generalize hres : (if gsOk z2 l3 0 = false then false
    else if (l5.length : Int) = z0 then (if l6.length ≤ 256 then (if -1 ≤ z7 then (if z7 < z2 then (if l5.any (badB z2) = true then false else !(l6.any (badB z2))) else false) else false) else false) else false) = res
  have HRES := Aside0.mk hres
  clear hres
  have h4' : decide ((4096 : Int) < (l3.length : Int)) = false := decide_eq_false (by omega)
  go_enter Try.func42, Try.ntmps42
  go_wp2_with fail
  have hbk := blk_new w (.cells #[.int .i64 z0, .int .i64 z1, .int .i64 z2, .slice A3 l3.length c3, .int .i64 z4, .slice A5 l5.length c5, .slice A6 l6.length c6, .int .i64 z7, .int .i64 z8, .int .i64 z9] 25)
  have hsz : w.heap.size + 1 = (w.alloc (.cells #[.int .i64 z0, .int .i64 z1, .int .i64 z2, .slice A3 l3.length c3, .int .i64 z4, .slice A5 l5.length c5, .slice A6 l6.length c6, .int .i64 z7, .int .i64 z8, .int .i64 z9] 25)).heap.size := by simp
  obtain ⟨w1, hw1⟩ : ∃ w1, w.alloc (.cells #[.int .i64 z0, .int .i64 z1, .int .i64 z2, .slice A3 l3.length c3, .int .i64 z4, .slice A5 l5.length c5, .slice A6 l6.length c6, .int .i64 z7, .int .i64 z8, .int .i64 z9] 25) = w1 := ⟨_, rfl⟩
  rw [hw1] at HA hbk hsz ⊢
  have hr1 : BlkIs w1 A3 c3 l3 A5 c5 l5 A6 c6 l6 := ⟨Kd.C_below HR.out.r3 HA.out, HR.out.c3, Kd.C_below HR.out.r5 HA.out, HR.out.c5, Kd.C_below HR.out.r6 HA.out, HR.out.c6⟩
  have HM1 := Aside0.mk (HM.out.below HA.out)
  have HR1 := Aside0.mk hr1
  have HBK := Aside0.mk hbk
  have HSZ := Aside0.mk hsz
  clear hw1 hr1 hbk hsz HR HM h1 h2
  obtain ⟨gb, hgb⟩ : ∃ gb, w.heap.size = gb := ⟨_, rfl⟩
  rw [hgb] at HBK HSZ ⊢
  have HGB := Aside0.mk hgb
  clear hgb
  go_loopw [48, 3] (fun i g wr => ∃ (k : Nat) (gn : Int), k ≤ l3.length ∧ i = .int .i64 k ∧ g = .int .i64 gn ∧ 0 ≤ gn ∧ gn ≤ k ∧ Aside0 (gsOk z2 l3 0 = gsOk z2 (l3.drop k) gn) ∧ Aside0 (Below w1.heap.size w1 wr)) (fun i _ _ => l3.length - (intOf i).toNat)
  case atStart => exact ⟨0, 0, by omega, rfl, rfl, by omega, by omega, ⟨rfl⟩, ⟨Below.refl _ _⟩⟩
  case round =>
    obtain ⟨k, gn, hk, rfl, rfl, hg0, hg1, hgs, hbw⟩ := hrel
    have hbk := blk_below HBK.out hbw.out
    have HBK2 := Aside0.mk hbk
    have hc0 := (blk_cell hbk 0).trans rfl
    have hc1 := (blk_cell hbk 1).trans rfl
    have hc2 := (blk_cell hbk 2).trans rfl
    have hc3 := (blk_cell hbk 3).trans rfl
    have hc4 := (blk_cell hbk 4).trans rfl
    have hc5 := (blk_cell hbk 5).trans rfl
    have hc6 := (blk_cell hbk 6).trans rfl
    have hc7 := (blk_cell hbk 7).trans rfl
    have hc8 := (blk_cell hbk 8).trans rfl
    have hc9 := (blk_cell hbk 9).trans rfl
    have hlb : gb < wr.heap.size := blk_lt hbk
    clear hbk
    by_cases hlt : k < l3.length
    · obtain ⟨ad, rfl, e0, e1, e2, e3, e4, e5, e6, e7⟩ := at_T39 (Kd.C_below HR1.out.r3 hbw.out) (k : Int) (by omega) (by omega)
      rw [show ((k : Int).toNat) = k by omega] at e0 e1 e2 e3 e4 e5 e6 e7
      generalize hx : rd_T39 l3 k = x at e0 e1 e2 e3 e4 e5 e6 e7
      have HX := Aside0.mk hx
      clear hx
      have hxs : x.f4.size ≤ 4294967000 := by
        have hm := HS.out x (by
          rw [← HX.out, rd_T39, List.getD_eq_getElem?_getD, show ((k : Int).toNat) = k by omega, List.getElem?_eq_getElem hlt]
          exact List.getElem_mem hlt)
        exact hm
      have hdrop : l3.drop k = x :: l3.drop (k + 1) := by
        rw [List.drop_eq_getElem_cons hlt, ← HX.out, rd_T39, List.getD_eq_getElem?_getD, show ((k : Int).toNat) = k by omega, List.getElem?_eq_getElem hlt]
        rfl
      have hgs2 := hgs.out
      rw [hdrop] at hgs2
      have HG := Aside0.mk hgs2
      have HXS := Aside0.mk hxs
      have HM2 := Aside0.mk (HM1.out.below hbw.out)
      clear hxs hdrop hgs2 hgs
      cases hi : instB z2 x.f0 x.f1 x.f2 x.f3 x.f4 x.f5.f0 x.f5.f1 x.f5.f2 gn with
      | false =>
        have hfin : gsOk z2 l3 0 = false := by rw [HG.out, gsOk_cons, if_neg (by rw [hi]; decide)]
        have HF := Aside0.mk hfin
        have HI := Aside0.mk hi
        clear hfin hi HG
        go_wp2_with fail
        refine Calls.mono (inst_calls _ _ _ _ _ _ _ _ _ _ _ _ _ _ _ _ _ _ _ _ _ _ _ _ _ _ HXS.out (HM2.out.below ((Below.refl _ _).alloc (Nat.le_refl _) _))) ?_
        rintro e w2 ⟨rfl, hb⟩
        rw [HI.out]
        have hbb := HA.out.trans ((hbw.out.trans (((Below.refl _ wr).alloc (Nat.le_refl _) _).trans (hb.mono (by simp)) |>.mono hbw.out.size)).mono HA.out.size)
        clear hb
        go_wp2_with fail
        go_ret
        refine ⟨?_, hbb⟩
        rw [show res = false by rw [← HRES.out, if_pos HF.out]]
        rfl
      | true =>
        have hfin : gsOk z2 l3 0 = gsOk z2 (l3.drop (k + 1)) (if x.f0 = 6 then gn + 1 else gn) := by rw [HG.out, gsOk_cons, if_pos hi]
        have HF := Aside0.mk hfin
        have HI := Aside0.mk hi
        clear hfin hi HG
        go_wp2_with fail
        refine Calls.mono (inst_calls _ _ _ _ _ _ _ _ _ _ _ _ _ _ _ _ _ _ _ _ _ _ _ _ _ _ HXS.out (HM2.out.below ((Below.refl _ _).alloc (Nat.le_refl _) _))) ?_
        rintro e w2 ⟨rfl, hb⟩
        rw [HI.out]
        have hx0 := (blk_cell (blk_below (blk_new wr _) hb) 0).trans rfl
        have hbb := hbw.out.trans (((Below.refl _ wr).alloc (Nat.le_refl _) _).trans (hb.mono (by simp)) |>.mono hbw.out.size)
        have HBB := Aside0.mk hbb
        clear hb hbb
        by_cases h6 : x.f0 = 6
        · rw [if_pos h6] at HF
          go_wp2_with fail
          go_roundw
          case rel => exact ⟨k + 1, gn + 1, by omega, by go_num, rfl, by omega, by omega, HF, HBB⟩
          case measure => simp [intOf]; omega
        · rw [if_neg h6] at HF
          go_wp2_with fail
          go_roundw
          case rel => exact ⟨k + 1, gn, by omega, by go_num, rfl, by omega, by omega, HF, HBB⟩
          case measure => simp [intOf]; omega
    · obtain rfl : k = l3.length := by omega
      have hgo : gsOk z2 l3 0 = true := by rw [hgs.out, List.drop_length]; rfl
      have HGO := Aside0.mk hgo
      clear hgo
      by_cases q1 : (l5.length : Int) = z0
      · by_cases q2 : l6.length ≤ 256
        · by_cases q3 : -1 ≤ z7
          · by_cases q4 : z7 < z2
            · cases q5 : l5.any (badB z2) with
              | true =>
                have Q5 := Aside0.mk q5
                clear q5
                go_wp2_with fail
                refine Calls.mono (containsBad_calls z2 gb _ _ l5 _ (Kd.C_below HR1.out.r5 hbw.out) hc2) ?_
                rintro e w' ⟨rfl, rfl⟩
                rw [Q5.out]
                go_wp2_with fail
                go_ret
                exact ⟨by rw [← HRES.out, if_neg (by rw [HGO.out]; decide), if_pos q1, if_pos q2, if_pos q3, if_pos q4, if_pos Q5.out]; rfl, HA.out.trans (hbw.out.mono HA.out.size)⟩
              | false =>
                have Q5 := Aside0.mk q5
                clear q5
                go_wp2_with fail
                refine Calls.mono (containsBad_calls z2 gb _ _ l5 _ (Kd.C_below HR1.out.r5 hbw.out) hc2) ?_
                rintro e w' ⟨rfl, rfl⟩
                rw [Q5.out]
                go_wp2_with fail
                refine Calls.mono (containsBad_calls z2 gb _ _ l6 _ (Kd.C_below HR1.out.r6 hbw.out) hc2) ?_
                rintro e w' ⟨rfl, rfl⟩
                generalize hq6 : l6.any (badB z2) = q6
                have HQ6 := Aside0.mk hq6
                clear hq6
                go_wp2_with fail
                go_ret
                exact ⟨by rw [← HRES.out, if_neg (by rw [HGO.out]; decide), if_pos q1, if_pos q2, if_pos q3, if_pos q4, if_neg (by rw [Q5.out]; decide), HQ6.out]; rfl, HA.out.trans (hbw.out.mono HA.out.size)⟩
            · go_wp2_with fail
              go_ret
              exact ⟨by rw [← HRES.out, if_neg (by rw [HGO.out]; decide), if_pos q1, if_pos q2, if_pos q3, if_neg (by omega)]; rfl, HA.out.trans (hbw.out.mono HA.out.size)⟩
          · go_wp2_with fail
            go_ret
            exact ⟨by rw [← HRES.out, if_neg (by rw [HGO.out]; decide), if_pos q1, if_pos q2, if_neg (by omega)]; rfl, HA.out.trans (hbw.out.mono HA.out.size)⟩
        · go_wp2_with fail
          go_ret
          exact ⟨by rw [← HRES.out, if_neg (by rw [HGO.out]; decide), if_pos q1, if_neg (by omega)]; rfl, HA.out.trans (hbw.out.mono HA.out.size)⟩
      · go_wp2_with fail
        go_ret
        exact ⟨by rw [← HRES.out, if_neg (by rw [HGO.out]; decide), if_neg (by omega)]; rfl, HA.out.trans (hbw.out.mono HA.out.size)⟩
end Go.Proofs.Ytjkjbfhhfdbnoaa.NW
