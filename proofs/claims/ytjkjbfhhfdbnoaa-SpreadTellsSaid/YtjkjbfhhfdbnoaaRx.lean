/- same: two blocks that tell the same. -/
import Derived.Test.YtjkjbfhhfdbnoaaRw
import Derived.Test.YtjkjbfhhfdbnoaaPBy13
namespace Go.Proofs.Ytjkjbfhhfdbnoaa.NW
open Go.RowKit Go.Proofs.YtjkjbfhhfdbnoaaW.PrintWords Go.Proofs.YtjkjbfhhfdbnoaaW.PrintMore Go.Proofs.Ytjkjbfhhfdbnoaa.PB
set_option linter.unusedVariables false
set_option linter.unusedSimpArgs false

theorem sameValues_l0 (l : List S37) (hn : l.length ≤ 9223372036854775000) : ∀ (d k i : Nat), l.length - i = d → i ≤ l.length → d < k → sacristanref15_SameValues.l0 k l l (l.length : Int) (i : Int) = some true := by
  intro d
  induction d with
  | zero =>
    intro k i hd hi hk
    obtain ⟨k, rfl⟩ : ∃ m, k = m + 1 := ⟨k - 1, by omega⟩
    simp only [sacristanref15_SameValues.l0]
    rw [if_neg (by omega)]
  | succ d ih =>
    intro k i hd hi hk
    obtain ⟨k, rfl⟩ : ∃ m, k = m + 1 := ⟨k - 1, by omega⟩
    simp only [sacristanref15_SameValues.l0]
    rw [if_pos (by omega), if_pos (by omega), if_pos (by omega), if_pos (by omega), if_neg (by simp), show wrap64 ((i : Int) + 1) = ((i + 1 : Nat) : Int) by unfold wrap64; omega]
    exact ih k (i + 1) (by omega) (by omega) (by omega)
theorem sameValues_calls (A : Option Addr) (c : Nat) (B : Option Addr) (b : Nat) (l : List S37) (w : World) (h1 : k37.C w A l.length l) (h2 : k37.C w B l.length l) (hc : l.length ≤ c) (hb : l.length ≤ b) (hn : l.length ≤ 9223372036854775000) :
    Calls Try.prog 32 #[.slice A l.length c, .slice B l.length b] w fun e w' => e = .returned (.bool true) ∧ Below w.heap.size w w' :=
  (sacristanref15_SameValues.calls (l.length + 1) A c l B b l true w h1 hc h2 hb (by unfold sacristanref15_SameValues.f; rw [if_pos rfl]; exact sameValues_l0 l hn l.length _ 0 rfl (Nat.zero_le _) (by omega))).mono fun e w' h => ⟨h.1, h.2.below⟩
theorem evald_eq {o1 o2 : Option (List S37 × List S37 × Int)} (h : o1 = o2) {s t u v : List S37} {n m : Int} {a b : Bool} (h1 : o1 = if a = true then some (s, t, n) else none) (h2 : a = false → s = [] ∧ t = [] ∧ n = 0) (h3 : o2 = if b = true then some (u, v, m) else none) (h4 : b = false → u = [] ∧ v = [] ∧ m = 0) : b = a ∧ m = n ∧ u = s ∧ v = t := by
  subst h
  cases a <;> cases b
  · obtain ⟨rfl, rfl, rfl⟩ := h2 rfl
    obtain ⟨rfl, rfl, rfl⟩ := h4 rfl
    exact ⟨rfl, rfl, rfl, rfl⟩
  · rw [h1] at h3; simp at h3
  · rw [h1] at h3; simp at h3
  · rw [h1] at h3
    simp only [if_true, Option.some.injEq, Prod.mk.injEq] at h3
    obtain ⟨rfl, rfl, rfl⟩ := h3
    exact ⟨rfl, rfl, rfl, rfl⟩

set_option maxHeartbeats 1600000 in
set_option maxRecDepth 1000000 in
theorem same17_calls (O : Ops) (P : S37 → Prop) (hO : OpsAre O P) (z0 z1 z2 : Int) (A3 : Option Addr) (c3 : Nat) (l3 : List S39) (z4 : Int) (A5 : Option Addr) (c5 : Nat) (l5 : List Int) (A6 : Option Addr) (c6 : Nat) (l6 : List Int) (z7 z8 z9 : Int)
    (y0 y1 y2 : Int) (B3 : Option Addr) (b3 : Nat) (m3 : List S39) (y4 : Int) (B5 : Option Addr) (b5 : Nat) (m5 : List Int) (B6 : Option Addr) (b6 : Nat) (m6 : List Int) (y7 y8 y9 : Int)
    (A7 : Option Addr) (c7 : Nat) (l7 : List S37) (A8 : Option Addr) (c8 : Nat) (l8 : List S37) (A0 : Option Addr) (c0 : Nat) (ups : List S37) (A2 : Option Addr) (c2 : Nat) (ons : List S54) (w : World)
    (hr : BlkIs w A3 c3 l3 A5 c5 l5 A6 c6 l6) (hq : BlkIs w B3 b3 m3 B5 b5 m5 B6 b6 m6) (h7 : k37.C w A7 l7.length l7) (h8 : k37.C w A8 l8.length l8) (hu : k37.C w A0 ups.length ups) (ho : k54.C w A2 ons.length ons)
    (hs5 : l5.length ≤ 400) (hs6 : l6.length ≤ 400) (ht5 : m5.length ≤ 400) (ht6 : m6.length ≤ 400) (hP : AllP P l7 l8 ups ons l3) (hP2 : AllP P l7 l8 ups ons m3)
    (hE : evalK O ups ons y0 y1 y2 m3 y4 m5 m6 y7 y8 y9 l7 l8 = evalK O ups ons z0 z1 z2 l3 z4 l5 l6 z7 z8 z9 l7 l8) :
    Calls Try.prog 18 #[.agg #[.int .i64 z0, .int .i64 z1, .int .i64 z2, .slice A3 l3.length c3, .int .i64 z4, .slice A5 l5.length c5, .slice A6 l6.length c6, .int .i64 z7, .int .i64 z8, .int .i64 z9], .agg #[.int .i64 y0, .int .i64 y1, .int .i64 y2, .slice B3 m3.length b3, .int .i64 y4, .slice B5 m5.length b5, .slice B6 m6.length b6, .int .i64 y7, .int .i64 y8, .int .i64 y9], .slice A7 l7.length c7, .slice A8 l8.length c8, .agg #[.slice A0 ups.length c0, .slice A2 ons.length c2]] w
      fun e w' => e = .returned (.bool true) ∧ Below w.heap.size w w' := by
  have hb1 := below_alloc (below_alloc (below_alloc (Below.refl w.heap.size w) (.cells #[.int .i64 z0, .int .i64 z1, .int .i64 z2, .slice A3 l3.length c3, .int .i64 z4, .slice A5 l5.length c5, .slice A6 l6.length c6, .int .i64 z7, .int .i64 z8, .int .i64 z9] 25)) (.cells #[.int .i64 y0, .int .i64 y1, .int .i64 y2, .slice B3 m3.length b3, .int .i64 y4, .slice B5 m5.length b5, .slice B6 m6.length b6, .int .i64 y7, .int .i64 y8, .int .i64 y9] 25)) (.cells #[.slice A0 ups.length c0, .slice A2 ons.length c2] 29)
  have hI : (((w.alloc (.cells #[.int .i64 z0, .int .i64 z1, .int .i64 z2, .slice A3 l3.length c3, .int .i64 z4, .slice A5 l5.length c5, .slice A6 l6.length c6, .int .i64 z7, .int .i64 z8, .int .i64 z9] 25)).alloc (.cells #[.int .i64 y0, .int .i64 y1, .int .i64 y2, .slice B3 m3.length b3, .int .i64 y4, .slice B5 m5.length b5, .slice B6 m6.length b6, .int .i64 y7, .int .i64 y8, .int .i64 y9] 25)).alloc (.cells #[.slice A0 ups.length c0, .slice A2 ons.length c2] 29)).heap[w.heap.size]? = _ := blk_alloc (blk_alloc (blk_new w (.cells #[.int .i64 z0, .int .i64 z1, .int .i64 z2, .slice A3 l3.length c3, .int .i64 z4, .slice A5 l5.length c5, .slice A6 l6.length c6, .int .i64 z7, .int .i64 z8, .int .i64 z9] 25)) (.cells #[.int .i64 y0, .int .i64 y1, .int .i64 y2, .slice B3 m3.length b3, .int .i64 y4, .slice B5 m5.length b5, .slice B6 m6.length b6, .int .i64 y7, .int .i64 y8, .int .i64 y9] 25)) (.cells #[.slice A0 ups.length c0, .slice A2 ons.length c2] 29)
  have hJ : (((w.alloc (.cells #[.int .i64 z0, .int .i64 z1, .int .i64 z2, .slice A3 l3.length c3, .int .i64 z4, .slice A5 l5.length c5, .slice A6 l6.length c6, .int .i64 z7, .int .i64 z8, .int .i64 z9] 25)).alloc (.cells #[.int .i64 y0, .int .i64 y1, .int .i64 y2, .slice B3 m3.length b3, .int .i64 y4, .slice B5 m5.length b5, .slice B6 m6.length b6, .int .i64 y7, .int .i64 y8, .int .i64 y9] 25)).alloc (.cells #[.slice A0 ups.length c0, .slice A2 ons.length c2] 29)).heap[w.heap.size + 1]? = _ := blk_alloc (blk_new2 w (.cells #[.int .i64 z0, .int .i64 z1, .int .i64 z2, .slice A3 l3.length c3, .int .i64 z4, .slice A5 l5.length c5, .slice A6 l6.length c6, .int .i64 z7, .int .i64 z8, .int .i64 z9] 25) (.cells #[.int .i64 y0, .int .i64 y1, .int .i64 y2, .slice B3 m3.length b3, .int .i64 y4, .slice B5 m5.length b5, .slice B6 m6.length b6, .int .i64 y7, .int .i64 y8, .int .i64 y9] 25)) (.cells #[.slice A0 ups.length c0, .slice A2 ons.length c2] 29)
  have hV := blk_new2 (w.alloc (.cells #[.int .i64 z0, .int .i64 z1, .int .i64 z2, .slice A3 l3.length c3, .int .i64 z4, .slice A5 l5.length c5, .slice A6 l6.length c6, .int .i64 z7, .int .i64 z8, .int .i64 z9] 25)) (.cells #[.int .i64 y0, .int .i64 y1, .int .i64 y2, .slice B3 m3.length b3, .int .i64 y4, .slice B5 m5.length b5, .slice B6 m6.length b6, .int .i64 y7, .int .i64 y8, .int .i64 y9] 25) (.cells #[.slice A0 ups.length c0, .slice A2 ons.length c2] 29)
  rw [World.size_alloc] at hV
  have e1 := fun W hb => eval_calls O P hO z0 z1 z2 A3 c3 l3 z4 A5 c5 l5 A6 c6 l6 z7 z8 z9 A7 c7 l7 A8 c8 l8 A0 c0 ups A2 c2 ons W ⟨Kd.C_below hr.r3 hb, hr.c3, Kd.C_below hr.r5 hb, hr.c5, Kd.C_below hr.r6 hb, hr.c6⟩ (Kd.C_below h7 hb) (Kd.C_below h8 hb) (Kd.C_below hu hb) (Kd.C_below ho hb) hs5 hs6 hP
  have e2 := fun W hb => eval_calls O P hO y0 y1 y2 B3 b3 m3 y4 B5 b5 m5 B6 b6 m6 y7 y8 y9 A7 c7 l7 A8 c8 l8 A0 c0 ups A2 c2 ons W ⟨Kd.C_below hq.r3 hb, hq.c3, Kd.C_below hq.r5 hb, hq.c5, Kd.C_below hq.r6 hb, hq.c6⟩ (Kd.C_below h7 hb) (Kd.C_below h8 hb) (Kd.C_below hu hb) (Kd.C_below ho hb) ht5 ht6 hP2
  have HB1 := Aside0.mk hb1
  have HI := Aside0.mk hI
  have HJ := Aside0.mk hJ
  have HV := Aside0.mk hV
  have HX1 := Aside0.mk e1
  have HX2 := Aside0.mk e2
  have HE := Aside0.mk hE
  have hlv := evalK_len O ups ons z0 z1 z2 l3 z4 l5 l6 z7 z8 z9 l7 l8 (by omega) (by omega)
  have HLV := Aside0.mk hlv
  clear hb1 hI hJ hV e1 e2 hr hq h7 h8 hu ho hs5 hs6 ht5 ht6 hP hP2 hE hlv
  generalize evalK O ups ons y0 y1 y2 m3 y4 m5 m6 y7 y8 y9 l7 l8 = o2 at HX2 HE
  generalize evalK O ups ons z0 z1 z2 l3 z4 l5 l6 z7 z8 z9 l7 l8 = o1 at HX1 HE HLV
  go_enter Try.func18, Try.ntmps18
  go_upto_region 1 with fail
  generalize ((w.alloc (.cells #[.int .i64 z0, .int .i64 z1, .int .i64 z2, .slice A3 l3.length c3, .int .i64 z4, .slice A5 l5.length c5, .slice A6 l6.length c6, .int .i64 z7, .int .i64 z8, .int .i64 z9] 25)).alloc (.cells #[.int .i64 y0, .int .i64 y1, .int .i64 y2, .slice B3 m3.length b3, .int .i64 y4, .slice B5 m5.length b5, .slice B6 m6.length b6, .int .i64 y7, .int .i64 y8, .int .i64 y9] 25)).alloc (.cells #[.slice A0 ups.length c0, .slice A2 ons.length c2] 29) = w1 at HB1 HI HJ HV ⊢
  generalize hgb : w.heap.size = gb at HI HJ HV ⊢
  have HGB := Aside0.mk hgb
  clear hgb
  have i0 := (blk_cell HI.out 0).trans rfl
  have i1 := (blk_cell HI.out 1).trans rfl
  have i2 := (blk_cell HI.out 2).trans rfl
  have i3 := (blk_cell HI.out 3).trans rfl
  have i4 := (blk_cell HI.out 4).trans rfl
  have i5 := (blk_cell HI.out 5).trans rfl
  have i6 := (blk_cell HI.out 6).trans rfl
  have i7 := (blk_cell HI.out 7).trans rfl
  have i8 := (blk_cell HI.out 8).trans rfl
  have i9 := (blk_cell HI.out 9).trans rfl
  have v0 := (blk_cell HV.out 0).trans rfl
  have v1 := (blk_cell HV.out 1).trans rfl
  go_upto_region 2 with (first | (go_at_call 28; (refine (HX1.out w1 HB1.out).mono ?_); rintro e w2 ⟨s, t, n, ok, A, c, B, b, rfl, k1, k2, k3, k4, hb2, k5, k6⟩; have K1 := Aside0.mk k1; have K2 := Aside0.mk k2; have K3 := Aside0.mk k3; have K4 := Aside0.mk k4; have K5 := Aside0.mk k5; have K6 := Aside0.mk k6; have HB2 := Aside0.mk (below_then HB1.out HB1.out.size hb2); have HJ2 := Aside0.mk (blk_below HJ.out hb2); have HV2 := Aside0.mk (blk_below HV.out hb2); clear k1 k2 k3 k4 k5 k6 hb2))
  clear i0 i1 i2 i3 i4 i5 i6 i7 i8 i9 v0 v1
  have j0 := (blk_cell HJ2.out 0).trans rfl
  have j1 := (blk_cell HJ2.out 1).trans rfl
  have j2 := (blk_cell HJ2.out 2).trans rfl
  have j3 := (blk_cell HJ2.out 3).trans rfl
  have j4 := (blk_cell HJ2.out 4).trans rfl
  have j5 := (blk_cell HJ2.out 5).trans rfl
  have j6 := (blk_cell HJ2.out 6).trans rfl
  have j7 := (blk_cell HJ2.out 7).trans rfl
  have j8 := (blk_cell HJ2.out 8).trans rfl
  have j9 := (blk_cell HJ2.out 9).trans rfl
  have v0 := (blk_cell HV2.out 0).trans rfl
  have v1 := (blk_cell HV2.out 1).trans rfl
  go_upto_region 3 with (first | (go_at_call 28; (refine (HX2.out w2 HB2.out).mono ?_); rintro e w3 ⟨s', t', n', ok', A', c', B', b', rfl, k1, k2, k3, k4, hb3, k5, k6⟩; have L1 := Aside0.mk k1; have L2 := Aside0.mk k2; have L3 := Aside0.mk k3; have L4 := Aside0.mk k4; have L5 := Aside0.mk k5; have L6 := Aside0.mk k6; have HB23 := Aside0.mk hb3; have HB3 := Aside0.mk (below_then HB2.out HB2.out.size hb3); clear k1 k2 k3 k4 k5 k6 hb3))
  obtain ⟨q1, q2, q3, q4⟩ := evald_eq HE.out.symm K5.out K6.out L5.out L6.out
  subst q1 q2 q3 q4
  have hls : s'.length ≤ 9223372036854775000 ∧ t'.length ≤ 9223372036854775000 := by
    cases ok' with
    | false => obtain ⟨rfl, rfl, _⟩ := K6.out rfl; exact ⟨by decide, by decide⟩
    | true =>
      have := HLV.out s' t' n' (by rw [K5.out]; rfl)
      omega
  have HLS := Aside0.mk hls
  clear hls
  have dk : (ok' == ok') = true := by simp
  have dn : (n' == n') = true := by simp
  go_wp2_with (first
    | (go_at_call 32; (with_reducible refine (sameValues_calls A c A' c' s' w3 (Kd.C_below K3.out HB23.out) L3.out K1.out L1.out HLS.out.1).mono ?_); rintro e w4 ⟨rfl, hb4⟩; have HB4 := Aside0.mk hb4; clear hb4)
    | (go_at_call 32; (with_reducible refine (sameValues_calls B b B' b' t' w4 (Kd.C_below K4.out (below_then HB23.out HB23.out.size HB4.out)) (Kd.C_below L4.out HB4.out) K2.out L2.out HLS.out.2).mono ?_); rintro e w5 ⟨rfl, hb5⟩; have HB5 := Aside0.mk (below_then HB4.out HB4.out.size hb5); clear hb5))
  go_ret
  exact ⟨rfl, below_then HB3.out HB3.out.size HB5.out⟩

end Go.Proofs.Ytjkjbfhhfdbnoaa.NW
