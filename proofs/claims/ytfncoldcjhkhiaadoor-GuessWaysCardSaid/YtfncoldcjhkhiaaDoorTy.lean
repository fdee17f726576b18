/- The reference's way. -/
import Derived.Test.YtfncoldcjhkhiaaDoorTw
import Derived.Test.YtfncoldcjhkhiaaDoorTx
import Derived.Test.YtfncoldcjhkhiaaDoorGb
import Derived.IntWalk
import Derived.Deep.QuietTactic
import Derived.BigQuiet
namespace Go.Proofs.YtfncoldcjhkhiaaDoor.NW
open Go.RowKit Go.Proofs.YtfncoldcjhkhiaaDoorW.PrintWords Go.Proofs.YtfncoldcjhkhiaaDoorW.PrintMore Go.Proofs.YtfncoldcjhkhiaaDoor.PC Go.Proofs.YtfncoldcjhkhiaaDoor.Pure
set_option linter.unusedVariables false
set_option linter.unusedSimpArgs false
theorem none_R {w : World} {base gn : Nat} (h : w.heap[gn]? = some (.cells #[] 3 (0, 0))) (hb : base ≤ gn) : Kd.R (Kd.int .i64) 3 w base (fun _ => True) (.slice (some ⟨gn, 0, none⟩) 0 0) [] :=
  Kd.R_of_own ⟨rfl, .inr ⟨gn, 0, #[], rfl, hb, h, Nat.le_refl _, Nat.zero_le _, rfl, rfl⟩⟩ (fun _ _ => trivial)
theorem none_Rb {w : World} {base gn : Nat} {ok : Nat → Prop} (h : w.heap[gn]? = some (.cells #[] 4 (0, 0))) (hb : base ≤ gn) (hok : ok gn) : Kd.R Kd.bool 4 w base ok (.slice (some ⟨gn, 0, none⟩) 0 0) [] :=
  Kd.R_of_own ⟨rfl, .inr ⟨gn, 0, #[], rfl, hb, h, Nat.le_refl _, Nat.zero_le _, rfl, rfl⟩⟩ (fun k hk => by injection hk with hk; subst hk; exact hok)
theorem none_Ri {w : World} {base gn : Nat} {ok : Nat → Prop} (h : w.heap[gn]? = some (.cells #[] 3 (0, 0))) (hb : base ≤ gn) (hok : ok gn) : Kd.R (Kd.int .i64) 3 w base ok (.slice (some ⟨gn, 0, none⟩) 0 0) [] :=
  Kd.R_of_own ⟨rfl, .inr ⟨gn, 0, #[], rfl, hb, h, Nat.le_refl _, Nat.zero_le _, rfl, rfl⟩⟩ (fun k hk => by injection hk with hk; subst hk; exact hok)
theorem row_R (xs : List Bool) (hn : xs.length ≤ 1000000) (W : World) (base : Nat) (hb : base ≤ W.heap.size) (ok : Nat → Prop) (hok : ok W.heap.size) : Kd.bool.R 4 (W.alloc (.cells (xs.map Value.bool).toArray 4)) base ok (.slice (some ⟨W.heap.size, 0, none⟩) xs.length xs.length) xs := by
  have h2 := World.ownsRow_lit (base := base) (e := 4) (size := 1) W (xs.map Value.bool).toArray xs.length hb (by unfold maxLen; omega) (by simp)
  exact Kd.R_of_own (by simpa [encs] using h2) (fun k hk => by simp [Value.ownBlock] at hk; rw [← hk]; exact hok)
section
variable {A0 : Option Addr} {c0 : Nat} {l0 : List Int} {A1 : Option Addr} {c1 : Nat} {l1 : List ByteArray} {A2 : Option Addr} {c2 : Nat} {l2 : List S44} {A3 : Option Addr} {c3 : Nat} {l3 : List S41}
set_option maxHeartbeats 6400000 in
set_option maxRecDepth 1000000 in
theorem refWay_calls (w : World) (h : FitM l0 l1 l2 l3) (hmd : ModIs w A0 c0 l0 A1 c1 l1 A2 c2 l2 A3 c3 l3) (hmay : mayS (insM l0 l1 l2 l3) l0 l1 l2 l3 = true) (a : Int) :
    Calls Tryd.prog 36 #[.agg #[.slice A0 l0.length c0, .slice A1 l1.length c1, .slice A2 l2.length c2, .slice A3 l3.length c3], .int .i64 a] w (WayPost w (refWay l0 l1 l2 l3 a)) := by
  have hA := below_alloc ((Below.refl w.heap.size w).alloc (Nat.le_refl _) (.cells #[.slice A0 l0.length c0, .slice A1 l1.length c1, .slice A2 l2.length c2, .slice A3 l3.length c3] 30 (0, 0))) (.cells #[] 3 (0, 0))
  have hG := blk_alloc (blk_new w (.cells #[.slice A0 l0.length c0, .slice A1 l1.length c1, .slice A2 l2.length c2, .slice A3 l3.length c3] 30 (0, 0))) (.cells #[] 3 (0, 0))
  have hN := blk_new2 w (.cells #[.slice A0 l0.length c0, .slice A1 l1.length c1, .slice A2 l2.length c2, .slice A3 l3.length c3] 30 (0, 0)) (.cells #[] 3 (0, 0))
  have g0 := (blk_cell hG 0).trans rfl
  have g1 := (blk_cell hG 1).trans rfl
  have g2 := (blk_cell hG 2).trans rfl
  have g3 := (blk_cell hG 3).trans rfl
  have m2 := Kd.C_max hmd.r2
  have HA := Aside0.mk hA
  have HG := Aside0.mk hG
  have HN := Aside0.mk hN
  have HH := Aside0.mk h
  have HMD := Aside0.mk hmd
  have HMD1 := Aside0.mk (hmd.below hA)
  have HMM := Aside0.mk hmay
  by_cases k1 : a < 0
  · have hr : refWay l0 l1 l2 l3 a = ([], false) := by
      unfold refWay
      refine if_neg fun hx => ?_
      have := (has_of hx.1).1
      omega
    rw [hr]
    have d1 : decide (a < 0) = true := decide_eq_true k1
    clear hr hA hG hN h hmd hmay k1
    go_enter Tryd.func36, Tryd.ntmps36
    go_wp2_with fail
    go_ret2
    exact ⟨_, rfl, none_R HN.out (by omega), HA.out⟩
  have d1 : decide (a < 0) = false := decide_eq_false k1
  by_cases k2 : a ≥ l2.length
  · have hr : refWay l0 l1 l2 l3 a = ([], false) := by
      unfold refWay
      refine if_neg fun hx => ?_
      have := (has_of hx.1).1
      omega
    rw [hr]
    have d2 : decide ((l2.length : Int) ≤ a) = true := decide_eq_true k2
    clear hr hA hG hN h hmd hmay k1 k2
    go_enter Tryd.func36, Tryd.ntmps36
    go_wp2_with fail
    go_ret2
    exact ⟨_, rfl, none_R HN.out (by omega), HA.out⟩
  have d2 : decide ((l2.length : Int) ≤ a) = false := decide_eq_false k2
  have ha : 0 ≤ a ∧ a < l2.length := ⟨by omega, by omega⟩
  have hmem : rd_T44 l2 a ∈ l2 := rd44_in ha.1 ha.2
  have hpr := (may_good hmay).1 _ hmem
  have hgood := good_of hpr
  have hf1 := good_f1 hpr
  obtain ⟨kd, hkd⟩ := ref_depths h hmay a ha
  have hRD := hkd kd (Nat.le_refl _)
  obtain ⟨ad, B, b, ea, q0, q1, q2, q3, hlb, hCB⟩ := at_T44 hmd.r2 a ha.1 ha.2
  have HW : refWay l0 l1 l2 l3 a = if (rd_T44 l2 a).f0 = 2 ∧ rightB l0 l1 l2 l3 (rd_T44 l2 a) = true then wayL (rd_T44 l2 a) 200 [] 0 (slots0 (rd_T44 l2 a)) [] else ([], false) := by
    unfold refWay
    by_cases hr : rightB l0 l1 l2 l3 (rd_T44 l2 a) = true
    · have hD := depths_right ha hmay (rightB_iff.1 hr)
      have hne : depthsS l0 l1 l2 l3 a ≠ [] := fun e => by have := (has_len hD).2; rw [e] at this; simp at this
      by_cases h2 : (rd_T44 l2 a).f0 = 2
      · rw [if_pos (show depthsS l0 l1 l2 l3 a ≠ [] ∧ (rd_T44 l2 a).f0 = 2 from ⟨hne, h2⟩), if_pos ⟨h2, hr⟩]
      · rw [if_neg (show ¬ (depthsS l0 l1 l2 l3 a ≠ [] ∧ (rd_T44 l2 a).f0 = 2) from fun hx => h2 hx.2), if_neg (fun hx => h2 hx.1)]
    · rw [if_neg (show ¬ (depthsS l0 l1 l2 l3 a ≠ [] ∧ (rd_T44 l2 a).f0 = 2) from fun hx => hr (rightB_iff.2 (has_of hx.1).2.2.1)), if_neg (fun hx => hr hx.2)]
  have hR1 : rightB l0 l1 l2 l3 (rd_T44 l2 a) = true → Flow.Right (grf l0 l1 l2 l3 (rd_T44 l2 a)) := fun hx => rightB_iff.1 hx
  generalize hpp : rd_T44 l2 a = p at *
  subst ea
  obtain ⟨adx, eb, _⟩ := at_T32 hCB 0 (by omega) (by have := hgood.pos; omega)
  subst eb
  have ha0 := ha.1
  have ha1 := ha.2
  have r0 := (hA.cell (World.block_lt_of_cell? w _ q0)).trans q0
  have r1 := (hA.cell (World.block_lt_of_cell? w _ q1)).trans q1
  have r2 := (hA.cell (World.block_lt_of_cell? w _ q2)).trans q2
  have r3 := (hA.cell (World.block_lt_of_cell? w _ q3)).trans q3
  have hfew := hgood.few
  have HGD := Aside0.mk hgood
  have HME := Aside0.mk hmem
  have HLB := Aside0.mk hlb
  have HCB := Aside0.mk hCB
  have HF1 := Aside0.mk hf1
  have HRD := Aside0.mk hRD
  have HR1 := Aside0.mk hR1
  clear ha hmem hpr hgood hf1 hlb hCB hA hG hN h hmd hmay q0 q1 q2 q3 k1 k2 hkd hRD hR1 hpp
  by_cases hp2 : p.f0 = 2
  case neg =>
    rw [HW, if_neg (fun hx => hp2 hx.1)]
    have d3 : (p.f0 != 2) = true := bne_iff_ne.2 hp2
    clear HW hp2
    go_enter Tryd.func36, Tryd.ntmps36
    go_wp2_with fail
    go_ret2
    exact ⟨_, rfl, none_R HN.out (by omega), HA.out⟩
  have d3 : (p.f0 != 2) = false := bne_eq_false_iff_eq.2 hp2
  have HP2 := Aside0.mk hp2
  cases hrt : rightB l0 l1 l2 l3 p with
  | false =>
    rw [HW, if_neg (fun hx => by rw [hrt] at hx; cases hx.2)]
    rw [hrt] at HRD
    clear HW hp2 hrt
    go_enter Tryd.func36, Tryd.ntmps36
    go_wp2_with (go_at_call 33; refine (sacristanref11_Depths.calls kd A0 c0 l0 A1 c1 l1 (some ad) c2 l2 A3 c3 l3 a (depthsS l0 l1 l2 l3 a) false _ HMD1.out.r0 HMD1.out.h0 HMD1.out.r1 HMD1.out.h1 HMD1.out.r2 HMD1.out.h2 HMD1.out.r3 HMD1.out.h3 HRD.out).mono ?_; rintro e w1 ⟨v, rfl, hr, hb1⟩; have HB1 := Aside0.mk hb1; clear hr hb1)
    go_ret2
    exact ⟨_, rfl, none_R (blk_below HN.out HB1.out) (by omega), below_then HA.out HA.out.size HB1.out⟩
  | true =>
    rw [HW, if_pos ⟨hp2, hrt⟩]
    rw [hrt] at HRD
    obtain ⟨R, hRR⟩ : ∃ R, wayL p 200 [] 0 (slots0 p) [] = R := ⟨_, rfl⟩
    rw [hRR]
    have HR := Aside0.mk hRR
    have HRT := Aside0.mk (HR1.out hrt)
    clear HW hRR hp2 hrt
    have hf0 : 0 ≤ p.f1 := by have := HP2.out; have := HF1.out; omega
    obtain ⟨n, hn⟩ : ∃ n : Nat, p.f1.toNat = n := ⟨_, rfl⟩
    have hn3 : 3 ≤ n ∧ n ≤ 256 := by have := HP2.out; have := HF1.out; omega
    have hmk := mkb_run p.f1 hf0 (by have := HF1.out; omega)
    rw [hn] at hmk
    have HNF := Aside0.mk hn
    have HN3 := Aside0.mk hn3
    have d4 : (2 : Int) < (n : Int) := by omega
    have d5 : (n : Int) ≤ 9223372036854775807 := by omega
    clear hn hn3
    go_enter Tryd.func36, Tryd.ntmps36
    go_wp2_with (go_at_call 33; refine (sacristanref11_Depths.calls kd A0 c0 l0 A1 c1 l1 (some ad) c2 l2 A3 c3 l3 a (depthsS l0 l1 l2 l3 a) true _ HMD1.out.r0 HMD1.out.h0 HMD1.out.r1 HMD1.out.h1 HMD1.out.r2 HMD1.out.h2 HMD1.out.r3 HMD1.out.h3 HRD.out).mono ?_; rintro e w1 ⟨v, rfl, hr, hb1⟩; have HB1 := Aside0.mk (below_then HA.out HA.out.size hb1); have z2 := (blk_cell (blk_below HG.out hb1) 2).trans rfl; have HG1 := Aside0.mk (blk_below HG.out hb1); have HN1 := Aside0.mk (blk_below HN.out hb1); have s0 := (hb1.cell (World.block_lt_of_cell? _ _ r0)).trans r0; have s1 := (hb1.cell (World.block_lt_of_cell? _ _ r1)).trans r1; have s2 := (hb1.cell (World.block_lt_of_cell? _ _ r2)).trans r2; have s3 := (hb1.cell (World.block_lt_of_cell? _ _ r3)).trans r3; have hR3 := mkb_R n (by have := HN3.out; omega) (w1.alloc (.cells #[.int .i64 p.f0, .int .i64 p.f1, .int .i64 p.f2, .slice (some adx) p.f3.length b] 44 (0, 0))) w.heap.size (by have := HB1.out.size; rw [World.size_alloc]; omega) (fun k => k ≠ w.heap.size ∧ k ≠ w1.heap.size ∧ k ≠ w.heap.size + 1) (by have := blk_lt HN1.out; rw [World.size_alloc]; omega); rw [World.size_alloc] at hR3; have hR3' : Kd.bool.R 4 _ w.heap.size _ (.slice (some ⟨w1.heap.size + 1, 0, none⟩) (List.replicate n false).length n) (List.replicate n false) := (by rw [List.length_replicate]; exact hR3); have t2 : ((w1.alloc (.cells #[.int .i64 p.f0, .int .i64 p.f1, .int .i64 p.f2, .slice (some adx) p.f3.length b] 44 (0, 0))).alloc (.cells (Array.replicate n (Value.bool false)) 4)).cell? ⟨w1.heap.size + 1, 2, none⟩ = some (.bool (rdOf false (List.replicate n false) 2)) := (Kd.R_cell false hR3' 2 (by omega) (by rw [List.length_replicate]; exact d4)).1; have t3 : ((w1.alloc (.cells #[.int .i64 p.f0, .int .i64 p.f1, .int .i64 p.f2, .slice (some adx) p.f3.length b] 44 (0, 0))).alloc (.cells (Array.replicate n (Value.bool false)) 4)).frozen? ⟨w1.heap.size + 1, 2, none⟩ = false := (Kd.R_cell false hR3' 2 (by omega) (by rw [List.length_replicate]; exact d4)).2; clear hr hb1 hR3 hR3' g0 g1 g2 g3 r0 r1 r2 r3 d3)
    clear s0 s1 s2 s3 t2 t3 z2 hmk d4 d5
    have H0 : RwIs w ((((w1.alloc (.cells #[.int .i64 p.f0, .int .i64 p.f1, .int .i64 p.f2, .slice (some adx) p.f3.length b] 44 (0, 0))).alloc (.cells ((Array.replicate n (Value.bool false)).setIfInBounds 2 (.bool true)) 4 (0, 0))).alloc (.cells #[] 4 (0, 0))).alloc (.cells #[] 3 (0, 0))) w.heap.size w1.heap.size (w.heap.size + 1) #[.slice A0 l0.length c0, .slice A1 l1.length c1, .slice (some ad) l2.length c2, .slice A3 l3.length c3] #[.int .i64 p.f0, .int .i64 p.f1, .int .i64 p.f2, .slice (some adx) p.f3.length b] (slots0 p) [] [] (.slice (some ⟨w1.heap.size + 1, 0, none⟩) (slots0 p).length n) (.slice (some ⟨w1.heap.size + 1 + 1, 0, none⟩) 0 0) (.slice (some ⟨w1.heap.size + 1 + 1 + 1, 0, none⟩) 0 0) := by
      have hl : (slots0 p).length = n := by unfold slots0; rw [HNF.out]; simp
      have e : ((Array.replicate n (Value.bool false)).setIfInBounds 2 (.bool true)) = ((slots0 p).map Value.bool).toArray := by
        unfold slots0
        rw [HNF.out, ← Array.toList_inj]
        simp [List.map_set]
      have h3 := HN3.out
      have hw := HB1.out.size
      have hn := blk_lt HN1.out
      obtain ⟨W2, hW2⟩ : ∃ W2, w1.alloc (.cells #[.int .i64 p.f0, .int .i64 p.f1, .int .i64 p.f2, .slice (some adx) p.f3.length b] 44 (0, 0)) = W2 := ⟨_, rfl⟩
      have hs2 : W2.heap.size = w1.heap.size + 1 := by rw [← hW2, World.size_alloc]
      have B2 : Below w1.heap.size w1 W2 := by rw [← hW2]; exact below_alloc (Below.refl _ _) _
      have X2 : W2.heap[w1.heap.size]? = some (.cells #[.int .i64 p.f0, .int .i64 p.f1, .int .i64 p.f2, .slice (some adx) p.f3.length b] 44 (0, 0)) := by rw [← hW2]; exact blk_new _ _
      rw [hW2, e]
      obtain ⟨W3, hW3⟩ : ∃ W3, W2.alloc (.cells ((slots0 p).map Value.bool).toArray 4 (0, 0)) = W3 := ⟨_, rfl⟩
      have hs3 : W3.heap.size = W2.heap.size + 1 := by rw [← hW3, World.size_alloc]
      have B3 : Below W2.heap.size W2 W3 := by rw [← hW3]; exact below_alloc (Below.refl _ _) _
      have hR3 := row_R (slots0 p) (by omega) W2 w.heap.size (by omega) (fun k => k ≠ w.heap.size ∧ k ≠ w1.heap.size ∧ k ≠ w.heap.size + 1) (by omega)
      rw [hW3, hs2] at hR3
      rw [show (Value.slice (some ⟨w1.heap.size + 1, 0, none⟩) (slots0 p).length n) = Value.slice (some ⟨w1.heap.size + 1, 0, none⟩) (slots0 p).length (slots0 p).length by rw [hl]]
      rw [hW3]
      obtain ⟨W4, hW4⟩ : ∃ W4, W3.alloc (.cells #[] 4 (0, 0)) = W4 := ⟨_, rfl⟩
      have hs4 : W4.heap.size = W3.heap.size + 1 := by rw [← hW4, World.size_alloc]
      have B4 : Below W3.heap.size W3 W4 := by rw [← hW4]; exact below_alloc (Below.refl _ _) _
      have X4 : W4.heap[w1.heap.size + 1 + 1]? = some (.cells #[] 4 (0, 0)) := by rw [← hW4, show w1.heap.size + 1 + 1 = W3.heap.size by omega]; exact blk_new _ _
      rw [hW4]
      have B5 := below_alloc (Below.refl W4.heap.size W4) (.cells #[] 3 (0, 0))
      have X5 : (W4.alloc (.cells #[] 3 (0, 0))).heap[w1.heap.size + 1 + 1 + 1]? = some (.cells #[] 3 (0, 0)) := by rw [show w1.heap.size + 1 + 1 + 1 = W4.heap.size by omega]; exact blk_new _ _
      refine ⟨blk_below (blk_below (blk_below (blk_below HG1.out B2) B3) B4) B5, blk_below (blk_below (blk_below X2 B3) B4) B5, blk_below (blk_below (blk_below (blk_below HN1.out B2) B3) B4) B5, Kd.R_below (Kd.R_below hR3 B4) B5, none_Rb (blk_below X4 B5) (by omega) (by omega), none_Ri X5 (by omega) (by omega), ?_, ?_, ?_, ?_, by omega⟩
      · intro k hk e; injection hk with hk; injection e with e; simp only at hk e; omega
      · intro k hk e; injection hk with hk; injection e with e; simp only at hk e; omega
      · intro k hk e; injection hk with hk; injection e with e; simp only at hk e; omega
      · exact below_then (below_then (below_then (below_then HB1.out hw B2) (by omega) B3) (by omega) B4) (by omega) B5
    have hl : (slots0 p).length = n := by unfold slots0; rw [HNF.out]; simp
    have HL0 := Aside0.mk hl
    have HH0 := Aside0.mk H0
    have HAT0 := Aside0.mk (show At (l0 := l0) (l1 := l1) (l2 := l2) (l3 := l3) p 0 (slots0 p) [] from ⟨.start, by unfold slots0; simp⟩)
    clear H0 hl
    go_loopg [11, 12, 13] 200 (fun gk s11 s12 s13 wr => ∃ a_ : Int, s13 = .int .i64 a_ ∧ Aside0 (∃ s st wy, RwIs w wr w.heap.size w1.heap.size (w.heap.size + 1) #[.slice A0 l0.length c0, .slice A1 l1.length c1, .slice (some ad) l2.length c2, .slice A3 l3.length c3] #[.int .i64 p.f0, .int .i64 p.f1, .int .i64 p.f2, .slice (some adx) p.f3.length b] s st wy (.slice (some ⟨w1.heap.size + 1, 0, none⟩) s.length n) s11 s12 ∧ At (l0 := l0) (l1 := l1) (l2 := l2) (l3 := l3) p a_ s st ∧ s.length = n ∧ wy.length + gk = 200 ∧ wayL p gk wy a_ s st = R))
    case atStart => exact ⟨0, rfl, ⟨_, _, [], HH0.out, HAT0.out, HL0.out, rfl, HR.out⟩⟩
    case round =>
      obtain ⟨a_, rfl, ⟨s, st, wy, hG, hAt, hsn, hwl, hwL⟩⟩ := hrel
      obtain ⟨Aw, cw, ew⟩ := Kd.R_slice hG.rw
      subst ew
      obtain ⟨Avt, ct, et⟩ := Kd.R_slice hG.rt
      subst et
      have HG := Aside0.mk hG
      have HRW := Aside0.mk (Kd.R_reads' hG.rw)
      have HRT2 := Aside0.mk (Kd.R_reads' hG.rt)
      have HAT := Aside0.mk hAt
      cases gk with
      | zero =>
        have d1 : decide ((wy.length : Int) < 200) = false := decide_eq_false (by omega)
        have HWL := Aside0.mk hwL
        clear hG hAt hwl hwL hsn
        go_wp2_with fail
        go_ret2
        obtain rfl : R = ([], false) := HWL.out.symm.trans rfl
        exact ⟨_, rfl, HG.out.none, HG.out.old⟩
      | succ gk1 =>
        have d1 : decide ((wy.length : Int) < 200) = true := decide_eq_true (by omega)
        have hct : decide (a_ ∈ wy) = wy.contains a_ := by rw [Bool.eq_iff_iff, decide_eq_true_iff, List.contains_iff_mem]
        rw [wayL] at hwL
        have HWL := Aside0.mk hwl
        have HSN := Aside0.mk hsn
        cases hc : wy.contains a_ with
        | true =>
          rw [hc] at hct
          rw [if_pos hc] at hwL
          have HCT := Aside0.mk hct
          obtain rfl := hwL
          clear hG hAt hwl hct hc hsn
          go_wp2_with (go_at_call 71; go_loud (refine (in19_calls Aw cw wy a_ _ HRW.out.2.2 (by have := HWL.out; omega)).mono ?_); rintro e w2 ⟨rfl, rfl⟩; rw [HCT.out])
          go_ret2
          exact ⟨_, rfl, HG.out.none, HG.out.old⟩
        | false =>
          rw [hc] at hct
          rw [if_neg (by rw [hc]; decide)] at hwL
          have HCT := Aside0.mk hct
          have hfa := At.facts HMM.out HGD.out HRT.out hAt
          have HF := Aside0.mk hfa.1
          have HNX := Aside0.mk hfa.2
          have hlo := hfa.1.lo
          have hhi := hfa.1.hi
          have hnn : (p.f3.length : Int) ≤ 9223372036854775807 := by omega
          have hw3 : wrap64 (a_ + 1) = a_ + 1 := by unfold wrap64; omega
          obtain ⟨ad2, ea2, x0, x1⟩ := at_T32 HCB.out a_ hlo hhi
          injection ea2 with ea2
          subst ea2
          have HX0 := Aside0.mk x0
          have HX1 := Aside0.mk x1
          have hop := hfa.1.op
          unfold goP at hwL
          have HNX1 := HNX.out
          unfold goP at HNX1
          have HNX := Aside0.mk HNX1
          generalize hop_ : (rd_T32 p.f3 a_).f0 = op at *
          generalize haa_ : (rd_T32 p.f3 a_).f1 = aa at *
          have HHL := Aside0.mk hwL
          clear hG hAt hwl hct hc hfa x0 x1 hwL HNX1 hsn
          have hor : pureB op aa = false ∧ op ≠ 22 ∨ op = 22 ∨ op = 14 ∨ (op = 1 ∨ op = 2 ∨ op = 3 ∨ op = 4 ∨ op = 5 ∨ op = 8) ∨ op = 6 ∨ op = 7 ∨ op = 13 ∨ op = 15 ∨ (op = 16 ∧ pureW aa = true) := by
            by_cases h22 : op = 22
            · exact .inr (.inl h22)
            cases hb : pureB op aa with
            | false => exact .inl ⟨rfl, h22⟩
            | true =>
              refine .inr ?_
              unfold pureB at hb
              rw [Bool.or_eq_true, decide_eq_true_iff, Bool.and_eq_true, decide_eq_true_iff] at hb
              rcases hb with hb | hb
              · omega
              · simp only [hb.2, and_true]; omega
          have HW16 := Aside0.mk (show op = 16 → 0 ≤ aa ∧ aa < 32 from fun h => by have := (HF.out.word (hop_.trans h)).1; rw [haa_] at this; exact of_decide_eq_true this)
          go_upto_region 18 with (first | (go_at_call 71; go_loud (refine (in19_calls Aw cw wy a_ _ HRW.out.2.2 (by have := HWL.out; omega)).mono ?_); rintro e w2 ⟨rfl, rfl⟩; rw [HCT.out]; have HG2 := Aside0.mk HG.out) | ((with_reducible refine gate_builtin (b := .append) (xs := #[.tmp 70, .tmp 72]) rfl ?_); at_builtin; go_loud (refine Kd.R_append (Kd.int .i64) (w0 := w) w.heap.size rfl (.tmp 70) (.tmp 72) 39 3 (.int .i64 0) 8 rfl Tryd.underlying39 info3 rfl (by decide) (by omega) (.slice Aw wy.length cw) wy a_ [.int .i64 a_] (fun k => (k ≠ w.heap.size ∧ k ≠ w1.heap.size ∧ k ≠ w.heap.size + 1) ∧ (Value.slice (some ⟨w1.heap.size + 1, 0, none⟩) s.length n).ownBlock ≠ some k ∧ (Value.slice Avt st.length ct).ownBlock ≠ some k) (fun _ => False) rfl rfl rfl (fun _ hk => hk.elim) HG2.out.freshw HG2.out.rw2 HG2.out.old HG2.out.old.size (by have := HWL.out; omega) ?_; intro v1 w3 hr hb hg hat; have hQ0 := HG2.out.wayed hr hb hg; have HQ := Aside0.mk hQ0; have y3 := (blk_cell hQ0.bp 3).trans rfl; have yx0 := (hQ0.old.cell (World.block_lt_of_cell? _ _ HX0.out)).trans HX0.out; have yx1 := (hQ0.old.cell (World.block_lt_of_cell? _ _ HX1.out)).trans HX1.out; obtain ⟨Av, cv, ev⟩ := Kd.R_slice hr; generalize (wy ++ [a_]).length = mm at ev; clear hr hb hg hat hQ0; subst ev)))
          clear y3 yx0 yx1
          rcases hor with ⟨hpf, hn22⟩ | h22 | h14 | hA | h6 | h7 | h13 | h15 | ⟨h16, hpw⟩
          · have hR2 : R = ([], false) := by
              have := HHL.out
              have hno : (goS op aa a_ s st).ok = false := by
                unfold pureB at hpf
                rw [Bool.or_eq_false_iff, decide_eq_false_iff_not, Bool.and_eq_false_iff, decide_eq_false_iff_not] at hpf
                unfold goS
                rw [if_neg (by omega), if_neg (by omega), if_neg (by omega), if_neg (by omega), if_neg hn22]
                by_cases h16 : op = 16
                · rw [if_pos h16]
                  have hp : pureW aa = false := hpf.2.resolve_left (fun h => h h16)
                  show (pureW aa && _) = false
                  rw [hp]; rfl
                · rw [if_neg h16, if_neg (by omega)]
              rw [if_pos hno, if_neg hn22] at this
              exact this.symm
            obtain rfl := hR2
            have o22 : (op == 22) = false := beq_eq_false_iff_ne.2 hn22
            have HPU := Aside0.mk hpf
            clear hpf hn22 hop
            go_wp2_with (first | (go_at_call 38; go_loud (refine (refPure_calls op aa HW16.out _).mono ?_); rintro e w4 ⟨rfl, hb4⟩; rw [HPU.out]; have HQ4 := Aside0.mk ((HQ.out.below (below_alloc (Below.refl _ _) _)).below hb4); have HX4 := Aside0.mk (blk_below (blk_new w3 (.cells #[.int .u8 op, .int .i64 aa] 32 (0, 0))) hb4); have i0 := (blk_cell HX4.out 0).trans rfl; have i1 := (blk_cell HX4.out 1).trans rfl; clear hb4))
            go_ret2
            exact ⟨_, rfl, HQ4.out.none, HQ4.out.old⟩
          · subst h22
            have h2 := HF.out.two hop_
            have HF2 := Aside0.mk h2
            have hs := snoc_of (st := st) (by omega)
            have hs2 := snoc_of (st := st.dropLast) (by rw [List.length_dropLast]; omega)
            obtain ⟨m2, hm2⟩ : ∃ m2 : Nat, st.length = m2 + 2 := ⟨st.length - 2, by omega⟩
            obtain ⟨m1, hm1⟩ : ∃ m1 : Nat, m1 = m2 + 1 := ⟨_, rfl⟩
            have hv1 : rdOf false st (m1 : Int) = lastB st := by
              rw [hs]
              unfold rdOf
              rw [Int.toNat_natCast, List.getD_eq_getElem?_getD, List.getElem?_append_right (by rw [List.length_dropLast]; omega), show m1 - st.dropLast.length = 0 by rw [List.length_dropLast]; omega]
              rw [← hs]; rfl
            have hv2 : rdOf false st (m2 : Int) = lastB st.dropLast := by
              refine (congrArg (fun l => rdOf false l (m2 : Int)) (hs.trans (congrArg (· ++ [lastB st]) hs2))).trans ?_
              unfold rdOf
              rw [Int.toNat_natCast, List.append_assoc, List.getD_eq_getElem?_getD, List.getElem?_append_right (by rw [List.length_dropLast, List.length_dropLast]; omega), show m2 - st.dropLast.dropLast.length = 0 by rw [List.length_dropLast, List.length_dropLast]; omega]
              rfl
            have HV1 := Aside0.mk hv1
            have HV2 := Aside0.mk hv2
            have hR2 : R = (wy ++ [a_], !lastB st && lastB st.dropLast) := by
              have := HHL.out
              have hgo : goS 22 aa a_ s st = ⟨-1, !lastB st && lastB st.dropLast, s, if lastB st = true then st.dropLast else st.dropLast.dropLast⟩ := rfl
              rw [hgo] at this
              cases hb : (!lastB st && lastB st.dropLast) with
              | false => rw [if_pos (show (!lastB st && lastB st.dropLast) = false from hb), if_pos rfl] at this; exact this.symm
              | true => rw [if_neg (show ¬ (!lastB st && lastB st.dropLast) = false by rw [hb]; decide), if_pos (show (-1 : Int) < 0 by decide)] at this; exact this.symm
            obtain rfl := hR2
            have hstl := HF.out.stl
            have w1_ : IntKind.i64.wrap ((st.length : Int) - 2) = (m2 : Int) := by rw [IntWalk.i64_in _ (by omega)]; omega
            have w2_ : IntKind.i64.wrap ((st.length : Int) - 1) = (m1 : Int) := by rw [IntWalk.i64_in _ (by omega)]; omega
            have b1 : (m1 : Int) < (st.length : Int) := by omega
            have b2 : (m2 : Int) < (st.length : Int) := by omega
            have b3 : (0 : Int) ≤ (m1 : Int) := by omega
            have b4 : (0 : Int) ≤ (m2 : Int) := by omega
            clear hs hs2 hm2 hm1 hv1 hv2 hop h2 hstl
            generalize lastB st = y_ at *
            generalize lastB st.dropLast = x_ at *
            cases x_ with
            | true =>
              rw [Bool.and_true]
              have hrt := Kd.R_form (HQ.out.below (below_alloc (Below.refl w3.heap.size w3) (.cells #[.int .u8 22, .int .i64 aa] 32 (0, 0)))).rt (by have := HF2.out; omega)
              obtain ⟨gb, cap, e1, _⟩ := hrt
              injection e1 with e1 e2 e3
              subst e1
              subst e3
              have hk1 := Kd.R_celln false (HQ.out.below (below_alloc (Below.refl w3.heap.size w3) (.cells #[.int .u8 22, .int .i64 aa] 32 (0, 0)))).rt (m1 : Int) (by omega) (by omega)
              have hk2 := Kd.R_celln false (HQ.out.below (below_alloc (Below.refl w3.heap.size w3) (.cells #[.int .u8 22, .int .i64 aa] 32 (0, 0)))).rt (m2 : Int) (by omega) (by omega)
              rw [Int.toNat_natCast] at hk1 hk2
              rw [HV1.out] at hk1
              rw [HV2.out] at hk2
              have c1 := hk1.1
              have c2 := hk2.1
              clear hk1 hk2 e2
              go_wp2_with fail
              go_quiet (fail)
              go_wp2_with fail
              go_ret2
              have HE := (HQ.out.below (below_alloc (Below.refl w3.heap.size w3) (.cells #[.int .u8 22, .int .i64 aa] 32 (0, 0)))).below (pw_below_drewN (Below.refl _ _) nq)
              exact ⟨.slice Av mm cv, congrArg (fun b => Ending.returned (.tuple #[.slice Av mm cv, .bool b])) (Bool.and_true _).symm, Kd.R_mono HE.rw (fun _ _ => trivial), HE.old⟩
            | false =>
              rw [Bool.and_false]
              have hrt := Kd.R_form (HQ.out.below (below_alloc (Below.refl w3.heap.size w3) (.cells #[.int .u8 22, .int .i64 aa] 32 (0, 0)))).rt (by have := HF2.out; omega)
              obtain ⟨gb, cap, e1, _⟩ := hrt
              injection e1 with e1 e2 e3
              subst e1
              subst e3
              have hk1 := Kd.R_celln false (HQ.out.below (below_alloc (Below.refl w3.heap.size w3) (.cells #[.int .u8 22, .int .i64 aa] 32 (0, 0)))).rt (m1 : Int) (by omega) (by omega)
              have hk2 := Kd.R_celln false (HQ.out.below (below_alloc (Below.refl w3.heap.size w3) (.cells #[.int .u8 22, .int .i64 aa] 32 (0, 0)))).rt (m2 : Int) (by omega) (by omega)
              rw [Int.toNat_natCast] at hk1 hk2
              rw [HV1.out] at hk1
              rw [HV2.out] at hk2
              have c1 := hk1.1
              have c2 := hk2.1
              clear hk1 hk2 e2
              go_wp2_with fail
              go_quiet (fail)
              go_wp2_with fail
              go_ret2
              have HE := (HQ.out.below (below_alloc (Below.refl w3.heap.size w3) (.cells #[.int .u8 22, .int .i64 aa] 32 (0, 0)))).below (pw_below_drewN (Below.refl _ _) nq)
              exact ⟨.slice Av mm cv, congrArg (fun b => Ending.returned (.tuple #[.slice Av mm cv, .bool b])) (Bool.and_false _).symm, Kd.R_mono HE.rw (fun _ _ => trivial), HE.old⟩
          · subst h14
            obtain rfl : R = ([], false) := HHL.out.symm.trans rfl
            have HPU := Aside0.mk (show pureB 14 aa = true from rfl)
            clear hop
            go_wp2_with (first | (go_at_call 38; go_loud (refine (refPure_calls 14 aa HW16.out _).mono ?_); rintro e w4 ⟨rfl, hb4⟩; rw [HPU.out]; have HQ4 := Aside0.mk ((HQ.out.below (below_alloc (Below.refl _ _) _)).below hb4); have HX4 := Aside0.mk (blk_below (blk_new w3 (.cells #[.int .u8 14, .int .i64 aa] 32 (0, 0))) hb4); have i0 := (blk_cell HX4.out 0).trans rfl; have i1 := (blk_cell HX4.out 1).trans rfl; clear hb4))
            go_ret2
            exact ⟨_, rfl, HQ4.out.none, HQ4.out.old⟩
          · have hgo : goS op aa a_ s st = ⟨a_ + 1, true, s, st ++ [false]⟩ := by rcases hA with rfl | rfl | rfl | rfl | rfl | rfl <;> rfl
            have hwL : wayL p gk1 (wy ++ [a_]) (a_ + 1) s (st ++ [false]) = R := by
              have := HHL.out
              rw [hgo, if_neg (show ¬ (true = false) by decide), if_neg (show ¬ a_ + 1 < 0 by omega)] at this
              exact this
            have hn := HNX.out
            rw [hgo] at hn
            have HN := Aside0.mk (hn rfl (show 0 ≤ a_ + 1 by omega))
            have hpb : pureB op aa = true := by rcases hA with rfl | rfl | rfl | rfl | rfl | rfl <;> rfl
            have hcl := HRT2.out.2.1
            have hcut := cut3_to Avt st.length ct st.length (Nat.le_refl _) hcl
            have hmx : (st.length : Int) ≤ 9223372036854775807 := by have := HF.out.stl; omega
            have o6 : (op == 6) = false := beq_eq_false_iff_ne.2 (by omega)
            have o7 : (op == 7) = false := beq_eq_false_iff_ne.2 (by omega)
            have o13 : (op == 13) = false := beq_eq_false_iff_ne.2 (by omega)
            have o14 : (op == 14) = false := beq_eq_false_iff_ne.2 (by omega)
            have o15 : (op == 15) = false := beq_eq_false_iff_ne.2 (by omega)
            have o16 : (op == 16) = false := beq_eq_false_iff_ne.2 (by omega)
            have o22 : (op == 22) = false := beq_eq_false_iff_ne.2 (by omega)
            have HPU := Aside0.mk hpb
            have HWE := Aside0.mk hwL
            have HWS := Aside0.mk (show (wy ++ [a_]).length + gk1 = 200 by have := HWL.out; simp only [List.length_append, List.length_cons, List.length_nil]; omega)
            clear hop hwL hn hpb hcl hgo hA
            go_wp2_with (first | (go_at_call 38; go_loud (refine (refPure_calls op aa HW16.out _).mono ?_); rintro e w4 ⟨rfl, hb4⟩; rw [HPU.out]; have HQ4 := Aside0.mk ((HQ.out.below (below_alloc (Below.refl _ _) _)).below hb4); have HX4 := Aside0.mk (blk_below (blk_new w3 (.cells #[.int .u8 op, .int .i64 aa] 32 (0, 0))) hb4); have i0 := (blk_cell HX4.out 0).trans rfl; have i1 := (blk_cell HX4.out 1).trans rfl; clear hb4) | ((with_reducible refine gate_builtin (b := .append) (xs := #[.tmp 129, .tmp 130]) rfl ?_); at_builtin; go_loud (refine push_cut rfl (.tmp 129) (.tmp 130) rfl Avt st.length st false rfl rfl (HQ4.out.cells rfl (Nat.le_refl _)).1 rfl (by have := HF.out.stl; omega) (by have hc := (HQ4.out.cells rfl (Nat.le_refl _)).2; rw [List.take_length] at hc; exact hc) ?_; intro v2 w5 ho hb; have HQ5 := Aside0.mk (HQ4.out.fresh (st1 := st ++ [false]) (by rw [List.length_append]; exact ho) hb); clear ho hb)))
            go_roundg gk1
            case measure => omega
            case rel => exact ⟨a_ + 1, rfl, ⟨s, st ++ [false], wy ++ [a_], HQ5.out, HN.out, HSN.out, HWS.out, HWE.out⟩⟩
          · subst h6
            have hsl := HF.out.slot (.inl hop_)
            rw [haa_] at hsl
            have HPU := Aside0.mk (show pureB 6 aa = true from rfl)
            by_cases ha0_ : aa = 0
            · have hR2 : R = ([], false) := by
                have := HHL.out
                rw [show goS 6 aa a_ s st = ⟨a_ + 1, decide (aa ≠ 0), s, st ++ [s.getD aa.toNat false]⟩ from rfl, if_pos (show decide (aa ≠ 0) = false from decide_eq_false (fun h => h ha0_)), if_neg (by decide)] at this
                exact this.symm
              obtain rfl := hR2
              have dz : (aa == 0) = true := beq_iff_eq.2 ha0_
              clear hop hsl ha0_
              go_wp2_with (first | (go_at_call 38; go_loud (refine (refPure_calls 6 aa HW16.out _).mono ?_); rintro e w4 ⟨rfl, hb4⟩; rw [HPU.out]; have HQ4 := Aside0.mk ((HQ.out.below (below_alloc (Below.refl _ _) _)).below hb4); have HX4 := Aside0.mk (blk_below (blk_new w3 (.cells #[.int .u8 6, .int .i64 aa] 32 (0, 0))) hb4); have i0 := (blk_cell HX4.out 0).trans rfl; have i1 := (blk_cell HX4.out 1).trans rfl; clear hb4))
              go_ret2
              exact ⟨_, rfl, HQ4.out.none, HQ4.out.old⟩
            · have hgo : goS 6 aa a_ s st = ⟨a_ + 1, true, s, st ++ [rdOf false s aa]⟩ := by
                rw [show goS 6 aa a_ s st = ⟨a_ + 1, decide (aa ≠ 0), s, st ++ [rdOf false s aa]⟩ from rfl, decide_eq_true ha0_]
              have hwL : wayL p gk1 (wy ++ [a_]) (a_ + 1) s (st ++ [rdOf false s aa]) = R := by
                have := HHL.out
                rw [hgo, if_neg (show ¬ (true = false) by decide), if_neg (show ¬ a_ + 1 < 0 by omega)] at this
                exact this
              have hn := HNX.out
              rw [hgo] at hn
              have HN := Aside0.mk (hn rfl (show 0 ≤ a_ + 1 by omega))
              have hcl := HRT2.out.2.1
              have hcut := cut3_to Avt st.length ct st.length (Nat.le_refl _) hcl
              have hmx : (st.length : Int) ≤ 9223372036854775807 := by have := HF.out.stl; omega
              have dz : (aa == 0) = false := beq_eq_false_iff_ne.2 ha0_
              have HSL := hsl.1
              have HSL2 : aa < (n : Int) := by have := HSN.out; have := hsl.2; omega
              have hnmx : (n : Int) ≤ 9223372036854775807 := by have := HN3.out; omega
              obtain ⟨x_, hx_⟩ : ∃ x_, rdOf false s aa = x_ := ⟨_, rfl⟩
              rw [hx_] at hwL HN
              have HXX := Aside0.mk hx_
              have HS2 := Aside0.mk hsl
              have HWE := Aside0.mk hwL
              have HWS := Aside0.mk (show (wy ++ [a_]).length + gk1 = 200 by have := HWL.out; simp only [List.length_append, List.length_cons, List.length_nil]; omega)
              clear hop hwL hn hcl hgo hsl ha0_ hx_
              go_wp2_with (first | (go_at_call 38; go_loud (refine (refPure_calls 6 aa HW16.out _).mono ?_); rintro e w4 ⟨rfl, hb4⟩; rw [HPU.out]; have HQ4 := Aside0.mk ((HQ.out.below (below_alloc (Below.refl _ _) _)).below hb4); have HX4 := Aside0.mk (blk_below (blk_new w3 (.cells #[.int .u8 6, .int .i64 aa] 32 (0, 0))) hb4); have i0 := (blk_cell HX4.out 0).trans rfl; have i1 := (blk_cell HX4.out 1).trans rfl; have e1 := (Kd.R_cell false HQ4.out.rs aa HS2.out.1 HS2.out.2).1; rw [HXX.out] at e1; have e2 := ((below_alloc (Below.refl _ w4) (.cells #[.bool x_] 4 (0, 0))).cell (World.block_lt_of_cell? _ _ i1)).trans i1; clear hb4))
              go_region_law (go_loud (refine push_cut_step (W := w4.drew) rfl (.tmp 137) (.tmp 143) rfl Avt st.length st x_ (by simp [Act.eval, Act.put]) (by simp [Act.eval, Act.put]) (HQ4.out.cells rfl (Nat.le_refl _)).1 rfl (by have := HF.out.stl; omega) (by have hc := ((HQ4.out.below (Below.refl _ _).drew).cells rfl (Nat.le_refl _)).2; rw [List.take_length] at hc; exact hc) ?_; intro v2 w5 ho hb; have HQ5 := Aside0.mk ((HQ4.out.below (Below.refl _ _).drew).fresh (st1 := st ++ [x_]) (by rw [List.length_append]; exact ho) hb); clear ho hb))
              all_goals
                go_wp2_with fail
                go_roundg gk1
                case measure => omega
                case rel => exact ⟨a_ + 1, rfl, ⟨s, st ++ [x_], wy ++ [a_], HQ5.out, HN.out, HSN.out, HWS.out, HWE.out⟩⟩
          · subst h7
            have hsl := HF.out.slot (.inr hop_)
            rw [haa_] at hsl
            have hone := HF.out.one (.inl hop_)
            have HPU := Aside0.mk (show pureB 7 aa = true from rfl)
            by_cases ha0_ : aa = 0
            · have hR2 : R = ([], false) := by
                have := HHL.out
                rw [show goS 7 aa a_ s st = ⟨a_ + 1, decide (aa ≠ 0), s.set aa.toNat (lastB st), st.dropLast⟩ from rfl, if_pos (show decide (aa ≠ 0) = false from decide_eq_false (fun h => h ha0_)), if_neg (by decide)] at this
                exact this.symm
              obtain rfl := hR2
              have dz : (aa == 0) = true := beq_iff_eq.2 ha0_
              clear hop hsl ha0_ hone
              go_wp2_with (first | (go_at_call 38; go_loud (refine (refPure_calls 7 aa HW16.out _).mono ?_); rintro e w4 ⟨rfl, hb4⟩; rw [HPU.out]; have HQ4 := Aside0.mk ((HQ.out.below (below_alloc (Below.refl _ _) _)).below hb4); have HX4 := Aside0.mk (blk_below (blk_new w3 (.cells #[.int .u8 7, .int .i64 aa] 32 (0, 0))) hb4); have i0 := (blk_cell HX4.out 0).trans rfl; have i1 := (blk_cell HX4.out 1).trans rfl; clear hb4))
              go_ret2
              exact ⟨_, rfl, HQ4.out.none, HQ4.out.old⟩
            · obtain ⟨m1, hm1⟩ : ∃ m1 : Nat, st.length = m1 + 1 := ⟨st.length - 1, by omega⟩
              have hdl : st.dropLast = st.take m1 := by rw [List.dropLast_eq_take, hm1]; rfl
              have hs := snoc_of (st := st) hone
              have hv1 : rdOf false st (m1 : Int) = lastB st := by
                refine (congrArg (fun l => rdOf false l (m1 : Int)) hs).trans ?_
                unfold rdOf
                rw [Int.toNat_natCast, List.getD_eq_getElem?_getD, List.getElem?_append_right (by rw [List.length_dropLast]; omega), show m1 - st.dropLast.length = 0 by rw [List.length_dropLast]; omega]
                rfl
              have hgo : goS 7 aa a_ s st = ⟨a_ + 1, true, s.set aa.toNat (lastB st), st.take m1⟩ := by
                rw [show goS 7 aa a_ s st = ⟨a_ + 1, decide (aa ≠ 0), s.set aa.toNat (lastB st), st.dropLast⟩ from rfl, decide_eq_true ha0_, hdl]
              have hwL : wayL p gk1 (wy ++ [a_]) (a_ + 1) (s.set aa.toNat (lastB st)) (st.take m1) = R := by
                have := HHL.out
                rw [hgo, if_neg (show ¬ (true = false) by decide), if_neg (show ¬ a_ + 1 < 0 by omega)] at this
                exact this
              have hn := HNX.out
              rw [hgo] at hn
              have HN := Aside0.mk (hn rfl (show 0 ≤ a_ + 1 by omega))
              have HV1 := Aside0.mk hv1
              generalize lastB st = x_ at *
              have hstl := HF.out.stl
              have hcl := HRT2.out.2.1
              have hwr : wrap64 ((st.length : Int) - 1) = (m1 : Int) := by unfold wrap64; omega
              have hwr2 : IntKind.i64.wrap ((st.length : Int) - 1) = (m1 : Int) := by rw [IntWalk.i64_in _ (by omega)]; omega
              have hcut := cut_to 89 4 .i64 Tryd.underlying89 rfl Avt st.length ct (m1 : Int) (by omega) (by omega) hcl
              rw [Int.toNat_natCast] at hcut
              have HML := Aside0.mk (show m1 ≤ st.length by omega)
              have HM1 := Aside0.mk hm1
              have b1 : (m1 : Int) < (st.length : Int) := by omega
              have b3 : (0 : Int) ≤ (m1 : Int) := by omega
              have hmx : (st.length : Int) ≤ 9223372036854775807 := by omega
              have dz : (aa == 0) = false := beq_eq_false_iff_ne.2 ha0_
              have HSL := hsl.1
              have HSL2 : aa < (n : Int) := by have := HSN.out; have := hsl.2; omega
              have hnmx : (n : Int) ≤ 9223372036854775807 := by have := HN3.out; omega
              have HS2 := Aside0.mk hsl
              have HSN2 := Aside0.mk (show (s.set aa.toNat x_).length = n by rw [List.length_set]; exact HSN.out)
              obtain ⟨gb, cap, e9, _⟩ := Kd.R_form HG.out.rt (by omega)
              injection e9 with e9 _ e10
              subst e9
              subst e10
              have HWE := Aside0.mk hwL
              have HWS := Aside0.mk (show (wy ++ [a_]).length + gk1 = 200 by have := HWL.out; simp only [List.length_append, List.length_cons, List.length_nil]; omega)
              clear hop hwL hn hdl hm1 hone hstl hcl hgo hsl ha0_ hs hv1
              go_wp2_with (first | (go_at_call 38; go_loud (refine (refPure_calls 7 aa HW16.out _).mono ?_); rintro e w4 ⟨rfl, hb4⟩; rw [HPU.out]; have HQ4 := Aside0.mk ((HQ.out.below (below_alloc (Below.refl _ _) _)).below hb4); have HX4 := Aside0.mk (blk_below (blk_new w3 (.cells #[.int .u8 7, .int .i64 aa] 32 (0, 0))) hb4); have i0 := (blk_cell HX4.out 0).trans rfl; have i1 := (blk_cell HX4.out 1).trans rfl; have e1 := Kd.R_cell false HQ4.out.rs aa HS2.out.1 HS2.out.2; have e2 := (Kd.R_celln false HQ4.out.rt (m1 : Int) b3 b1).1; rw [Int.toNat_natCast, HV1.out] at e2; have e3 := e1.1; have e4 := e1.2; clear hb4 e1))
              go_region
              all_goals
                go_wp2_with fail
                go_roundg gk1
                case measure => omega
                case rel => exact ⟨a_ + 1, rfl, ⟨s.set aa.toNat x_, st.take m1, wy ++ [a_], by rw [List.length_set]; exact ((HQ4.out.slot aa x_).below (Below.refl _ _).drew).cut rfl HML.out, HN.out, HSN2.out, HWS.out, HWE.out⟩⟩
          · subst h13
            have hj := HF.out.jump hop_
            rw [haa_] at hj
            have hwL : wayL p gk1 (wy ++ [a_]) aa s st = R := by
              have := HHL.out
              rw [show goS 13 aa a_ s st = ⟨aa, true, s, st⟩ from rfl, if_neg (show ¬ (true = false) by decide), if_neg (show ¬ aa < 0 by omega)] at this
              exact this
            have HN := Aside0.mk (HNX.out rfl hj)
            have HWE := Aside0.mk hwL
            have HWS := Aside0.mk (show (wy ++ [a_]).length + gk1 = 200 by have := HWL.out; simp only [List.length_append, List.length_cons, List.length_nil]; omega)
            have HPU := Aside0.mk (show pureB 13 aa = true from rfl)
            clear hop hwL hj
            go_wp2_with (first | (go_at_call 38; go_loud (refine (refPure_calls 13 aa HW16.out _).mono ?_); rintro e w4 ⟨rfl, hb4⟩; rw [HPU.out]; have HQ4 := Aside0.mk ((HQ.out.below (below_alloc (Below.refl _ _) _)).below hb4); have HX4 := Aside0.mk (blk_below (blk_new w3 (.cells #[.int .u8 13, .int .i64 aa] 32 (0, 0))) hb4); have i0 := (blk_cell HX4.out 0).trans rfl; have i1 := (blk_cell HX4.out 1).trans rfl; clear hb4))
            go_roundg gk1
            case measure => omega
            case rel => exact ⟨aa, rfl, ⟨s, st, wy ++ [a_], HQ4.out, HN.out, HSN.out, HWS.out, HWE.out⟩⟩
          · subst h15
            have hone := HF.out.one (.inr hop_)
            obtain ⟨m1, hm1⟩ : ∃ m1 : Nat, st.length = m1 + 1 := ⟨st.length - 1, by omega⟩
            have hdl : st.dropLast = st.take m1 := by rw [List.dropLast_eq_take, hm1]; rfl
            have hwL : wayL p gk1 (wy ++ [a_]) (a_ + 1) s (st.take m1) = R := by
              have := HHL.out
              rw [show goS 15 aa a_ s st = ⟨a_ + 1, true, s, st.dropLast⟩ from rfl, if_neg (show ¬ (true = false) by decide), if_neg (show ¬ a_ + 1 < 0 by omega), hdl] at this
              exact this
            have hn := HNX.out rfl (show 0 ≤ a_ + 1 by omega)
            rw [show goS 15 aa a_ s st = ⟨a_ + 1, true, s, st.dropLast⟩ from rfl, hdl] at hn
            have HN := Aside0.mk hn
            have hstl := HF.out.stl
            have hcl := HRT2.out.2.1
            have hwr : wrap64 ((st.length : Int) - 1) = (m1 : Int) := by unfold wrap64; omega
            have hcut := cut_to 89 4 .i64 Tryd.underlying89 rfl Avt st.length ct (m1 : Int) (by omega) (by omega) hcl
            rw [Int.toNat_natCast] at hcut
            have HML := Aside0.mk (show m1 ≤ st.length by omega)
            have HWE := Aside0.mk hwL
            have HWS := Aside0.mk (show (wy ++ [a_]).length + gk1 = 200 by have := HWL.out; simp only [List.length_append, List.length_cons, List.length_nil]; omega)
            have HPU := Aside0.mk (show pureB 15 aa = true from rfl)
            clear hop hwL hn hdl hm1 hone hstl hcl
            go_wp2_with (first | (go_at_call 38; go_loud (refine (refPure_calls 15 aa HW16.out _).mono ?_); rintro e w4 ⟨rfl, hb4⟩; rw [HPU.out]; have HQ4 := Aside0.mk ((HQ.out.below (below_alloc (Below.refl _ _) _)).below hb4); have HX4 := Aside0.mk (blk_below (blk_new w3 (.cells #[.int .u8 15, .int .i64 aa] 32 (0, 0))) hb4); have i0 := (blk_cell HX4.out 0).trans rfl; have i1 := (blk_cell HX4.out 1).trans rfl; clear hb4))
            go_roundg gk1
            case measure => omega
            case rel => exact ⟨a_ + 1, rfl, ⟨s, st.take m1, wy ++ [a_], HQ4.out.cut rfl HML.out, HN.out, HSN.out, HWS.out, HWE.out⟩⟩
          · subst h16
            have hwd := HF.out.word hop_
            rw [haa_] at hwd
            obtain ⟨n0, hn0⟩ : ∃ n0 : Nat, takesW aa = (n0 : Int) := ⟨(takesW aa).toNat, by have := hwd.2.1; omega⟩
            have hnl : n0 ≤ st.length ∧ n0 ≤ 2 := by have h1 := hwd.2.2.2; have h2 := hwd.2.2.1; rw [hn0] at h1 h2; omega
            obtain ⟨m0, hm0⟩ : ∃ m0 : Nat, st.length = m0 + n0 := ⟨st.length - n0, by omega⟩
            have hgo : goS 16 aa a_ s st = ⟨a_ + 1, freeS st n0, s, st.take m0 ++ [false]⟩ := by
              show (⟨a_ + 1, pureW aa && freeS st (takesW aa).toNat, s, (if pureW aa = true then st.take (st.length - (takesW aa).toNat) else st) ++ [false]⟩ : GoR) = _
              rw [hpw, hn0, if_pos rfl, Int.toNat_natCast, Bool.true_and, show st.length - n0 = m0 by omega]
            have hfr : freeS st n0 = (st.drop m0).all (! ·) := by unfold freeS; rw [show st.length - n0 = m0 by omega]
            have hee : sacristanref09_Effect.f (0 + 100) l0 l1 l2 l3 16 aa = some ((n0 : Int), 1, true) := by
              rw [refEff l0 l1 l2 l3 16 aa 0 HH.out.f (by have := HH.out.a p HME.out _ (rd32_in (show a_.toNat < p.f3.length by omega)); rw [haa_] at this; exact this)]
              rw [show effS 16 aa l0.length l1.length l2 l3 = okS (takesW aa) 1 (placeB aa 32) by unfold effS; simp, hwd.1, hn0]
              rfl
            have HEF := Aside0.mk hee
            have HPU := Aside0.mk (show pureB 16 aa = true by unfold pureB; rw [hpw]; rfl)
            have HGO := Aside0.mk hgo
            have HFR := Aside0.mk hfr
            have hstl := HF.out.stl
            have hcl := HRT2.out.2.1
            have hmn : (m0 : Int) = (st.length : Int) - (n0 : Int) := by omega
            have hcut := cut3_to Avt st.length ct m0 (by omega) hcl
            rw [hmn] at hcut
            have HMNI := Aside0.mk hmn
            have hnl1 : (n0 : Int) ≤ (st.length : Int) := by omega
            have hst2 : (st.length : Int) ≤ 256 := by omega
            have hnl2 : (n0 : Int) ≤ 2 := by omega
            have HM0 := Aside0.mk (show m0 ≤ st.length by omega)
            have HMN := Aside0.mk hm0
            have HTK := Aside0.mk (show (st.take m0).length = m0 by rw [List.length_take]; omega)
            have hmx : (st.length : Int) ≤ 9223372036854775807 := by omega
            have hm0c : (m0 : Int) ≤ (ct : Int) := by omega
            clear hop hgo hfr hee hwd hn0 hnl hm0 hstl hcl hpw hmn
            go_wp2_with (first | (go_at_call 38; go_loud (refine (refPure_calls 16 aa HW16.out _).mono ?_); rintro e w4 ⟨rfl, hb4⟩; rw [HPU.out]; have HQ4 := Aside0.mk ((HQ.out.below (below_alloc (Below.refl _ _) _)).below hb4); have HX4 := Aside0.mk (blk_below (blk_new w3 (.cells #[.int .u8 16, .int .i64 aa] 32 (0, 0))) hb4); have i0 := (blk_cell HX4.out 0).trans rfl; have i1 := (blk_cell HX4.out 1).trans rfl; have j0 := (blk_cell HQ4.out.bm 0).trans rfl; have j1 := (blk_cell HQ4.out.bm 1).trans rfl; have j2 := (blk_cell HQ4.out.bm 2).trans rfl; have j3 := (blk_cell HQ4.out.bm 3).trans rfl; clear hb4) | (go_at_call 21; go_loud (refine (sacristanref09_Effect.calls (0 + 100) A0 c0 l0 A1 c1 l1 (some ad) c2 l2 A3 c3 l3 16 aa (n0 : Int) 1 true _ (HMD.out.below HQ4.out.old).r0 HMD.out.h0 (HMD.out.below HQ4.out.old).r1 HMD.out.h1 (HMD.out.below HQ4.out.old).r2 HMD.out.h2 (HMD.out.below HQ4.out.old).r3 HMD.out.h3 HEF.out).mono ?_); rintro e w6 ⟨rfl, hb6⟩; have HQ6 := Aside0.mk (HQ4.out.below hb6); clear hb6))
            go_loopw [19] (fun s19 wr => ∃ i : Nat, s19 = .int .i64 (i : Int) ∧ m0 ≤ i ∧ i ≤ st.length ∧ Aside0 (∀ j (h : j < st.length), m0 ≤ j → j < i → st[j] = false) ∧ wr = w6) (fun s19 _ => st.length - (intOf s19).toNat)
            case atStart => exact ⟨m0, by rw [HMNI.out], Nat.le_refl _, HM0.out, ⟨fun j h h1 h2 => absurd h2 (by omega)⟩, rfl⟩
            case round =>
              obtain ⟨i, rfl, hmi, hil, hall, rfl⟩ := hrel
              by_cases hlt : i < st.length
              · obtain ⟨gb, cap, e9, _⟩ := Kd.R_form HQ6.out.rt (by omega)
                injection e9 with e9 _ e10
                subst e9
                subst e10
                have e2 := (Kd.R_celln false HQ6.out.rt (i : Int) (by omega) (by omega)).1
                rw [Int.toNat_natCast, show rdOf false st (i : Int) = st[i] by unfold rdOf; rw [Int.toNat_natCast, List.getD_eq_getElem?_getD, List.getElem?_eq_getElem hlt]; rfl] at e2
                have hb1 : (i : Int) < (st.length : Int) := by omega
                cases hx : st[i] with
                | true =>
                  rw [hx] at e2
                  have hR2 : R = ([], false) := by
                    have := HHL.out
                    have hno : freeS st n0 = false := by
                      rw [HFR.out, List.all_eq_false]
                      exact ⟨st[i], by rw [List.mem_iff_getElem]; exact ⟨i - m0, by rw [List.length_drop]; omega, by rw [List.getElem_drop]; congr 1; omega⟩, by rw [hx]; decide⟩
                    rw [HGO.out, if_pos hno, if_neg (by decide)] at this
                    exact this.symm
                  obtain rfl := hR2
                  clear hx hmi hil hlt
                  go_wp2_with fail
                  go_ret2
                  exact ⟨_, rfl, HQ6.out.none, HQ6.out.old⟩
                | false =>
                  rw [hx] at e2
                  have HIL := Aside0.mk (show i + 1 ≤ st.length from hlt)
                  have HMI := Aside0.mk (show m0 ≤ i + 1 by omega)
                  have HAL := Aside0.mk (fun (j : Nat) (h : j < st.length) (h1 : m0 ≤ j) (h2 : j < i + 1) => if e : j = i then (by subst e; exact hx) else hall.out j h h1 (by omega))
                  clear hx hmi hil hlt
                  go_wp2_with fail
                  go_roundw
                  case rel => exact ⟨i + 1, by go_num, HMI.out, HIL.out, HAL, trivial⟩
                  case measure => have := HIL.out; simp [intOf]; omega
              · obtain rfl : i = st.length := by omega
                have hyes : freeS st n0 = true := by
                  rw [HFR.out, List.all_eq_true]
                  intro x hx
                  obtain ⟨j, hj, rfl⟩ := List.mem_iff_getElem.1 hx
                  rw [List.length_drop] at hj
                  rw [List.getElem_drop, hall.out (m0 + j) (by omega) (by omega) (by omega)]
                  rfl
                have hwL : wayL p gk1 (wy ++ [a_]) (a_ + 1) s (st.take m0 ++ [false]) = R := by
                  have := HHL.out
                  rw [HGO.out, if_neg (show ¬ (freeS st n0 = false) by rw [hyes]; decide), if_neg (show ¬ a_ + 1 < 0 by omega)] at this
                  exact this
                have hn := HNX.out
                rw [HGO.out] at hn
                have HN := Aside0.mk (hn hyes (show 0 ≤ a_ + 1 by omega))
                have HWE := Aside0.mk hwL
                have HWS := Aside0.mk (show (wy ++ [a_]).length + gk1 = 200 by have := HWL.out; simp only [List.length_append, List.length_cons, List.length_nil]; omega)
                clear hyes hwL hn hmi hil hlt
                go_wp2_with ((with_reducible refine gate_builtin (b := .append) (xs := #[.tmp 199, .tmp 200]) rfl ?_); at_builtin; go_loud (refine push_cut rfl (.tmp 199) (.tmp 200) rfl Avt m0 (st.take m0) false rfl rfl (HQ6.out.cells rfl HM0.out).1 HTK.out (by have := HF.out.stl; have := HM0.out; omega) (HQ6.out.cells rfl HM0.out).2 ?_; intro v2 w5 ho hb; have HQ7 := Aside0.mk (HQ6.out.fresh (st1 := st.take m0 ++ [false]) (by rw [List.length_append, HTK.out]; exact ho) hb); clear ho hb))
                go_roundg gk1
                case measure => omega
                case rel => exact ⟨a_ + 1, rfl, ⟨s, st.take m0 ++ [false], wy ++ [a_], HQ7.out, HN.out, HSN.out, HWS.out, HWE.out⟩⟩
end
end Go.Proofs.YtfncoldcjhkhiaaDoor.NW
