/- guess.Way. -/
import Derived.Test.YtfncoldcjhkhiaaDoorTv
import Derived.Test.YtfncoldcjhkhiaaDoorKc
namespace Go.Proofs.YtfncoldcjhkhiaaDoor.NW
open Go.RowKit Go.Proofs.YtfncoldcjhkhiaaDoorW.PrintWords Go.Proofs.YtfncoldcjhkhiaaDoorW.PrintMore Go.Proofs.YtfncoldcjhkhiaaDoor.PC Go.Proofs.YtfncoldcjhkhiaaDoor.Pure
set_option linter.unusedVariables false
set_option linter.unusedSimpArgs false
theorem mkb_run (j : Int) (h0 : 0 ≤ j) (hn : j ≤ 1000000) (W : World) : (Instr.makeSlice 89 (.int .i64 j) (.int .i64 j)).run Tryd.prog W = .ok (.slice (some ⟨W.heap.size, 0, none⟩) j.toNat j.toNat) (W.alloc (.cells (Array.replicate j.toNat (Value.bool false)) 4)) := by
  obtain ⟨n, rfl⟩ : ∃ n : Nat, j = (n : Int) := ⟨j.toNat, by omega⟩
  rw [Int.toNat_natCast]
  obtain ⟨i0, hi, hzz⟩ := Option.map_eq_some_iff.1 info4
  simp only [Prod.mk.injEq] at hzz
  obtain ⟨hz0, hz1, hz2⟩ := hzz
  have hr := Go.run_make (P := Tryd.prog) W 89 4 i0 (.bool false) Tryd.underlying89 hi hz0 .i64 .i64 (n : Int) (n : Int) (by omega) (by omega) (by rw [hz2]; omega) (by omega)
  rw [hr, hz1]
  have h4 : madeCells (Value.cells (.bool false)) n = Array.replicate n (Value.bool false) := by
    rw [← Array.toList_inj, show Value.cells (.bool false) = #[.bool false] from rfl, Go.toList_madeCells_one, Array.toList_replicate]
  simp [h4]
theorem mkb_R (n : Nat) (hn : n ≤ 1000000) (W : World) (base : Nat) (hb : base ≤ W.heap.size) (ok : Nat → Prop) (hok : ok W.heap.size) : Kd.bool.R 4 (W.alloc (.cells (Array.replicate n (Value.bool false)) 4)) base ok (.slice (some ⟨W.heap.size, 0, none⟩) n n) (List.replicate n false) := by
  rw [show Array.replicate n (Value.bool false) = (List.replicate n (Value.bool false)).toArray by simp]
  have h2 := World.ownsRow_lit (base := base) (e := 4) (size := 1) W (List.replicate n (Value.bool false)).toArray n hb (by unfold maxLen; omega) (by simp)
  have h3 : (W.alloc (.cells (List.replicate n (Value.bool false)).toArray 4)).ownsRow base 4 1 (.slice (some ⟨W.heap.size, 0, none⟩) n n) (List.replicate n false).length (encs Value.bool (List.replicate n false)) := by
    rw [List.length_replicate]
    simpa [encs] using h2
  exact Kd.R_of_own h3 (fun k hk => by simp [Value.ownBlock] at hk; rw [← hk]; exact hok)
/-- the row that the way's append wants -/
theorem GoIs.rw2 {w0 w : World} {g : Nat} {a0 a1 a2 a3 a4 a5 a6 a7 : Value} {s st : List Bool} {wy : List Int} {vs vt vw : Value} (h : GoIs w0 w g a0 a1 a2 a3 a4 a5 a6 a7 s st wy vs vt vw) : Kd.R (Kd.int .i64) 3 w w0.heap.size (fun k => k ≠ g ∧ vs.ownBlock ≠ some k ∧ vt.ownBlock ≠ some k) vw wy :=
  ⟨fun k hk => ⟨h.rw.1 k hk, fun e => h.dsw k e hk, fun e => h.dtw k e hk⟩, h.rw.2⟩
theorem GoIs.freshw {w0 w : World} {g : Nat} {a0 a1 a2 a3 a4 a5 a6 a7 : Value} {s st : List Bool} {wy : List Int} {vs vt vw : Value} (h : GoIs w0 w g a0 a1 a2 a3 a4 a5 a6 a7 s st wy vs vt vw) : ∀ k, w.heap.size ≤ k → k ≠ g ∧ vs.ownBlock ≠ some k ∧ vt.ownBlock ≠ some k :=
  fun k hk => ⟨by have := blk_lt h.blk; omega, fun e => by have := Kd.R_lt h.rs k e; omega, fun e => by have := Kd.R_lt h.rt k e; omega⟩
/-- behind an append to the way -/
theorem GoIs.wayed {w0 w w1 : World} {g : Nat} {a0 a1 a2 a3 a4 a5 a6 a7 : Value} {s st : List Bool} {wy : List Int} {vs vt vw v1 : Value} {b : Int} (h : GoIs w0 w g a0 a1 a2 a3 a4 a5 a6 a7 s st wy vs vt vw) (hr : Kd.R (Kd.int .i64) 3 w1 w0.heap.size (fun k => k ≠ g ∧ vs.ownBlock ≠ some k ∧ vt.ownBlock ≠ some k) v1 (wy ++ [b])) (hb : Below w0.heap.size w0 w1) (hg : w.grownBy w1 vw.ownBlock) :
    w1.cell? ⟨g, 10, none⟩ = some vw ∧ w1.frozen? ⟨g, 10, none⟩ = false ∧ GoIs w0 (w1.setCell ⟨g, 10, none⟩ v1) g a0 a1 a2 a3 a4 a5 a6 a7 s st (wy ++ [b]) vs vt v1 := by
  have hne : some g ≠ vw.ownBlock := fun e => h.rw.1 g e.symm rfl
  have BK := blk_grown h.blk hg hne
  exact ⟨(blk_cell BK 10).trans rfl, blk_frozen BK 10, blk_put BK 10 v1 rfl, Kd.R_far (Kd.R_mono (Kd.R_step (w1 := w1) (ok := fun k => k ≠ g ∧ some k ≠ vw.ownBlock) ⟨fun k hk => ⟨h.rs.1 k hk, fun e => h.dsw k hk e.symm⟩, h.rs.2⟩ (fun k hk hlt => hg.block k hlt hk.2)) (fun _ hk => hk.1)) (p := ⟨g, 10, none⟩) (fun k hk => hk) v1,
    Kd.R_far (Kd.R_mono (Kd.R_step (w1 := w1) (ok := fun k => k ≠ g ∧ some k ≠ vw.ownBlock) ⟨fun k hk => ⟨h.rt.1 k hk, fun e => h.dtw k hk e.symm⟩, h.rt.2⟩ (fun k hk hlt => hg.block k hlt hk.2)) (fun _ hk => hk.1)) (p := ⟨g, 10, none⟩) (fun k hk => hk) v1,
    Kd.R_far (Kd.R_mono hr (fun _ hk => hk.1)) (p := ⟨g, 10, none⟩) (fun k hk => hk) v1,
    h.dis, fun k hk e => (hr.1 k e).2.1 hk, fun k hk e => (hr.1 k e).2.2 hk, hb.setCell (p := ⟨g, 10, none⟩) h.gl v1, h.gl⟩
section
variable {A0 : Option Addr} {c0 : Nat} {l0 : List Int} {A1 : Option Addr} {c1 : Nat} {l1 : List ByteArray} {A2 : Option Addr} {c2 : Nat} {l2 : List S44} {A3 : Option Addr} {c3 : Nat} {l3 : List S41}
/-- what Way answers -/
def WayPost (w : World) (r : List Int × Bool) (e : Ending) (w' : World) : Prop := ∃ v, e = .returned (.tuple #[v, .bool r.2]) ∧ Kd.R (Kd.int .i64) 3 w' w.heap.size (fun _ => True) v r.1 ∧ Below w.heap.size w w'
set_option maxHeartbeats 6400000 in
set_option maxRecDepth 1000000 in
theorem way_calls (w : World) (h : FitM l0 l1 l2 l3) (hsz : ∀ s ∈ l1, s.size ≤ reachBytes) (hM : MaxOk w) (hmd : ModIs w A0 c0 l0 A1 c1 l1 A2 c2 l2 A3 c3 l3) (a : Int) :
    Calls Tryd.prog 35 #[.agg #[.slice A0 l0.length c0, .slice A1 l1.length c1, .slice A2 l2.length c2, .slice A3 l3.length c3], .int .i64 a] w (WayPost w (wayS l0 l1 l2 l3 a)) := by
  have hA := (Below.refl w.heap.size w).alloc (Nat.le_refl _) (.cells #[.slice A0 l0.length c0, .slice A1 l1.length c1, .slice A2 l2.length c2, .slice A3 l3.length c3] 30 (0, 0))
  have hG := blk_new w (.cells #[.slice A0 l0.length c0, .slice A1 l1.length c1, .slice A2 l2.length c2, .slice A3 l3.length c3] 30 (0, 0))
  have g0 := (blk_cell hG 0).trans rfl
  have g1 := (blk_cell hG 1).trans rfl
  have g2 := (blk_cell hG 2).trans rfl
  have g3 := (blk_cell hG 3).trans rfl
  have m2 := Kd.C_max hmd.r2
  have HD := Aside0.mk (Depths_nil _ h hsz (hM.below hA) (hmd.below hA) a)
  have HA := Aside0.mk hA
  have HG := Aside0.mk hG
  have HH := Aside0.mk h
  have HMX := Aside0.mk hM
  have HMD := Aside0.mk hmd
  by_cases hD : depthsS l0 l1 l2 l3 a = []
  · have hr : wayS l0 l1 l2 l3 a = ([], false) := by
      unfold wayS refWay
      rw [if_neg (show ¬ (depthsS l0 l1 l2 l3 a ≠ [] ∧ (rd_T44 l2 a).f0 = 2) from fun hx => hx.1 hD)]; rfl
    rw [hr]
    have HN := Aside0.mk hD
    have hq := nil_eq
    clear hr hD hA hG h hsz hM hmd
    go_enter Tryd.func35, Tryd.ntmps35
    go_wp2_with (go_at_call 32; refine HD.out.mono ?_; rintro e w3 ⟨v, rfl, hr, hnil, hb3⟩; obtain rfl := hnil HN.out; have HB3 := Aside0.mk hb3; clear hr hnil hb3)
    go_ret2
    exact ⟨_, rfl, Kd.R_nil _ _ _ _ _, HA.out.trans (HB3.out.mono (by simp))⟩
  have hh := has_of hD
  have ha := hh.1
  have hm := hh.2.1
  have hR := hh.2.2.1
  have hpos := (has_len hh).2
  have hmem : rd_T44 l2 a ∈ l2 := rd44_in ha.1 ha.2
  have hpr := (may_good hm).1 _ hmem
  have hgood := good_of hpr
  have hf1 := good_f1 hpr
  obtain ⟨ad, B, b, ea, q0, q1, q2, q3, hlb, hCB⟩ := at_T44 hmd.r2 a ha.1 ha.2
  have HW : wayS l0 l1 l2 l3 a = if (rd_T44 l2 a).f0 = 2 then (if (wayL (rd_T44 l2 a) 200 [] 0 (slots0 (rd_T44 l2 a)) []).2 = true then wayL (rd_T44 l2 a) 200 [] 0 (slots0 (rd_T44 l2 a)) [] else ([], false)) else ([], false) := by
    have e : refWay l0 l1 l2 l3 a = if (rd_T44 l2 a).f0 = 2 then wayL (rd_T44 l2 a) 200 [] 0 (slots0 (rd_T44 l2 a)) [] else ([], false) := by
      unfold refWay
      by_cases h2 : (rd_T44 l2 a).f0 = 2
      · rw [if_pos (show depthsS l0 l1 l2 l3 a ≠ [] ∧ (rd_T44 l2 a).f0 = 2 from ⟨hD, h2⟩), if_pos h2]
      · rw [if_neg (show ¬ (depthsS l0 l1 l2 l3 a ≠ [] ∧ (rd_T44 l2 a).f0 = 2) from fun hx => h2 hx.2), if_neg h2]
    unfold wayS
    rw [e]
    by_cases h2 : (rd_T44 l2 a).f0 = 2
    · rw [if_pos h2, if_pos h2]
    · rw [if_neg h2, if_neg h2]; rfl
  generalize hpp : rd_T44 l2 a = p at *
  subst ea
  have HP := Aside0.mk hpos
  have ha0 := ha.1
  have ha1 := ha.2
  have r0 := (hA.cell (World.block_lt_of_cell? w _ q0)).trans q0
  have r1 := (hA.cell (World.block_lt_of_cell? w _ q1)).trans q1
  have r2 := (hA.cell (World.block_lt_of_cell? w _ q2)).trans q2
  have r3 := (hA.cell (World.block_lt_of_cell? w _ q3)).trans q3
  have hfew := hgood.few
  have HGD := Aside0.mk hgood
  have HRT := Aside0.mk hR
  have HMM := Aside0.mk hm
  have HME := Aside0.mk hmem
  have HLB := Aside0.mk hlb
  have HCB := Aside0.mk hCB
  have hq := nil_ne
  clear hh ha hm hR hpos hmem hpr hgood hD hlb hCB hA hG h hsz hM hmd q0 q1 q2 q3
  by_cases hp2 : p.f0 = 2
  case neg =>
    rw [HW, if_neg hp2]
    have d2 : (p.f0 != 2) = true := bne_iff_ne.2 hp2
    clear HW hp2
    go_enter Tryd.func35, Tryd.ntmps35
    go_wp2_with (go_at_call 32; refine HD.out.mono ?_; rintro e w3 ⟨v, rfl, hr, hnil, hb3⟩; obtain ⟨vg, vc, rfl, _⟩ := Kd.R_form hr HP.out; have HB3 := Aside0.mk hb3; have G1 := blk_below HG.out hb3; have z2 := (blk_cell G1 2).trans rfl; have s0 := (hb3.cell (World.block_lt_of_cell? _ _ r0)).trans r0; clear hr hnil hb3 G1)
    go_ret2
    exact ⟨_, rfl, Kd.R_nil _ _ _ _ _, HA.out.trans (HB3.out.mono (by simp))⟩
  rw [HW, if_pos hp2]
  obtain ⟨R, hRR⟩ : ∃ R, wayL p 200 [] 0 (slots0 p) [] = R := ⟨_, rfl⟩
  rw [hRR]
  have HR := Aside0.mk hRR
  obtain ⟨R', hR'⟩ : ∃ R', (if R.2 = true then R else ([], false)) = R' := ⟨_, rfl⟩
  rw [hR']
  have HR1 := Aside0.mk hR'
  clear HW hRR hR'
  have d2 : (p.f0 != 2) = false := bne_eq_false_iff_eq.2 hp2
  have HP2 := Aside0.mk hp2
  clear hp2
  go_enter Tryd.func35, Tryd.ntmps35
  go_wp2_with (go_at_call 32; refine HD.out.mono ?_; rintro e w1 ⟨v, rfl, hr, hnil, hb1⟩; obtain ⟨vg, vc, rfl, _⟩ := Kd.R_form hr HP.out; have HB1 := Aside0.mk hb1; have G1 := blk_below HG.out hb1; have z0 := (blk_cell G1 0).trans rfl; have z1 := (blk_cell G1 1).trans rfl; have z2 := (blk_cell G1 2).trans rfl; have z3 := (blk_cell G1 3).trans rfl; have s0 := (hb1.cell (World.block_lt_of_cell? _ _ r0)).trans r0; have s1 := (hb1.cell (World.block_lt_of_cell? _ _ r1)).trans r1; have s2 := (hb1.cell (World.block_lt_of_cell? _ _ r2)).trans r2; have s3 := (hb1.cell (World.block_lt_of_cell? _ _ r3)).trans r3; have P1 := (Below.refl w1.heap.size w1).alloc (Nat.le_refl _) (.cells #[.int .i64 p.f0, .int .i64 p.f1, .int .i64 p.f2, .slice B p.f3.length b] 44 (0, 0)); have HP1 := Aside0.mk P1; have HG1 := Aside0.mk (blk_below G1 P1); have HQ1 := Aside0.mk (blk_new w1 (.cells #[.int .i64 p.f0, .int .i64 p.f1, .int .i64 p.f2, .slice B p.f3.length b] 44 (0, 0))); clear hr hnil G1 hb1 P1 z0 z1 z3)
  clear s0 s1 s2 s3 g0 g1 g2 g3 r0 r1 r2 r3 d2 hq
  obtain ⟨W2, hW2⟩ : ∃ W2, w1.alloc (.cells #[.int .i64 p.f0, .int .i64 p.f1, .int .i64 p.f2, .slice B p.f3.length b] 44 (0, 0)) = W2 := ⟨_, rfl⟩
  have hs2 : W2.heap.size = w1.heap.size + 1 := by rw [← hW2]; simp
  rw [hW2] at HP1 HG1 HQ1 ⊢
  clear hW2
  have HS2 := Aside0.mk hs2
  clear hs2
  have hf0 : 0 ≤ p.f1 := by have := HP2.out; omega
  obtain ⟨n, hn⟩ : ∃ n : Nat, p.f1.toNat = n := ⟨_, rfl⟩
  have hn3 : 3 ≤ n ∧ n ≤ 256 := by have := HP2.out; omega
  have HN3 := Aside0.mk hn3
  have z0 : W2.cell? ⟨w.heap.size, 0, none⟩ = some (.slice A0 l0.length c0) := (blk_cell HG1.out 0).trans rfl
  have z1 : W2.cell? ⟨w.heap.size, 1, none⟩ = some (.slice A1 l1.length c1) := (blk_cell HG1.out 1).trans rfl
  have z2 : W2.cell? ⟨w.heap.size, 2, none⟩ = some (.slice (some ad) l2.length c2) := (blk_cell HG1.out 2).trans rfl
  have z3 : W2.cell? ⟨w.heap.size, 3, none⟩ = some (.slice A3 l3.length c3) := (blk_cell HG1.out 3).trans rfl
  have q0 : W2.cell? ⟨w1.heap.size, 0, none⟩ = some (.int .i64 p.f0) := (blk_cell HQ1.out 0).trans rfl
  have q1 : W2.cell? ⟨w1.heap.size, 1, none⟩ = some (.int .i64 p.f1) := (blk_cell HQ1.out 1).trans rfl
  have q2 : W2.cell? ⟨w1.heap.size, 2, none⟩ = some (.int .i64 p.f2) := (blk_cell HQ1.out 2).trans rfl
  have q3 : W2.cell? ⟨w1.heap.size, 3, none⟩ = some (.slice B p.f3.length b) := (blk_cell HQ1.out 3).trans rfl
  have HB3 := Aside0.mk ((Below.refl W2.heap.size W2).alloc (Nat.le_refl _) (.cells (Array.replicate n (Value.bool false)) 4))
  have z0' := (HB3.out.cell (World.block_lt_of_cell? W2 _ z0)).trans z0
  have z1' := (HB3.out.cell (World.block_lt_of_cell? W2 _ z1)).trans z1
  have z2' := (HB3.out.cell (World.block_lt_of_cell? W2 _ z2)).trans z2
  have z3' := (HB3.out.cell (World.block_lt_of_cell? W2 _ z3)).trans z3
  have q0' := (HB3.out.cell (World.block_lt_of_cell? W2 _ q0)).trans q0
  have q1' := (HB3.out.cell (World.block_lt_of_cell? W2 _ q1)).trans q1
  have q2' := (HB3.out.cell (World.block_lt_of_cell? W2 _ q2)).trans q2
  have q3' := (HB3.out.cell (World.block_lt_of_cell? W2 _ q3)).trans q3
  have hmk := mkb_run p.f1 hf0 (by omega)
  rw [hn] at hmk
  have HNF := Aside0.mk hn
  clear hn hn3 hf1
  go_region
  obtain ⟨W4, hW4⟩ : ∃ W4, ((W2.alloc (.cells (Array.replicate n (Value.bool false)) 4)).alloc (.cells #[.slice A0 l0.length c0, .slice A1 l1.length c1, .slice (some ad) l2.length c2, .slice A3 l3.length c3, .int .i64 p.f0, .int .i64 p.f1, .int .i64 p.f2, .slice B p.f3.length b, .slice (some ⟨W2.heap.size, 0, none⟩) n n, .slice none 0 0, .slice none 0 0] 91 (0, 0))).drew = W4 := ⟨_, rfl⟩
  have hold : Below w.heap.size w W2 := below_then (below_then HA.out HA.out.size HB1.out) (Nat.le_trans HA.out.size HB1.out.size) HP1.out
  have H0 : GoIs w W4 (W2.heap.size + 1) (.slice A0 l0.length c0) (.slice A1 l1.length c1) (.slice (some ad) l2.length c2) (.slice A3 l3.length c3) (.int .i64 p.f0) (.int .i64 p.f1) (.int .i64 p.f2) (.slice B p.f3.length b) (List.replicate n false) [] [] (.slice (some ⟨W2.heap.size, 0, none⟩) (List.replicate n false).length n) (.slice none 0 0) (.slice none 0 0) := by
    rw [List.length_replicate, ← hW4]
    exact ⟨blk_drew (blk_new2 W2 _ _), Kd.R_drew (Kd.R_alloc (mkb_R n (by have := HN3.out; omega) W2 w.heap.size hold.size (fun k => k ≠ W2.heap.size + 1) (Nat.ne_of_lt (Nat.lt_succ_self _))) _), Kd.R_nil _ _ _ _ _, Kd.R_nil _ _ _ _ _, (fun k hk e => by cases e), (fun k hk e => by cases e), (fun k hk e => by cases e), (below_then hold hold.size (below_alloc HB3.out _)).drew, by have := hold.size; omega⟩
  have HH0 := Aside0.mk H0
  have HH1 := Aside0.mk (H0.slot 2 true)
  have t1 := (Kd.R_cell false H0.rs 2 (by omega) (by rw [List.length_replicate]; have := HN3.out; omega))
  have t2 : W4.cell? ⟨W2.heap.size, 2, none⟩ = some (.bool (rdOf false (List.replicate n false) 2)) := t1.1
  have t3 : W4.frozen? ⟨W2.heap.size, 2, none⟩ = false := t1.2
  clear t1
  have g8 : W4.cell? ⟨W2.heap.size + 1, 8, none⟩ = some (.slice (some ⟨W2.heap.size, 0, none⟩) n n) := by
    rw [blk_cell H0.blk 8, List.length_replicate]; rfl
  rw [hW4]
  have d4 : (2 : Int) < (n : Int) := by have := HN3.out; omega
  have d5 : (n : Int) ≤ 9223372036854775807 := by have := HN3.out; omega
  clear hW4 H0 hold z0 z1 z2 z3 z0' z1' z2' z3' q0 q1 q2 q3 q0' q1' q2' q3' hmk HB3 HP1 HG1 HQ1 HA HB1
  go_wp2_with fail
  obtain ⟨W5, hW5⟩ : ∃ W5, W4.setCell ⟨W2.heap.size, 2, none⟩ (.bool true) = W5 := ⟨_, rfl⟩
  have H5 : GoIs w W5 (W2.heap.size + 1) (.slice A0 l0.length c0) (.slice A1 l1.length c1) (.slice (some ad) l2.length c2) (.slice A3 l3.length c3) (.int .i64 p.f0) (.int .i64 p.f1) (.int .i64 p.f2) (.slice B p.f3.length b) (slots0 p) [] [] (.slice (some ⟨W2.heap.size, 0, none⟩) n n) (.slice none 0 0) (.slice none 0 0) := by
    have h := HH1.out
    rw [List.length_replicate] at h
    rw [← hW5]
    unfold slots0
    rw [HNF.out]
    exact h
  have HX5 := Aside0.mk H5
  have HAT0 := Aside0.mk (show At (l0 := l0) (l1 := l1) (l2 := l2) (l3 := l3) p 0 (slots0 p) [] from ⟨.start, by unfold slots0; simp⟩)
  rw [hW5]
  clear hW5 H5 g8 t2 t3 d4 d5
  go_loopg [8] 200 (fun gk s8 wr => ∃ a_ : Int, s8 = .int .i64 a_ ∧ Aside0 (∃ s st wy vt vw, GoIs w wr (W2.heap.size + 1) (.slice A0 l0.length c0) (.slice A1 l1.length c1) (.slice (some ad) l2.length c2) (.slice A3 l3.length c3) (.int .i64 p.f0) (.int .i64 p.f1) (.int .i64 p.f2) (.slice B p.f3.length b) s st wy (.slice (some ⟨W2.heap.size, 0, none⟩) n n) vt vw ∧ At (l0 := l0) (l1 := l1) (l2 := l2) (l3 := l3) p a_ s st ∧ wy.length + gk = 200 ∧ wayL p gk wy a_ s st = R))
  case atStart => exact ⟨0, rfl, ⟨_, _, [], _, _, HX5.out, HAT0.out, rfl, HR.out⟩⟩
  case round =>
    obtain ⟨a_, rfl, ⟨s, st, wy, vt, vw, hG, hAt, hwl, hwL⟩⟩ := hrel
    obtain ⟨Aw, cw, ew⟩ := Kd.R_slice hG.rw
    subst ew
    have HG := Aside0.mk hG
    have HRW := Aside0.mk (Kd.R_reads' hG.rw)
    have HAT := Aside0.mk hAt
    have g10 := (blk_cell hG.blk 10).trans rfl
    cases gk with
    | zero =>
      have d1 : decide ((wy.length : Int) < 200) = false := decide_eq_false (by omega)
      have HWL := Aside0.mk hwL
      clear hG hAt hwl hwL
      go_wp2_with fail
      go_ret2
      obtain rfl : R' = ([], false) := by rw [← HR1.out, ← HWL.out]; rfl
      exact ⟨_, rfl, Kd.R_nil _ _ _ _ _, HG.out.old⟩
    | succ gk1 =>
      have d1 : decide ((wy.length : Int) < 200) = true := decide_eq_true (by omega)
      have hct : decide (a_ ∈ wy) = wy.contains a_ := by rw [Bool.eq_iff_iff, decide_eq_true_iff, List.contains_iff_mem]
      rw [wayL] at hwL
      have HWL := Aside0.mk hwl
      cases hc : wy.contains a_ with
      | true =>
        rw [hc] at hct
        rw [if_pos hc] at hwL
        have HCT := Aside0.mk hct
        have HRE := Aside0.mk hwL
        clear hG hAt hwl hwL hct hc
        go_wp2_with (go_at_call 69; go_loud (refine (contains19_calls Aw cw wy a_ _ HRW.out.2.2 (by have := HWL.out; omega)).mono ?_); rintro e w2 ⟨rfl, rfl⟩; rw [HCT.out])
        go_ret2
        obtain rfl : R' = ([], false) := by rw [← HR1.out, ← HRE.out]; rfl
        exact ⟨_, rfl, Kd.R_nil _ _ _ _ _, HG.out.old⟩
      | false =>
        rw [hc] at hct
        rw [if_neg (by rw [hc]; decide)] at hwL
        have HCT := Aside0.mk hct
        have hfa := At.facts HMM.out HGD.out HRT.out hAt
        have HF := Aside0.mk hfa.1
        have HNX := Aside0.mk hfa.2
        obtain ⟨rr, hrr⟩ : ∃ rr, goP p a_ s st = rr := ⟨_, rfl⟩
        rw [hrr] at hwL
        have HRR := Aside0.mk hrr
        clear hG hAt hwl hct hc hfa hrr
        cases hok : rr.ok with
        | false =>
          rw [if_pos hok] at hwL
          have hR2 : R.2 = false := by rw [← hwL]; split <;> rfl
          obtain rfl : R' = ([], false) := by rw [← HR1.out, hR2]; rfl
          have HOK := Aside0.mk hok
          clear hwL hR2 hok
          go_wp2_with (first | (go_at_call 69; go_loud (refine (contains19_calls Aw cw wy a_ _ HRW.out.2.2 (by have := HWL.out; omega)).mono ?_); rintro e w2 ⟨rfl, rfl⟩; rw [HCT.out]; have HG2 := Aside0.mk HG.out; have y10 := (blk_cell HG2.out.blk 10).trans rfl) | ((with_reducible refine gate_builtin (b := .append) (xs := #[.tmp 60, .tmp 62]) rfl ?_); at_builtin; go_loud (refine Kd.R_append (Kd.int .i64) (w0 := w) w.heap.size rfl (.tmp 60) (.tmp 62) 39 3 (.int .i64 0) 8 rfl Tryd.underlying39 info3 rfl (by decide) (by omega) (.slice Aw wy.length cw) wy a_ [.int .i64 a_] (fun k => k ≠ W2.heap.size + 1 ∧ (Value.slice (some ⟨W2.heap.size, 0, none⟩) n n).ownBlock ≠ some k ∧ vt.ownBlock ≠ some k) (fun _ => False) rfl rfl rfl (fun _ hk => hk.elim) HG2.out.freshw HG2.out.rw2 HG2.out.old HG2.out.old.size (by have := HWL.out; omega) ?_; intro v1 w3 hr hb hg hat; obtain ⟨z9, zf, hq⟩ := HG2.out.wayed hr hb hg; have HQ := Aside0.mk hq; obtain ⟨Av, cv, ev⟩ := Kd.R_slice hr; generalize (wy ++ [a_]).length = m at ev; clear hr hb hg hat hq; subst ev)) | (go_at_call 70; go_loud (refine (goInstr_calls w _ (W2.heap.size + 1) p B b s st (wy ++ [a_]) (.slice (some ⟨W2.heap.size, 0, none⟩) n n) vt (.slice Av m cv) HMD.out HMX.out HLB.out HCB.out HQ.out a_ HF.out hfew (HF.out.eff HH.out HME.out)).mono ?_); rintro e w4 ⟨rfl, vt5, hq⟩; rw [HRR.out] at hq ⊢; rw [HOK.out]; have HQ5 := Aside0.mk hq; have y10 := (blk_cell hq.blk 10).trans rfl; clear hq))
          go_ret2
          exact ⟨_, rfl, Kd.R_nil _ _ _ _ _, HQ5.out.old⟩
        | true =>
          rw [if_neg (by rw [hok]; decide)] at hwL
          have HOK := Aside0.mk hok
          by_cases hneg : rr.nx < 0
          · rw [if_pos hneg] at hwL
            obtain rfl : R' = (wy ++ [a_], true) := by rw [← HR1.out, ← hwL]; rfl
            have d3 : decide (rr.nx < 0) = true := decide_eq_true hneg
            clear hwL hneg hok
            go_wp2_with (first | (go_at_call 69; go_loud (refine (contains19_calls Aw cw wy a_ _ HRW.out.2.2 (by have := HWL.out; omega)).mono ?_); rintro e w2 ⟨rfl, rfl⟩; rw [HCT.out]; have HG2 := Aside0.mk HG.out; have y10 := (blk_cell HG2.out.blk 10).trans rfl) | ((with_reducible refine gate_builtin (b := .append) (xs := #[.tmp 60, .tmp 62]) rfl ?_); at_builtin; go_loud (refine Kd.R_append (Kd.int .i64) (w0 := w) w.heap.size rfl (.tmp 60) (.tmp 62) 39 3 (.int .i64 0) 8 rfl Tryd.underlying39 info3 rfl (by decide) (by omega) (.slice Aw wy.length cw) wy a_ [.int .i64 a_] (fun k => k ≠ W2.heap.size + 1 ∧ (Value.slice (some ⟨W2.heap.size, 0, none⟩) n n).ownBlock ≠ some k ∧ vt.ownBlock ≠ some k) (fun _ => False) rfl rfl rfl (fun _ hk => hk.elim) HG2.out.freshw HG2.out.rw2 HG2.out.old HG2.out.old.size (by have := HWL.out; omega) ?_; intro v1 w3 hr hb hg hat; obtain ⟨z9, zf, hq⟩ := HG2.out.wayed hr hb hg; have HQ := Aside0.mk hq; obtain ⟨Av, cv, ev⟩ := Kd.R_slice hr; generalize (wy ++ [a_]).length = m at ev; clear hr hb hg hat hq; subst ev)) | (go_at_call 70; go_loud (refine (goInstr_calls w _ (W2.heap.size + 1) p B b s st (wy ++ [a_]) (.slice (some ⟨W2.heap.size, 0, none⟩) n n) vt (.slice Av m cv) HMD.out HMX.out HLB.out HCB.out HQ.out a_ HF.out hfew (HF.out.eff HH.out HME.out)).mono ?_); rintro e w4 ⟨rfl, vt5, hq⟩; rw [HRR.out] at hq ⊢; rw [HOK.out]; have HQ5 := Aside0.mk hq; have y10 := (blk_cell hq.blk 10).trans rfl; clear hq))
            go_ret2
            exact ⟨_, rfl, Kd.R_mono HQ5.out.rw (fun _ _ => trivial), HQ5.out.old⟩
          · rw [if_neg hneg] at hwL
            have d3 : decide (rr.nx < 0) = false := decide_eq_false hneg
            have hn := HNX.out (by rw [HRR.out]; exact hok) (by rw [HRR.out]; omega)
            rw [HRR.out] at hn
            have HN := Aside0.mk hn
            have HWE := Aside0.mk hwL
            have HWS := Aside0.mk (show (wy ++ [a_]).length + gk1 = 200 by have := HWL.out; simp only [List.length_append, List.length_cons, List.length_nil]; omega)
            clear hwL hneg hok hn
            go_wp2_with (first | (go_at_call 69; go_loud (refine (contains19_calls Aw cw wy a_ _ HRW.out.2.2 (by have := HWL.out; omega)).mono ?_); rintro e w2 ⟨rfl, rfl⟩; rw [HCT.out]; have HG2 := Aside0.mk HG.out; have y10 := (blk_cell HG2.out.blk 10).trans rfl) | ((with_reducible refine gate_builtin (b := .append) (xs := #[.tmp 60, .tmp 62]) rfl ?_); at_builtin; go_loud (refine Kd.R_append (Kd.int .i64) (w0 := w) w.heap.size rfl (.tmp 60) (.tmp 62) 39 3 (.int .i64 0) 8 rfl Tryd.underlying39 info3 rfl (by decide) (by omega) (.slice Aw wy.length cw) wy a_ [.int .i64 a_] (fun k => k ≠ W2.heap.size + 1 ∧ (Value.slice (some ⟨W2.heap.size, 0, none⟩) n n).ownBlock ≠ some k ∧ vt.ownBlock ≠ some k) (fun _ => False) rfl rfl rfl (fun _ hk => hk.elim) HG2.out.freshw HG2.out.rw2 HG2.out.old HG2.out.old.size (by have := HWL.out; omega) ?_; intro v1 w3 hr hb hg hat; obtain ⟨z9, zf, hq⟩ := HG2.out.wayed hr hb hg; have HQ := Aside0.mk hq; obtain ⟨Av, cv, ev⟩ := Kd.R_slice hr; generalize (wy ++ [a_]).length = m at ev; clear hr hb hg hat hq; subst ev)) | (go_at_call 70; go_loud (refine (goInstr_calls w _ (W2.heap.size + 1) p B b s st (wy ++ [a_]) (.slice (some ⟨W2.heap.size, 0, none⟩) n n) vt (.slice Av m cv) HMD.out HMX.out HLB.out HCB.out HQ.out a_ HF.out hfew (HF.out.eff HH.out HME.out)).mono ?_); rintro e w4 ⟨rfl, vt5, hq⟩; rw [HRR.out] at hq ⊢; rw [HOK.out]; have HQ5 := Aside0.mk hq; have y10 := (blk_cell hq.blk 10).trans rfl; clear hq))
            go_roundg gk1
            case measure => omega
            case rel => exact ⟨rr.nx, rfl, ⟨_, _, _, _, _, HQ5.out, HN.out, HWS.out, HWE.out⟩⟩
end
end Go.Proofs.YtfncoldcjhkhiaaDoor.NW
namespace Go.Proofs.YtfncoldcjhkhiaaDoor.Pure
open Go.RowKit Go.Proofs.YtfncoldcjhkhiaaDoor.PC Go.Proofs.YtfncoldcjhkhiaaDoor.NW Go.Proofs.YtfncoldcjhkhiaaDoorW.PrintWords Go.Proofs.YtfncoldcjhkhiaaDoorW.PrintMore
/-- guess.Way -/
theorem Way_calls {A0 : Option Addr} {c0 : Nat} {l0 : List Int} {A1 : Option Addr} {c1 : Nat} {l1 : List ByteArray} {A2 : Option Addr} {c2 : Nat} {l2 : List S44} {A3 : Option Addr} {c3 : Nat} {l3 : List S41} (w : World) (h : FitM l0 l1 l2 l3) (hsz : ∀ s ∈ l1, s.size ≤ reachBytes) (hM : MaxOk w) (hmd : ModIs w A0 c0 l0 A1 c1 l1 A2 c2 l2 A3 c3 l3) (a : Int) :
    Calls Tryd.prog 35 #[.agg #[.slice A0 l0.length c0, .slice A1 l1.length c1, .slice A2 l2.length c2, .slice A3 l3.length c3], .int .i64 a] w fun e w' => ∃ v, e = .returned (.tuple #[v, .bool (wayS l0 l1 l2 l3 a).2]) ∧ Kd.R (Kd.int .i64) 3 w' w.heap.size (fun _ => True) v (wayS l0 l1 l2 l3 a).1 ∧ Below w.heap.size w w' :=
  (way_calls w h hsz hM hmd a).mono fun _ _ h => h
end Go.Proofs.YtfncoldcjhkhiaaDoor.Pure
