/- verify.Depths. -/
import Derived.Test.YtfncoldcjhkhiaaDoorFd
import Derived.Test.YtfncoldcjhkhiaaDoorTi
import Derived.Outline
namespace Go.Proofs.YtfncoldcjhkhiaaDoor.NW
open Go.RowKit Go.Proofs.YtfncoldcjhkhiaaDoorW.PrintWords Go.Proofs.YtfncoldcjhkhiaaDoorW.PrintMore Go.Proofs.YtfncoldcjhkhiaaDoor.PC
set_option linter.unusedVariables false
set_option linter.unusedSimpArgs false
theorem rd44_in {l : List S44} {a : Int} (h0 : 0 ≤ a) (h : a < l.length) : rd_T44 l a ∈ l := by
  have h' : a.toNat < l.length := by omega
  rw [rd_T44, List.getD_eq_getElem?_getD, List.getElem?_eq_getElem h']; exact List.getElem_mem h'
theorem mk_run (n : Nat) (hn : n ≤ 1000000) (W : World) : (Instr.makeSlice 39 (.int .i64 (n : Int)) (.int .i64 (n : Int))).run Tryd.prog W = .ok (.slice (some ⟨W.heap.size, 0, none⟩) n n) (W.alloc (.cells (Array.replicate n (Value.int .i64 0)) 3)) := by
  obtain ⟨i0, hi, hzz⟩ := Option.map_eq_some_iff.1 info3
  simp only [Prod.mk.injEq] at hzz
  obtain ⟨hz0, hz1, hz2⟩ := hzz
  have hr := Go.run_make (P := Tryd.prog) W 39 3 i0 (.int .i64 0) Tryd.underlying39 hi hz0 .i64 .i64 (n : Int) (n : Int) (by omega) (by omega) (by rw [hz2]; omega) (by omega)
  rw [hr, hz1]
  have h4 : madeCells (Value.cells (.int .i64 0)) n = Array.replicate n (Value.int .i64 0) := by
    rw [← Array.toList_inj, show Value.cells (.int .i64 0) = #[.int .i64 0] from rfl, Go.toList_madeCells_one, Array.toList_replicate]
  simp [h4]
theorem mk_R (n : Nat) (hn : n ≤ 1000000) (W : World) (base : Nat) (hb : base ≤ W.heap.size) (ok : Nat → Prop) (hok : ok W.heap.size) : (Kd.int .i64).R 3 (W.alloc (.cells (Array.replicate n (Value.int .i64 0)) 3)) base ok (.slice (some ⟨W.heap.size, 0, none⟩) n n) (List.replicate n 0) := by
  rw [show Array.replicate n (Value.int .i64 0) = (List.replicate n (Value.int .i64 0)).toArray by simp]
  have h2 := World.ownsRow_lit (base := base) (e := 3) (size := 1) W (List.replicate n (Value.int .i64 0)).toArray n hb (by unfold maxLen; omega) (by simp)
  have h3 : (W.alloc (.cells (List.replicate n (Value.int .i64 0)).toArray 3)).ownsRow base 3 1 (.slice (some ⟨W.heap.size, 0, none⟩) n n) (List.replicate n (0 : Int)).length (encs (Value.int .i64) (List.replicate n 0)) := by
    rw [List.length_replicate]
    simpa [encs] using h2
  exact Kd.R_of_own h3 (fun k hk => by simp [Value.ownBlock] at hk; rw [← hk]; exact hok)
theorem all_none {D : List Int} {n : Nat} (hl : D.length = n) (h : ∀ j : Nat, j < n → Flow.at_ D j = -1) : D = List.replicate n (-1) := by
  refine List.ext_getElem (by simp [hl]) fun i h1 h2 => ?_
  have := h i (by omega)
  unfold Flow.at_ at this
  rw [Int.toNat_natCast, List.getD_eq_getElem?_getD, List.getElem?_eq_getElem h1] at this
  rw [List.getElem_replicate]; exact this
theorem goes_first {n : Nat} (hn : 0 < n) : Flow.goesS n (List.replicate n (-1)) [] 0 0 = (true, Flow.zero_ n, [0]) := by
  unfold Flow.goesS
  rw [if_neg (by omega), if_pos]
  · rfl
  · unfold Flow.at_
    rw [List.getD_eq_getElem?_getD, List.getElem?_replicate, if_pos (by simpa using hn)]; rfl
theorem zero_open (n : Nat) : Flow.open_ (Flow.zero_ n) ≤ n := by
  unfold Flow.open_ Flow.zero_
  refine Nat.le_trans List.countP_le_length ?_
  simp
theorem takeI {w : World} {base n m c : Nat} {ok : Nat → Prop} {A : Option Addr} {xs : List Int} (h : (Kd.int .i64).R 3 w base ok (.slice A n c) xs) (hm : m ≤ xs.length) : (Kd.int .i64).R 3 w base ok (.slice A m c) (xs.take m) := by
  have hn := (Kd.R_reads' h).1
  obtain ⟨h1, h2⟩ := Kd.own_of_R h
  have ho : w.ownsRow base 3 1 (.slice A m c) (xs.take m).length (encs (Value.int .i64) (xs.take m)) := by
    rw [List.length_take, Nat.min_eq_left hm]
    refine ⟨by simp [encs, hm], ?_⟩
    rcases h2 with ⟨he, h0⟩ | ⟨g, cap, cur, he, hb, hh, hnc, hcm, hcs, ht⟩
    · injection he with ha _ hc
      subst ha; subst hc
      exact .inl ⟨by rw [show m = 0 by omega], by omega⟩
    · injection he with ha _ hc
      subst ha; subst hc
      refine .inr ⟨g, c, cur, rfl, hb, hh, by omega, hcm, hcs, ?_⟩
      have : encs (Value.int .i64) (xs.take m) = (encs (Value.int .i64) xs).take m := by simp [encs]
      rw [this, ← ht, List.take_take, Nat.mul_one, Nat.mul_one, Nat.min_eq_left hm]
  exact Kd.R_of_own ho (fun k hk => h.1 k (by rw [show (Value.slice A n c).ownBlock = (Value.slice A m c).ownBlock by cases A <;> rfl]; exact hk))
theorem ChkIs.putD {A0 A1 A2 A3 B : Option Addr} {n0 n1 n2 n3 c0 c1 c2 c3 nb b : Nat} {w0 w : World} {g h n cd : Nat} {p0 p1 p2 : Int} {D T : List Int} {v : Value} (H : ChkIs w0 w g h n (chkCells A0 n0 c0 A1 n1 c1 A2 n2 c2 A3 n3 c3 p0 p1 p2 B nb b) cd D T v) (s : Nat) (e : Int) :
    ChkIs w0 (w.setCell ⟨h, s, none⟩ (.int .i64 e)) g h n (chkCells A0 n0 c0 A1 n1 c1 A2 n2 c2 A3 n3 c3 p0 p1 p2 B nb b) cd (D.set s e) T v := by
  have hD1 := (Kd.R_put H.dR (s : Int) e).1
  rw [Int.toNat_natCast] at hD1
  have hB := blk_far H.blk (p := ⟨h, s, none⟩) H.gh (.int .i64 e)
  exact ⟨by rw [List.length_set]; exact hB, by rw [List.length_set]; exact hD1, Kd.R_far H.tR (p := ⟨h, s, none⟩) (fun k hk => hk.2) _, H.old.setCell (p := ⟨h, s, none⟩) H.hl _, H.gh, H.gl, H.hl, by rw [List.length_set]; exact H.len⟩
theorem ChkIs.popT {A0 A1 A2 A3 B : Option Addr} {n0 n1 n2 n3 c0 c1 c2 c3 nb b : Nat} {w0 w : World} {g h n cd : Nat} {p0 p1 p2 : Int} {D T : List Int} {x : Int} {v : Value} (H : ChkIs w0 w g h n (chkCells A0 n0 c0 A1 n1 c1 A2 n2 c2 A3 n3 c3 p0 p1 p2 B nb b) cd D (T ++ [x]) v) :
    ∃ A c, v = .slice (some ⟨A, 0, none⟩) (T.length + 1) c ∧ T.length + 1 ≤ c ∧ w.cell? ⟨A, T.length, none⟩ = some (.int .i64 x) ∧
      ChkIs w0 (w.setCell ⟨g, 9, none⟩ (.slice (some ⟨A, 0, none⟩) T.length c)) g h n (chkCells A0 n0 c0 A1 n1 c1 A2 n2 c2 A3 n3 c3 p0 p1 p2 B nb b) cd D T (.slice (some ⟨A, 0, none⟩) T.length c) := by
  obtain ⟨A, c, rfl, _⟩ := Kd.R_form H.tR (by simp)
  have hle := (Kd.R_reads' H.tR).2.1
  have hb := H.blk
  have hq := (Kd.R_cell 0 H.tR (T.length : Int) (by omega) (by simp; omega)).1
  have hT := takeI H.tR (m := T.length) (by simp)
  simp only [List.length_append, List.length_cons, List.length_nil, Nat.zero_add] at hle hb ⊢
  rw [Int.toNat_natCast, show rdOf 0 (T ++ [x]) (T.length : Int) = x by rw [rdOf, Int.toNat_natCast, List.getD_eq_getElem?_getD]; simp] at hq
  rw [List.take_left] at hT
  refine ⟨A, c, rfl, hle, hq, blk_put hb 9 _ rfl, Kd.R_far H.dR (p := ⟨g, 9, none⟩) (fun k hk => by rw [hk]; exact H.gh.symm) _, Kd.R_far hT (p := ⟨g, 9, none⟩) (fun k hk => hk.1) _, H.old.setCell (p := ⟨g, 9, none⟩) H.gl _, H.gh, H.gl, H.hl, H.len⟩
section
variable {A0 : Option Addr} {c0 : Nat} {l0 : List Int} {A1 : Option Addr} {c1 : Nat} {l1 : List ByteArray} {A2 : Option Addr} {c2 : Nat} {l2 : List S44} {A3 : Option Addr} {c3 : Nat} {l3 : List S41}
/-- code.May answers as the document says -/
theorem may_calls1 (w : World) (h : Pure.FitM l0 l1 l2 l3) (hsz : ∀ s ∈ l1, s.size ≤ reachBytes) (hM : MaxOk w) (hmd : ModIs w A0 c0 l0 A1 c1 l1 A2 c2 l2 A3 c3 l3) :
    Calls Tryd.prog 24 #[.agg #[.slice A0 l0.length c0, .slice A1 l1.length c1, .slice A2 l2.length c2, .slice A3 l3.length c3]] w fun e w' => e = .returned (.bool (mayS (Pure.insM l0 l1 l2 l3) l0 l1 l2 l3)) ∧ Below w.heap.size w w' :=
  may_calls (Pure.insM l0 l1 l2 l3) w hmd hM hsz fun p hp x hx => ⟨20, Pure.instr_code l0 l1 l2 l3 p x 0 h.f (h.a p hp x hx)⟩
set_option maxHeartbeats 3200000 in
set_option maxRecDepth 1000000 in
theorem depths_bad (a : Int) (w : World) (h : Pure.FitM l0 l1 l2 l3) (hsz : ∀ s ∈ l1, s.size ≤ reachBytes) (hM : MaxOk w) (hmd : ModIs w A0 c0 l0 A1 c1 l1 A2 c2 l2 A3 c3 l3) (hbad : a < 0 ∨ a ≥ l2.length ∨ mayS (Pure.insM l0 l1 l2 l3) l0 l1 l2 l3 = false) :
    Calls Tryd.prog 32 #[.agg #[.slice A0 l0.length c0, .slice A1 l1.length c1, .slice A2 l2.length c2, .slice A3 l3.length c3], .int .i64 a] w fun e w' => e = .returned (.slice none 0 0) ∧ Below w.heap.size w w' := by
  have hA := (Below.refl w.heap.size w).alloc (Nat.le_refl _) (.cells #[.slice A0 l0.length c0, .slice A1 l1.length c1, .slice A2 l2.length c2, .slice A3 l3.length c3] 30 (0, 0))
  have hG := blk_new w (.cells #[.slice A0 l0.length c0, .slice A1 l1.length c1, .slice A2 l2.length c2, .slice A3 l3.length c3] 30 (0, 0))
  have g0 := (blk_cell hG 0).trans rfl
  have g1 := (blk_cell hG 1).trans rfl
  have g2 := (blk_cell hG 2).trans rfl
  have g3 := (blk_cell hG 3).trans rfl
  have m2 := Kd.C_max hmd.r2
  have HA := Aside0.mk hA
  have HC := Aside0.mk (may_calls1 _ h hsz (hM.below hA) (hmd.below hA))
  clear hG hA h hsz hM hmd
  by_cases k1 : a < 0
  · have d1 : decide (a < 0) = true := decide_eq_true k1
    clear k1 hbad
    go_enter Tryd.func32, Tryd.ntmps32
    go_wp2
    go_ret
    exact ⟨rfl, HA.out⟩
  have d1 : decide (a < 0) = false := decide_eq_false k1
  by_cases k2 : a ≥ l2.length
  · have d2 : decide ((l2.length : Int) ≤ a) = true := decide_eq_true k2
    clear k1 k2 hbad
    go_enter Tryd.func32, Tryd.ntmps32
    go_wp2
    go_ret
    exact ⟨rfl, HA.out⟩
  have d2 : decide ((l2.length : Int) ≤ a) = false := decide_eq_false k2
  have HF := Aside0.mk ((hbad.resolve_left k1).resolve_left k2)
  clear k1 k2 hbad
  go_enter Tryd.func32, Tryd.ntmps32
  go_wp2_with (go_at_call 24; refine HC.out.mono ?_; rintro e w1 ⟨rfl, hb1⟩; rw [HF.out])
  go_ret
  exact ⟨rfl, HA.out.trans (hb1.mono (by simp))⟩
set_option maxHeartbeats 3200000 in
set_option maxRecDepth 1000000 in
theorem depths_calls (a : Int) (w : World) (h : Pure.FitM l0 l1 l2 l3) (hsz : ∀ s ∈ l1, s.size ≤ reachBytes) (hM : MaxOk w) (hmd : ModIs w A0 c0 l0 A1 c1 l1 A2 c2 l2 A3 c3 l3) (ha : 0 ≤ a ∧ a < l2.length) (hmay : mayS (Pure.insM l0 l1 l2 l3) l0 l1 l2 l3 = true) :
    Calls Tryd.prog 32 #[.agg #[.slice A0 l0.length c0, .slice A1 l1.length c1, .slice A2 l2.length c2, .slice A3 l3.length c3], .int .i64 a] w fun e w' => Below w.heap.size w w' ∧ 
      ((e = .returned (.slice none 0 0) ∧ ¬ Flow.Right (Pure.grf l0 l1 l2 l3 (rd_T44 l2 a))) ∨ ∃ v D, e = .returned v ∧ Kd.R (Kd.int .i64) 3 w' w.heap.size (fun _ => True) v D ∧ Flow.Right (Pure.grf l0 l1 l2 l3 (rd_T44 l2 a)) ∧ Flow.Tab (Pure.grf l0 l1 l2 l3 (rd_T44 l2 a)) D) := by
  have hA := (Below.refl w.heap.size w).alloc (Nat.le_refl _) (.cells #[.slice A0 l0.length c0, .slice A1 l1.length c1, .slice A2 l2.length c2, .slice A3 l3.length c3] 30 (0, 0))
  have hG := blk_new w (.cells #[.slice A0 l0.length c0, .slice A1 l1.length c1, .slice A2 l2.length c2, .slice A3 l3.length c3] 30 (0, 0))
  have g2 : (w.alloc (.cells #[.slice A0 l0.length c0, .slice A1 l1.length c1, .slice A2 l2.length c2, .slice A3 l3.length c3] 30 (0, 0))).cell? ⟨w.heap.size, 2, none⟩ = some (.slice A2 l2.length c2) := (blk_cell hG 2).trans rfl
  have m2 := Kd.C_max hmd.r2
  have HC := Aside0.mk (may_calls1 _ h hsz (hM.below hA) (hmd.below hA))
  have d1 : decide (a < 0) = false := decide_eq_false (by omega)
  have d2 : decide ((l2.length : Int) ≤ a) = false := decide_eq_false (by omega)
  have HF := Aside0.mk hmay
  have HH := Aside0.mk h
  have HMX := Aside0.mk hM
  have HMD := Aside0.mk hmd
  have g0 := (blk_cell hG 0).trans rfl
  have g1 := (blk_cell hG 1).trans rfl
  have g3 := (blk_cell hG 3).trans rfl
  obtain ⟨ad, B, b, ea, q0, q1, q2, q3, hlb, hCB⟩ := at_T44 hmd.r2 a ha.1 ha.2
  generalize hpp : rd_T44 l2 a = p at *
  subst ea
  have HGD := Aside0.mk (Pure.good_of ((Pure.may_good hmay).1 p (by rw [← hpp]; exact rd44_in ha.1 ha.2)))
  have HLB := Aside0.mk hlb
  have HCB := Aside0.mk hCB
  have HG := Aside0.mk hG
  have HA := Aside0.mk hA
  have ha0 := ha.1
  have ha1 := ha.2
  have r0 := (hA.cell (World.block_lt_of_cell? w _ q0)).trans q0
  have r1 := (hA.cell (World.block_lt_of_cell? w _ q1)).trans q1
  have r2 := (hA.cell (World.block_lt_of_cell? w _ q2)).trans q2
  have r3 := (hA.cell (World.block_lt_of_cell? w _ q3)).trans q3
  clear hmay h hsz hM hmd hlb hCB hG hA q0 q1 q2 q3
  go_enter Tryd.func32, Tryd.ntmps32
  go_wp2_with (go_at_call 24; refine HC.out.mono ?_; rintro e w1 ⟨rfl, hb1⟩; rw [HF.out]; have HB1 := Aside0.mk hb1; have G1 := blk_below HG.out hb1; have z0 := (blk_cell G1 0).trans rfl; have z1 := (blk_cell G1 1).trans rfl; have z2 := (blk_cell G1 2).trans rfl; have z3 := (blk_cell G1 3).trans rfl; have s0 := (hb1.cell (World.block_lt_of_cell? _ _ r0)).trans r0; have s1 := (hb1.cell (World.block_lt_of_cell? _ _ r1)).trans r1; have s2 := (hb1.cell (World.block_lt_of_cell? _ _ r2)).trans r2; have s3 := (hb1.cell (World.block_lt_of_cell? _ _ r3)).trans r3; have P1 := (Below.refl w1.heap.size w1).alloc (Nat.le_refl _) (.cells #[.int .i64 p.f0, .int .i64 p.f1, .int .i64 p.f2, .slice B p.f3.length b] 44 (0, 0)); have HP1 := Aside0.mk P1; have HG1 := Aside0.mk (blk_below G1 P1); have HQ1 := Aside0.mk (blk_new w1 (.cells #[.int .i64 p.f0, .int .i64 p.f1, .int .i64 p.f2, .slice B p.f3.length b] 44 (0, 0))); clear G1 hb1 P1 z0 z1 z3)
  clear s0 s1 s2 s3 g0 g1 g2 g3 r0 r1 r2 r3
  obtain ⟨W2, hW2⟩ : ∃ W2, w1.alloc (.cells #[.int .i64 p.f0, .int .i64 p.f1, .int .i64 p.f2, .slice B p.f3.length b] 44 (0, 0)) = W2 := ⟨_, rfl⟩
  have hs2 : W2.heap.size = w1.heap.size + 1 := by rw [← hW2]; simp
  rw [hW2] at HP1 HG1 HQ1 ⊢
  clear hW2
  have HS2 := Aside0.mk hs2
  clear hs2
  have hfew : p.f3.length ≤ 1000000 := by have := HGD.out.few; omega
  have z0 : W2.cell? ⟨w.heap.size, 0, none⟩ = some (.slice A0 l0.length c0) := (blk_cell HG1.out 0).trans rfl
  have z1 : W2.cell? ⟨w.heap.size, 1, none⟩ = some (.slice A1 l1.length c1) := (blk_cell HG1.out 1).trans rfl
  have z2 : W2.cell? ⟨w.heap.size, 2, none⟩ = some (.slice (some ad) l2.length c2) := (blk_cell HG1.out 2).trans rfl
  have z3 : W2.cell? ⟨w.heap.size, 3, none⟩ = some (.slice A3 l3.length c3) := (blk_cell HG1.out 3).trans rfl
  have q0 : W2.cell? ⟨w1.heap.size, 0, none⟩ = some (.int .i64 p.f0) := (blk_cell HQ1.out 0).trans rfl
  have q1 : W2.cell? ⟨w1.heap.size, 1, none⟩ = some (.int .i64 p.f1) := (blk_cell HQ1.out 1).trans rfl
  have q2 : W2.cell? ⟨w1.heap.size, 2, none⟩ = some (.int .i64 p.f2) := (blk_cell HQ1.out 2).trans rfl
  have q3 : W2.cell? ⟨w1.heap.size, 3, none⟩ = some (.slice B p.f3.length b) := (blk_cell HQ1.out 3).trans rfl
  have HB3 := Aside0.mk ((Below.refl W2.heap.size W2).alloc (Nat.le_refl _) (.cells (Array.replicate p.f3.length (Value.int .i64 0)) 3))
  have z0' := (HB3.out.cell (World.block_lt_of_cell? W2 _ z0)).trans z0
  have z1' := (HB3.out.cell (World.block_lt_of_cell? W2 _ z1)).trans z1
  have z2' := (HB3.out.cell (World.block_lt_of_cell? W2 _ z2)).trans z2
  have z3' := (HB3.out.cell (World.block_lt_of_cell? W2 _ z3)).trans z3
  have q0' := (HB3.out.cell (World.block_lt_of_cell? W2 _ q0)).trans q0
  have q1' := (HB3.out.cell (World.block_lt_of_cell? W2 _ q1)).trans q1
  have q2' := (HB3.out.cell (World.block_lt_of_cell? W2 _ q2)).trans q2
  have q3' := (HB3.out.cell (World.block_lt_of_cell? W2 _ q3)).trans q3
  have hmk := mk_run p.f3.length hfew
  go_region
  obtain ⟨W4, hW4⟩ : ∃ W4, ((W2.alloc (.cells (Array.replicate p.f3.length (Value.int .i64 0)) 3)).alloc (.cells ((chkCells A0 l0.length c0 A1 l1.length c1 (some ad) l2.length c2 A3 l3.length c3 p.f0 p.f1 p.f2 B p.f3.length b) (.slice (some ⟨W2.heap.size, 0, none⟩) p.f3.length p.f3.length) (.slice none 0 0)) 86 (0, 0))).drew = W4 := ⟨_, rfl⟩
  have hold : Below w.heap.size w W2 := below_then (below_then HA.out HA.out.size HB1.out) (Nat.le_trans HA.out.size HB1.out.size) HP1.out
  have H0 : ChkIs w W4 (W2.heap.size + 1) W2.heap.size p.f3.length (chkCells A0 l0.length c0 A1 l1.length c1 (some ad) l2.length c2 A3 l3.length c3 p.f0 p.f1 p.f2 B p.f3.length b) p.f3.length (List.replicate p.f3.length 0) [] (.slice none 0 0) := by
    rw [← hW4]
    refine ⟨by rw [List.length_replicate]; exact blk_drew (blk_new2 W2 _ _), by rw [List.length_replicate]; exact Kd.R_drew (Kd.R_alloc (mk_R p.f3.length hfew W2 w.heap.size hold.size (fun k => k = W2.heap.size) rfl) _), Kd.R_nil _ _ _ _ _, (below_then hold hold.size (below_alloc HB3.out _)).drew, by omega, by have := hold.size; omega, hold.size, List.length_replicate⟩
  have hMD := HMD.out
  have hMX := HMX.out
  rw [hW4]
  have HH0 := Aside0.mk H0
  have HS4 : W2.heap.size + 1 ≠ W2.heap.size := by omega
  have g8 : W4.cell? ⟨W2.heap.size + 1, 8, none⟩ = some (.slice (some ⟨W2.heap.size, 0, none⟩) p.f3.length p.f3.length) := by
    rw [blk_cell H0.blk 8, List.length_replicate]; rfl
  clear hW4 hold H0 z0 z1 z2 z3 z0' z1' z2' z3' q0 q1 q2 q3 q0' q1' q2' q3' hmk HB3 HP1 HG1 HQ1 hMD hMX HC HA HB1
  go_wp2_with fail
  go_loopw [41] (fun i wr => ∃ k : Nat, k ≤ p.f3.length ∧ i = .int .i64 (k : Int) ∧ Aside0 (∃ D, ChkIs w wr (W2.heap.size + 1) W2.heap.size p.f3.length (chkCells A0 l0.length c0 A1 l1.length c1 (some ad) l2.length c2 A3 l3.length c3 p.f0 p.f1 p.f2 B p.f3.length b) p.f3.length D [] (.slice none 0 0) ∧ ∀ j : Nat, j < k → Flow.at_ D j = -1)) (fun i _ => p.f3.length - (intOf i).toNat)
  case atStart => exact ⟨0, by omega, rfl, ⟨_, HH0.out, fun j hj => by omega⟩⟩
  case round =>
    obtain ⟨k, hk, rfl, ⟨D, HD, hall⟩⟩ := hrel
    have hlen := HD.len
    by_cases hlt : k < p.f3.length
    · have hq := Kd.R_cell 0 HD.dR (k : Int) (by omega) (by omega)
      rw [Int.toNat_natCast] at hq
      obtain ⟨q0, qf⟩ := hq
      have g8 : wr.cell? ⟨W2.heap.size + 1, 8, none⟩ = some (.slice (some ⟨W2.heap.size, 0, none⟩) D.length p.f3.length) := (blk_cell HD.blk 8).trans rfl
      rw [hlen] at g8
      have HN := Aside0.mk (HD.putD k (-1))
      have HALL := Aside0.mk hall
      have HL := Aside0.mk hlen
      clear HD hall hlen
      go_wp2_with fail
      go_roundw
      case rel => exact ⟨k + 1, by omega, by go_num, ⟨_, HN.out, fun j hj => by
        have := Flow.at_set (D := D) (a := (k : Int)) (b := (j : Int)) (e := -1) (by omega) (by omega) (by have := HL.out; omega)
        rw [Int.toNat_natCast] at this
        rw [this]
        split
        · rfl
        · exact HALL.out j (by omega)⟩⟩
      case measure => simp [intOf]; omega
    · obtain rfl : k = p.f3.length := by omega
      have hpos := HGD.out.pos
      have hnew := HGD.out.few
      obtain rfl := all_none hlen hall
      have hf := goes_first hpos
      have HD0 := Aside0.mk HD
      have HF0 := Aside0.mk hf
      clear HD hall hlen hf hlt hk
      go_wp2_with (go_at_call 67; (with_reducible refine (goes_calls w _ (W2.heap.size + 1) W2.heap.size p.f3.length p.f3.length p.f0 p.f1 p.f2 B b _ [] (.slice none 0 0) HD0.out 0 0 (Int.le_refl 0) hnew (Nat.zero_le _)).mono ?_); rintro x w5 ⟨rfl, v1, hC, hKp⟩; rw [HF0.out] at hC ⊢; have HC5 := Aside0.mk hC; clear hC hKp)
      have HFI := Aside0.mk (Pure.grf_fine HGD.out)
      go_loopg [8] (2 * p.f3.length + 1) (fun gk s8 wr => Aside0 (∃ D T v, ChkIs w wr (W2.heap.size + 1) W2.heap.size p.f3.length (chkCells A0 l0.length c0 A1 l1.length c1 (some ad) l2.length c2 A3 l3.length c3 p.f0 p.f1 p.f2 B p.f3.length b) p.f3.length D T v ∧ Flow.Inv (Pure.grf l0 l1 l2 l3 p) D T (fun _ => False) ∧ 2 * Flow.open_ D + T.length ≤ gk ∧ gk ≤ 2 * p.f3.length + 1))
      case atStart => exact ⟨_, _, _, HC5.out, Flow.Inv.first (Pure.grf l0 l1 l2 l3 p) HFI.out, by have := zero_open p.f3.length; simp only [List.length_cons, List.length_nil]; omega, Nat.le_refl _⟩
      case round =>
        obtain ⟨⟨D, T, v, HC, hI, hgk, hgk2⟩⟩ := hrel
        have hlen := HC.len
        have hq8 := blk_cell HC.blk 8
        have g8 : wr.cell? ⟨W2.heap.size + 1, 8, none⟩ = some (.slice (some ⟨W2.heap.size, 0, none⟩) D.length p.f3.length) := hq8.trans rfl
        have hq9 := blk_cell HC.blk 9
        have g9 : wr.cell? ⟨W2.heap.size + 1, 9, none⟩ = some v := hq9.trans rfl
        have f9 := blk_frozen HC.blk 9
        rcases List.eq_nil_or_concat T with rfl | ⟨T, x, rfl⟩
        · obtain ⟨Av, cv, ev⟩ := Kd.R_slice HC.tR
          subst ev
          have HI := Aside0.mk (hI.done HFI.out)
          have HCC := Aside0.mk HC
          clear hI HC hq8 hq9 hlen
          go_wp2_with fail
          go_ret
          exact ⟨HCC.out.old, .inr ⟨_, D, rfl, Kd.R_mono HCC.out.dR (fun _ _ => trivial), HI.out⟩⟩
        · rw [List.concat_eq_append] at HC hI hgk
          obtain ⟨A, c, rfl, hle, hq, HP⟩ := HC.popT
          have HCC := Aside0.mk HC
          have HPP := Aside0.mk HP
          have HI := Aside0.mk hI
          have HGK := Aside0.mk hgk
          have HGK2 := Aside0.mk hgk2
          clear hI HC hq8 hq9 hlen HP hgk hgk2
          have hTl : T.length ≤ 40000 := by have := HGK.out; have := HGK2.out; simp only [List.length_append, List.length_cons, List.length_nil] at *; omega
          have hx := HI.out.todo x (by simp)
          have hre : Flow.Reach (Pure.grf l0 l1 l2 l3 p) x (Flow.at_ D x) := (HI.out.sound x hx.1 hx.2.1).resolve_left hx.2.2
          have hins := HGD.out.ins _ (Pure.rd32_in (show x.toNat < p.f3.length by have := hx.1; have := hx.2.1; have e : (Pure.grf l0 l1 l2 l3 p).n = p.f3.length := rfl; omega))
          have hok : (Pure.effS (rd_T32 p.f3 x).f0 (rd_T32 p.f3 x).f1 l0.length l1.length l2 l3).2.2 = true := by
            unfold Pure.insM Pure.insS at hins
            rw [Bool.and_eq_true] at hins
            exact hins.1
          have HIC := Aside0.mk (instr_calls w _ (W2.heap.size + 1) W2.heap.size p.f3.length p.f3.length p B b D T _ HMD.out HMX.out HLB.out HCB.out (HPP.out.below ((Below.refl _ _).drew.drew)) rfl x
            (Pure.effS (rd_T32 p.f3 x).f0 (rd_T32 p.f3 x).f1 l0.length l1.length l2 l3).1 (Pure.effS (rd_T32 p.f3 x).f0 (rd_T32 p.f3 x).f1 l0.length l1.length l2 l3).2.1 (Pure.effS (rd_T32 p.f3 x).f0 (rd_T32 p.f3 x).f1 l0.length l1.length l2 l3).2.2 (Pure.endsB (rd_T32 p.f3 x).f0)
            ⟨hx.1, hx.2.1⟩ HGD.out.few (by omega) ⟨(hre.low HFI.out).2, Pure.reach_le HFI.out hre⟩ (Pure.takes_b HF.out _ _ hok) (Pure.leaves_b _ _ _ _ _ _)
            ⟨20, Pure.codeEff l0 l1 l2 l3 _ _ 0 HH.out.f (HH.out.a p (by rw [← hpp]; exact rd44_in ha0 ha1) _ (Pure.rd32_in (show x.toNat < p.f3.length by have := hx.1; have := hx.2.1; have e : (Pure.grf l0 l1 l2 l3 p).n = p.f3.length := rfl; omega)))⟩ (Pure.endsC _) (Pure.jump_in HGD.out hx.1 hx.2.1))
          have HIV := Aside0.mk (Flow.instr_inv HFI.out HI.out)
          rw [← Pure.instrF_is] at HIC
          clear hx hre hins hok
          cases hb : (Flow.instrS (Pure.grf l0 l1 l2 l3 p) D T x).1 with
          | false =>
            have HN := Aside0.mk (HIV.out.2.2 hb)
            have HBB := Aside0.mk hb
            clear hb
            go_wp2_with fail
            go_region
            go_wp2_with fail
            go_region
            go_wp2_with (go_at_call 68; refine HIC.out.mono ?_; rintro e w6 ⟨rfl, v2, hC6⟩; rw [HBB.out]; have HC6 := Aside0.mk hC6; clear hC6)
            go_ret
            exact ⟨HC6.out.old, .inl ⟨rfl, HN.out⟩⟩
          | true =>
            have HN := Aside0.mk (HIV.out.2.1 hb)
            have HBB := Aside0.mk hb
            clear hb
            go_wp2_with fail
            go_region
            go_wp2_with fail
            go_region
            go_wp2_with (go_at_call 68; refine HIC.out.mono ?_; rintro e w6 ⟨rfl, v2, hC6⟩; rw [HBB.out]; have HC6 := Aside0.mk hC6; clear hC6)
            go_roundg (2 * Flow.open_ (Flow.instrS (Pure.grf l0 l1 l2 l3 p) D T x).2.1 + (Flow.instrS (Pure.grf l0 l1 l2 l3 p) D T x).2.2.length)
            case measure => have := HN.out.2; have := HGK.out; omega
            case rel => exact ⟨_, _, v2, HC6.out, HN.out.1, Nat.le_refl _, by have := HN.out.2; have := HGK.out; have := HGK2.out; omega⟩
end
end Go.Proofs.YtfncoldcjhkhiaaDoor.NW
