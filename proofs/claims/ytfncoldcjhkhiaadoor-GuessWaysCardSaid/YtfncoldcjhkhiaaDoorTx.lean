/- The reference's rows of a way. -/
import Derived.Test.YtfncoldcjhkhiaaDoorTt
import Derived.Test.YtfncoldcjhkhiaaDoorKc
import Derived.Test.YtfncoldcjhkhiaaDoorTE
import Derived.Test.YtfncoldcjhkhiaaDoorPCx8
import Derived.Deep.RegionHeld3
import Derived.Deep.RegionLawGrows
import Derived.ArgAppend
namespace Go.Proofs.YtfncoldcjhkhiaaDoor.NW
open Go.RowKit Go.Proofs.YtfncoldcjhkhiaaDoorW.PrintWords Go.Proofs.YtfncoldcjhkhiaaDoorW.PrintMore Go.Proofs.YtfncoldcjhkhiaaDoor.PC Go.Proofs.YtfncoldcjhkhiaaDoor.Pure
set_option linter.unusedVariables false
set_option linter.unusedSimpArgs false
theorem below_of_grown {w w1 : World} (hg : w.grownBy w1 none) : Below w.heap.size w w1 := ⟨hg.os, hg.tape, hg.output, hg.size, fun k hk => hg.block k hk (by simp)⟩
section
variable {ops : Array Oper} {rest : List Oper} {o : Oper} {a : Act} {Q : Exit → Act → World → Prop}
/-- append to a row that was cut to its length: it is copied -/
theorem push_cut {W : World} (hgd : o.guard = none) (s x : Operand) (ho : o.op = .call { callee := .builtin .append, args := #[s, x], argTypes := #[89, 89] }) (A : Option Addr) (k : Nat) (st : List Bool) (b : Bool) (hs : a.eval s = .slice A k k) (hx : a.eval x = .slice (some ⟨W.heap.size, 0, none⟩) 1 1)
    (hA : A = none → k = 0) (hl : st.length = k) (hk : k ≤ 1000) (hc : ∀ g, A = some g → ∀ j u, (encs Value.bool st)[j]? = some u → W.cell? (g.add j) = some u)
    (h : ∀ v1 w1, w1.ownsRow W.heap.size 4 1 v1 (k + 1) (encs Value.bool (st ++ [b])) → Below W.heap.size W w1 → wpList Tryd.prog ops Q rest (a.put o.dst v1) w1) : wpList Tryd.prog ops Q (o :: rest) a (W.alloc (.cells #[.bool b] 4)) := by
  obtain ⟨i0, hi, hzz⟩ := Option.map_eq_some_iff.1 info4
  simp only [Prod.mk.injEq] at hzz
  obtain ⟨hz0, hz1, hz2⟩ := hzz
  have hB := below_alloc (Below.refl W.heap.size W) (.cells #[.bool b] 4)
  have hX := blk_new W (.cells #[.bool b] 4)
  refine wpList_append_grows (W.alloc (.cells #[.bool b] 4)) hgd s x 89 ho 4 i0 (.bool false) 1 1 Tryd.underlying89 hi hz0 hz1 hz2 rfl (by decide) A k k (encs Value.bool st) hs (fun e => ⟨hA e, hA e⟩) (by rw [encs_length, hl, Nat.mul_one]) (fun g hg j u hj => ?_) ⟨W.heap.size, 0, none⟩ 1 1 [.bool b] hx rfl (fun j u hj => ?_) (by simp [Value.oneCell']) (by omega) (by unfold maxLen; omega) (by omega) (fun v' w' hown hg => ?_)
  · have := hc g hg j u hj
    exact (hB.cell (World.block_lt_of_cell? _ _ this)).trans this
  · cases j with
    | zero => exact ((blk_cell hX 0).trans rfl).trans hj
    | succ j => cases hj
  · have e : encs Value.bool (st ++ [b]) = encs Value.bool st ++ [.bool b] := by simp [encs]
    refine h v' w' ?_ ?_
    · rw [e]
      obtain ⟨h1, h2⟩ := hown
      refine ⟨h1, ?_⟩
      rcases h2 with h2 | ⟨g, cap, cur, hv, hb, r⟩
      · exact .inl h2
      · exact .inr ⟨g, cap, cur, hv, Nat.le_trans hB.size hb, r⟩
    · exact below_then hB hB.size (below_of_grown hg)
theorem push_cut_step {W : World} {K : Act → World → Prop} {E : Prop} (hgd : o.guard = none) (s x : Operand) (ho : o.op = .call { callee := .builtin .append, args := #[s, x], argTypes := #[89, 89] }) (A : Option Addr) (k : Nat) (st : List Bool) (b : Bool) (hs : a.eval s = .slice A k k) (hx : a.eval x = .slice (some ⟨W.heap.size, 0, none⟩) 1 1)
    (hA : A = none → k = 0) (hl : st.length = k) (hk : k ≤ 1000) (hc : ∀ g, A = some g → ∀ j u, (encs Value.bool st)[j]? = some u → W.cell? (g.add j) = some u)
    (h : ∀ v1 w1, w1.ownsRow W.heap.size 4 1 v1 (k + 1) (encs Value.bool (st ++ [b])) → Below W.heap.size W w1 → K (a.put o.dst v1) w1) : if Region.wanted o (yielded ops a.tmps) = true then Oper.wp Tryd.prog o a (W.alloc (.cells #[.bool b] 4)) K Q else E := by
  obtain ⟨i0, hi, hzz⟩ := Option.map_eq_some_iff.1 info4
  simp only [Prod.mk.injEq] at hzz
  obtain ⟨hz0, hz1, hz2⟩ := hzz
  have hB := below_alloc (Below.refl W.heap.size W) (.cells #[.bool b] 4)
  have hX := blk_new W (.cells #[.bool b] 4)
  refine step_append_grows (w := W.alloc (.cells #[.bool b] 4)) hgd s x 89 ho 4 i0 (.bool false) 1 1 Tryd.underlying89 hi hz0 hz1 hz2 rfl (by decide) A k k (encs Value.bool st) hs (fun e => ⟨hA e, hA e⟩) (by rw [encs_length, hl, Nat.mul_one]) (fun g hg j u hj => ?_) ⟨W.heap.size, 0, none⟩ 1 1 [.bool b] hx rfl (fun j u hj => ?_) (by simp [Value.oneCell']) (by omega) (by unfold maxLen; omega) (by omega) (fun v' w' hown hg => ?_)
  · have := hc g hg j u hj
    exact (hB.cell (World.block_lt_of_cell? _ _ this)).trans this
  · cases j with
    | zero => exact ((blk_cell hX 0).trans rfl).trans hj
    | succ j => cases hj
  · have e : encs Value.bool (st ++ [b]) = encs Value.bool st ++ [.bool b] := by simp [encs]
    refine h v' w' ?_ ?_
    · rw [e]
      obtain ⟨h1, h2⟩ := hown
      refine ⟨h1, ?_⟩
      rcases h2 with h2 | ⟨g, cap, cur, hv, hb, r⟩
      · exact .inl h2
      · exact .inr ⟨g, cap, cur, hv, Nat.le_trans hB.size hb, r⟩
    · exact below_then hB hB.size (below_of_grown hg)
end
theorem cut3_to (A : Option Addr) (n c m : Nat) (hm : m ≤ n) (hc : n ≤ c) : ∀ W : World, (Instr.slice 89 (.slice A n c) none (some (.int .i64 (m : Int))) (some (.int .i64 (m : Int)))).run Tryd.prog W = .ok (.slice A m m) W := by
  intro W
  obtain ⟨i0, hi, hzz⟩ := Option.map_eq_some_iff.1 info4
  have hel : Tryd.prog.elem 89 = 4 := by simp [Program.elem, Tryd.underlying89]
  have hu : Tryd.prog.underlying 89 = some (.slice (Tryd.prog.elem 89)) := by rw [hel]; exact Tryd.underlying89
  have ha : (A.map fun x => x.add 0) = A := by cases A <;> simp [Addr.add]
  rw [run_slice_hm W 89 A n c hu .i64 .i64 (m : Int) (m : Int) (by omega) (by omega) (by omega), hel]
  simp [sizeOf, typeInfo, hi, sliced, Result.andThen, ha]
/-- the reference's rows: slots, stack, way; three boxes that stay -/
structure RwIs (w0 w : World) (gm gp gn : Nat) (cm cp : Array Value) (s st : List Bool) (wy : List Int) (vs vt vw : Value) : Prop where
  bm : w.heap[gm]? = some (.cells cm 30 (0, 0))
  bp : w.heap[gp]? = some (.cells cp 44 (0, 0))
  bn : w.heap[gn]? = some (.cells #[] 3 (0, 0))
  rs : Kd.R Kd.bool 4 w w0.heap.size (fun k => k ≠ gm ∧ k ≠ gp ∧ k ≠ gn) vs s
  rt : Kd.R Kd.bool 4 w w0.heap.size (fun k => k ≠ gm ∧ k ≠ gp ∧ k ≠ gn) vt st
  rw : Kd.R (Kd.int .i64) 3 w w0.heap.size (fun k => k ≠ gm ∧ k ≠ gp ∧ k ≠ gn) vw wy
  dis : ∀ k, vs.ownBlock = some k → vt.ownBlock ≠ some k
  dsw : ∀ k, vs.ownBlock = some k → vw.ownBlock ≠ some k
  dtw : ∀ k, vt.ownBlock = some k → vw.ownBlock ≠ some k
  old : Below w0.heap.size w0 w
  gl : w0.heap.size ≤ gn
section
variable {w0 w w1 : World} {gm gp gn : Nat} {cm cp : Array Value} {s st : List Bool} {wy : List Int} {vs vt vw : Value}
theorem RwIs.below (h : RwIs w0 w gm gp gn cm cp s st wy vs vt vw) (hb : Below w.heap.size w w1) : RwIs w0 w1 gm gp gn cm cp s st wy vs vt vw :=
  ⟨blk_below h.bm hb, blk_below h.bp hb, blk_below h.bn hb, Kd.R_below h.rs hb, Kd.R_below h.rt hb, Kd.R_below h.rw hb, h.dis, h.dsw, h.dtw, below_then h.old h.old.size hb, h.gl⟩
/-- the empty row that is told where there is no way -/
theorem RwIs.none (h : RwIs w0 w gm gp gn cm cp s st wy vs vt vw) : Kd.R (Kd.int .i64) 3 w w0.heap.size (fun _ => True) (.slice (some ⟨gn, 0, none⟩) 0 0) [] :=
  Kd.R_of_own ⟨rfl, .inr ⟨gn, 0, #[], rfl, h.gl, h.bn, Nat.le_refl _, Nat.zero_le _, rfl, rfl⟩⟩ (fun _ _ => trivial)
theorem RwIs.cut (h : RwIs w0 w gm gp gn cm cp s st wy vs vt vw) {A : Option Addr} {n c m : Nat} (e : vt = .slice A n c) (hm : m ≤ st.length) : RwIs w0 w gm gp gn cm cp s (st.take m) wy vs (.slice A m c) vw := by
  subst e
  have hb : (Value.slice A m c).ownBlock = (Value.slice A n c).ownBlock := by cases A <;> rfl
  exact ⟨h.bm, h.bp, h.bn, h.rs, R_take h.rt hm, h.rw, by rw [hb]; exact h.dis, h.dsw, by rw [hb]; exact h.dtw, h.old, h.gl⟩
/-- a new row in the stack's place -/
theorem RwIs.fresh (h : RwIs w0 w gm gp gn cm cp s st wy vs vt vw) {v1 : Value} {st1 : List Bool} (ho : w1.ownsRow w.heap.size 4 1 v1 st1.length (encs Value.bool st1)) (hb : Below w.heap.size w w1) : RwIs w0 w1 gm gp gn cm cp s st1 wy vs v1 vw := by
  have H := h.below hb
  have hbs : ∀ k, v1.ownBlock = some k → w.heap.size ≤ k := by
    rcases ho.2 with ⟨rfl, _⟩ | ⟨g, cap, cur, rfl, hb, _⟩
    · intro k hk; cases hk
    · intro k hk; injection hk with hk; subst hk; exact hb
  have hs := h.old.size
  refine ⟨H.bm, H.bp, H.bn, H.rs, Kd.R_of_own ⟨ho.1, ho.2.imp id (fun ⟨g, cap, cur, hv, hb, r⟩ => ⟨g, cap, cur, hv, by omega, r⟩)⟩ (fun k hk => ?_), H.rw, fun k hk e => ?_, h.dsw, fun k hk e => ?_, H.old, H.gl⟩
  · have := hbs k hk
    exact ⟨by have := blk_lt h.bm; omega, by have := blk_lt h.bp; omega, by have := blk_lt h.bn; omega⟩
  · have := hbs k e
    have := Kd.R_lt h.rs k hk
    omega
  · have := hbs k hk
    have := Kd.R_lt h.rw k e
    omega
theorem RwIs.slot {gs cap : Nat} (h : RwIs w0 w gm gp gn cm cp s st wy (.slice (some ⟨gs, 0, Option.none⟩) s.length cap) vt vw) (i : Int) (b : Bool) :
    RwIs w0 (w.setCell ⟨gs, i.toNat, Option.none⟩ (.bool b)) gm gp gn cm cp (s.set i.toNat b) st wy (.slice (some ⟨gs, 0, Option.none⟩) s.length cap) vt vw := by
  have hg := h.rs.1 gs rfl
  exact ⟨blk_far h.bm (p := ⟨gs, i.toNat, Option.none⟩) (Ne.symm hg.1) (.bool b), blk_far h.bp (p := ⟨gs, i.toNat, Option.none⟩) (Ne.symm hg.2.1) (.bool b), blk_far h.bn (p := ⟨gs, i.toNat, Option.none⟩) (Ne.symm hg.2.2) (.bool b), (Kd.R_put h.rs i b).1,
    Kd.R_mono (Kd.R_far (ok := fun k => (k ≠ gm ∧ k ≠ gp ∧ k ≠ gn) ∧ k ≠ gs) ⟨fun k hk => ⟨h.rt.1 k hk, fun e => h.dis gs rfl (e ▸ hk)⟩, h.rt.2⟩ (p := ⟨gs, i.toNat, Option.none⟩) (fun k hk => hk.2) (.bool b)) (fun _ hk => hk.1),
    Kd.R_mono (Kd.R_far (ok := fun k => (k ≠ gm ∧ k ≠ gp ∧ k ≠ gn) ∧ k ≠ gs) ⟨fun k hk => ⟨h.rw.1 k hk, fun e => h.dsw gs rfl (e ▸ hk)⟩, h.rw.2⟩ (p := ⟨gs, i.toNat, Option.none⟩) (fun k hk => hk.2) (.bool b)) (fun _ hk => hk.1),
    h.dis, h.dsw, h.dtw, h.old.setCell (p := ⟨gs, i.toNat, Option.none⟩) (Kd.R_base h.rs gs rfl) (.bool b), h.gl⟩
theorem RwIs.rw2 (h : RwIs w0 w gm gp gn cm cp s st wy vs vt vw) : Kd.R (Kd.int .i64) 3 w w0.heap.size (fun k => (k ≠ gm ∧ k ≠ gp ∧ k ≠ gn) ∧ vs.ownBlock ≠ some k ∧ vt.ownBlock ≠ some k) vw wy :=
  ⟨fun k hk => ⟨h.rw.1 k hk, fun e => h.dsw k e hk, fun e => h.dtw k e hk⟩, h.rw.2⟩
theorem RwIs.freshw (h : RwIs w0 w gm gp gn cm cp s st wy vs vt vw) : ∀ k, w.heap.size ≤ k → (k ≠ gm ∧ k ≠ gp ∧ k ≠ gn) ∧ vs.ownBlock ≠ some k ∧ vt.ownBlock ≠ some k :=
  fun k hk => ⟨⟨by have := blk_lt h.bm; omega, by have := blk_lt h.bp; omega, by have := blk_lt h.bn; omega⟩, fun e => by have := Kd.R_lt h.rs k e; omega, fun e => by have := Kd.R_lt h.rt k e; omega⟩
theorem RwIs.wayed (h : RwIs w0 w gm gp gn cm cp s st wy vs vt vw) {v1 : Value} {b : Int} (hr : Kd.R (Kd.int .i64) 3 w1 w0.heap.size (fun k => (k ≠ gm ∧ k ≠ gp ∧ k ≠ gn) ∧ vs.ownBlock ≠ some k ∧ vt.ownBlock ≠ some k) v1 (wy ++ [b])) (hb : Below w0.heap.size w0 w1) (hg : w.grownBy w1 vw.ownBlock) : RwIs w0 w1 gm gp gn cm cp s st (wy ++ [b]) vs vt v1 := by
  have hne : ∀ k, (k = gm ∨ k = gp ∨ k = gn) → some k ≠ vw.ownBlock := fun k hk e => by
    have := h.rw.1 k e.symm
    rcases hk with rfl | rfl | rfl
    · exact this.1 rfl
    · exact this.2.1 rfl
    · exact this.2.2 rfl
  exact ⟨blk_grown h.bm hg (hne gm (.inl rfl)), blk_grown h.bp hg (hne gp (.inr (.inl rfl))), blk_grown h.bn hg (hne gn (.inr (.inr rfl))),
    Kd.R_mono (Kd.R_step (w1 := w1) (ok := fun k => (k ≠ gm ∧ k ≠ gp ∧ k ≠ gn) ∧ some k ≠ vw.ownBlock) ⟨fun k hk => ⟨h.rs.1 k hk, fun e => h.dsw k hk e.symm⟩, h.rs.2⟩ (fun k hk hlt => hg.block k hlt hk.2)) (fun _ hk => hk.1),
    Kd.R_mono (Kd.R_step (w1 := w1) (ok := fun k => (k ≠ gm ∧ k ≠ gp ∧ k ≠ gn) ∧ some k ≠ vw.ownBlock) ⟨fun k hk => ⟨h.rt.1 k hk, fun e => h.dtw k hk e.symm⟩, h.rt.2⟩ (fun k hk hlt => hg.block k hlt hk.2)) (fun _ hk => hk.1),
    Kd.R_mono hr (fun _ hk => hk.1), h.dis, fun k hk e => (hr.1 k e).2.1 hk, fun k hk e => (hr.1 k e).2.2 hk, hb, h.gl⟩
/-- the cells of a part of the stack -/
theorem RwIs.cells (h : RwIs w0 w gm gp gn cm cp s st wy vs vt vw) {A : Option Addr} {n c m : Nat} (e : vt = .slice A n c) (hm : m ≤ st.length) : (A = Option.none → m = 0) ∧ (∀ g, A = some g → ∀ j u, (encs Value.bool (st.take m))[j]? = some u → w.cell? (g.add j) = some u) := by
  subst e
  obtain ⟨hn, hc, _⟩ := Kd.R_reads' h.rt
  refine ⟨fun e => ?_, fun g hg j u hj => ?_⟩
  · subst e
    rcases (Kd.own_of_R h.rt).2 with ⟨_, h0⟩ | ⟨g, cap, cur, e, _⟩
    · omega
    · cases e
  · subst hg
    rcases (Kd.own_of_R h.rt).2 with ⟨e, _⟩ | ⟨gb, cap, cur, e, _⟩
    · cases e
    · injection e with e1 e2 e3
      injection e1 with e1
      subst e1
      have hjl : j < (st.take m).length := by
        have := (List.getElem?_eq_some_iff.1 hj).1
        rw [encs_length] at this; exact this
      have hjm : j < m := by rw [List.length_take] at hjl; omega
      have hc := (Kd.R_celln false h.rt (j : Int) (by omega) (by omega)).1
      rw [Int.toNat_natCast] at hc
      rw [encs_get (d := false) _ _ hjl] at hj
      injection hj with hj
      rw [show (Addr.add ⟨gb, 0, Option.none⟩ j) = ⟨gb, j, Option.none⟩ by simp [Addr.add]; exact fun e => e.symm, hc, ← hj]
      congr 2
      unfold rdOf
      rw [Int.toNat_natCast, List.getD_eq_getElem?_getD, List.getD_eq_getElem?_getD, List.getElem?_take, if_pos hjm]
end
end Go.Proofs.YtfncoldcjhkhiaaDoor.NW
