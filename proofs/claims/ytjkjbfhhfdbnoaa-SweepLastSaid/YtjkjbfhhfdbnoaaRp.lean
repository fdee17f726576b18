/- The iterator of slices.Backward over instructions, and what Sweep reckons; an append in a round; ir.Fails and sweep's puts; slices.Reverse of instructions. -/
import Derived.Test.YtjkjbfhhfdbnoaaRm
import Derived.RangeFuncNested
import Derived.RangeFuncBound
import Derived.RangeFuncCalls
import Derived.RangeFuncLeaves
import Derived.RangeFuncBox
import Derived.Shelf.Abstract
import Derived.Shelf.RegionOpen
import Derived.WalkKit
import Derived.OwnWalkIn
import Derived.TacticsInMore
import Derived.LoopNIn
import Derived.LoopIn
import Derived.Maps.OwnIn
import Derived.Test.YtjkjbfhhfdbnoaaPBx15
import Derived.Test.YtjkjbfhhfdbnoaaRi
import Derived.Test.YtjkjbfhhfdbnoaaPBx0
import Derived.Deep.RegionHeld3
namespace Go.Proofs.Ytjkjbfhhfdbnoaa.NW
open Go.RowKit Go.Shelf Go.Proofs.YtjkjbfhhfdbnoaaW.PrintWords Go.Proofs.YtjkjbfhhfdbnoaaW.PrintMore Go.Proofs.Ytjkjbfhhfdbnoaa.PB
set_option linter.unusedVariables false
set_option linter.unusedSimpArgs false
attribute [local go_sem] Oper.semAt_some

/-- what a round of the loop keeps: what lay below n₀, and the iterator's box -/
def KpB (n₀ Bs : Nat) (A B : World) : Prop := Below n₀ A B ∧ B.heap[Bs]? = A.heap[Bs]?
theorem KpB.t {n₀ Bs : Nat} {A B C : World} (h : KpB n₀ Bs A B) (k : KpB n₀ Bs B C) : KpB n₀ Bs A C := ⟨h.1.trans k.1, k.2.trans h.2⟩
theorem KpB.b {n₀ Bs : Nat} {w : World} (hn : n₀ ≤ w.heap.size) (hB : Bs < w.heap.size) (W : World) (l : Nat) (o o' : Obj) (hl : w.heap.size ≤ l) (h : W.heap[l]? = some o) (hc : o.isCells = false) (hw : o.isWalk = false) : KpB n₀ Bs W (W.putObj l o') :=
  ⟨belowK_b hn W l o o' hl h hc hw, World.putObj_heap_other (by omega)⟩

abbrev v39 (x : S39) : Value := .agg #[.int .u8 x.f0, .int .i64 x.f1, .int .i64 x.f2, .int .i64 x.f3, .string x.f4, .int .u8 x.f5.f0, .int .i64 x.f5.f1, .string x.f5.f2]
section
variable {Pr : S39 → Prop}
/-- a row from behind, with its indices -/
def backA (l : List S39) (hp : ∀ x ∈ l, Pr x) : List (Int × {x : S39 // Pr x}) := (List.finRange l.length).reverse.map fun i => (((i.val : Nat) : Int), ⟨l[i.val], hp _ (List.getElem_mem i.isLt)⟩)
theorem backA_length (l : List S39) (hp : ∀ x ∈ l, Pr x) : (backA l hp).length = l.length := by simp [backA]
theorem backA_at (l : List S39) (hp : ∀ x ∈ l, Pr x) (k : Nat) (hk : k < l.length) : (backA l hp)[k]'(by rw [backA_length]; exact hk) = (((l.length - 1 - k : Nat) : Int), ⟨l[l.length - 1 - k]'(by omega), hp _ (List.getElem_mem _)⟩) := by
  simp [backA, List.getElem_reverse]
theorem backA_snd (l : List S39) (hp : ∀ x ∈ l, Pr x) : (backA l hp).map (fun x => x.2.1) = l.reverse := by
  apply List.ext_getElem
  · simp [backA_length]
  · intro k h1 h2
    have hk : k < l.length := by simpa [backA_length] using h1
    rw [List.getElem_map, backA_at l hp k hk, List.getElem_reverse]
theorem backA_take (l : List S39) (hp : ∀ x ∈ l, Pr x) (k : Nat) (hk : k < l.length) : (backA l hp).take (k + 1) = (backA l hp).take k ++ [(((l.length - 1 - k : Nat) : Int), ⟨l[l.length - 1 - k]'(by omega), hp _ (List.getElem_mem _)⟩)] := by
  rw [← backA_at l hp k hk]
  exact List.take_succ_eq_append_getElem (by rw [backA_length]; exact hk)
end

set_option maxRecDepth 100000 in
set_option maxHeartbeats 2000000 in
theorem back1_in (F : Fence) (n : Nat) (h72 : F.fn 72) (hro : F.round = none) (hn : 1 ≤ n) (lp Bs : Nat) (A : Option Addr) (c : Nat) (l : List S39) (W0 : World) (hC : Kd.C k39 W0 A l.length l) (hl : l.length ≤ 100000) (Pr : S39 → Prop) (hp : ∀ x ∈ l, Pr x) (J Jx : List (Int × {x : S39 // Pr x}) → World → Prop)
    (hY : ∀ pre x W, J pre W → pre.length < l.length → YieldAt F (n - 1) Try.prog lp #[.int .i64 x.1, v39 x.2.1] W fun e W' =>
      (e = .returned (.bool true) ∧ J (pre ++ [x]) W' ∧ KpB W0.heap.size Bs W W') ∨ (e = .returned (.bool false) ∧ Jx (pre ++ [x]) W'))
    (W : World) (hW : Below W0.heap.size W0 W) (hBs : W.heap[Bs]? = some (.cells #[.slice A l.length c] 22 (0, 0))) (h0 : J [] W) :
    CallsIn F n Try.prog 72 #[.func (.yield lp) #[] #[], .pointer (some ⟨Bs, 0, none⟩)] W fun e W' => (∃ v, e = .returned v) ∧
      ((∃ ys, ys = backA l hp ∧ J ys W') ∨ (∃ pre, pre <+: backA l hp ∧ Jx pre W')) := by
  have HC := Aside0.mk hC
  have HW := Aside0.mk hW
  have HBS := Aside0.mk hBs
  have b0 := (blk_cell hBs 0).trans rfl
  clear hC hW hBs
  refine callsIn_of_wp Try.func72 rfl h72 ?_ hro
  simp only [Try.ntmps72, List.size_toArray, List.length_cons, List.length_nil, Nat.reduceAdd, Nat.reduceSub, Array.replicate_succ, Array.replicate_zero, List.push_toArray, List.append_toArray, List.nil_append, List.cons_append]
  have hw0 : wrap64 ((l.length : Int) - 1) = (l.length : Int) - 1 := by unfold wrap64; omega
  gi_wp2
  gi_loopw [3] (fun i wr => ∃ (k : Nat) (ii : Int), k ≤ l.length ∧ i = .int .i64 ii ∧ Aside0 (ii = (l.length : Int) - 1 - (k : Int)) ∧ J ((backA l hp).take k) wr ∧ Aside0 (KpB W0.heap.size Bs W wr))
    (fun i _ => (intOf i + 1).toNat)
  case atStart => exact ⟨0, _, Nat.zero_le _, rfl, ⟨by first | omega | (rw [hw0]; omega) | (simp; done)⟩, h0, ⟨Below.refl _ _, rfl⟩⟩
  case round =>
    obtain ⟨k, ii, hk, rfl, hii, hJs, hnx⟩ := hrel
    have b0' := (blk_cell (hnx.out.2.trans HBS.out) 0).trans rfl
    clear b0
    have hie := hii.out
    by_cases hlt : k < l.length
    · have hp1 : (0 : Int) ≤ ii := by omega
      have hp2 : ii < (l.length : Int) := by omega
      obtain ⟨ad, rfl, q0, q1, q2, q3, q4, q5, q6, q7⟩ := at_T39 HC.out ii hp1 hp2
      have HBX := Aside0.mk (HW.out.trans hnx.out.1)
      replace q0 := (HBX.out.cell (World.block_lt_of_cell? W0 _ q0)).trans q0
      replace q1 := (HBX.out.cell (World.block_lt_of_cell? W0 _ q1)).trans q1
      replace q2 := (HBX.out.cell (World.block_lt_of_cell? W0 _ q2)).trans q2
      replace q3 := (HBX.out.cell (World.block_lt_of_cell? W0 _ q3)).trans q3
      replace q4 := (HBX.out.cell (World.block_lt_of_cell? W0 _ q4)).trans q4
      replace q5 := (HBX.out.cell (World.block_lt_of_cell? W0 _ q5)).trans q5
      replace q6 := (HBX.out.cell (World.block_lt_of_cell? W0 _ q6)).trans q6
      replace q7 := (HBX.out.cell (World.block_lt_of_cell? W0 _ q7)).trans q7
      have hx : rd_T39 l ii = l[l.length - 1 - k]'(by omega) := by
        rw [rd_T39, List.getD_eq_getElem?_getD, show ii.toNat = l.length - 1 - k by omega, List.getElem?_eq_getElem (by omega)]; rfl
      have hs := backA_take l hp k hlt
      rw [show (((l.length - 1 - k : Nat) : Int)) = ii by omega] at hs
      obtain ⟨X, hX⟩ : ∃ X : {x : S39 // Pr x}, X = ⟨l[l.length - 1 - k]'(by omega), hp _ (List.getElem_mem _)⟩ := ⟨_, rfl⟩
      have hxv : rd_T39 l ii = X.1 := by rw [hX]; exact hx
      rw [← hX] at hs
      rw [hxv] at q0 q1 q2 q3 q4 q5 q6 q7
      obtain ⟨fn, tmps, assign, body, hy, hR⟩ := hY _ (ii, X) wr hJs (by rw [List.length_take, backA_length]; omega)
      dsimp only at hy
      clear hx hxv hX
      have hg : decide ((0 : Int) ≤ ii) = true := decide_eq_true (by omega)
      have hw1 : wrap64 (ii - 1) = ii - 1 := by unfold wrap64; omega
      have HI := Aside0.mk hie
      clear hie
      gi_wp2
      refine hR.mono ?_
      rintro e W3 (⟨rfl, hJ3, hk3⟩ | ⟨rfl, hJx3⟩)
      · gi_wp2
        go_roundw
        case rel => exact ⟨k + 1, ii - 1, by omega, by first | rfl | rw [hw1], ⟨by have := HI.out; omega⟩, by rw [hs]; exact hJ3, ⟨hnx.out.t hk3⟩⟩
        case measure => simp [intOf]; omega
      · gi_wp2
        refine bodyPost_ret (results_none rfl _ _ _) rfl ?_
        exact ⟨⟨_, rfl⟩, .inr ⟨_, by rw [← hs]; exact List.take_prefix _ _, hJx3⟩⟩
    · obtain rfl : k = l.length := by omega
      obtain rfl : ii = -1 := by omega
      clear hie
      gi_wp2
      go_end0
      rw [← backA_length l hp, List.take_length] at hJs
      exact ⟨⟨_, rfl⟩, .inl ⟨_, rfl, hJs⟩⟩
end Go.Proofs.Ytjkjbfhhfdbnoaa.NW

namespace Go.Proofs.Ytjkjbfhhfdbnoaa.NW
open Go.RowKit Go.Shelf Go.Proofs.YtjkjbfhhfdbnoaaW.PrintWords Go.Proofs.YtjkjbfhhfdbnoaaW.PrintMore Go.Proofs.Ytjkjbfhhfdbnoaa.PB
set_option linter.unusedVariables false
set_option linter.unusedSimpArgs false

set_option maxRecDepth 100000 in
set_option maxHeartbeats 1000000 in
/-- slices.Backward -/
theorem back_calls (A : Option Addr) (n c : Nat) (w : World) : Calls Try.prog 48 #[.slice A n c] w fun e w' => e = .returned (.func (.func 72) #[] #[.pointer (some ⟨w.heap.size, 0, none⟩)]) ∧ w' = w.alloc (.cells #[.slice A n c] 22 (0, 0)) := by
  go_enter Try.func48, Try.ntmps48
  go_wp2
  go_ret
  exact ⟨rfl, rfl⟩
/-- what it hands back stops at once where the body says so -/
theorem back_stops (F : Fence) (n : Nat) (h72 : F.fn 72) (hro : F.round = none) (hn : 1 ≤ n) (Bs : Nat) (A : Option Addr) (c : Nat) (l : List S39) (W0 w : World) (hC : Kd.C k39 W0 A l.length l) (hl : l.length ≤ 100000) (Pr : S39 → Prop) (hp : ∀ x ∈ l, Pr x)
    (hW : Below W0.heap.size W0 w) (hBs : w.heap[Bs]? = some (.cells #[.slice A l.length c] 22 (0, 0))) :
    SeqStopsK F n Try.prog 72 #[.pointer (some ⟨Bs, 0, none⟩)] (fun x : Int × {x : S39 // Pr x} => #[.int .i64 x.1, v39 x.2.1]) (KpB W0.heap.size Bs) (fun ys => ys = backA l hp) (fun pre => pre <+: backA l hp) l.length w :=
  fun lp J Jx W hB _ _ hY h0 => back1_in F n h72 hro hn lp Bs A c l W0 hC hl Pr hp J Jx hY W (hW.trans (hB.mono hW.size)) (blk_below hBs hB) h0

/-! ### What Sweep computes -/
def markF (l : List Bool) (rs : List Int) : List Bool := rs.foldl (fun l r => l.set r.toNat true) l
def stepW (s : List Bool × List S39) (x : S39) : List Bool × List S39 :=
  if (x.f0 = 1 ∨ x.f0 = 2) ∧ rdOf false s.1 x.f1 = false then s
  else (readsF (if x.f0 ≠ 6 ∧ x.f0 ≠ 8 then s.1.set x.f1.toNat false else s.1) x.f0 x.f2 x.f3, s.2 ++ [x])
def startW (regs : Int) (save stack : List Int) (cond : Int) : List Bool :=
  let r := markF (List.replicate regs.toNat false) (save ++ stack)
  if 0 ≤ cond then r.set cond.toNat true else r
def sweepL (regs : Int) (save stack : List Int) (cond : Int) (insts : List S39) : List S39 := ((insts.reverse.foldl stepW (startW regs save stack cond, [])).2).reverse
/-- sweep.Sweep: the instructions behind it -/
def sweepF (z0 z1 z2 : Int) (l3 : List S39) (z4 : Int) (l5 l6 : List Int) (z7 z8 z9 : Int) : List S39 := if mayBlk z0 z1 z2 l3 z4 l5 l6 z7 z8 z9 then sweepL z2 l5 l6 z7 l3 else l3

/-! ### What is told of cells abides the loop's own steps -/
theorem R_ownG {α : Type} {d : Kd α} {e b B : Nat} {ok : Nat → Prop} {W W' : World} {v : Value} {xs : List α} {row : Option Nat} (h : d.R e W b ok v xs) (hg : W.grownBy W' row) (hr : ∀ r, row = some r → B ≤ r ∧ ∃ o : Obj, W.heap[r]? = some o ∧ o.isCells = false) : d.R e W' b ok v xs :=
  Kd.R_mono (Kd.R_grown (Kd.R_bound h) hg (fun k hk er => by
    obtain ⟨_, o, ho, hc⟩ := hr k er.symm
    obtain ⟨_, _, _, q, _, cells, hcell⟩ := hk
    rw [hcell] at ho
    cases ho
    cases hc)) (fun k hk => hk.1)
theorem blk_ownG {B g t : Nat} {cs : Array Value} {W W' : World} {row : Option Nat} (h : W.heap[g]? = some (.cells cs t (0, 0))) (hg : W.grownBy W' row) (hr : ∀ r, row = some r → B ≤ r ∧ ∃ o : Obj, W.heap[r]? = some o ∧ o.isCells = false) : W'.heap[g]? = some (.cells cs t (0, 0)) :=
  (hg.block g (blk_lt h) (fun er => by
    obtain ⟨_, o, ho, hc⟩ := hr g er.symm
    rw [h] at ho
    cases ho
    cases hc)).trans h
abbrev InstOf (R : Int) := {x : S39 // RegsOk R x}
/-- what Sweep has come to when these are over -/
def stW (R : Int) (rd0 : List Bool) (pre : List (Int × InstOf R)) : List Bool × List S39 := pre.foldl (fun s x => stepW s x.2.1) (rd0, [])
theorem stW_snoc (R : Int) (rd0 : List Bool) (pre : List (Int × InstOf R)) (x : Int × InstOf R) : stW R rd0 (pre ++ [x]) = stepW (stW R rd0 pre) x.2.1 := by simp [stW]
/-- the loop's own word -/
structure LoopW (n0 g3 g6 gr m cr : Nat) (R : Int) (rd0 : List Bool) (w2 : World) (pre : List (Int × InstOf R)) (W : World) : Prop where
  out : ∃ v, W.heap[g6]? = some (.cells #[v] 22 (0, 0)) ∧ Kd.R k39 39 W n0 (fun k => g6 + 1 < k) v (stW R rd0 pre).2
  rd : Kd.R Kd.bool 4 W n0 (fun _ => True) (.slice (some ⟨gr, 0, none⟩) m cr) (stW R rd0 pre).1
  box : W.heap[g3]? = some (.cells #[.slice (some ⟨gr, 0, none⟩) m cr] 65 (0, 0))
  bel : Below n0 w2 W
  siz : g6 + 2 ≤ W.heap.size
theorem LoopW.own {n0 g3 g6 gr m cr : Nat} {R : Int} {rd0 : List Bool} {w2 : World} {B : Nat} (hB : n0 ≤ B) (hw : n0 ≤ w2.heap.size) : OwnFrom B (LoopW n0 g3 g6 gr m cr R rd0 w2) := fun pre W W' row h hg hr => by
  obtain ⟨v, hv, ho⟩ := h.out
  exact ⟨⟨v, blk_ownG hv hg hr, R_ownG ho hg hr⟩, R_ownG h.rd hg hr, blk_ownG h.box hg hr, h.bel.grown hg (Nat.le_trans hw h.bel.size) (fun k ek => Nat.le_trans hB (hr k ek).1), Nat.le_trans h.siz hg.size⟩
theorem keeps_below {B : Nat} {W W' : World} (h : Below W.heap.size W W') : KeepsFrom B W W' := ⟨h.size, fun k o _ hk _ => (h.block k (Array.getElem?_eq_some_iff.1 hk).1).trans hk⟩
theorem kpB_below {n0 Bs : Nat} {W W' : World} (h : Below W.heap.size W W') (hn : n0 ≤ W.heap.size) (hB : Bs < W.heap.size) : KpB n0 Bs W W' := ⟨h.mono hn, h.block Bs hB⟩
theorem LoopW.below {n0 g3 g6 gr m cr : Nat} {R : Int} {rd0 : List Bool} {w2 W W' : World} {pre : List (Int × InstOf R)} (h : LoopW n0 g3 g6 gr m cr R rd0 w2 pre W) (hb : Below W.heap.size W W') (hw : n0 ≤ w2.heap.size) : LoopW n0 g3 g6 gr m cr R rd0 w2 pre W' := by
  obtain ⟨v, hv, ho⟩ := h.out
  exact ⟨⟨v, blk_below hv hb, Kd.R_below ho hb⟩, Kd.R_below h.rd hb, blk_below h.box hb, h.bel.trans (hb.mono (Nat.le_trans hw h.bel.size)), Nat.le_trans h.siz hb.size⟩
theorem LoopW.cong {n0 g3 g6 gr m cr : Nat} {R : Int} {rd0 : List Bool} {w2 W : World} {pre pre' : List (Int × InstOf R)} (h : LoopW n0 g3 g6 gr m cr R rd0 w2 pre W) (e : stW R rd0 pre' = stW R rd0 pre) : LoopW n0 g3 g6 gr m cr R rd0 w2 pre' W :=
  ⟨by rw [e]; exact h.out, by rw [e]; exact h.rd, h.box, h.bel, h.siz⟩
theorem stW_len (R : Int) (rd0 : List Bool) (pre : List (Int × InstOf R)) : (stW R rd0 pre).2.length ≤ pre.length := by
  have h : ∀ (l : List (Int × InstOf R)) (s : List Bool × List S39), (l.foldl (fun s x => stepW s x.2.1) s).2.length ≤ s.2.length + l.length := by
    intro l
    induction l with
    | nil => intro s; simp
    | cons x l ih =>
      intro s
      have h1 := ih (stepW s x.2.1)
      have h2 : (stepW s x.2.1).2.length ≤ s.2.length + 1 := by unfold stepW; split <;> simp
      simp only [List.foldl_cons, List.length_cons]
      omega
  simpa [stW] using h pre (rd0, [])
theorem grown_of_below {w w' : World} (h : Below w.heap.size w w') (row : Option Nat) : w.grownBy w' row := ⟨h.os, h.tape, h.output, h.size, fun k hk _ => h.block k hk⟩
/-- the end of a round that has put an instruction out -/
theorem LoopW.put {n0 g3 g6 gr m cr : Nat} {R : Int} {rd0 rd' : List Bool} {w2 W w4 w5 : World} {pre : List (Int × InstOf R)} {x : Int × InstOf R} {l5 : List S39} {v v1 : Value} {B : Nat} (h : LoopW n0 g3 g6 gr m cr R rd0 w2 pre W) (hn : n0 ≤ gr) (hgr : gr < g3) (hg3 : g3 < g6) (hn2 : n0 ≤ w2.heap.size)
    (hv6 : W.heap[g6]? = some (.cells #[v] 22 (0, 0))) (hv : Kd.R k39 39 W n0 (fun k => g6 + 1 < k) v (stW R rd0 pre).2) (hK : W.grownBy w4 (some gr)) (hrd : Kd.R Kd.bool 4 w4 n0 (fun _ => True) (.slice (some ⟨gr, 0, none⟩) m cr) rd')
    (hr5 : Kd.R k39 39 w5 n0 (fun k => g6 + 1 < k) v1 l5) (hg5 : w4.grownBy w5 v.ownBlock) (hst : stW R rd0 (pre ++ [x]) = (rd', l5)) :
    KeepsFrom B W (w5.setCell ⟨g6, 0, none⟩ v1) ∧ KpB n0 (g6 + 1) W (w5.setCell ⟨g6, 0, none⟩ v1) ∧ LoopW n0 g3 g6 gr m cr R rd0 w2 (pre ++ [x]) (w5.setCell ⟨g6, 0, none⟩ v1) := by
  have hvk : ∀ k, v.ownBlock = some k → g6 + 1 < k := fun k hk => hv.1 k hk
  have hvk' : ∀ k, some k = v.ownBlock → g6 + 1 < k := fun k hk => hvk k hk.symm
  have hsz := h.siz
  have hle : n0 ≤ W.heap.size := by omega
  obtain ⟨igr, hig⟩ : ∃ cs, W.heap[gr]? = some (.cells cs 4 (0, 0)) := Kd.R_typed h.rd gr rfl
  have hk4 : ∀ (k : Nat) (o : Obj), W.heap[k]? = some o → o.isCells = false → w4.heap[k]? = some o := fun k o hk ho => (hK.block k (blk_lt hk) (fun e => by
    injection e with e
    subst e
    rw [hig] at hk
    cases hk
    cases ho)).trans hk
  have hv4 : Kd.R k39 39 w4 n0 (fun k => g6 + 1 < k) v (stW R rd0 pre).2 := Kd.R_grown hv hK (fun k hk e => by injection e with e; omega)
  have hk5 : ∀ (k : Nat) (o : Obj), w4.heap[k]? = some o → o.isCells = false → w5.heap[k]? = some o := fun k o hk ho => (hg5.block k (blk_lt hk) (fun e => by
    obtain ⟨cs, hc⟩ := Kd.R_typed hv4 k e.symm
    rw [hc] at hk
    cases hk
    cases ho)).trans hk
  have hb : Below n0 W w5 := by
    refine ⟨hg5.os.trans hK.os, hg5.tape.trans hK.tape, hg5.output.trans hK.output, Nat.le_trans hK.size hg5.size, fun k hk => ?_⟩
    exact (hg5.block k (Nat.lt_of_lt_of_le (Nat.lt_of_lt_of_le hk hle) hK.size) (fun e => by have := hvk' k e; omega)).trans (hK.block k (by omega) (fun e => by injection e; omega))
  have h35 : ∀ k, k < W.heap.size → k ≠ gr → k ≤ g6 + 1 → w5.heap[k]? = W.heap[k]? := fun k hk hne hle' => (hg5.block k (Nat.lt_of_lt_of_le hk hK.size) (fun e => by have := hvk' k e; omega)).trans (hK.block k hk (fun e => by injection e; omega))
  have hsz5 := Nat.le_trans hK.size hg5.size
  have h65 : w5.heap[g6]? = some (.cells #[v] 22 (0, 0)) := (h35 g6 (by omega) (by omega) (by omega)).trans hv6
  have h6 : (w5.setCell ⟨g6, 0, none⟩ v1).heap[g6]? = some (.cells #[v1] 22 (0, 0)) := blk_put h65 0 v1 rfl
  have hfar : ∀ k, k ≠ g6 → (w5.setCell ⟨g6, 0, none⟩ v1).heap[k]? = w5.heap[k]? := fun k hk => Below.heap_setCell w5 ⟨g6, 0, none⟩ v1 k hk
  refine ⟨⟨by simp [World.setCell]; exact hsz5, fun k o _ hk ho => ?_⟩, ⟨hb.setCell (p := ⟨g6, 0, none⟩) (by show n0 ≤ g6; omega) v1, ?_⟩, ⟨⟨v1, h6, ?_⟩, ?_, ?_, ?_, ?_⟩⟩
  · refine (hfar k (fun e => ?_)).trans (hk5 k o (hk4 k o hk ho) ho)
    subst e
    rw [hv6] at hk
    cases hk
    cases ho
  · exact (hfar _ (by omega)).trans (h35 _ (by omega) (by omega) (by omega))
  · rw [hst]
    exact Kd.R_far hr5 (fun k hk => by show k ≠ g6; omega) v1
  · rw [hst]
    have h5 : Kd.R Kd.bool 4 w5 n0 (fun k => k = gr) (.slice (some ⟨gr, 0, none⟩) m cr) rd' := Kd.R_grown (Kd.R_tight rfl hrd |> fun q => Kd.R_mono q (fun k hk => by simpa [Value.ownBlock, eq_comm] using hk)) hg5 (fun k hk e => by have := hvk' k e; omega)
    exact Kd.R_mono (Kd.R_far h5 (p := ⟨g6, 0, none⟩) (fun k hk => by show k ≠ g6; omega) v1) (fun _ _ => trivial)
  · exact (hfar _ (by omega)).trans ((h35 _ (by have := blk_lt h.box; omega) (by omega) (by omega)).trans h.box)
  · exact (h.bel.trans hb).setCell (p := ⟨g6, 0, none⟩) (by show n0 ≤ g6; omega) v1
  · simp [World.setCell]; omega
/-- the slots of a round: three are known -/
abbrev slotsW (g3 g6 Bx : Nat) (f : Nat → Value) : Act := { tmps := #[f 0, f 1, f 2, .pointer (some ⟨g3, 0, none⟩), f 4, f 5, .pointer (some ⟨g6, 0, none⟩), f 7, .pointer (some ⟨Bx, 0, none⟩), f 9, f 10, f 11, f 12, f 13, f 14, f 15, f 16, f 17, f 18, f 19, f 20, f 21, f 22, f 23, f 24, f 25, f 26, f 27, f 28, f 29, f 30, f 31, f 32, f 33, f 34, f 35, f 36, f 37, f 38, f 39, f 40, f 41, f 42, f 43, f 44, f 45, f 46, f 47, f 48, f 49, f 50, f 51, f 52, f 53, f 54, f 55, f 56, f 57, f 58, f 59, f 60, f 61, f 62, f 63, f 64, f 65, f 66, f 67, f 68, f 69, f 70, f 71, f 72, f 73, f 74, f 75, f 76, f 77, f 78, f 79, f 80, f 81, f 82, f 83], defers := [] }
theorem slotsW_ex (g3 g6 Bx : Nat) (v0 v1 v2 v4 v5 v7 v9 v10 v11 v12 v13 v14 v15 v16 v17 v18 v19 v20 v21 v22 v23 v24 v25 v26 v27 v28 v29 v30 v31 v32 v33 v34 v35 v36 v37 v38 v39 v40 v41 v42 v43 v44 v45 v46 v47 v48 v49 v50 v51 v52 v53 v54 v55 v56 v57 v58 v59 v60 v61 v62 v63 v64 v65 v66 v67 v68 v69 v70 v71 v72 v73 v74 v75 v76 v77 v78 v79 v80 v81 v82 v83 : Value) : ∃ f : Nat → Value, ({ tmps := #[v0, v1, v2, .pointer (some ⟨g3, 0, none⟩), v4, v5, .pointer (some ⟨g6, 0, none⟩), v7, .pointer (some ⟨Bx, 0, none⟩), v9, v10, v11, v12, v13, v14, v15, v16, v17, v18, v19, v20, v21, v22, v23, v24, v25, v26, v27, v28, v29, v30, v31, v32, v33, v34, v35, v36, v37, v38, v39, v40, v41, v42, v43, v44, v45, v46, v47, v48, v49, v50, v51, v52, v53, v54, v55, v56, v57, v58, v59, v60, v61, v62, v63, v64, v65, v66, v67, v68, v69, v70, v71, v72, v73, v74, v75, v76, v77, v78, v79, v80, v81, v82, v83], defers := [] } : Act) = slotsW g3 g6 Bx f :=
  ⟨fun n => match n with | 0 => v0 | 1 => v1 | 2 => v2 | 4 => v4 | 5 => v5 | 7 => v7 | 9 => v9 | 10 => v10 | 11 => v11 | 12 => v12 | 13 => v13 | 14 => v14 | 15 => v15 | 16 => v16 | 17 => v17 | 18 => v18 | 19 => v19 | 20 => v20 | 21 => v21 | 22 => v22 | 23 => v23 | 24 => v24 | 25 => v25 | 26 => v26 | 27 => v27 | 28 => v28 | 29 => v29 | 30 => v30 | 31 => v31 | 32 => v32 | 33 => v33 | 34 => v34 | 35 => v35 | 36 => v36 | 37 => v37 | 38 => v38 | 39 => v39 | 40 => v40 | 41 => v41 | 42 => v42 | 43 => v43 | 44 => v44 | 45 => v45 | 46 => v46 | 47 => v47 | 48 => v48 | 49 => v49 | 50 => v50 | 51 => v51 | 52 => v52 | 53 => v53 | 54 => v54 | 55 => v55 | 56 => v56 | 57 => v57 | 58 => v58 | 59 => v59 | 60 => v60 | 61 => v61 | 62 => v62 | 63 => v63 | 64 => v64 | 65 => v65 | 66 => v66 | 67 => v67 | 68 => v68 | 69 => v69 | 70 => v70 | 71 => v71 | 72 => v72 | 73 => v73 | 74 => v74 | 75 => v75 | 76 => v76 | 77 => v77 | 78 => v78 | 79 => v79 | 80 => v80 | 81 => v81 | 82 => v82 | 83 => v83 | _ => undef, rfl⟩
end Go.Proofs.Ytjkjbfhhfdbnoaa.NW

namespace Go.Proofs.Ytjkjbfhhfdbnoaa.NW
open Go.RowKit Go.Shelf Go.Proofs.YtjkjbfhhfdbnoaaW.PrintWords Go.Proofs.YtjkjbfhhfdbnoaaW.PrintMore Go.Proofs.Ytjkjbfhhfdbnoaa.PB
set_option linter.unusedVariables false
set_option linter.unusedSimpArgs false
/-- an append of one element to a row of one's own, in a round -/
theorem R_append_in {α : Type} (d : Kd α) {F : Fence} {nF : Nat} {P : Program} {ops : Array Oper} {rest : List Oper} {o : Oper} {a : Act} {Q : Exit → Act → World → Prop} {W : World} (base : Nat) (hgd : o.guard = none) (s x : Operand) (t e : TypeId) (z : Value) (bytes : Nat)
    (ho : o.op = .call { callee := .builtin .append, args := #[s, x], argTypes := #[t, t] })
    (ht : P.underlying t = some (.slice e)) (hinfo : (P.info? e).map (fun i => (i.zero, i.size, i.bytes)) = some (some z, d.sz, bytes)) (hz : z.cells.size = d.sz) (hs0 : 0 < d.sz)
    (v : Value) (xs : List α) (p : α) (cs : List Value) (ok okp : Nat → Prop) (hs : a.eval s = v) (hx : a.eval x = .slice (some ⟨W.heap.size, 0, none⟩) 1 1) (hp : d.M W base okp p cs) (hokp : ∀ k, okp k → ok k ∧ some k ≠ v.ownBlock) (hfresh : ∀ k, W.heap.size ≤ k → ok k)
    (HO : d.R e W base ok v xs) (hbase : base ≤ W.heap.size) (hlen : xs.length + 1 ≤ maxLen) (hl : (xs.length + 1) * bytes ≤ 140737488355328)
    (h : ∀ v1 w1, d.R e w1 base ok v1 (xs ++ [p]) → W.grownBy w1 v.ownBlock → (v1.ownBlock = v.ownBlock ∨ ∃ b, v1.ownBlock = some b ∧ W.heap.size ≤ b) → wpListIn F nF P ops Q rest (a.put o.dst v1) w1) :
    wpListIn F nF P ops Q (o :: rest) a (W.alloc (.cells cs.toArray e)) := by
  obtain ⟨h0, inner, hown, hr⟩ := HO
  obtain ⟨i0, hi, hz0, hz1, hz2⟩ := info_parts hinfo
  have hcl := d.K_len (d.K_of_M hp)
  refine wpListIn_append_own_at _ hgd s x t ho base e i0 z d.sz bytes ht hi hz0 hz1 hz2 hz hs0 v xs.length inner hs (hown.alloc _) ⟨W.heap.size, 0, none⟩ 1 1 cs hx (by rw [hcl, Nat.one_mul]) ?_ (d.K_one (d.K_of_M hp)) hlen hl (by simp; omega) ?_
  · intro j u hj
    have hc := blk_cell (blk_new W (.cells cs.toArray e (0, 0))) j
    rw [show (Addr.add ⟨W.heap.size, 0, none⟩ j) = ⟨W.heap.size, j, none⟩ by (simp [Addr.add] <;> omega)]
    rw [hc]
    simpa using hj
  · intro v1 w1 hown1 hg1 _ hat
    have hg : W.grownBy w1 v.ownBlock := (World.grownBy_alloc W _ v.ownBlock).trans hg1
    have hat' : v1.ownBlock = v.ownBlock ∨ ∃ b, v1.ownBlock = some b ∧ W.heap.size ≤ b := hat.elim .inl (fun e => .inr ⟨_, e, by simp⟩)
    exact h v1 w1 (Kd.R_appended h0 hr hp hokp hfresh hown1 hg hat') hg hat'
theorem fails_c (x : S39) (w : World) : Calls Try.prog 33 #[v39 x] w fun e w' => e = .returned (.bool (decide (x.f0 ≠ 1 ∧ x.f0 ≠ 2))) ∧ Below w.heap.size w w' :=
  ir_Fails.calls x.f0 x.f1 x.f2 x.f3 x.f4 x.f5.f0 x.f5.f1 x.f5.f2 _ w (by
    unfold ir_Fails.f
    by_cases h : x.f0 = 1
    · rw [if_pos h, decide_eq_false (by omega)]
    · rw [if_neg h]
      by_cases h2 : x.f0 = 2
      · rw [decide_eq_false (by omega), bne_eq_false_iff_eq.2 h2]
      · rw [decide_eq_true (by omega), bne_iff_ne.2 h2])
theorem puts_c (x : S39) (w : World) : Calls Try.prog 49 #[v39 x] w fun e w' => e = .returned (.bool (decide (x.f0 ≠ 6 ∧ x.f0 ≠ 8))) ∧ Below w.heap.size w w' :=
  sweep_puts.calls x.f0 x.f1 x.f2 x.f3 x.f4 x.f5.f0 x.f5.f1 x.f5.f2 _ w (by
    unfold sweep_puts.f
    by_cases h : x.f0 = 6
    · rw [if_pos h, decide_eq_false (by omega)]
    · rw [if_neg h]
      by_cases h2 : x.f0 = 8
      · rw [decide_eq_false (by omega), bne_eq_false_iff_eq.2 h2]
      · rw [decide_eq_true (by omega), bne_iff_ne.2 h2])
end Go.Proofs.Ytjkjbfhhfdbnoaa.NW

namespace Go.Proofs.Ytjkjbfhhfdbnoaa.NW
open Go.RowKit Go.Shelf Go.Proofs.YtjkjbfhhfdbnoaaW.PrintWords Go.Proofs.YtjkjbfhhfdbnoaaW.PrintMore Go.Proofs.Ytjkjbfhhfdbnoaa.PB
set_option linter.unusedVariables false
set_option linter.unusedSimpArgs false

/-- what Reverse has made of a row when so many rounds are over -/
def swapK (l : List S39) : Nat → List S39
  | 0 => l
  | k + 1 => ((swapK l k).set k (rd_T39 (swapK l k) ((l.length - 1 - k : Nat) : Int))).set (l.length - 1 - k) (rd_T39 (swapK l k) (k : Int))
theorem swapK_length (l : List S39) : ∀ k, (swapK l k).length = l.length
  | 0 => rfl
  | k + 1 => by simp [swapK, swapK_length l k]
theorem rd39_get (l : List S39) (k : Nat) (h : k < l.length) : rd_T39 l (k : Int) = l[k] := by
  rw [rd_T39, List.getD_eq_getElem?_getD, show ((k : Int).toNat) = k by omega, List.getElem?_eq_getElem h]; rfl
theorem swapK_at (l : List S39) : ∀ (k i : Nat), 2 * k ≤ l.length → (h : i < l.length) → (swapK l k)[i]? = some (if i < k ∨ l.length - k ≤ i then l[l.length - 1 - i] else l[i])
  | 0, i, _, h => by rw [if_neg (by omega)]; simp [swapK, h]
  | k + 1, i, hk, h => by
    have hl := swapK_length l k
    have e1 := swapK_at l k (l.length - 1 - k) (by omega) (by omega)
    have e2 := swapK_at l k k (by omega) (by omega)
    have e3 := swapK_at l k i (by omega) h
    rw [if_neg (by omega)] at e1 e2
    rw [List.getElem?_eq_getElem (by omega), Option.some.injEq] at e1 e2
    unfold swapK
    rw [rd39_get _ _ (by omega), rd39_get _ _ (by omega), e1, e2, List.getElem?_set, List.getElem?_set]
    simp only [List.length_set, hl]
    by_cases h1 : l.length - 1 - k = i
    · subst h1
      rw [if_pos rfl, if_pos (by omega), if_pos (by omega)]
      congr 2
      omega
    · rw [if_neg h1]
      by_cases h2 : k = i
      · subst h2
        rw [if_pos rfl, if_pos (by omega), if_pos (by omega)]
      · rw [if_neg h2, e3]
        by_cases h3 : i < k ∨ l.length - k ≤ i
        · rw [if_pos h3, if_pos (by omega)]
        · rw [if_neg h3, if_neg (by omega)]
theorem swapK_end (l : List S39) (k : Nat) (h : l.length ≤ 2 * k + 1) (hk : 2 * k ≤ l.length) : swapK l k = l.reverse := by
  apply List.ext_getElem?
  intro i
  by_cases hi : i < l.length
  · rw [swapK_at l k i hk hi, List.getElem?_reverse hi, List.getElem?_eq_getElem (by omega)]
    by_cases h3 : i < k ∨ l.length - k ≤ i
    · rw [if_pos h3]
    · rw [if_neg h3]
      congr 2
      omega
  · rw [List.getElem?_eq_none (by rw [swapK_length]; omega), List.getElem?_eq_none (by simp; omega)]
abbrev c39 (x : S39) : List Value := [.int .u8 x.f0, .int .i64 x.f1, .int .i64 x.f2, .int .i64 x.f3, .string x.f4, .int .u8 x.f5.f0, .int .i64 x.f5.f1, .string x.f5.f2]
/-- an element of a row of one's own: its cells -/
theorem R_cells39 {W : World} {base : Nat} {ok : Nat → Prop} {g n cap : Nat} {xs : List S39} (h : Kd.R k39 39 W base ok (.slice (some ⟨g, 0, none⟩) n cap) xs) (i : Int) (h0 : 0 ≤ i) (h1 : i < n) :
    (∀ j u, (c39 (rd_T39 xs i))[j]? = some u → W.cell? ⟨g, i.toNat * 8 + j, none⟩ = some u) ∧ ∀ j, W.frozen? ⟨g, i.toNat * 8 + j, none⟩ = false := by
  obtain ⟨c, hcl, hM, hcc, hfr⟩ := Kd.R_elem h z39 i h0 h1
  obtain rfl := k39_openM hM
  exact ⟨hcc, hfr⟩
/-- .. it is put anew -/
theorem R_put39 {W : World} {base : Nat} {ok : Nat → Prop} {g n cap : Nat} {xs : List S39} (h : Kd.R k39 39 W base ok (.slice (some ⟨g, 0, none⟩) n cap) xs) (i : Int) (h0 : 0 ≤ i) (h1 : i < n) (x : S39) :
    Kd.R k39 39 (W.setCells g (i.toNat * 8) (c39 x)) base ok (.slice (some ⟨g, 0, none⟩) n cap) (xs.set i.toNat x) ∧ W.grownBy (W.setCells g (i.toNat * 8) (c39 x)) (some g) := by
  obtain ⟨c, hcl, hM, hcc, hfr⟩ := Kd.R_elem h z39 i h0 h1
  obtain rfl := k39_openM hM
  exact Kd.R_seg h i h0 h1 (seg := c39 x) (j := 0) hcl hcc (show 8 ≤ 8 by decide) (x' := x) (k39_mkM _ _ (fun k => ok k ∧ k ≠ g) x) (fun _ hk => hk)

set_option maxHeartbeats 1600000 in
set_option maxRecDepth 1000000 in
/-- slices.Reverse -/
theorem rev_calls (A : Option Addr) (c : Nat) (l : List S39) (base : Nat) (ok : Nat → Prop) (w : World) (hm : l.length ≤ 100000) (hr : Kd.R k39 39 w base ok (.slice A l.length c) l) :
    Calls Try.prog 51 #[.slice A l.length c] w fun e w' => e = .returned (.tuple #[]) ∧ Kd.R k39 39 w' base ok (.slice A l.length c) l.reverse ∧ w.grownBy w' (Value.slice A l.length c).ownBlock := by
  by_cases h0 : l.length = 0
  · obtain rfl : l = [] := List.eq_nil_of_length_eq_zero h0
    go_enter Try.func51, Try.ntmps51
    go_wp2
    go_loop [2, 3] (fun i j => i = .int .i64 0 ∧ j = .int .i64 (-1)) (fun _ _ => 0)
    case atStart => exact ⟨rfl, rfl⟩
    case round =>
      obtain ⟨rfl, rfl⟩ := hrel
      go_wp2
      go_end0
      exact ⟨rfl, hr, World.grownBy.refl _ _⟩
  obtain ⟨g, cap, hv, hg1, hg2, cells, hcells⟩ := Kd.R_form hr (by omega)
  simp only [Value.slice.injEq] at hv
  obtain ⟨rfl, -, rfl⟩ := hv
  have HR := Aside0.mk hr
  have hw0 : wrap64 ((l.length : Int) - 1) = (l.length : Int) - 1 := by unfold wrap64; omega
  have H0 := Aside0.mk h0
  clear hr h0 hg1 hg2 hcells
  go_enter Try.func51, Try.ntmps51
  go_wp2
  go_loopw [2, 3] (fun i j wr => ∃ k : Nat, 2 * k ≤ l.length ∧ i = .int .i64 (k : Int) ∧ j = .int .i64 ((l.length : Int) - 1 - k) ∧ Aside0 (Kd.R k39 39 wr base ok (.slice (some ⟨g, 0, none⟩) l.length c) (swapK l k)) ∧ Aside0 (w.grownBy wr (some g))) (fun i _ _ => l.length - (intOf i).toNat)
  case atStart => exact ⟨0, by omega, rfl, by simp, HR, ⟨World.grownBy.refl _ _⟩⟩
  case round =>
    obtain ⟨k, hk, rfl, rfl, HK, HKE⟩ := hrel
    have hwi : wrap64 ((k : Int) + 1) = (k : Int) + 1 := by unfold wrap64; omega
    have hwj : wrap64 ((l.length : Int) - 1 - k - 1) = (l.length : Int) - 1 - k - 1 := by unfold wrap64; omega
    by_cases hlt : (k : Int) < (l.length : Int) - 1 - k
    · have j0 : (0 : Int) ≤ (l.length : Int) - 1 - k := by omega
      have j1 : (l.length : Int) - 1 - k < (l.length : Int) := by omega
      have i0 : (0 : Int) ≤ (k : Int) := by omega
      have i1 : (k : Int) < (l.length : Int) := by omega
      obtain ⟨y, hy⟩ : ∃ y, (l.length : Int) - 1 - k = y := ⟨_, rfl⟩
      rw [hy] at j0 j1 hlt hwj ⊢
      have HY := Aside0.mk hy
      clear hy
      obtain ⟨cc, ff⟩ := R_cells39 HK.out y j0 j1
      obtain ⟨dd, gg⟩ := R_cells39 HK.out (k : Int) i0 i1
      have HP := Aside0.mk (R_put39 HK.out (k : Int) i0 i1 (rd_T39 (swapK l k) y))
      have HQ := Aside0.mk (R_put39 HP.out.1 y j0 j1 (rd_T39 (swapK l k) (k : Int)))
      have hkn : ((k : Int)).toNat = k := by omega
      have yn : ((y : Int)).toNat = l.length - 1 - k := by have := HY.out; omega
      generalize hx : rd_T39 (swapK l k) y = x at cc HP HQ
      generalize hz : rd_T39 (swapK l k) (k : Int) = z at dd HQ
      have HX := Aside0.mk hx
      have HZ := Aside0.mk hz
      clear hx hz
      rw [hkn] at dd gg HP HQ
      rw [yn] at cc ff HQ
      obtain ⟨b, hb⟩ : ∃ b, l.length - 1 - k = b := ⟨_, rfl⟩
      rw [hb] at cc ff HQ yn
      have HB := Aside0.mk hb
      clear hb
      have e0 := cc 0 _ rfl
      have e1 := cc 1 _ rfl
      have e2 := cc 2 _ rfl
      have e3 := cc 3 _ rfl
      have e4 := cc 4 _ rfl
      have e5 := cc 5 _ rfl
      have e6 := cc 6 _ rfl
      have e7 := cc 7 _ rfl
      have u0 := dd 0 _ rfl
      have u1 := dd 1 _ rfl
      have u2 := dd 2 _ rfl
      have u3 := dd 3 _ rfl
      have u4 := dd 4 _ rfl
      have u5 := dd 5 _ rfl
      have u6 := dd 6 _ rfl
      have u7 := dd 7 _ rfl
      have hs0 := gg 0
      have hs1 := gg 1
      have hs2 := gg 2
      have hs3 := gg 3
      have hs4 := gg 4
      have hs5 := gg 5
      have hs6 := gg 6
      have hs7 := gg 7
      have ht0 := ff 0
      have ht1 := ff 1
      have ht2 := ff 2
      have ht3 := ff 3
      have ht4 := ff 4
      have ht5 := ff 5
      have ht6 := ff 6
      have ht7 := ff 7
      clear cc dd ff gg
      simp only [Nat.add_zero] at e0 u0 hs0 ht0
      have h0i : k < b := by have := HY.out; have := HB.out; omega
      obtain ⟨cc, ff⟩ := R_cells39 HP.out.1 y j0 j1
      rw [yn, show rd_T39 ((swapK l k).set k x) y = x from by
        have := HY.out; have := HB.out; have hsl := swapK_length l k
        rw [← HX.out, show y = ((l.length - 1 - k : Nat) : Int) by omega, rd39_get _ _ (by simp; omega), rd39_get _ _ (by omega), List.getElem_set_ne (by omega)]] at cc
      rw [yn] at ff
      have f0 : ((((((((wr.setCell ⟨g, k * 8, none⟩ (.int .u8 x.f0)).setCell ⟨g, k * 8 + 1, none⟩ (.int .i64 x.f1)).setCell ⟨g, k * 8 + 2, none⟩ (.int .i64 x.f2)).setCell ⟨g, k * 8 + 3, none⟩ (.int .i64 x.f3)).setCell ⟨g, k * 8 + 4, none⟩ (.string x.f4)).setCell ⟨g, k * 8 + 5, none⟩ (.int .u8 x.f5.f0)).setCell ⟨g, k * 8 + 6, none⟩ (.int .i64 x.f5.f1)).setCell ⟨g, k * 8 + 7, none⟩ (.string x.f5.f2)).cell? ⟨g, b * 8, none⟩ = some (.int .u8 x.f0) := cc 0 _ rfl
      have g0 : ((((((((wr.setCell ⟨g, k * 8, none⟩ (.int .u8 x.f0)).setCell ⟨g, k * 8 + 1, none⟩ (.int .i64 x.f1)).setCell ⟨g, k * 8 + 2, none⟩ (.int .i64 x.f2)).setCell ⟨g, k * 8 + 3, none⟩ (.int .i64 x.f3)).setCell ⟨g, k * 8 + 4, none⟩ (.string x.f4)).setCell ⟨g, k * 8 + 5, none⟩ (.int .u8 x.f5.f0)).setCell ⟨g, k * 8 + 6, none⟩ (.int .i64 x.f5.f1)).setCell ⟨g, k * 8 + 7, none⟩ (.string x.f5.f2)).frozen? ⟨g, b * 8, none⟩ = false := ff 0
      have f1 : ((((((((wr.setCell ⟨g, k * 8, none⟩ (.int .u8 x.f0)).setCell ⟨g, k * 8 + 1, none⟩ (.int .i64 x.f1)).setCell ⟨g, k * 8 + 2, none⟩ (.int .i64 x.f2)).setCell ⟨g, k * 8 + 3, none⟩ (.int .i64 x.f3)).setCell ⟨g, k * 8 + 4, none⟩ (.string x.f4)).setCell ⟨g, k * 8 + 5, none⟩ (.int .u8 x.f5.f0)).setCell ⟨g, k * 8 + 6, none⟩ (.int .i64 x.f5.f1)).setCell ⟨g, k * 8 + 7, none⟩ (.string x.f5.f2)).cell? ⟨g, b * 8 + 1, none⟩ = some (.int .i64 x.f1) := cc 1 _ rfl
      have g1 : ((((((((wr.setCell ⟨g, k * 8, none⟩ (.int .u8 x.f0)).setCell ⟨g, k * 8 + 1, none⟩ (.int .i64 x.f1)).setCell ⟨g, k * 8 + 2, none⟩ (.int .i64 x.f2)).setCell ⟨g, k * 8 + 3, none⟩ (.int .i64 x.f3)).setCell ⟨g, k * 8 + 4, none⟩ (.string x.f4)).setCell ⟨g, k * 8 + 5, none⟩ (.int .u8 x.f5.f0)).setCell ⟨g, k * 8 + 6, none⟩ (.int .i64 x.f5.f1)).setCell ⟨g, k * 8 + 7, none⟩ (.string x.f5.f2)).frozen? ⟨g, b * 8 + 1, none⟩ = false := ff 1
      have f2 : ((((((((wr.setCell ⟨g, k * 8, none⟩ (.int .u8 x.f0)).setCell ⟨g, k * 8 + 1, none⟩ (.int .i64 x.f1)).setCell ⟨g, k * 8 + 2, none⟩ (.int .i64 x.f2)).setCell ⟨g, k * 8 + 3, none⟩ (.int .i64 x.f3)).setCell ⟨g, k * 8 + 4, none⟩ (.string x.f4)).setCell ⟨g, k * 8 + 5, none⟩ (.int .u8 x.f5.f0)).setCell ⟨g, k * 8 + 6, none⟩ (.int .i64 x.f5.f1)).setCell ⟨g, k * 8 + 7, none⟩ (.string x.f5.f2)).cell? ⟨g, b * 8 + 2, none⟩ = some (.int .i64 x.f2) := cc 2 _ rfl
      have g2 : ((((((((wr.setCell ⟨g, k * 8, none⟩ (.int .u8 x.f0)).setCell ⟨g, k * 8 + 1, none⟩ (.int .i64 x.f1)).setCell ⟨g, k * 8 + 2, none⟩ (.int .i64 x.f2)).setCell ⟨g, k * 8 + 3, none⟩ (.int .i64 x.f3)).setCell ⟨g, k * 8 + 4, none⟩ (.string x.f4)).setCell ⟨g, k * 8 + 5, none⟩ (.int .u8 x.f5.f0)).setCell ⟨g, k * 8 + 6, none⟩ (.int .i64 x.f5.f1)).setCell ⟨g, k * 8 + 7, none⟩ (.string x.f5.f2)).frozen? ⟨g, b * 8 + 2, none⟩ = false := ff 2
      have f3 : ((((((((wr.setCell ⟨g, k * 8, none⟩ (.int .u8 x.f0)).setCell ⟨g, k * 8 + 1, none⟩ (.int .i64 x.f1)).setCell ⟨g, k * 8 + 2, none⟩ (.int .i64 x.f2)).setCell ⟨g, k * 8 + 3, none⟩ (.int .i64 x.f3)).setCell ⟨g, k * 8 + 4, none⟩ (.string x.f4)).setCell ⟨g, k * 8 + 5, none⟩ (.int .u8 x.f5.f0)).setCell ⟨g, k * 8 + 6, none⟩ (.int .i64 x.f5.f1)).setCell ⟨g, k * 8 + 7, none⟩ (.string x.f5.f2)).cell? ⟨g, b * 8 + 3, none⟩ = some (.int .i64 x.f3) := cc 3 _ rfl
      have g3 : ((((((((wr.setCell ⟨g, k * 8, none⟩ (.int .u8 x.f0)).setCell ⟨g, k * 8 + 1, none⟩ (.int .i64 x.f1)).setCell ⟨g, k * 8 + 2, none⟩ (.int .i64 x.f2)).setCell ⟨g, k * 8 + 3, none⟩ (.int .i64 x.f3)).setCell ⟨g, k * 8 + 4, none⟩ (.string x.f4)).setCell ⟨g, k * 8 + 5, none⟩ (.int .u8 x.f5.f0)).setCell ⟨g, k * 8 + 6, none⟩ (.int .i64 x.f5.f1)).setCell ⟨g, k * 8 + 7, none⟩ (.string x.f5.f2)).frozen? ⟨g, b * 8 + 3, none⟩ = false := ff 3
      have f4 : ((((((((wr.setCell ⟨g, k * 8, none⟩ (.int .u8 x.f0)).setCell ⟨g, k * 8 + 1, none⟩ (.int .i64 x.f1)).setCell ⟨g, k * 8 + 2, none⟩ (.int .i64 x.f2)).setCell ⟨g, k * 8 + 3, none⟩ (.int .i64 x.f3)).setCell ⟨g, k * 8 + 4, none⟩ (.string x.f4)).setCell ⟨g, k * 8 + 5, none⟩ (.int .u8 x.f5.f0)).setCell ⟨g, k * 8 + 6, none⟩ (.int .i64 x.f5.f1)).setCell ⟨g, k * 8 + 7, none⟩ (.string x.f5.f2)).cell? ⟨g, b * 8 + 4, none⟩ = some (.string x.f4) := cc 4 _ rfl
      have g4 : ((((((((wr.setCell ⟨g, k * 8, none⟩ (.int .u8 x.f0)).setCell ⟨g, k * 8 + 1, none⟩ (.int .i64 x.f1)).setCell ⟨g, k * 8 + 2, none⟩ (.int .i64 x.f2)).setCell ⟨g, k * 8 + 3, none⟩ (.int .i64 x.f3)).setCell ⟨g, k * 8 + 4, none⟩ (.string x.f4)).setCell ⟨g, k * 8 + 5, none⟩ (.int .u8 x.f5.f0)).setCell ⟨g, k * 8 + 6, none⟩ (.int .i64 x.f5.f1)).setCell ⟨g, k * 8 + 7, none⟩ (.string x.f5.f2)).frozen? ⟨g, b * 8 + 4, none⟩ = false := ff 4
      have f5 : ((((((((wr.setCell ⟨g, k * 8, none⟩ (.int .u8 x.f0)).setCell ⟨g, k * 8 + 1, none⟩ (.int .i64 x.f1)).setCell ⟨g, k * 8 + 2, none⟩ (.int .i64 x.f2)).setCell ⟨g, k * 8 + 3, none⟩ (.int .i64 x.f3)).setCell ⟨g, k * 8 + 4, none⟩ (.string x.f4)).setCell ⟨g, k * 8 + 5, none⟩ (.int .u8 x.f5.f0)).setCell ⟨g, k * 8 + 6, none⟩ (.int .i64 x.f5.f1)).setCell ⟨g, k * 8 + 7, none⟩ (.string x.f5.f2)).cell? ⟨g, b * 8 + 5, none⟩ = some (.int .u8 x.f5.f0) := cc 5 _ rfl
      have g5 : ((((((((wr.setCell ⟨g, k * 8, none⟩ (.int .u8 x.f0)).setCell ⟨g, k * 8 + 1, none⟩ (.int .i64 x.f1)).setCell ⟨g, k * 8 + 2, none⟩ (.int .i64 x.f2)).setCell ⟨g, k * 8 + 3, none⟩ (.int .i64 x.f3)).setCell ⟨g, k * 8 + 4, none⟩ (.string x.f4)).setCell ⟨g, k * 8 + 5, none⟩ (.int .u8 x.f5.f0)).setCell ⟨g, k * 8 + 6, none⟩ (.int .i64 x.f5.f1)).setCell ⟨g, k * 8 + 7, none⟩ (.string x.f5.f2)).frozen? ⟨g, b * 8 + 5, none⟩ = false := ff 5
      have f6 : ((((((((wr.setCell ⟨g, k * 8, none⟩ (.int .u8 x.f0)).setCell ⟨g, k * 8 + 1, none⟩ (.int .i64 x.f1)).setCell ⟨g, k * 8 + 2, none⟩ (.int .i64 x.f2)).setCell ⟨g, k * 8 + 3, none⟩ (.int .i64 x.f3)).setCell ⟨g, k * 8 + 4, none⟩ (.string x.f4)).setCell ⟨g, k * 8 + 5, none⟩ (.int .u8 x.f5.f0)).setCell ⟨g, k * 8 + 6, none⟩ (.int .i64 x.f5.f1)).setCell ⟨g, k * 8 + 7, none⟩ (.string x.f5.f2)).cell? ⟨g, b * 8 + 6, none⟩ = some (.int .i64 x.f5.f1) := cc 6 _ rfl
      have g6 : ((((((((wr.setCell ⟨g, k * 8, none⟩ (.int .u8 x.f0)).setCell ⟨g, k * 8 + 1, none⟩ (.int .i64 x.f1)).setCell ⟨g, k * 8 + 2, none⟩ (.int .i64 x.f2)).setCell ⟨g, k * 8 + 3, none⟩ (.int .i64 x.f3)).setCell ⟨g, k * 8 + 4, none⟩ (.string x.f4)).setCell ⟨g, k * 8 + 5, none⟩ (.int .u8 x.f5.f0)).setCell ⟨g, k * 8 + 6, none⟩ (.int .i64 x.f5.f1)).setCell ⟨g, k * 8 + 7, none⟩ (.string x.f5.f2)).frozen? ⟨g, b * 8 + 6, none⟩ = false := ff 6
      have f7 : ((((((((wr.setCell ⟨g, k * 8, none⟩ (.int .u8 x.f0)).setCell ⟨g, k * 8 + 1, none⟩ (.int .i64 x.f1)).setCell ⟨g, k * 8 + 2, none⟩ (.int .i64 x.f2)).setCell ⟨g, k * 8 + 3, none⟩ (.int .i64 x.f3)).setCell ⟨g, k * 8 + 4, none⟩ (.string x.f4)).setCell ⟨g, k * 8 + 5, none⟩ (.int .u8 x.f5.f0)).setCell ⟨g, k * 8 + 6, none⟩ (.int .i64 x.f5.f1)).setCell ⟨g, k * 8 + 7, none⟩ (.string x.f5.f2)).cell? ⟨g, b * 8 + 7, none⟩ = some (.string x.f5.f2) := cc 7 _ rfl
      have g7 : ((((((((wr.setCell ⟨g, k * 8, none⟩ (.int .u8 x.f0)).setCell ⟨g, k * 8 + 1, none⟩ (.int .i64 x.f1)).setCell ⟨g, k * 8 + 2, none⟩ (.int .i64 x.f2)).setCell ⟨g, k * 8 + 3, none⟩ (.int .i64 x.f3)).setCell ⟨g, k * 8 + 4, none⟩ (.string x.f4)).setCell ⟨g, k * 8 + 5, none⟩ (.int .u8 x.f5.f0)).setCell ⟨g, k * 8 + 6, none⟩ (.int .i64 x.f5.f1)).setCell ⟨g, k * 8 + 7, none⟩ (.string x.f5.f2)).frozen? ⟨g, b * 8 + 7, none⟩ = false := ff 7
      clear cc ff
      obtain ⟨wq, hwq⟩ : ∃ wq, ((((((((((((((((wr.setCell ⟨g, k * 8, none⟩ (.int .u8 x.f0)).setCell ⟨g, k * 8 + 1, none⟩ (.int .i64 x.f1)).setCell ⟨g, k * 8 + 2, none⟩ (.int .i64 x.f2)).setCell ⟨g, k * 8 + 3, none⟩ (.int .i64 x.f3)).setCell ⟨g, k * 8 + 4, none⟩ (.string x.f4)).setCell ⟨g, k * 8 + 5, none⟩ (.int .u8 x.f5.f0)).setCell ⟨g, k * 8 + 6, none⟩ (.int .i64 x.f5.f1)).setCell ⟨g, k * 8 + 7, none⟩ (.string x.f5.f2)).setCell ⟨g, b * 8, none⟩ (.int .u8 z.f0)).setCell ⟨g, b * 8 + 1, none⟩ (.int .i64 z.f1)).setCell ⟨g, b * 8 + 2, none⟩ (.int .i64 z.f2)).setCell ⟨g, b * 8 + 3, none⟩ (.int .i64 z.f3)).setCell ⟨g, b * 8 + 4, none⟩ (.string z.f4)).setCell ⟨g, b * 8 + 5, none⟩ (.int .u8 z.f5.f0)).setCell ⟨g, b * 8 + 6, none⟩ (.int .i64 z.f5.f1)).setCell ⟨g, b * 8 + 7, none⟩ (.string z.f5.f2)) = wq := ⟨_, rfl⟩
      have HQ2 : Aside0 (Kd.R k39 39 wq base ok (.slice (some ⟨g, 0, none⟩) l.length c) (((swapK l k).set k x).set b z)) := ⟨by rw [← hwq]; exact HQ.out.1⟩
      have HKQ : Aside0 (w.grownBy wq (some g)) := ⟨by rw [← hwq]; exact (HKE.out.trans HP.out.2).trans HQ.out.2⟩
      have HWQ := Aside0.mk hwq
      clear hwq HP HQ HR
      go_wp2
      go_region_law (go_simp)
      all_goals (
        clear f0 f1 f2 f3 f4 f5 f6 f7 g0 g1 g2 g3 g4 g5 g6 g7 e0 e1 e2 e3 e4 e5 e6 e7 u0 u1 u2 u3 u4 u5 u6 u7 hs0 hs1 hs2 hs3 hs4 hs5 hs6 hs7 ht0 ht1 ht2 ht3 ht4 ht5 ht6 ht7
        rw [HWQ.out]
        go_wp2
        go_roundw
        case rel => exact ⟨k + 1, by have := HY.out; omega, by go_num, by rw [show (l.length : Int) - 1 - ((k + 1 : Nat) : Int) = y - 1 by have := HY.out; omega], ⟨by
          have hk1 : swapK l (k + 1) = ((swapK l k).set k x).set b z := by
            rw [swapK, HZ.out, HB.out, show ((b : Nat) : Int) = y by have := HY.out; have := HB.out; omega, HX.out]
          rw [hk1]
          exact Kd.R_drew HQ2.out⟩, ⟨⟨HKQ.out.os, HKQ.out.tape, HKQ.out.output, HKQ.out.size, HKQ.out.block⟩⟩⟩
        case measure => simp [intOf]; omega)
    · have hend := swapK_end l k (by omega) hk
      rw [hend] at HK
      go_wp2
      go_end0
      exact ⟨rfl, HK.out, HKE.out⟩
end Go.Proofs.Ytjkjbfhhfdbnoaa.NW
