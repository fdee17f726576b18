/- copies.inst: what one instruction becomes, and what is known behind it. -/
import Derived.Test.YtjkjbfhhfdbnoaaRg
namespace Go.Proofs.Ytjkjbfhhfdbnoaa.NW
open Go.RowKit Go.Maps Go.Proofs.YtjkjbfhhfdbnoaaW.PrintWords Go.Proofs.YtjkjbfhhfdbnoaaW.PrintMore Go.Proofs.Ytjkjbfhhfdbnoaa.PB
set_option linter.unusedVariables false
set_option linter.unusedSimpArgs false

abbrev I8 (a b c d : Int) (s : ByteArray) (t n : Int) (u : ByteArray) : Array Value := #[.int .u8 a, .int .i64 b, .int .i64 c, .int .i64 d, .string s, .int .u8 t, .int .i64 n, .string u]
abbrev Z8 : Array Value := #[.int .u8 0, .int .i64 0, .int .i64 0, .int .i64 0, .string ⟨#[]⟩, .int .u8 0, .int .i64 0, .string ⟨#[]⟩]

def setF (f : Int → Option Int) (x a : Int) (y : Int) : Option Int := if y = x then some a else f y
/-- copies.inst: what is known behind it, the instruction, whether it stays -/
def stepI (f : Int → Option Int) (x : S39) : (Int → Option Int) × S39 × Bool :=
  if x.f0 = 6 then (f, x, true)
  else if x.f0 = 8 then (f, { x with f2 := ofF f x.f2 }, true)
  else if x.f0 = 2 then (if ofF f x.f2 = x.f1 then (f, { x with f2 := ofF f x.f2 }, false) else (setF (putF f x.f1) x.f1 (ofF f x.f2), { x with f2 := ofF f x.f2 }, true))
  else if x.f0 = 4 then (putF f x.f1, { x with f3 := ofF f x.f3, f2 := ofF f x.f2 }, true)
  else if x.f0 = 3 then (putF f x.f1, { x with f2 := ofF f x.f2 }, true)
  else (putF f x.f1, x, true)

theorem isMap_of {w : World} {b n : Nat} {D : DataW Unit} (h : w.ownsMap Try.prog 3 (plainElem Try.prog 3) b n D) : IsMap D := by
  obtain ⟨es, e, _⟩ := h.canon law3
  exact ⟨es, e⟩
theorem ofF_wf {w : World} {b n : Nat} {f : Int → Option Int} (h : CopyIs w b n f) {x : Int} (hx : wfI x) : wfI (ofF f x) := by
  obtain ⟨D, hown, hs⟩ := h
  unfold ofF
  cases hf : f x with
  | none =>
    show wfI x
    with_reducible exact hx
  | some c =>
    have h2 := ((hs x hx).2 c hf).2 (.lit (.int .i64 0))
    obtain ⟨c', _, h3, h4⟩ := hown.lookup_int (t := 58) law3 Try.underlying58 Try.underlying3 (zero3 w) (keyOf_int_mk Try.underlying3 hx)
    rw [h2] at h3
    simp only [DataW.lit.injEq, Lit.int.injEq, true_and] at h3
    show wfI c
    rw [h3]
    with_reducible exact h4

theorem grown_alloc2 (w : World) (o1 o2 : Obj) (row : Option Nat) : w.grownBy ((w.alloc o1).alloc o2) row :=
  ⟨rfl, rfl, rfl, by simp; omega, fun k hk _ => (Below.heap_alloc _ _ k (by simp; omega)).trans (Below.heap_alloc _ _ k hk)⟩

theorem grown_set (w : World) (g j : Nat) (u : Value) : w.grownBy (w.setCell ⟨g, j, none⟩ u) (some g) :=
  ⟨rfl, rfl, rfl, by simp [World.setCell], fun k hk hne => Below.heap_setCell w _ u k (fun e => hne (by rw [e]))⟩
theorem grown_set8 (w : World) (g : Nat) (v0 v1 v2 v3 v4 v5 v6 v7 : Value) : w.grownBy ((((((((w.setCell ⟨g, 0, none⟩ v0).setCell ⟨g, 1, none⟩ v1).setCell ⟨g, 2, none⟩ v2).setCell ⟨g, 3, none⟩ v3).setCell ⟨g, 4, none⟩ v4).setCell ⟨g, 5, none⟩ v5).setCell ⟨g, 6, none⟩ v6).setCell ⟨g, 7, none⟩ v7) (some g) :=
  (((((((grown_set w g 0 v0).trans (grown_set _ g 1 v1)).trans (grown_set _ g 2 v2)).trans (grown_set _ g 3 v3)).trans (grown_set _ g 4 v4)).trans (grown_set _ g 5 v5)).trans (grown_set _ g 6 v6)).trans (grown_set _ g 7 v7)
theorem blk_set8 {w : World} {g : Nat} {u0 u1 u2 u3 u4 u5 u6 u7 : Value} (h : w.heap[g]? = some (.cells #[u0, u1, u2, u3, u4, u5, u6, u7] 39 (0, 0))) (v0 v1 v2 v3 v4 v5 v6 v7 : Value) : ((((((((w.setCell ⟨g, 0, none⟩ v0).setCell ⟨g, 1, none⟩ v1).setCell ⟨g, 2, none⟩ v2).setCell ⟨g, 3, none⟩ v3).setCell ⟨g, 4, none⟩ v4).setCell ⟨g, 5, none⟩ v5).setCell ⟨g, 6, none⟩ v6).setCell ⟨g, 7, none⟩ v7).heap[g]? = some (.cells #[v0, v1, v2, v3, v4, v5, v6, v7] 39 (0, 0)) := by
  have h0 : (w.setCell ⟨g, 0, none⟩ v0).heap[g]? = some (.cells #[v0, u1, u2, u3, u4, u5, u6, u7] 39 (0, 0)) := blk_put h 0 v0 rfl
  have h1 : ((w.setCell ⟨g, 0, none⟩ v0).setCell ⟨g, 1, none⟩ v1).heap[g]? = some (.cells #[v0, v1, u2, u3, u4, u5, u6, u7] 39 (0, 0)) := blk_put h0 1 v1 rfl
  have h2 : (((w.setCell ⟨g, 0, none⟩ v0).setCell ⟨g, 1, none⟩ v1).setCell ⟨g, 2, none⟩ v2).heap[g]? = some (.cells #[v0, v1, v2, u3, u4, u5, u6, u7] 39 (0, 0)) := blk_put h1 2 v2 rfl
  have h3 : ((((w.setCell ⟨g, 0, none⟩ v0).setCell ⟨g, 1, none⟩ v1).setCell ⟨g, 2, none⟩ v2).setCell ⟨g, 3, none⟩ v3).heap[g]? = some (.cells #[v0, v1, v2, v3, u4, u5, u6, u7] 39 (0, 0)) := blk_put h2 3 v3 rfl
  have h4 : (((((w.setCell ⟨g, 0, none⟩ v0).setCell ⟨g, 1, none⟩ v1).setCell ⟨g, 2, none⟩ v2).setCell ⟨g, 3, none⟩ v3).setCell ⟨g, 4, none⟩ v4).heap[g]? = some (.cells #[v0, v1, v2, v3, v4, u5, u6, u7] 39 (0, 0)) := blk_put h3 4 v4 rfl
  have h5 : ((((((w.setCell ⟨g, 0, none⟩ v0).setCell ⟨g, 1, none⟩ v1).setCell ⟨g, 2, none⟩ v2).setCell ⟨g, 3, none⟩ v3).setCell ⟨g, 4, none⟩ v4).setCell ⟨g, 5, none⟩ v5).heap[g]? = some (.cells #[v0, v1, v2, v3, v4, v5, u6, u7] 39 (0, 0)) := blk_put h4 5 v5 rfl
  have h6 : (((((((w.setCell ⟨g, 0, none⟩ v0).setCell ⟨g, 1, none⟩ v1).setCell ⟨g, 2, none⟩ v2).setCell ⟨g, 3, none⟩ v3).setCell ⟨g, 4, none⟩ v4).setCell ⟨g, 5, none⟩ v5).setCell ⟨g, 6, none⟩ v6).heap[g]? = some (.cells #[v0, v1, v2, v3, v4, v5, v6, u7] 39 (0, 0)) := blk_put h5 6 v6 rfl
  have h7 : ((((((((w.setCell ⟨g, 0, none⟩ v0).setCell ⟨g, 1, none⟩ v1).setCell ⟨g, 2, none⟩ v2).setCell ⟨g, 3, none⟩ v3).setCell ⟨g, 4, none⟩ v4).setCell ⟨g, 5, none⟩ v5).setCell ⟨g, 6, none⟩ v6).setCell ⟨g, 7, none⟩ v7).heap[g]? = some (.cells #[v0, v1, v2, v3, v4, v5, v6, v7] 39 (0, 0)) := blk_put h6 7 v7 rfl
  exact h7
theorem blk_new2 (w : World) (o1 o2 : Obj) : ((w.alloc o1).alloc o2).heap[w.heap.size + 1]? = some o2 := by
  have h := blk_new (w.alloc o1) o2
  rw [show (w.alloc o1).heap.size = w.heap.size + 1 by simp] at h
  exact h

set_option maxHeartbeats 1600000 in
set_option maxRecDepth 1000000 in
theorem cinst_calls (b n : Nat) (f : Int → Option Int) (x : S39) (w : World) (hn : n < maxLen) (h : CopyIs w b n f)
    (h1 : x.f0 ≠ 6 → x.f0 ≠ 8 → wfI x.f1) (h2 : x.f0 = 2 ∨ x.f0 = 3 ∨ x.f0 = 4 ∨ x.f0 = 8 → wfI x.f2) (h3 : x.f0 = 4 → wfI x.f3) :
    Calls Try.prog 43 #[.map (some b), .agg (I8 x.f0 x.f1 x.f2 x.f3 x.f4 x.f5.f0 x.f5.f1 x.f5.f2)] w fun e w' =>
      e = .returned (.tuple #[.agg (I8 (stepI f x).2.1.f0 (stepI f x).2.1.f1 (stepI f x).2.1.f2 (stepI f x).2.1.f3 (stepI f x).2.1.f4 (stepI f x).2.1.f5.f0 (stepI f x).2.1.f5.f1 (stepI f x).2.1.f5.f2), .bool (stepI f x).2.2]) ∧
        CopyIs w' b (n + 1) (stepI f x).1 ∧ w.grownBy w' (some b) := by
  obtain ⟨x0, x1, x2, x3, x4, x50, x51, x52⟩ := x
  dsimp only at h1 h2 h3 ⊢
  have H := Aside0.mk h
  clear h
  by_cases c6 : x0 = 6
  · subst c6
    have e : stepI f ⟨6, x1, x2, x3, x4, ⟨x50, x51, x52⟩⟩ = (f, ⟨6, x1, x2, x3, x4, ⟨x50, x51, x52⟩⟩, true) := by unfold stepI; rw [if_pos rfl]
    rw [e]
    dsimp only
    clear e
    go_enter Try.func43, Try.ntmps43
    go_wp2
    refine bodyPost_ret (v := .tuple #[.agg #[.int .u8 6, .int .i64 x1, .int .i64 x2, .int .i64 x3, .string x4, .int .u8 x50, .int .i64 x51, .string x52], .bool true]) (by simp [results, Try.results43, go_sem]) rfl ⟨rfl, ((H.out.alloc _).alloc _).mono (Nat.le_succ _), grown_alloc2 _ _ _ _⟩
  by_cases c8 : x0 = 8
  · subst c8
    have e : stepI f ⟨8, x1, x2, x3, x4, ⟨x50, x51, x52⟩⟩ = (f, ⟨8, x1, ofF f x2, x3, x4, ⟨x50, x51, x52⟩⟩, true) := by unfold stepI; rw [if_neg c6, if_pos rfl]
    rw [e]
    dsimp only
    clear e
    generalize hA2 : ofF f x2 = A2
    have HA2 := Aside0.mk hA2
    clear hA2
    go_enter Try.func43, Try.ntmps43
    go_wp2_with fail
    refine Calls.mono (of_calls b n f x2 _ (h2 (by decide)) ((H.out.alloc _).alloc _)) ?_
    rintro e w' ⟨rfl, rfl⟩
    rw [HA2.out]
    go_wp2_with fail
    refine bodyPost_ret (v := .tuple #[.agg #[.int .u8 8, .int .i64 x1, .int .i64 A2, .int .i64 x3, .string x4, .int .u8 x50, .int .i64 x51, .string x52], .bool true]) (by simp [results, Try.results43, go_sem]) rfl ⟨rfl, ((H.out.alloc _).alloc _).mono (Nat.le_succ _), grown_alloc2 _ _ _ _⟩
  by_cases c2 : x0 = 2
  · subst c2
    by_cases cs : ofF f x2 = x1
    · have e : stepI f ⟨2, x1, x2, x3, x4, ⟨x50, x51, x52⟩⟩ = (f, ⟨2, x1, x1, x3, x4, ⟨x50, x51, x52⟩⟩, false) := by unfold stepI; rw [if_neg c6, if_neg c8, if_pos rfl, if_pos cs]; simp only [cs]
      rw [e]
      dsimp only
      clear e
      have CS := Aside0.mk cs
      clear cs
      go_enter Try.func43, Try.ntmps43
      go_wp2_with fail
      refine Calls.mono (of_calls b n f x2 _ (h2 (by decide)) ((H.out.alloc _).alloc _)) ?_
      rintro e w' ⟨rfl, rfl⟩
      rw [CS.out]
      go_wp2_with fail
      refine bodyPost_ret (v := .tuple #[.agg #[.int .u8 2, .int .i64 x1, .int .i64 x1, .int .i64 x3, .string x4, .int .u8 x50, .int .i64 x51, .string x52], .bool false]) (by simp [results, Try.results43, go_sem]) rfl ⟨rfl, ((H.out.alloc _).alloc _).mono (Nat.le_succ _), grown_alloc2 _ _ _ _⟩
    · have e : stepI f ⟨2, x1, x2, x3, x4, ⟨x50, x51, x52⟩⟩ = (setF (putF f x1) x1 (ofF f x2), ⟨2, x1, ofF f x2, x3, x4, ⟨x50, x51, x52⟩⟩, true) := by unfold stepI; rw [if_neg c6, if_neg c8, if_pos rfl, if_neg cs]
      rw [e]
      dsimp only
      clear e
      have hwa : wfI (ofF f x2) := ofF_wf H.out (h2 (by decide))
      generalize hA2 : ofF f x2 = A2 at cs hwa ⊢
      have HA2 := Aside0.mk hA2
      clear hA2
      have HWA := Aside0.mk hwa
      clear hwa
      go_enter Try.func43, Try.ntmps43
      go_wp2_with fail
      refine Calls.mono (of_calls b n f x2 _ (h2 (by decide)) ((H.out.alloc _).alloc _)) ?_
      rintro e w' ⟨rfl, rfl⟩
      rw [HA2.out]
      go_wp2_with fail
      refine Calls.mono (put_calls b n f x1 _ (h1 (by decide) (by decide)) ((H.out.alloc _).alloc _)) ?_
      rintro e w3 ⟨rfl, hC, hg⟩
      have hbl := H.out.lt
      have B1 := (hg.block w.heap.size (by simp; omega) (fun e => by injection e with e; omega)).trans (blk_alloc (blk_new w (.cells #[.int .u8 2, .int .i64 x1, .int .i64 A2, .int .i64 x3, .string x4, .int .u8 x50, .int .i64 x51, .string x52] 39)) (.cells #[.int .u8 0, .int .i64 0, .int .i64 0, .int .i64 0, .string ⟨#[]⟩, .int .u8 0, .int .i64 0, .string ⟨#[]⟩] 39))
      have B2 := (hg.block (w.heap.size + 1) (by simp) (fun e => by injection e with e; omega)).trans (blk_new2 w (.cells #[.int .u8 2, .int .i64 x1, .int .i64 A2, .int .i64 x3, .string x4, .int .u8 x50, .int .i64 x51, .string x52] 39) (.cells #[.int .u8 0, .int .i64 0, .int .i64 0, .int .i64 0, .string ⟨#[]⟩, .int .u8 0, .int .i64 0, .string ⟨#[]⟩] 39))
      have hG := (grown_alloc2 w (.cells #[.int .u8 2, .int .i64 x1, .int .i64 A2, .int .i64 x3, .string x4, .int .u8 x50, .int .i64 x51, .string x52] 39) (.cells #[.int .u8 0, .int .i64 0, .int .i64 0, .int .i64 0, .string ⟨#[]⟩, .int .u8 0, .int .i64 0, .string ⟨#[]⟩] 39) (some b)).andThen hg (fun j hj => .inr hj)
      have HB1 := Aside0.mk B1
      have HB2 := Aside0.mk B2
      have HG := Aside0.mk hG
      have HC := Aside0.mk hC
      clear B1 B2 hG hC hg
      have k0 := (blk_cell HB1.out 0).trans rfl
      have q0 := (blk_cell HB2.out 0).trans rfl
      have z0 := blk_frozen HB2.out 0
      have k1 := (blk_cell HB1.out 1).trans rfl
      have q1 := (blk_cell HB2.out 1).trans rfl
      have z1 := blk_frozen HB2.out 1
      have k2 := (blk_cell HB1.out 2).trans rfl
      have q2 := (blk_cell HB2.out 2).trans rfl
      have z2 := blk_frozen HB2.out 2
      have k3 := (blk_cell HB1.out 3).trans rfl
      have q3 := (blk_cell HB2.out 3).trans rfl
      have z3 := blk_frozen HB2.out 3
      have k4 := (blk_cell HB1.out 4).trans rfl
      have q4 := (blk_cell HB2.out 4).trans rfl
      have z4 := blk_frozen HB2.out 4
      have k5 := (blk_cell HB1.out 5).trans rfl
      have q5 := (blk_cell HB2.out 5).trans rfl
      have z5 := blk_frozen HB2.out 5
      have k6 := (blk_cell HB1.out 6).trans rfl
      have q6 := (blk_cell HB2.out 6).trans rfl
      have z6 := blk_frozen HB2.out 6
      have k7 := (blk_cell HB1.out 7).trans rfl
      have q7 := (blk_cell HB2.out 7).trans rfl
      have z7 := blk_frozen HB2.out 7
      obtain ⟨D, hown, hs⟩ := HC.out
      have HOW := Aside0.mk hown
      have HSE := Aside0.mk hs
      clear hown hs
      go_wp2_with (at_mapUpdate; refine wpList_mapUpdate_own _ rfl _ _ _ 58 rfl 3 3 law3 Try.underlying58 _ b n D rfl HOW.out hn _ _ _ rfl rfl (keyOf_int_mk Try.underlying3 (h1 (by decide) (by decide))) _ [] (plainElem_int Try.underlying3 HWA.out) ?_; intro w4 hown1 hgrow1; have HB3 := Aside0.mk ((hgrow1.block w.heap.size (by have := blk_lt HB1.out; omega) (fun e => by injection e with e; omega)).trans HB1.out); have HB4 := Aside0.mk ((hgrow1.block (w.heap.size + 1) (by have := blk_lt HB2.out; omega) (fun e => by injection e with e; omega)).trans HB2.out); have HOW1 := Aside0.mk hown1; have HGR := Aside0.mk hgrow1; clear hown1 hgrow1; have ky0 := (blk_cell HB3.out 0).trans rfl; have qy0 := (blk_cell HB4.out 0).trans rfl; have zy0 := blk_frozen HB4.out 0; have ky1 := (blk_cell HB3.out 1).trans rfl; have qy1 := (blk_cell HB4.out 1).trans rfl; have zy1 := blk_frozen HB4.out 1; have ky2 := (blk_cell HB3.out 2).trans rfl; have qy2 := (blk_cell HB4.out 2).trans rfl; have zy2 := blk_frozen HB4.out 2; have ky3 := (blk_cell HB3.out 3).trans rfl; have qy3 := (blk_cell HB4.out 3).trans rfl; have zy3 := blk_frozen HB4.out 3; have ky4 := (blk_cell HB3.out 4).trans rfl; have qy4 := (blk_cell HB4.out 4).trans rfl; have zy4 := blk_frozen HB4.out 4; have ky5 := (blk_cell HB3.out 5).trans rfl; have qy5 := (blk_cell HB4.out 5).trans rfl; have zy5 := blk_frozen HB4.out 5; have ky6 := (blk_cell HB3.out 6).trans rfl; have qy6 := (blk_cell HB4.out 6).trans rfl; have zy6 := blk_frozen HB4.out 6; have ky7 := (blk_cell HB3.out 7).trans rfl; have qy7 := (blk_cell HB4.out 7).trans rfl; have zy7 := blk_frozen HB4.out 7)
      refine bodyPost_ret (results_ct rfl _ _ (w.heap.size + 1) 39 #[.int .u8 2, .int .i64 x1, .int .i64 A2, .int .i64 x3, .string x4, .int .u8 x50, .int .i64 x51, .string x52] (0, 0) _ rfl (blk_set8 HB4.out _ _ _ _ _ _ _ _) Try.underlying39 rfl (by kernel_rfl)) rfl ?_
      exact ⟨rfl, CopyIs.kept ⟨_, HOW1.out, HSE.out.put (isMap_of HOW.out) x1 A2⟩ (grown_set8 _ _ _ _ _ _ _ _ _ _) (fun e => by injection e with e; omega), (HG.out.andThen HGR.out (fun j hj => .inr hj)).andThen (grown_set8 _ _ _ _ _ _ _ _ _ _) (fun j hj => by cases hj; exact .inl (Nat.le_succ _))⟩
  by_cases c4 : x0 = 4
  · subst c4
    have e : stepI f ⟨4, x1, x2, x3, x4, ⟨x50, x51, x52⟩⟩ = (putF f x1, ⟨4, x1, ofF f x2, ofF f x3, x4, ⟨x50, x51, x52⟩⟩, true) := by unfold stepI; rw [if_neg c6, if_neg c8, if_neg c2, if_pos rfl]
    rw [e]
    dsimp only
    clear e
    generalize hA2 : ofF f x2 = A2
    have HA2 := Aside0.mk hA2
    clear hA2
    generalize hA3 : ofF f x3 = A3
    have HA3 := Aside0.mk hA3
    clear hA3
    go_enter Try.func43, Try.ntmps43
    go_wp2_with fail
    refine Calls.mono (of_calls b n f x3 _ (h3 (by decide)) ((H.out.alloc _).alloc _)) ?_
    rintro e w' ⟨rfl, rfl⟩
    rw [HA3.out]
    go_wp2_with fail
    refine Calls.mono (of_calls b n f x2 _ (h2 (by decide)) ((H.out.alloc _).alloc _)) ?_
    rintro e w' ⟨rfl, rfl⟩
    rw [HA2.out]
    go_wp2_with fail
    refine Calls.mono (put_calls b n f x1 _ (h1 (by decide) (by decide)) ((H.out.alloc _).alloc _)) ?_
    rintro e w3 ⟨rfl, hC, hg⟩
    have hbl := H.out.lt
    have B1 := (hg.block w.heap.size (by simp; omega) (fun e => by injection e with e; omega)).trans (blk_alloc (blk_new w (.cells #[.int .u8 4, .int .i64 x1, .int .i64 A2, .int .i64 A3, .string x4, .int .u8 x50, .int .i64 x51, .string x52] 39)) (.cells #[.int .u8 0, .int .i64 0, .int .i64 0, .int .i64 0, .string ⟨#[]⟩, .int .u8 0, .int .i64 0, .string ⟨#[]⟩] 39))
    have B2 := (hg.block (w.heap.size + 1) (by simp) (fun e => by injection e with e; omega)).trans (blk_new2 w (.cells #[.int .u8 4, .int .i64 x1, .int .i64 A2, .int .i64 A3, .string x4, .int .u8 x50, .int .i64 x51, .string x52] 39) (.cells #[.int .u8 0, .int .i64 0, .int .i64 0, .int .i64 0, .string ⟨#[]⟩, .int .u8 0, .int .i64 0, .string ⟨#[]⟩] 39))
    have hG := (grown_alloc2 w (.cells #[.int .u8 4, .int .i64 x1, .int .i64 A2, .int .i64 A3, .string x4, .int .u8 x50, .int .i64 x51, .string x52] 39) (.cells #[.int .u8 0, .int .i64 0, .int .i64 0, .int .i64 0, .string ⟨#[]⟩, .int .u8 0, .int .i64 0, .string ⟨#[]⟩] 39) (some b)).andThen hg (fun j hj => .inr hj)
    have HB1 := Aside0.mk B1
    have HB2 := Aside0.mk B2
    have HG := Aside0.mk hG
    have HC := Aside0.mk hC
    clear B1 B2 hG hC hg
    have k0 := (blk_cell HB1.out 0).trans rfl
    have q0 := (blk_cell HB2.out 0).trans rfl
    have z0 := blk_frozen HB2.out 0
    have k1 := (blk_cell HB1.out 1).trans rfl
    have q1 := (blk_cell HB2.out 1).trans rfl
    have z1 := blk_frozen HB2.out 1
    have k2 := (blk_cell HB1.out 2).trans rfl
    have q2 := (blk_cell HB2.out 2).trans rfl
    have z2 := blk_frozen HB2.out 2
    have k3 := (blk_cell HB1.out 3).trans rfl
    have q3 := (blk_cell HB2.out 3).trans rfl
    have z3 := blk_frozen HB2.out 3
    have k4 := (blk_cell HB1.out 4).trans rfl
    have q4 := (blk_cell HB2.out 4).trans rfl
    have z4 := blk_frozen HB2.out 4
    have k5 := (blk_cell HB1.out 5).trans rfl
    have q5 := (blk_cell HB2.out 5).trans rfl
    have z5 := blk_frozen HB2.out 5
    have k6 := (blk_cell HB1.out 6).trans rfl
    have q6 := (blk_cell HB2.out 6).trans rfl
    have z6 := blk_frozen HB2.out 6
    have k7 := (blk_cell HB1.out 7).trans rfl
    have q7 := (blk_cell HB2.out 7).trans rfl
    have z7 := blk_frozen HB2.out 7
    go_wp2_with fail
    refine bodyPost_ret (results_ct rfl _ _ (w.heap.size + 1) 39 #[.int .u8 4, .int .i64 x1, .int .i64 A2, .int .i64 A3, .string x4, .int .u8 x50, .int .i64 x51, .string x52] (0, 0) _ rfl (blk_set8 HB2.out _ _ _ _ _ _ _ _) Try.underlying39 rfl (by kernel_rfl)) rfl ?_
    exact ⟨rfl, (HC.out.kept (grown_set8 _ _ _ _ _ _ _ _ _ _) (fun e => by injection e with e; omega)).mono (Nat.le_succ _), HG.out.andThen (grown_set8 _ _ _ _ _ _ _ _ _ _) (fun j hj => by cases hj; exact .inl (Nat.le_succ _))⟩
  by_cases c3 : x0 = 3
  · subst c3
    have e : stepI f ⟨3, x1, x2, x3, x4, ⟨x50, x51, x52⟩⟩ = (putF f x1, ⟨3, x1, ofF f x2, x3, x4, ⟨x50, x51, x52⟩⟩, true) := by unfold stepI; rw [if_neg c6, if_neg c8, if_neg c2, if_neg c4, if_pos rfl]
    rw [e]
    dsimp only
    clear e
    generalize hA2 : ofF f x2 = A2
    have HA2 := Aside0.mk hA2
    clear hA2
    go_enter Try.func43, Try.ntmps43
    go_wp2_with fail
    refine Calls.mono (of_calls b n f x2 _ (h2 (by decide)) ((H.out.alloc _).alloc _)) ?_
    rintro e w' ⟨rfl, rfl⟩
    rw [HA2.out]
    go_wp2_with fail
    refine Calls.mono (put_calls b n f x1 _ (h1 (by decide) (by decide)) ((H.out.alloc _).alloc _)) ?_
    rintro e w3 ⟨rfl, hC, hg⟩
    have hbl := H.out.lt
    have B1 := (hg.block w.heap.size (by simp; omega) (fun e => by injection e with e; omega)).trans (blk_alloc (blk_new w (.cells #[.int .u8 3, .int .i64 x1, .int .i64 A2, .int .i64 x3, .string x4, .int .u8 x50, .int .i64 x51, .string x52] 39)) (.cells #[.int .u8 0, .int .i64 0, .int .i64 0, .int .i64 0, .string ⟨#[]⟩, .int .u8 0, .int .i64 0, .string ⟨#[]⟩] 39))
    have B2 := (hg.block (w.heap.size + 1) (by simp) (fun e => by injection e with e; omega)).trans (blk_new2 w (.cells #[.int .u8 3, .int .i64 x1, .int .i64 A2, .int .i64 x3, .string x4, .int .u8 x50, .int .i64 x51, .string x52] 39) (.cells #[.int .u8 0, .int .i64 0, .int .i64 0, .int .i64 0, .string ⟨#[]⟩, .int .u8 0, .int .i64 0, .string ⟨#[]⟩] 39))
    have hG := (grown_alloc2 w (.cells #[.int .u8 3, .int .i64 x1, .int .i64 A2, .int .i64 x3, .string x4, .int .u8 x50, .int .i64 x51, .string x52] 39) (.cells #[.int .u8 0, .int .i64 0, .int .i64 0, .int .i64 0, .string ⟨#[]⟩, .int .u8 0, .int .i64 0, .string ⟨#[]⟩] 39) (some b)).andThen hg (fun j hj => .inr hj)
    have HB1 := Aside0.mk B1
    have HB2 := Aside0.mk B2
    have HG := Aside0.mk hG
    have HC := Aside0.mk hC
    clear B1 B2 hG hC hg
    have k0 := (blk_cell HB1.out 0).trans rfl
    have q0 := (blk_cell HB2.out 0).trans rfl
    have z0 := blk_frozen HB2.out 0
    have k1 := (blk_cell HB1.out 1).trans rfl
    have q1 := (blk_cell HB2.out 1).trans rfl
    have z1 := blk_frozen HB2.out 1
    have k2 := (blk_cell HB1.out 2).trans rfl
    have q2 := (blk_cell HB2.out 2).trans rfl
    have z2 := blk_frozen HB2.out 2
    have k3 := (blk_cell HB1.out 3).trans rfl
    have q3 := (blk_cell HB2.out 3).trans rfl
    have z3 := blk_frozen HB2.out 3
    have k4 := (blk_cell HB1.out 4).trans rfl
    have q4 := (blk_cell HB2.out 4).trans rfl
    have z4 := blk_frozen HB2.out 4
    have k5 := (blk_cell HB1.out 5).trans rfl
    have q5 := (blk_cell HB2.out 5).trans rfl
    have z5 := blk_frozen HB2.out 5
    have k6 := (blk_cell HB1.out 6).trans rfl
    have q6 := (blk_cell HB2.out 6).trans rfl
    have z6 := blk_frozen HB2.out 6
    have k7 := (blk_cell HB1.out 7).trans rfl
    have q7 := (blk_cell HB2.out 7).trans rfl
    have z7 := blk_frozen HB2.out 7
    go_wp2_with fail
    refine bodyPost_ret (results_ct rfl _ _ (w.heap.size + 1) 39 #[.int .u8 3, .int .i64 x1, .int .i64 A2, .int .i64 x3, .string x4, .int .u8 x50, .int .i64 x51, .string x52] (0, 0) _ rfl (blk_set8 HB2.out _ _ _ _ _ _ _ _) Try.underlying39 rfl (by kernel_rfl)) rfl ?_
    exact ⟨rfl, (HC.out.kept (grown_set8 _ _ _ _ _ _ _ _ _ _) (fun e => by injection e with e; omega)).mono (Nat.le_succ _), HG.out.andThen (grown_set8 _ _ _ _ _ _ _ _ _ _) (fun j hj => by cases hj; exact .inl (Nat.le_succ _))⟩
  · have e : stepI f ⟨x0, x1, x2, x3, x4, ⟨x50, x51, x52⟩⟩ = (putF f x1, ⟨x0, x1, x2, x3, x4, ⟨x50, x51, x52⟩⟩, true) := by unfold stepI; rw [if_neg c6, if_neg c8, if_neg c2, if_neg c4, if_neg c3]
    rw [e]
    dsimp only
    clear e
    go_enter Try.func43, Try.ntmps43
    go_wp2_with fail
    refine Calls.mono (put_calls b n f x1 _ (h1 c6 c8) ((H.out.alloc _).alloc _)) ?_
    rintro e w3 ⟨rfl, hC, hg⟩
    have hbl := H.out.lt
    have B1 := (hg.block w.heap.size (by simp; omega) (fun e => by injection e with e; omega)).trans (blk_alloc (blk_new w (.cells #[.int .u8 x0, .int .i64 x1, .int .i64 x2, .int .i64 x3, .string x4, .int .u8 x50, .int .i64 x51, .string x52] 39)) (.cells #[.int .u8 0, .int .i64 0, .int .i64 0, .int .i64 0, .string ⟨#[]⟩, .int .u8 0, .int .i64 0, .string ⟨#[]⟩] 39))
    have B2 := (hg.block (w.heap.size + 1) (by simp) (fun e => by injection e with e; omega)).trans (blk_new2 w (.cells #[.int .u8 x0, .int .i64 x1, .int .i64 x2, .int .i64 x3, .string x4, .int .u8 x50, .int .i64 x51, .string x52] 39) (.cells #[.int .u8 0, .int .i64 0, .int .i64 0, .int .i64 0, .string ⟨#[]⟩, .int .u8 0, .int .i64 0, .string ⟨#[]⟩] 39))
    have hG := (grown_alloc2 w (.cells #[.int .u8 x0, .int .i64 x1, .int .i64 x2, .int .i64 x3, .string x4, .int .u8 x50, .int .i64 x51, .string x52] 39) (.cells #[.int .u8 0, .int .i64 0, .int .i64 0, .int .i64 0, .string ⟨#[]⟩, .int .u8 0, .int .i64 0, .string ⟨#[]⟩] 39) (some b)).andThen hg (fun j hj => .inr hj)
    have HB1 := Aside0.mk B1
    have HB2 := Aside0.mk B2
    have HG := Aside0.mk hG
    have HC := Aside0.mk hC
    clear B1 B2 hG hC hg
    have k0 := (blk_cell HB1.out 0).trans rfl
    have q0 := (blk_cell HB2.out 0).trans rfl
    have z0 := blk_frozen HB2.out 0
    have k1 := (blk_cell HB1.out 1).trans rfl
    have q1 := (blk_cell HB2.out 1).trans rfl
    have z1 := blk_frozen HB2.out 1
    have k2 := (blk_cell HB1.out 2).trans rfl
    have q2 := (blk_cell HB2.out 2).trans rfl
    have z2 := blk_frozen HB2.out 2
    have k3 := (blk_cell HB1.out 3).trans rfl
    have q3 := (blk_cell HB2.out 3).trans rfl
    have z3 := blk_frozen HB2.out 3
    have k4 := (blk_cell HB1.out 4).trans rfl
    have q4 := (blk_cell HB2.out 4).trans rfl
    have z4 := blk_frozen HB2.out 4
    have k5 := (blk_cell HB1.out 5).trans rfl
    have q5 := (blk_cell HB2.out 5).trans rfl
    have z5 := blk_frozen HB2.out 5
    have k6 := (blk_cell HB1.out 6).trans rfl
    have q6 := (blk_cell HB2.out 6).trans rfl
    have z6 := blk_frozen HB2.out 6
    have k7 := (blk_cell HB1.out 7).trans rfl
    have q7 := (blk_cell HB2.out 7).trans rfl
    have z7 := blk_frozen HB2.out 7
    go_wp2_with fail
    refine bodyPost_ret (results_ct rfl _ _ (w.heap.size + 1) 39 #[.int .u8 x0, .int .i64 x1, .int .i64 x2, .int .i64 x3, .string x4, .int .u8 x50, .int .i64 x51, .string x52] (0, 0) _ rfl (blk_set8 HB2.out _ _ _ _ _ _ _ _) Try.underlying39 rfl (by kernel_rfl)) rfl ?_
    exact ⟨rfl, (HC.out.kept (grown_set8 _ _ _ _ _ _ _ _ _ _) (fun e => by injection e with e; omega)).mono (Nat.le_succ _), HG.out.andThen (grown_set8 _ _ _ _ _ _ _ _ _ _) (fun j hj => by cases hj; exact .inl (Nat.le_succ _))⟩
end Go.Proofs.Ytjkjbfhhfdbnoaa.NW
