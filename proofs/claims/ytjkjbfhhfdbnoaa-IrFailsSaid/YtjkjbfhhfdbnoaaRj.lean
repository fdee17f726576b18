/- spread.Spread: what it answers and what it leaves. -/
import Derived.Test.YtjkjbfhhfdbnoaaRi
namespace Go.Proofs.Ytjkjbfhhfdbnoaa.NW
open Go.RowKit Go.Maps Go.Proofs.YtjkjbfhhfdbnoaaW.PrintWords Go.Proofs.YtjkjbfhhfdbnoaaW.PrintMore Go.Proofs.Ytjkjbfhhfdbnoaa.PB
set_option linter.unusedVariables false
set_option linter.unusedSimpArgs false

/-- what the region that clones three rows leaves: the box of the block holds new rows -/
structure Clones (w wx : World) (gb : Nat) (v3 v5 v6 : Value) (z0 z1 z2 : Int) (l3 : List S39) (z4 : Int) (l5 l6 : List Int) (z7 z8 z9 : Int) : Prop where
  box : wx.heap[gb]? = some (.cells #[.int .i64 z0, .int .i64 z1, .int .i64 z2, v3, .int .i64 z4, v5, v6, .int .i64 z7, .int .i64 z8, .int .i64 z9] 25 (0, 0))
  res : wx.heap[gb + 1]? = some (.cells #[.int .i64 0, .int .i64 0, .int .i64 0, .slice none 0 0, .int .i64 0, .slice none 0 0, .slice none 0 0, .int .i64 0, .int .i64 0, .int .i64 0] 25 (0, 0))
  size : w.heap.size = gb + 2
  r3 : Kd.R k39 39 wx w.heap.size (fun k => w.heap.size ≤ k) v3 l3
  r5 : Kd.R (Kd.int .i64) 3 wx w.heap.size (fun k => w.heap.size ≤ k) v5 l5
  r6 : Kd.R (Kd.int .i64) 3 wx w.heap.size (fun k => w.heap.size ≤ k) v6 l6
  apart : ∀ k, v5.ownBlock = some k → v6.ownBlock ≠ some k
  bel : Below gb w wx
def Cloned (w wx : World) (gb : Nat) (z0 z1 z2 : Int) (l3 : List S39) (z4 : Int) (l5 l6 : List Int) (z7 z8 z9 : Int) : Prop :=
  ∃ v3 v5 v6, Clones w wx gb v3 v5 v6 z0 z1 z2 l3 z4 l5 l6 z7 z8 z9
theorem blk_set10 {w : World} {g : Nat} {u0 u1 u2 u3 u4 u5 u6 u7 u8 u9 : Value} (h : w.heap[g]? = some (.cells #[u0, u1, u2, u3, u4, u5, u6, u7, u8, u9] 25 (0, 0))) (v0 v1 v2 v3 v4 v5 v6 v7 v8 v9 : Value) : ((((((((((w.setCell ⟨g, 0, none⟩ v0).setCell ⟨g, 1, none⟩ v1).setCell ⟨g, 2, none⟩ v2).setCell ⟨g, 3, none⟩ v3).setCell ⟨g, 4, none⟩ v4).setCell ⟨g, 5, none⟩ v5).setCell ⟨g, 6, none⟩ v6).setCell ⟨g, 7, none⟩ v7).setCell ⟨g, 8, none⟩ v8).setCell ⟨g, 9, none⟩ v9).heap[g]? = some (.cells #[v0, v1, v2, v3, v4, v5, v6, v7, v8, v9] 25 (0, 0)) := by
  have h0 : (w.setCell ⟨g, 0, none⟩ v0).heap[g]? = some (.cells #[v0, u1, u2, u3, u4, u5, u6, u7, u8, u9] 25 (0, 0)) := blk_put h 0 v0 rfl
  have h1 : ((w.setCell ⟨g, 0, none⟩ v0).setCell ⟨g, 1, none⟩ v1).heap[g]? = some (.cells #[v0, v1, u2, u3, u4, u5, u6, u7, u8, u9] 25 (0, 0)) := blk_put h0 1 v1 rfl
  have h2 : (((w.setCell ⟨g, 0, none⟩ v0).setCell ⟨g, 1, none⟩ v1).setCell ⟨g, 2, none⟩ v2).heap[g]? = some (.cells #[v0, v1, v2, u3, u4, u5, u6, u7, u8, u9] 25 (0, 0)) := blk_put h1 2 v2 rfl
  have h3 : ((((w.setCell ⟨g, 0, none⟩ v0).setCell ⟨g, 1, none⟩ v1).setCell ⟨g, 2, none⟩ v2).setCell ⟨g, 3, none⟩ v3).heap[g]? = some (.cells #[v0, v1, v2, v3, u4, u5, u6, u7, u8, u9] 25 (0, 0)) := blk_put h2 3 v3 rfl
  have h4 : (((((w.setCell ⟨g, 0, none⟩ v0).setCell ⟨g, 1, none⟩ v1).setCell ⟨g, 2, none⟩ v2).setCell ⟨g, 3, none⟩ v3).setCell ⟨g, 4, none⟩ v4).heap[g]? = some (.cells #[v0, v1, v2, v3, v4, u5, u6, u7, u8, u9] 25 (0, 0)) := blk_put h3 4 v4 rfl
  have h5 : ((((((w.setCell ⟨g, 0, none⟩ v0).setCell ⟨g, 1, none⟩ v1).setCell ⟨g, 2, none⟩ v2).setCell ⟨g, 3, none⟩ v3).setCell ⟨g, 4, none⟩ v4).setCell ⟨g, 5, none⟩ v5).heap[g]? = some (.cells #[v0, v1, v2, v3, v4, v5, u6, u7, u8, u9] 25 (0, 0)) := blk_put h4 5 v5 rfl
  have h6 : (((((((w.setCell ⟨g, 0, none⟩ v0).setCell ⟨g, 1, none⟩ v1).setCell ⟨g, 2, none⟩ v2).setCell ⟨g, 3, none⟩ v3).setCell ⟨g, 4, none⟩ v4).setCell ⟨g, 5, none⟩ v5).setCell ⟨g, 6, none⟩ v6).heap[g]? = some (.cells #[v0, v1, v2, v3, v4, v5, v6, u7, u8, u9] 25 (0, 0)) := blk_put h5 6 v6 rfl
  have h7 : ((((((((w.setCell ⟨g, 0, none⟩ v0).setCell ⟨g, 1, none⟩ v1).setCell ⟨g, 2, none⟩ v2).setCell ⟨g, 3, none⟩ v3).setCell ⟨g, 4, none⟩ v4).setCell ⟨g, 5, none⟩ v5).setCell ⟨g, 6, none⟩ v6).setCell ⟨g, 7, none⟩ v7).heap[g]? = some (.cells #[v0, v1, v2, v3, v4, v5, v6, v7, u8, u9] 25 (0, 0)) := blk_put h6 7 v7 rfl
  have h8 : (((((((((w.setCell ⟨g, 0, none⟩ v0).setCell ⟨g, 1, none⟩ v1).setCell ⟨g, 2, none⟩ v2).setCell ⟨g, 3, none⟩ v3).setCell ⟨g, 4, none⟩ v4).setCell ⟨g, 5, none⟩ v5).setCell ⟨g, 6, none⟩ v6).setCell ⟨g, 7, none⟩ v7).setCell ⟨g, 8, none⟩ v8).heap[g]? = some (.cells #[v0, v1, v2, v3, v4, v5, v6, v7, v8, u9] 25 (0, 0)) := blk_put h7 8 v8 rfl
  have h9 : ((((((((((w.setCell ⟨g, 0, none⟩ v0).setCell ⟨g, 1, none⟩ v1).setCell ⟨g, 2, none⟩ v2).setCell ⟨g, 3, none⟩ v3).setCell ⟨g, 4, none⟩ v4).setCell ⟨g, 5, none⟩ v5).setCell ⟨g, 6, none⟩ v6).setCell ⟨g, 7, none⟩ v7).setCell ⟨g, 8, none⟩ v8).setCell ⟨g, 9, none⟩ v9).heap[g]? = some (.cells #[v0, v1, v2, v3, v4, v5, v6, v7, v8, v9] 25 (0, 0)) := blk_put h8 9 v9 rfl
  exact h9
theorem kept_set10 (w : World) (g : Nat) (v0 v1 v2 v3 v4 v5 v6 v7 v8 v9 : Value) : w.grownBy ((((((((((w.setCell ⟨g, 0, none⟩ v0).setCell ⟨g, 1, none⟩ v1).setCell ⟨g, 2, none⟩ v2).setCell ⟨g, 3, none⟩ v3).setCell ⟨g, 4, none⟩ v4).setCell ⟨g, 5, none⟩ v5).setCell ⟨g, 6, none⟩ v6).setCell ⟨g, 7, none⟩ v7).setCell ⟨g, 8, none⟩ v8).setCell ⟨g, 9, none⟩ v9) (some g) :=
  (((((((((grown_set w g 0 v0).trans (grown_set _ g 1 v1)).trans (grown_set _ g 2 v2)).trans (grown_set _ g 3 v3)).trans (grown_set _ g 4 v4)).trans (grown_set _ g 5 v5)).trans (grown_set _ g 6 v6)).trans (grown_set _ g 7 v7)).trans (grown_set _ g 8 v8)).trans (grown_set _ g 9 v9)
theorem Kd_R_grown {α : Type} {d : Kd α} {e base : Nat} {ok : Nat → Prop} {w w1 : World} {v : Value} {xs : List α} (h : d.R e w base ok v xs) {g : Nat} (hg : w.grownBy w1 (some g)) (hok : ∀ k, ok k → k ≠ g) : d.R e w1 base ok v xs := Kd.R_grown h hg (fun k hk e => hok k hk (by injection e))
theorem below_grown {w w1 w2 : World} {n g : Nat} (h : Below n w w1) (hg : w1.grownBy w2 (some g)) (hn : n ≤ g) (hs : n ≤ w1.heap.size) : Below n w w2 :=
  ⟨hg.os.trans h.os, hg.tape.trans h.tape, hg.output.trans h.output, Nat.le_trans h.size hg.size, fun k hk => (hg.block k (by omega) (fun e => by injection e; omega)).trans (h.block k hk)⟩
theorem row_at {W : World} {base n c g : Nat} {ok : Nat → Prop} {xs : List Int} (h : Kd.R (Kd.int .i64) 3 W base ok (.slice (some ⟨g, 0, none⟩) n c) xs) (i : Nat) (hi : i < xs.length) (x : Int) :
    Kd.R (Kd.int .i64) 3 (W.setCell ⟨g, i, none⟩ (.int .i64 x)) base ok (.slice (some ⟨g, 0, none⟩) n c) (xs.set i x) ∧ W.grownBy (W.setCell ⟨g, i, none⟩ (.int .i64 x)) (some g) ∧ W.frozen? ⟨g, i, none⟩ = false ∧ W.cell? ⟨g, i, none⟩ = some (.int .i64 (xs.getD i 0)) := by
  have hn := (Kd.R_reads' h).1
  subst hn
  have ho : W.ownsRow base 3 1 (.slice (some ⟨g, 0, none⟩) xs.length c) xs.length (nums .i64 xs) := Kd.own_of_R h
  obtain ⟨h1, h2⟩ := own_store ho (i : Int) x
  obtain ⟨h3, h4⟩ := own_at ho (i : Int) (by omega) (by omega)
  rw [show (i : Int).toNat = i by omega] at h1 h2 h3 h4
  refine ⟨Kd.R_of_own (enc := Value.int .i64) (by rw [List.length_set]; exact h1) h.1, h2, h4, ?_⟩
  rw [h3, rd, show (i : Int).toNat = i by omega]
theorem row_kept {W W2 : World} {base : Nat} {ok : Nat → Prop} {v : Value} {xs : List Int} {g : Nat} (h : Kd.R (Kd.int .i64) 3 W base ok v xs) (hg : W.grownBy W2 (some g)) (hne : v.ownBlock ≠ some g) : Kd.R (Kd.int .i64) 3 W2 base ok v xs := by
  have ho : W.ownsRow base 3 1 v xs.length (encs (Value.int .i64) xs) := Kd.own_of_R h
  exact Kd.R_of_own (enc := Value.int .i64) (own_other ho hg (.inr hne)) h.1
def mixed (l : List Int) (f : Int → Int) (i : Nat) : List Int := (l.take i).map f ++ l.drop i
theorem mixed_zero (l : List Int) (f : Int → Int) : mixed l f 0 = l := by simp [mixed]
theorem mixed_all (l : List Int) (f : Int → Int) : mixed l f l.length = l.map f := by simp [mixed]
theorem mixed_len (l : List Int) (f : Int → Int) (i : Nat) : (mixed l f i).length = l.length := by simp [mixed]; omega
theorem mixed_get (l : List Int) (f : Int → Int) (i : Nat) (hi : i < l.length) : (mixed l f i).getD i 0 = l.getD i 0 := by
  simp [mixed, List.getD, List.getElem?_append, hi, Nat.min_eq_left (Nat.le_of_lt hi)]
theorem mixed_set (l : List Int) (f : Int → Int) (i : Nat) (hi : i < l.length) : (mixed l f i).set i (f (l.getD i 0)) = mixed l f (i + 1) := by
  unfold mixed
  have h1 : ((l.take i).map f).length = i := by simp; omega
  rw [List.set_append_right _ _ (by omega), h1, Nat.sub_self, List.drop_eq_getElem_cons hi, List.set_cons_zero, List.take_add_one, List.getElem?_eq_getElem hi, show l.getD i 0 = l[i] by simp [List.getD, hi]]
  simp only [Option.toList_some, List.map_append, List.map_cons, List.map_nil, List.append_assoc, List.singleton_append, List.cons_append, List.nil_append]
theorem MaxOk.below' {w w' : World} {n : Nat} (h : MaxOk w) (hb : Below n w w') (hn : 0 < n) : MaxOk w' := by
  obtain ⟨m, h⟩ := h
  exact ⟨m, (hb.cell (p := ⟨0, 0, none⟩) hn).trans h⟩
theorem cloned_mk {w0 w1 w2 w3 : World} {gb : Nat} {u3 u5 u6 v3 v5 v6 : Value} {z0 z1 z2 : Int} {l3 : List S39} {z4 : Int} {l5 l6 : List Int} {z7 z8 z9 : Int}
    (hP : w3.heap[gb]? = some (.cells #[.int .i64 z0, .int .i64 z1, .int .i64 z2, u3, .int .i64 z4, u5, u6, .int .i64 z7, .int .i64 z8, .int .i64 z9] 25 (0, 0)))
    (hZ : w3.heap[gb + 1]? = some (.cells #[.int .i64 0, .int .i64 0, .int .i64 0, .slice none 0 0, .int .i64 0, .slice none 0 0, .slice none 0 0, .int .i64 0, .int .i64 0, .int .i64 0] 25 (0, 0))) (hsz : w0.heap.size = gb + 2)
    (h3 : Kd.R k39 39 w1 w0.heap.size (fun k => w0.heap.size ≤ k) v3 l3) (h5 : Kd.R (Kd.int .i64) 3 w2 w1.heap.size (fun k => w1.heap.size ≤ k) v5 l5) (h6 : Kd.R (Kd.int .i64) 3 w3 w2.heap.size (fun k => w2.heap.size ≤ k) v6 l6)
    (b1 : Below w0.heap.size w0 w1) (b2 : Below w1.heap.size w1 w2) (b3 : Below w2.heap.size w2 w3) :
    Cloned w0 (((w3.setCell ⟨gb, 3, none⟩ v3).setCell ⟨gb, 5, none⟩ v5).setCell ⟨gb, 6, none⟩ v6) gb z0 z1 z2 l3 z4 l5 l6 z7 z8 z9 := by
  have s1 := b1.size
  have s2 := b2.size
  have s3 := b3.size
  refine ⟨v3, v5, v6, ?_, ?_, hsz, ?_, ?_, ?_, ?_, ?_⟩
  · have e1 : (w3.setCell ⟨gb, 3, none⟩ v3).heap[gb]? = some (.cells #[.int .i64 z0, .int .i64 z1, .int .i64 z2, v3, .int .i64 z4, u5, u6, .int .i64 z7, .int .i64 z8, .int .i64 z9] 25 (0, 0)) := blk_put hP 3 v3 rfl
    have e2 : ((w3.setCell ⟨gb, 3, none⟩ v3).setCell ⟨gb, 5, none⟩ v5).heap[gb]? = some (.cells #[.int .i64 z0, .int .i64 z1, .int .i64 z2, v3, .int .i64 z4, v5, u6, .int .i64 z7, .int .i64 z8, .int .i64 z9] 25 (0, 0)) := blk_put e1 5 v5 rfl
    exact blk_put e2 6 v6 rfl
  · rw [Below.heap_setCell _ _ _ _ (by simp), Below.heap_setCell _ _ _ _ (by simp), Below.heap_setCell _ _ _ _ (by simp)]
    exact hZ
  · have q := Kd.R_below (Kd.R_below h3 b2) b3
    exact Kd.R_far (Kd.R_far (Kd.R_far q (p := ⟨gb, 3, none⟩) (fun k hk => by show k ≠ gb; omega) _) (p := ⟨gb, 5, none⟩) (fun k hk => by show k ≠ gb; omega) _) (p := ⟨gb, 6, none⟩) (fun k hk => by show k ≠ gb; omega) _
  · have q := Kd.R_mono (Kd.R_lower (Kd.R_below h5 b3) (base' := w0.heap.size) s1) (ok' := fun k => w0.heap.size ≤ k) (fun k hk => by omega)
    exact Kd.R_far (Kd.R_far (Kd.R_far q (p := ⟨gb, 3, none⟩) (fun k hk => by show k ≠ gb; omega) _) (p := ⟨gb, 5, none⟩) (fun k hk => by show k ≠ gb; omega) _) (p := ⟨gb, 6, none⟩) (fun k hk => by show k ≠ gb; omega) _
  · have q := Kd.R_mono (Kd.R_lower h6 (base' := w0.heap.size) (by omega)) (ok' := fun k => w0.heap.size ≤ k) (fun k hk => by omega)
    exact Kd.R_far (Kd.R_far (Kd.R_far q (p := ⟨gb, 3, none⟩) (fun k hk => by show k ≠ gb; omega) _) (p := ⟨gb, 5, none⟩) (fun k hk => by show k ≠ gb; omega) _) (p := ⟨gb, 6, none⟩) (fun k hk => by show k ≠ gb; omega) _
  · intro k hk1 hk2
    have q1 := Kd.R_lt h5 k hk1
    have q2 := Kd.R_base h6 k hk2
    omega
  · have hb : Below gb w0 w3 := ((b1.trans (b2.mono s1)).trans (b3.mono (by omega))).mono (by omega)
    exact ((hb.setCell (p := ⟨gb, 3, none⟩) (Nat.le_refl _) _).setCell (p := ⟨gb, 5, none⟩) (Nat.le_refl _) _).setCell (p := ⟨gb, 6, none⟩) (Nat.le_refl _) _

set_option maxHeartbeats 1600000 in
set_option maxRecDepth 1000000 in
theorem spread_calls (z0 z1 z2 : Int) (A3 : Option Addr) (c3 : Nat) (l3 : List S39) (z4 : Int) (A5 : Option Addr) (c5 : Nat) (l5 : List Int) (A6 : Option Addr) (c6 : Nat) (l6 : List Int) (z7 z8 z9 : Int) (w : World)
    (hr : BlkIs w A3 c3 l3 A5 c5 l5 A6 c6 l6) (hs : ∀ x ∈ l3, x.f4.size ≤ 4294967000) (hM : MaxOk w) (hL3 : l3.length * 80 ≤ 140737488355328) (hL5 : l5.length * 8 ≤ 140737488355328) (hL6 : l6.length * 8 ≤ 140737488355328) :
    Calls Try.prog 17 #[.agg #[.int .i64 z0, .int .i64 z1, .int .i64 z2, .slice A3 l3.length c3, .int .i64 z4, .slice A5 l5.length c5, .slice A6 l6.length c6, .int .i64 z7, .int .i64 z8, .int .i64 z9]] w fun e w' => ∃ v3 v5 v6 : Value, e = .returned (.agg #[.int .i64 z0, .int .i64 z1, .int .i64 z2, v3, .int .i64 z4, v5, v6, .int .i64 (spreadF z0 z1 z2 l3 z4 l5 l6 z7 z8 z9).2.2.2, .int .i64 z8, .int .i64 z9]) ∧ Kd.R k39 39 w' w.heap.size (fun _ => True) v3 (spreadF z0 z1 z2 l3 z4 l5 l6 z7 z8 z9).1 ∧ Kd.R (Kd.int .i64) 3 w' w.heap.size (fun _ => True) v5 (spreadF z0 z1 z2 l3 z4 l5 l6 z7 z8 z9).2.1 ∧ Kd.R (Kd.int .i64) 3 w' w.heap.size (fun _ => True) v6 (spreadF z0 z1 z2 l3 z4 l5 l6 z7 z8 z9).2.2.1 ∧ Below w.heap.size w w' := by
  generalize hsp : spreadF z0 z1 z2 l3 z4 l5 l6 z7 z8 z9 = sp
  have HSP := Aside0.mk hsp
  clear hsp
  have hmm := @run_makeMap Try.prog
  have HM := Aside0.mk hM
  have HS := Aside0.mk hs
  have hA : Below w.heap.size w ((w.alloc (.cells #[.int .i64 z0, .int .i64 z1, .int .i64 z2, .slice A3 l3.length c3, .int .i64 z4, .slice A5 l5.length c5, .slice A6 l6.length c6, .int .i64 z7, .int .i64 z8, .int .i64 z9] 25)).alloc (.cells #[.int .i64 0, .int .i64 0, .int .i64 0, .slice none 0 0, .int .i64 0, .slice none 0 0, .slice none 0 0, .int .i64 0, .int .i64 0, .int .i64 0] 25)) := ((Below.refl _ w).alloc (Nat.le_refl _) _).alloc (by simp) _
  have hP : ((w.alloc (.cells #[.int .i64 z0, .int .i64 z1, .int .i64 z2, .slice A3 l3.length c3, .int .i64 z4, .slice A5 l5.length c5, .slice A6 l6.length c6, .int .i64 z7, .int .i64 z8, .int .i64 z9] 25)).alloc (.cells #[.int .i64 0, .int .i64 0, .int .i64 0, .slice none 0 0, .int .i64 0, .slice none 0 0, .slice none 0 0, .int .i64 0, .int .i64 0, .int .i64 0] 25)).heap[w.heap.size]? = some (.cells #[.int .i64 z0, .int .i64 z1, .int .i64 z2, .slice A3 l3.length c3, .int .i64 z4, .slice A5 l5.length c5, .slice A6 l6.length c6, .int .i64 z7, .int .i64 z8, .int .i64 z9] 25 (0, 0)) := blk_alloc (blk_new w _) _
  have hZ : ((w.alloc (.cells #[.int .i64 z0, .int .i64 z1, .int .i64 z2, .slice A3 l3.length c3, .int .i64 z4, .slice A5 l5.length c5, .slice A6 l6.length c6, .int .i64 z7, .int .i64 z8, .int .i64 z9] 25)).alloc (.cells #[.int .i64 0, .int .i64 0, .int .i64 0, .slice none 0 0, .int .i64 0, .slice none 0 0, .slice none 0 0, .int .i64 0, .int .i64 0, .int .i64 0] 25)).heap[w.heap.size + 1]? = some (.cells #[.int .i64 0, .int .i64 0, .int .i64 0, .slice none 0 0, .int .i64 0, .slice none 0 0, .slice none 0 0, .int .i64 0, .int .i64 0, .int .i64 0] 25 (0, 0)) := blk_new2 w _ _
  have hsz : ((w.alloc (.cells #[.int .i64 z0, .int .i64 z1, .int .i64 z2, .slice A3 l3.length c3, .int .i64 z4, .slice A5 l5.length c5, .slice A6 l6.length c6, .int .i64 z7, .int .i64 z8, .int .i64 z9] 25)).alloc (.cells #[.int .i64 0, .int .i64 0, .int .i64 0, .slice none 0 0, .int .i64 0, .slice none 0 0, .slice none 0 0, .int .i64 0, .int .i64 0, .int .i64 0] 25)).heap.size = w.heap.size + 2 := by simp
  have HR := Aside0.mk hr
  have HL3 := Aside0.mk hL3
  have HL5 := Aside0.mk hL5
  have HL6 := Aside0.mk hL6
  clear hM hs hr hL3 hL5 hL6
  go_enter Try.func17, Try.ntmps17
  go_wp2_with fail
  obtain ⟨w0, hw0⟩ : ∃ w0, ((w.alloc (.cells #[.int .i64 z0, .int .i64 z1, .int .i64 z2, .slice A3 l3.length c3, .int .i64 z4, .slice A5 l5.length c5, .slice A6 l6.length c6, .int .i64 z7, .int .i64 z8, .int .i64 z9] 25)).alloc (.cells #[.int .i64 0, .int .i64 0, .int .i64 0, .slice none 0 0, .int .i64 0, .slice none 0 0, .slice none 0 0, .int .i64 0, .int .i64 0, .int .i64 0] 25)) = w0 := ⟨_, rfl⟩
  rw [hw0] at hA hP hZ hsz ⊢
  clear hw0
  have HR0 : Aside0 (BlkIs w0 A3 c3 l3 A5 c5 l5 A6 c6 l6) := ⟨⟨Kd.C_below HR.out.r3 hA, HR.out.c3, Kd.C_below HR.out.r5 hA, HR.out.c5, Kd.C_below HR.out.r6 hA, HR.out.c6⟩⟩
  obtain ⟨gb, hgb⟩ : ∃ gb, w.heap.size = gb := ⟨_, rfl⟩
  rw [hgb] at hP hZ hsz ⊢
  have HA := Aside0.mk hA
  have HP := Aside0.mk hP
  have HZ := Aside0.mk hZ
  have HSZ := Aside0.mk hsz
  have HGB := Aside0.mk hgb
  have c0_3 := (blk_cell hP 3).trans rfl
  have c0_5 := (blk_cell hP 5).trans rfl
  have c0_6 := (blk_cell hP 6).trans rfl
  clear hA hP hZ hsz hgb HR
  go_cut [6] (fun _ wx => Cloned w0 wx gb z0 z1 z2 l3 z4 l5 l6 z7 z8 z9)
  case first =>
    go_region_law (go_simp; first | ((with_reducible refine Calls.mono (cloneI_calls _ _ l3 _ (Kd.C_drew HR0.out.r3) HL3.out) ?_); rintro e w1 ⟨v3, rfl, hv3, hb1⟩; obtain ⟨B3, d3, rfl, _, _⟩ := Kd.R_reads hv3; have HV3 := Aside0.mk hv3; have HB1 := Aside0.mk ((below_drew (Below.refl w0.heap.size w0)).trans hb1); clear hv3 hb1; have P1 := blk_below HP.out HB1.out; have Z1 := blk_below HZ.out HB1.out; have c1_3 := (blk_cell P1 3).trans rfl; have c1_5 := (blk_cell P1 5).trans rfl; have c1_6 := (blk_cell P1 6).trans rfl; have f1_3 := blk_frozen P1 3; have f1_5 := blk_frozen P1 5; have f1_6 := blk_frozen P1 6; have HP1 := Aside0.mk P1; have HZ1 := Aside0.mk Z1; clear P1 Z1) | ((with_reducible refine Calls.mono (cloneN_calls A5 c5 l5 _ (Kd.C_below HR0.out.r5 HB1.out) HL5.out) ?_); rintro e w2 ⟨v5, rfl, hv5, hb2⟩; obtain ⟨B5, d5, rfl, _, _⟩ := Kd.R_reads hv5; have HV5 := Aside0.mk hv5; have HB12 := Aside0.mk hb2; have HB2 := Aside0.mk (HB1.out.trans (hb2.mono HB1.out.size)); clear hv5 hb2; have P2 := blk_below HP.out HB2.out; have Z2 := blk_below HZ.out HB2.out; have c2_3 := (blk_cell P2 3).trans rfl; have c2_5 := (blk_cell P2 5).trans rfl; have c2_6 := (blk_cell P2 6).trans rfl; have f2_3 := blk_frozen P2 3; have f2_5 := blk_frozen P2 5; have f2_6 := blk_frozen P2 6; have HP2 := Aside0.mk P2; have HZ2 := Aside0.mk Z2; clear P2 Z2) | ((with_reducible refine Calls.mono (cloneN_calls A6 c6 l6 _ (Kd.C_below HR0.out.r6 HB2.out) HL6.out) ?_); rintro e w3 ⟨v6, rfl, hv6, hb3⟩; obtain ⟨B6, d6, rfl, _, _⟩ := Kd.R_reads hv6; have HV6 := Aside0.mk hv6; have HB23 := Aside0.mk hb3; have HB3 := Aside0.mk (HB2.out.trans (hb3.mono HB2.out.size)); clear hv6 hb3; have P3 := blk_below HP.out HB3.out; have Z3 := blk_below HZ.out HB3.out; have c3_3 := (blk_cell P3 3).trans rfl; have c3_5 := (blk_cell P3 5).trans rfl; have c3_6 := (blk_cell P3 6).trans rfl; have f3_3 := blk_frozen P3 3; have f3_5 := blk_frozen P3 5; have f3_6 := blk_frozen P3 6; have HP3 := Aside0.mk P3; have HZ3 := Aside0.mk Z3; clear P3 Z3))
    all_goals (go_wp2_with fail; go_meet; case rel => exact cloned_mk HP3.out HZ3.out HSZ.out HV3.out HV5.out HV6.out HB1.out HB12.out HB23.out)
  case rest =>
    obtain ⟨v3, v5, v6, hC⟩ := hcut
    obtain ⟨B3, d3, rfl, ld3, hr3⟩ := Kd.R_reads hC.r3
    obtain ⟨B5, d5, rfl, ld5, hr5⟩ := Kd.R_reads hC.r5
    obtain ⟨B6, d6, rfl, ld6, hr6⟩ := Kd.R_reads hC.r6
    have HC := Aside0.mk hC
    have HRC := Aside0.mk (BlkIs.mk hr3 ld3 hr5 ld5 hr6 ld6)
    have hPc := hC.box
    have k0 := (blk_cell hPc 0).trans rfl
    have k1 := (blk_cell hPc 1).trans rfl
    have k2 := (blk_cell hPc 2).trans rfl
    have k3 := (blk_cell hPc 3).trans rfl
    have k4 := (blk_cell hPc 4).trans rfl
    have k5 := (blk_cell hPc 5).trans rfl
    have k6 := (blk_cell hPc 6).trans rfl
    have k7 := (blk_cell hPc 7).trans rfl
    have k8 := (blk_cell hPc 8).trans rfl
    have k9 := (blk_cell hPc 9).trans rfl
    have HMC : Aside0 (MaxOk wc) := ⟨(HM.out.below HA.out).below' HC.out.bel (by have := HM.out.lt; have := HGB.out; omega)⟩
    clear hC hr3 hr5 hr6 ld3 ld5 ld6 hPc
    go_wp2_with fail
    refine Calls.mono (may_calls z0 z1 z2 B3 d3 l3 z4 B5 d5 l5 B6 d6 l6 z7 z8 z9 _ HRC.out HS.out HMC.out) ?_
    rintro e w2 ⟨rfl, hb2⟩
    have HB2 := Aside0.mk hb2
    have HP2 := Aside0.mk (blk_below HC.out.box hb2)
    have HZ2 := Aside0.mk (blk_below HC.out.res hb2)
    clear hb2
    cases hm : mayBlk z0 z1 z2 l3 z4 l5 l6 z7 z8 z9 with
    | false =>
      clear k0 k1 k2 k3 k4 k5 k6 k7 k8 k9
      have k0 := (blk_cell HP2.out 0).trans rfl
      have k1 := (blk_cell HP2.out 1).trans rfl
      have k2 := (blk_cell HP2.out 2).trans rfl
      have k3 := (blk_cell HP2.out 3).trans rfl
      have k4 := (blk_cell HP2.out 4).trans rfl
      have k5 := (blk_cell HP2.out 5).trans rfl
      have k6 := (blk_cell HP2.out 6).trans rfl
      have k7 := (blk_cell HP2.out 7).trans rfl
      have k8 := (blk_cell HP2.out 8).trans rfl
      have k9 := (blk_cell HP2.out 9).trans rfl
      have f0 := blk_frozen HZ2.out 0
      have f1 := blk_frozen HZ2.out 1
      have f2 := blk_frozen HZ2.out 2
      have f3 := blk_frozen HZ2.out 3
      have f4 := blk_frozen HZ2.out 4
      have f5 := blk_frozen HZ2.out 5
      have f6 := blk_frozen HZ2.out 6
      have f7 := blk_frozen HZ2.out 7
      have f8 := blk_frozen HZ2.out 8
      have f9 := blk_frozen HZ2.out 9
      have m0 := (blk_cell HZ2.out 0).trans rfl
      have m1 := (blk_cell HZ2.out 1).trans rfl
      have m2 := (blk_cell HZ2.out 2).trans rfl
      have m3 := (blk_cell HZ2.out 3).trans rfl
      have m4 := (blk_cell HZ2.out 4).trans rfl
      have m5 := (blk_cell HZ2.out 5).trans rfl
      have m6 := (blk_cell HZ2.out 6).trans rfl
      have m7 := (blk_cell HZ2.out 7).trans rfl
      have m8 := (blk_cell HZ2.out 8).trans rfl
      have m9 := (blk_cell HZ2.out 9).trans rfl
      have HM0 := Aside0.mk hm
      clear hm
      go_wp2_with fail
      refine bodyPost_ret (results_cell_row rfl _ _ (gb + 1) 25 #[.int .i64 z0, .int .i64 z1, .int .i64 z2, .slice B3 l3.length d3, .int .i64 z4, .slice B5 l5.length d5, .slice B6 l6.length d6, .int .i64 z7, .int .i64 z8, .int .i64 z9] (0, 0) _ rfl (blk_set10 HZ2.out _ _ _ _ _ _ _ _ _ _) Try.underlying25 rfl (by kernel_rfl)) rfl ?_
      have hsp : sp = (l3, l5, l6, z7) := by rw [← HSP.out]; unfold spreadF; rw [if_neg (by rw [HM0.out]; decide)]
      have hs := HC.out.size
      have hs2 := HC.out.bel.size
      have hgb := HGB.out
      rw [hsp]
      refine ⟨_, _, _, rfl, ?_, ?_, ?_, ?_⟩
      · exact Kd.R_mono (Kd.R_lower (Kd_R_grown (Kd.R_below HC.out.r3 HB2.out) (kept_set10 _ _ _ _ _ _ _ _ _ _ _ _) (fun k hk => by omega)) (by omega)) (fun _ _ => trivial)
      · exact Kd.R_mono (Kd.R_lower (Kd_R_grown (Kd.R_below HC.out.r5 HB2.out) (kept_set10 _ _ _ _ _ _ _ _ _ _ _ _) (fun k hk => by omega)) (by omega)) (fun _ _ => trivial)
      · exact Kd.R_mono (Kd.R_lower (Kd_R_grown (Kd.R_below HC.out.r6 HB2.out) (kept_set10 _ _ _ _ _ _ _ _ _ _ _ _) (fun k hk => by omega)) (by omega)) (fun _ _ => trivial)
      · exact below_grown (HA.out.trans ((HC.out.bel.mono (by omega)).trans (HB2.out.mono (by omega)))) (kept_set10 _ _ _ _ _ _ _ _ _ _ _ _) (by omega) (by have := HB2.out.size; omega)
    | true =>
      clear k0 k1 k2 k3 k4 k5 k6 k7 k8 k9
      have k3 := (blk_cell HP2.out 3).trans rfl
      have f3 := blk_frozen HP2.out 3
      have hlg := blk_lt HP2.out
      have hlz := blk_lt HZ2.out
      have HM1 := Aside0.mk (mayBlk_iff.1 hm)
      have HM0 := Aside0.mk hm
      clear hm
      go_wp2_with fail
      have hPM : ((w2.setCell ⟨gb, 3, none⟩ (.slice none 0 0)).alloc (.map #[] 0)).heap[gb]? = some (.cells #[.int .i64 z0, .int .i64 z1, .int .i64 z2, (.slice none 0 0), .int .i64 z4, .slice B5 l5.length d5, .slice B6 l6.length d6, .int .i64 z7, .int .i64 z8, .int .i64 z9] 25 (0, 0)) := blk_alloc (blk_put HP2.out 3 _ rfl) _
      have hZM : ((w2.setCell ⟨gb, 3, none⟩ (.slice none 0 0)).alloc (.map #[] 0)).heap[gb + 1]? = some (.cells #[.int .i64 0, .int .i64 0, .int .i64 0, .slice none 0 0, .int .i64 0, .slice none 0 0, .slice none 0 0, .int .i64 0, .int .i64 0, .int .i64 0] 25 (0, 0)) := blk_alloc ((Below.heap_setCell _ _ _ _ (by simp)).trans HZ2.out) _
      have hCM : CopyIs ((w2.setCell ⟨gb, 3, none⟩ (.slice none 0 0)).alloc (.map #[] 0)) w2.heap.size 0 (fun _ => none) := by
        refine ⟨.map [], ?_, fun x hx => ⟨fun _ => rfl, fun c hc => by cases hc⟩⟩
        have := World.ownsMap_made (H := Unit) (w2.setCell ⟨gb, 3, none⟩ (.slice none 0 0)) Try.prog 3 (plainElem Try.prog 3)
        simpa [World.setCell] using this
      have hs := HC.out.size
      have hs2 := HC.out.bel.size
      have hs3 := HB2.out.size
      have hszM : ((w2.setCell ⟨gb, 3, none⟩ (.slice none 0 0)).alloc (.map #[] 0)).heap.size = w2.heap.size + 1 := by simp [World.setCell]
      have hgM : w2.grownBy ((w2.setCell ⟨gb, 3, none⟩ (.slice none 0 0)).alloc (.map #[] 0)) (some gb) := (grown_set w2 gb 3 (.slice none 0 0)).andThen (row' := none) ⟨rfl, rfl, rfl, by simp, fun k hk _ => Below.heap_alloc _ _ k hk⟩ (fun j hj => by cases hj)
      have hr3M := Kd_R_grown (Kd.R_mono (ok' := fun k => gb + 2 ≤ k ∧ k < w2.heap.size) (Kd.R_bound (Kd.R_below HC.out.r3 HB2.out)) (fun k hk => ⟨by have := hk.1; omega, hk.2.2.1⟩)) hgM (fun k hk => by omega)
      have hr5M := Kd_R_grown (Kd.R_mono (ok' := fun k => gb + 2 ≤ k ∧ k < w2.heap.size) (Kd.R_bound (Kd.R_below HC.out.r5 HB2.out)) (fun k hk => ⟨by have := hk.1; omega, hk.2.2.1⟩)) hgM (fun k hk => by omega)
      have hr6M := Kd_R_grown (Kd.R_mono (ok' := fun k => gb + 2 ≤ k ∧ k < w2.heap.size) (Kd.R_bound (Kd.R_below HC.out.r6 HB2.out)) (fun k hk => ⟨by have := hk.1; omega, hk.2.2.1⟩)) hgM (fun k hk => by omega)
      have hbM : Below gb w0 ((w2.setCell ⟨gb, 3, none⟩ (.slice none 0 0)).alloc (.map #[] 0)) := below_grown (HC.out.bel.trans (HB2.out.mono (by omega))) hgM (Nat.le_refl _) (by omega)
      obtain ⟨wM, hwM⟩ : ∃ wM, (w2.setCell ⟨gb, 3, none⟩ (.slice none 0 0)).alloc (.map #[] 0) = wM := ⟨_, rfl⟩
      obtain ⟨mb, hmb⟩ : ∃ mb, w2.heap.size = mb := ⟨_, rfl⟩
      rw [hwM] at hPM hZM hCM hszM hr3M hr5M hr6M hbM ⊢
      rw [hmb] at hCM hszM hlg hlz hr3M hr5M hr6M ⊢
      have HPM := Aside0.mk hPM
      have HZM := Aside0.mk hZM
      have HCM := Aside0.mk hCM
      have HSZM := Aside0.mk hszM
      have HR3M := Aside0.mk hr3M
      have HR5M := Aside0.mk hr5M
      have HR6M := Aside0.mk hr6M
      have HBM := Aside0.mk hbM
      have HGM : Aside0 (gb + 2 ≤ mb ∧ w0.heap.size = gb + 2) := ⟨⟨by omega, hs⟩⟩
      clear hPM hZM hCM hszM hr3M hr5M hr6M hbM hwM hmb hs hs2 hs3 hgM k3 f3 hmm
      go_loopw [35] (fun i wr => ∃ (k : Nat) (vo : Value), k ≤ l3.length ∧ i = .int .i64 k ∧ Aside0 (wr.heap[gb]? = some (.cells #[.int .i64 z0, .int .i64 z1, .int .i64 z2, vo, .int .i64 z4, .slice B5 l5.length d5, .slice B6 l6.length d6, .int .i64 z7, .int .i64 z8, .int .i64 z9] 25 (0, 0))) ∧ Aside0 (wr.heap[gb + 1]? = some (.cells #[.int .i64 0, .int .i64 0, .int .i64 0, .slice none 0 0, .int .i64 0, .slice none 0 0, .slice none 0 0, .int .i64 0, .int .i64 0, .int .i64 0] 25 (0, 0))) ∧ Aside0 (CopyIs wr mb k (runL (l3.take k)).1) ∧ Aside0 (Kd.R k39 39 wr gb (fun j => wM.heap.size ≤ j) vo (runL (l3.take k)).2) ∧ Aside0 (Kept wM wr (fun j => j = gb ∨ j = mb)) ∧ Aside0 (Below gb w0 wr)) (fun i _ => l3.length - (intOf i).toNat)
      case atStart => exact ⟨0, _, by omega, rfl, HPM, HZM, HCM, ⟨Kd.R_nil _ _ _ _ _⟩, ⟨Kept.refl _ _⟩, HBM⟩
      case round =>
        obtain ⟨k, vo, hk, rfl, hP, hZ, hC, hR, hK, hB⟩ := hrel
        generalize hrk : runL (l3.take k) = rk at hC hR
        obtain ⟨fk, ok⟩ := rk
        dsimp only at hC hR
        have HRK := Aside0.mk hrk
        clear hrk
        obtain ⟨Ao, co, rfl, _, _⟩ := Kd.R_reads hR.out
        have k0 := (blk_cell hP.out 0).trans rfl
        have k3 := (blk_cell hP.out 3).trans rfl
        by_cases hlt : k < l3.length
        · have hr3 := Kd.R_reads' (Kd.R_kept HR3M.out hK.out (fun j hj => by have := HGM.out; have := HSZM.out; omega))
          obtain ⟨ad, rfl, e0, e1, e2, e3, e4, e5, e6, e7⟩ := at_T39 hr3.2.2 (k : Int) (by omega) (by omega)
          rw [show ((k : Int).toNat) = k by omega] at e0 e1 e2 e3 e4 e5 e6 e7
          generalize hx : rd_T39 l3 k = x at e0 e1 e2 e3 e4 e5 e6 e7
          have hxk : l3[k]? = some x := by
            rw [← hx, rd_T39, List.getD_eq_getElem?_getD, show ((k : Int).toNat) = k by omega, List.getElem?_eq_getElem hlt]
            rfl
          have hreg := gsOk_regs HM1.out.gs x (List.mem_of_getElem? hxk)
          have hz2 := HM1.out.few.2.2
          have hins := HM1.out.insts
          have hmx : maxLen = 9223372036854775807 := rfl
          have hnext := runL_take hlt hxk
          have hlen := runL_len l3 k
          have hci : CopyIs (wr.alloc (.cells #[.int .u8 x.f0, .int .i64 x.f1, .int .i64 x.f2, .int .i64 x.f3, .string x.f4, .int .u8 x.f5.f0, .int .i64 x.f5.f1, .string x.f5.f2] 39)) mb k fk := hC.out.alloc _
          have hcall := cinst_calls mb k fk x (wr.alloc (.cells #[.int .u8 x.f0, .int .i64 x.f1, .int .i64 x.f2, .int .i64 x.f3, .string x.f4, .int .u8 x.f5.f0, .int .i64 x.f5.f1, .string x.f5.f2] 39)) (by omega) hci (fun p q => by have := hreg.dst p q; exact wfI_of (by omega) (by omega)) (fun p => by have := hreg.a p; exact wfI_of (by omega) (by omega)) (fun p => by have := hreg.b p; exact wfI_of (by omega) (by omega))
          rw [HRK.out] at hnext hlen
          unfold runS at hnext
          rcases hst : stepI fk x with ⟨f1, y, st⟩
          rw [hst] at hnext hcall
          dsimp only at hnext hcall hlen
          have HCALL := Aside0.mk hcall
          have HNEXT := Aside0.mk hnext
          have HLEN := Aside0.mk hlen
          have HMB := Aside0.mk (show mb < wr.heap.size from hC.out.lt)
          have HGB2 := Aside0.mk (show gb + 1 < wr.heap.size from blk_lt hZ.out)
          have HPX := Aside0.mk (blk_new wr (.cells #[.int .u8 x.f0, .int .i64 x.f1, .int .i64 x.f2, .int .i64 x.f3, .string x.f4, .int .u8 x.f5.f0, .int .i64 x.f5.f1, .string x.f5.f2] 39))
          have HINS := Aside0.mk hins
          clear hx hxk hreg hz2 hmx hnext hlen hci hcall hst hr3
          go_wp2_with fail
          refine Calls.mono HCALL.out ?_
          rintro e w3 ⟨rfl, hC3, hg3⟩
          have hmb := HMB.out
          have hgb2 := HGB2.out
          have hsM := HSZM.out
          have hgm := HGM.out
          have hP3 := (hg3.block gb (by simp; omega) (fun e => by injection e with e; omega)).trans (blk_alloc hP.out _)
          have hZ3 := (hg3.block (gb + 1) (by simp; omega) (fun e => by injection e with e; omega)).trans (blk_alloc hZ.out _)
          have hR3 := Kd_R_grown (Kd.R_alloc hR.out (.cells #[.int .u8 x.f0, .int .i64 x.f1, .int .i64 x.f2, .int .i64 x.f3, .string x.f4, .int .u8 x.f5.f0, .int .i64 x.f5.f1, .string x.f5.f2] 39)) hg3 (fun j hj => by omega)
          have hK3 := Kept.of_grown hg3 (hK.out.alloc (.cells #[.int .u8 x.f0, .int .i64 x.f1, .int .i64 x.f2, .int .i64 x.f3, .string x.f4, .int .u8 x.f5.f0, .int .i64 x.f5.f1, .string x.f5.f2] 39)) (fun j hj => by cases hj; exact .inl (.inr rfl))
          have hB3 := below_grown (hB.out.alloc (by omega) (.cells #[.int .u8 x.f0, .int .i64 x.f1, .int .i64 x.f2, .int .i64 x.f3, .string x.f4, .int .u8 x.f5.f0, .int .i64 x.f5.f1, .string x.f5.f2] 39)) hg3 (by omega) (by simp; omega)
          have hl3 : gb < w3.heap.size := blk_lt hP3
          have q3 := (blk_cell hP3 3).trans rfl
          have HP3 := Aside0.mk hP3
          have HZ3 := Aside0.mk hZ3
          have HR3 := Aside0.mk hR3
          have HK3 := Aside0.mk hK3
          have HB3 := Aside0.mk hB3
          have HC3 := Aside0.mk hC3
          have HVO := Aside0.mk hR.out.1
          have HSM3 := Aside0.mk hK3.1
          clear hmb hsM hgm hP3 hZ3 hR3 hK3 hB3 hC3 hg3 k0 k3 e0 e1 e2 e3 e4 e5 e6 e7 hgb2
          cases st with
          | false =>
            rw [if_neg (by decide)] at HNEXT
            go_wp2_with fail
            go_roundw
            case rel => exact ⟨k + 1, _, by omega, by go_num, ⟨blk_alloc HP3.out _⟩, ⟨blk_alloc HZ3.out _⟩, ⟨by rw [HNEXT.out]; exact HC3.out.alloc _⟩, ⟨by rw [HNEXT.out]; exact Kd.R_alloc HR3.out _⟩, ⟨HK3.out.alloc _⟩, ⟨HB3.out.alloc (by omega) _⟩⟩
            case measure => simp [intOf]; omega
          | true =>
            rw [if_pos rfl] at HNEXT
            go_upto_region 12 with (fail)
            have hP5 := blk_alloc HP3.out (.cells #[.int .u8 y.f0, .int .i64 y.f1, .int .i64 y.f2, .int .i64 y.f3, .string y.f4, .int .u8 y.f5.f0, .int .i64 y.f5.f1, .string y.f5.f2] 39)
            have hZ5 := blk_alloc HZ3.out (.cells #[.int .u8 y.f0, .int .i64 y.f1, .int .i64 y.f2, .int .i64 y.f3, .string y.f4, .int .u8 y.f5.f0, .int .i64 y.f5.f1, .string y.f5.f2] 39)
            have hT5 := blk_new w3 (.cells #[.int .u8 y.f0, .int .i64 y.f1, .int .i64 y.f2, .int .i64 y.f3, .string y.f4, .int .u8 y.f5.f0, .int .i64 y.f5.f1, .string y.f5.f2] 39)
            have hR5 := Kd.R_alloc HR3.out (.cells #[.int .u8 y.f0, .int .i64 y.f1, .int .i64 y.f2, .int .i64 y.f3, .string y.f4, .int .u8 y.f5.f0, .int .i64 y.f5.f1, .string y.f5.f2] 39)
            have hK5 := HK3.out.alloc (.cells #[.int .u8 y.f0, .int .i64 y.f1, .int .i64 y.f2, .int .i64 y.f3, .string y.f4, .int .u8 y.f5.f0, .int .i64 y.f5.f1, .string y.f5.f2] 39)
            have hB5 := HB3.out.alloc (by omega) (.cells #[.int .u8 y.f0, .int .i64 y.f1, .int .i64 y.f2, .int .i64 y.f3, .string y.f4, .int .u8 y.f5.f0, .int .i64 y.f5.f1, .string y.f5.f2] 39)
            have hC5 := HC3.out.alloc (.cells #[.int .u8 y.f0, .int .i64 y.f1, .int .i64 y.f2, .int .i64 y.f3, .string y.f4, .int .u8 y.f5.f0, .int .i64 y.f5.f1, .string y.f5.f2] 39)
            obtain ⟨w5, hw5⟩ : ∃ w5, w3.alloc (.cells #[.int .u8 y.f0, .int .i64 y.f1, .int .i64 y.f2, .int .i64 y.f3, .string y.f4, .int .u8 y.f5.f0, .int .i64 y.f5.f1, .string y.f5.f2] 39) = w5 := ⟨_, rfl⟩
            rw [hw5] at hP5 hZ5 hT5 hR5 hK5 hB5 hC5 ⊢
            obtain ⟨tb, htb⟩ : ∃ tb, w3.heap.size = tb := ⟨_, rfl⟩
            rw [htb] at hT5 hl3 ⊢
            clear hw5 htb q3
            have q3 := (blk_cell hP5 3).trans rfl
            have t0 := (blk_cell hT5 0).trans rfl
            have t1 := (blk_cell hT5 1).trans rfl
            have t2 := (blk_cell hT5 2).trans rfl
            have t3 := (blk_cell hT5 3).trans rfl
            have t4 := (blk_cell hT5 4).trans rfl
            have t5 := (blk_cell hT5 5).trans rfl
            have t6 := (blk_cell hT5 6).trans rfl
            have t7 := (blk_cell hT5 7).trans rfl
            have hl5 : gb < w5.heap.size := blk_lt hP5
            have hl6 : tb < w5.heap.size := blk_lt hT5
            have HP5 := Aside0.mk hP5
            have HZ5 := Aside0.mk hZ5
            have HR5 := Aside0.mk hR5
            have HK5 := Aside0.mk hK5
            have HB5 := Aside0.mk hB5
            have HC5 := Aside0.mk hC5
            clear hP5 hZ5 hT5 hR5 hK5 hB5 hC5
            go_wp2_with (at_builtin; refine Kd.R_append (w0 := w0) k39 gb rfl (.tmp 47) (.tmp 49) 22 39 _ 80 rfl Try.underlying22 info39 rfl (by decide) (by decide) (.slice Ao ok.length co) ok y [.int .u8 y.f0, .int .i64 y.f1, .int .i64 y.f2, .int .i64 y.f3, .string y.f4, .int .u8 y.f5.f0, .int .i64 y.f5.f1, .string y.f5.f2] (fun j => wM.heap.size ≤ j) (fun _ => False) rfl rfl ?aP (fun j h => h.elim) ?aF ?aO ?aB ?aS ?aL ?_; (case aP => exact k39_mkM _ _ _ y); (case aF => intro j h; have := HK5.out.1; omega); (case aO => exact HR5.out); (case aB => exact HB5.out); (case aS => omega); (case aL => have h1_ := HLEN.out; have h2_ := HINS.out; omega); intro v1 w4 h1 hb4 hg4 hat; obtain ⟨A1, c1, rfl, _, _⟩ := Kd.R_reads h1; have hP4 := (hg4.block gb (by omega) (fun e => by have h1_ := HVO.out gb e.symm; have h2_ := HSZM.out; have h3_ := HGM.out; omega)).trans HP5.out; have f4 := blk_frozen hP4 3; have q4 := (blk_cell hP4 3).trans rfl; have HP4 := Aside0.mk hP4; have H1 := Aside0.mk h1; have HB4 := Aside0.mk hb4; have HG4 := Aside0.mk hg4; clear hP4 h1 hb4 hg4 hat)
            go_roundw
            case rel =>
              have hsM := HSZM.out
              have hgm := HGM.out
              refine ⟨k + 1, _, by omega, by go_num, ⟨blk_put HP4.out 3 _ rfl⟩, ⟨?_⟩, ⟨?_⟩, ⟨?_⟩, ⟨?_⟩, ⟨HB4.out.setCell (p := ⟨gb, 3, none⟩) (Nat.le_refl _) _⟩⟩
              · exact (Below.heap_setCell _ _ _ _ (by simp)).trans ((HG4.out.block (gb + 1) (by have := blk_lt HZ5.out; omega) (fun e => by have := HVO.out _ e.symm; omega)).trans HZ5.out)
              · rw [HNEXT.out]
                exact CopyIs.kept (CopyIs.kept HC5.out HG4.out (fun e => by have := HVO.out _ e.symm; omega)) (grown_set _ gb 3 _) (fun e => by injection e with e; omega)
              · rw [HNEXT.out]
                have H1' := H1.out
                rw [show (ok ++ [y]).length = ok.length + 1 by simp] at H1'
                exact Kd.R_far H1' (p := ⟨gb, 3, none⟩) (fun j hj => by show j ≠ gb; omega) _
              · exact (Kept.of_grown HG4.out HK5.out (fun j hj => .inr (HVO.out j hj))).setCell (p := ⟨gb, 3, none⟩) (.inl (.inl rfl)) _
            case measure => simp [intOf]; omega
        · obtain rfl : k = l3.length := by omega
          have HRK2 : Aside0 (runL l3 = (fk, ok)) := ⟨by have := HRK.out; rwa [List.take_of_length_le (Nat.le_refl _)] at this⟩
          have k5 := (blk_cell hP.out 5).trans rfl
          have k6 := (blk_cell hP.out 6).trans rfl
          have hlw : gb < wr.heap.size := blk_lt hP.out
          clear k0 k3
          go_upto_region 15 with (fail)
          have hsb : wr.heap.size = wr.heap.size := rfl
          have hPS := blk_alloc hP.out (.cells #[.slice B5 l5.length d5, .slice B6 l6.length d6] 23)
          have hZS := blk_alloc hZ.out (.cells #[.slice B5 l5.length d5, .slice B6 l6.length d6] 23)
          have hSS := blk_new wr (.cells #[.slice B5 l5.length d5, .slice B6 l6.length d6] 23)
          have hCS := hC.out.alloc (.cells #[.slice B5 l5.length d5, .slice B6 l6.length d6] 23)
          have hRS := Kd.R_alloc (Kd.R_mono (ok' := fun j => wM.heap.size ≤ j ∧ j < wr.heap.size) (Kd.R_bound hR.out) (fun j hj => ⟨hj.1, hj.2.2.1⟩)) (.cells #[.slice B5 l5.length d5, .slice B6 l6.length d6] 23)
          have hR5S := Kd.R_alloc (Kd.R_kept HR5M.out hK.out (fun j hj => by have := HGM.out; omega)) (.cells #[.slice B5 l5.length d5, .slice B6 l6.length d6] 23)
          have hR6S := Kd.R_alloc (Kd.R_kept HR6M.out hK.out (fun j hj => by have := HGM.out; omega)) (.cells #[.slice B5 l5.length d5, .slice B6 l6.length d6] 23)
          have hBS := hB.out.alloc (by omega) (.cells #[.slice B5 l5.length d5, .slice B6 l6.length d6] 23)
          have hSB : wM.heap.size ≤ wr.heap.size := hK.out.1
          obtain ⟨wS, hwS⟩ : ∃ wS, wr.alloc (.cells #[.slice B5 l5.length d5, .slice B6 l6.length d6] 23) = wS := ⟨_, rfl⟩
          rw [hwS] at hPS hZS hSS hCS hRS hR5S hR6S hBS ⊢
          obtain ⟨sb, hsb⟩ : ∃ sb, wr.heap.size = sb := ⟨_, rfl⟩
          rw [hsb] at hSS hRS hSB hlw ⊢
          have HSB : Aside0 (mb + 1 ≤ sb) := ⟨by have := HSZM.out; omega⟩
          have HPS := Aside0.mk hPS
          have HZS := Aside0.mk hZS
          have HSS := Aside0.mk hSS
          have HCS := Aside0.mk hCS
          have HRS := Aside0.mk hRS
          have HR5S := Aside0.mk hR5S
          have HR6S := Aside0.mk hR6S
          have HBS := Aside0.mk hBS
          have hm5 : l5.length ≤ 4096 := by have h1 := HM1.out.save; have h2 := HM1.out.few; omega
          have hm6 : l6.length ≤ 256 := HM1.out.stack
          clear hPS hZS hSS hCS hRS hR5S hR6S hBS hwS hsb hSB k5 k6 hP hZ hC hR hK hB hlw hlg hlz hlt
          go_loopw [59] (fun q wr => ∃ j : Nat, j ≤ 2 ∧ q = .int .i64 j ∧ Aside0 (wr.heap[gb]? = some (.cells #[.int .i64 z0, .int .i64 z1, .int .i64 z2, .slice Ao ok.length co, .int .i64 z4, .slice B5 l5.length d5, .slice B6 l6.length d6, .int .i64 z7, .int .i64 z8, .int .i64 z9] 25 (0, 0))) ∧ Aside0 (wr.heap[gb + 1]? = some (.cells #[.int .i64 0, .int .i64 0, .int .i64 0, .slice none 0 0, .int .i64 0, .slice none 0 0, .slice none 0 0, .int .i64 0, .int .i64 0, .int .i64 0] 25 (0, 0))) ∧ Aside0 (wr.heap[sb]? = some (.cells #[.slice B5 l5.length d5, .slice B6 l6.length d6] 23 (0, 0))) ∧ Aside0 (CopyIs wr mb l3.length fk) ∧ Aside0 (Kd.R k39 39 wr gb (fun j => wM.heap.size ≤ j ∧ j < sb) (.slice Ao ok.length co) ok) ∧ Aside0 (Kd.R (Kd.int .i64) 3 wr w0.heap.size (fun j => gb + 2 ≤ j ∧ j < mb) (.slice B5 l5.length d5) (if 0 < j then l5.map (ofF fk) else l5)) ∧ Aside0 (Kd.R (Kd.int .i64) 3 wr w0.heap.size (fun j => gb + 2 ≤ j ∧ j < mb) (.slice B6 l6.length d6) (if 1 < j then l6.map (ofF fk) else l6)) ∧ Aside0 (Below gb w0 wr)) (fun q _ => 2 - (intOf q).toNat)
          case atStart => exact ⟨0, by omega, rfl, HPS, HZS, HSS, HCS, HRS, HR5S, HR6S, HBS⟩
          case round =>
            obtain ⟨j, hj, rfl, hP, hZ, hS, hC, hR, hR5, hR6, hB⟩ := hrel
            have hlg : gb < wr.heap.size := blk_lt hP.out
            have hls : sb < wr.heap.size := blk_lt hS.out
            have s0 := (blk_cell hS.out 0).trans rfl
            have s1 := (blk_cell hS.out 1).trans rfl
            by_cases j0 : j = 0
            · subst j0
              rw [if_neg (by omega)] at hR5 hR6
              go_wp2_with fail
              go_loopw [65] (fun q wi => ∃ i : Nat, i ≤ l5.length ∧ q = .int .i64 i ∧ Aside0 (wi.heap[gb]? = some (.cells #[.int .i64 z0, .int .i64 z1, .int .i64 z2, .slice Ao ok.length co, .int .i64 z4, .slice B5 l5.length d5, .slice B6 l6.length d6, .int .i64 z7, .int .i64 z8, .int .i64 z9] 25 (0, 0))) ∧ Aside0 (wi.heap[gb + 1]? = some (.cells #[.int .i64 0, .int .i64 0, .int .i64 0, .slice none 0 0, .int .i64 0, .slice none 0 0, .slice none 0 0, .int .i64 0, .int .i64 0, .int .i64 0] 25 (0, 0))) ∧ Aside0 (wi.heap[sb]? = some (.cells #[.slice B5 l5.length d5, .slice B6 l6.length d6] 23 (0, 0))) ∧ Aside0 (CopyIs wi mb l3.length fk) ∧ Aside0 (Kd.R k39 39 wi gb (fun j => wM.heap.size ≤ j ∧ j < sb) (.slice Ao ok.length co) ok) ∧ Aside0 (Kd.R (Kd.int .i64) 3 wi w0.heap.size (fun j => gb + 2 ≤ j ∧ j < mb) (.slice B5 l5.length d5) (mixed l5 (ofF fk) i)) ∧ Aside0 (Kd.R (Kd.int .i64) 3 wi w0.heap.size (fun j => gb + 2 ≤ j ∧ j < mb) (.slice B6 l6.length d6) l6) ∧ Aside0 (Below gb w0 wi)) (fun q _ => l5.length - (intOf q).toNat)
              case atStart => exact ⟨0, by omega, rfl, hP, hZ, hS, hC, hR, ⟨by rw [mixed_zero]; exact hR5.out⟩, hR6, hB⟩
              case round =>
                clear hP hZ hS hC hR hR5 hR6 hB
                obtain ⟨i, hi, rfl, hP, hZ, hS, hC, hR, hR5, hR6, hB⟩ := hrel
                by_cases hlt : i < l5.length
                · have hml := mixed_len l5 (ofF fk) i
                  have hmg := mixed_get l5 (ofF fk) i hlt
                  have hms := mixed_set l5 (ofF fk) i hlt
                  obtain ⟨g, cap, hgc, hg1, hg2, _⟩ := Kd.R_form hR5.out (by omega)
                  rw [hml] at hgc
                  injection hgc with hgA hgB hgC
                  subst hgA
                  have hok := hR5.out.1 g rfl
                  have hwl : wfI (l5.getD i 0) := by
                    have hm := any_bad HM1.out.r5 (l5.getD i 0) (by rw [List.getD_eq_getElem?_getD, List.getElem?_eq_getElem hlt]; exact List.getElem_mem hlt)
                    have := HM1.out.few.2.2
                    exact wfI_of (by omega) (by omega)
                  obtain ⟨r1, r2, r3, r4⟩ := row_at hR5.out i (by omega) (ofF fk (l5.getD i 0))
                  rw [hmg] at r4
                  rw [hms] at r1
                  generalize hz : l5.getD i 0 = z at r1 r2 r4 hwl
                  have HZZ := Aside0.mk hz
                  have HR1 := Aside0.mk r1
                  have HR2 := Aside0.mk r2
                  have HWL := Aside0.mk hwl
                  have HOK := Aside0.mk hok
                  clear hml hmg hms hg1 hg2 hgB hgC hok hwl r1 r2 hz
                  generalize hfz : ofF fk z = fz at HR1 HR2
                  have HFZ := Aside0.mk hfz
                  clear hfz
                  go_wp2_with fail
                  refine Calls.mono (of_calls mb l3.length fk z _ HWL.out hC.out) ?_
                  rintro e w' ⟨rfl, rfl⟩
                  rw [HFZ.out]
                  go_wp2_with fail
                  go_roundw
                  case rel =>
                    have hgm := HGM.out
                    have hok := HOK.out
                    have hsb := HSB.out
                    have hsz := HSZM.out
                    exact ⟨i + 1, by omega, by go_num, ⟨(HR2.out.block gb (blk_lt hP.out) (fun e => by injection e with e; omega)).trans hP.out⟩, ⟨(HR2.out.block (gb + 1) (blk_lt hZ.out) (fun e => by injection e with e; omega)).trans hZ.out⟩, ⟨(HR2.out.block sb (blk_lt hS.out) (fun e => by injection e with e; omega)).trans hS.out⟩, ⟨hC.out.kept HR2.out (fun e => by injection e with e; omega)⟩, ⟨Kd_R_grown hR.out HR2.out (fun j hj => by omega)⟩, HR1, ⟨row_kept hR6.out HR2.out (fun e => HC.out.apart g rfl e)⟩, ⟨below_grown hB.out HR2.out (by omega) (by have := blk_lt hP.out; omega)⟩⟩
                  case measure => simp [intOf]; omega
                · obtain rfl : i = l5.length := by omega
                  go_wp2_with fail
                  go_roundw
                  case rel => exact ⟨1, by omega, by go_num, hP, hZ, hS, hC, hR, ⟨by have h_ := hR5.out; rw [mixed_all] at h_; exact h_⟩, hR6, hB⟩
                  case measure => simp [intOf]
            by_cases j1 : j = 1
            · subst j1
              rw [if_pos (by omega)] at hR5
              rw [if_neg (by omega)] at hR6
              go_wp2_with fail
              go_loopw [65] (fun q wi => ∃ i : Nat, i ≤ l6.length ∧ q = .int .i64 i ∧ Aside0 (wi.heap[gb]? = some (.cells #[.int .i64 z0, .int .i64 z1, .int .i64 z2, .slice Ao ok.length co, .int .i64 z4, .slice B5 l5.length d5, .slice B6 l6.length d6, .int .i64 z7, .int .i64 z8, .int .i64 z9] 25 (0, 0))) ∧ Aside0 (wi.heap[gb + 1]? = some (.cells #[.int .i64 0, .int .i64 0, .int .i64 0, .slice none 0 0, .int .i64 0, .slice none 0 0, .slice none 0 0, .int .i64 0, .int .i64 0, .int .i64 0] 25 (0, 0))) ∧ Aside0 (wi.heap[sb]? = some (.cells #[.slice B5 l5.length d5, .slice B6 l6.length d6] 23 (0, 0))) ∧ Aside0 (CopyIs wi mb l3.length fk) ∧ Aside0 (Kd.R k39 39 wi gb (fun j => wM.heap.size ≤ j ∧ j < sb) (.slice Ao ok.length co) ok) ∧ Aside0 (Kd.R (Kd.int .i64) 3 wi w0.heap.size (fun j => gb + 2 ≤ j ∧ j < mb) (.slice B5 l5.length d5) (l5.map (ofF fk))) ∧ Aside0 (Kd.R (Kd.int .i64) 3 wi w0.heap.size (fun j => gb + 2 ≤ j ∧ j < mb) (.slice B6 l6.length d6) (mixed l6 (ofF fk) i)) ∧ Aside0 (Below gb w0 wi)) (fun q _ => l6.length - (intOf q).toNat)
              case atStart => exact ⟨0, by omega, rfl, hP, hZ, hS, hC, hR, hR5, ⟨by rw [mixed_zero]; exact hR6.out⟩, hB⟩
              case round =>
                clear hP hZ hS hC hR hR5 hR6 hB
                obtain ⟨i, hi, rfl, hP, hZ, hS, hC, hR, hR5, hR6, hB⟩ := hrel
                by_cases hlt : i < l6.length
                · have hml := mixed_len l6 (ofF fk) i
                  have hmg := mixed_get l6 (ofF fk) i hlt
                  have hms := mixed_set l6 (ofF fk) i hlt
                  obtain ⟨g, cap, hgc, hg1, hg2, _⟩ := Kd.R_form hR6.out (by omega)
                  rw [hml] at hgc
                  injection hgc with hgA hgB hgC
                  subst hgA
                  have hok := hR6.out.1 g rfl
                  have hwl : wfI (l6.getD i 0) := by
                    have hm := any_bad HM1.out.r6 (l6.getD i 0) (by rw [List.getD_eq_getElem?_getD, List.getElem?_eq_getElem hlt]; exact List.getElem_mem hlt)
                    have := HM1.out.few.2.2
                    exact wfI_of (by omega) (by omega)
                  obtain ⟨r1, r2, r3, r4⟩ := row_at hR6.out i (by omega) (ofF fk (l6.getD i 0))
                  rw [hmg] at r4
                  rw [hms] at r1
                  generalize hz : l6.getD i 0 = z at r1 r2 r4 hwl
                  have HZZ := Aside0.mk hz
                  have HR1 := Aside0.mk r1
                  have HR2 := Aside0.mk r2
                  have HWL := Aside0.mk hwl
                  have HOK := Aside0.mk hok
                  clear hml hmg hms hg1 hg2 hgB hgC hok hwl r1 r2 hz
                  generalize hfz : ofF fk z = fz at HR1 HR2
                  have HFZ := Aside0.mk hfz
                  clear hfz
                  go_wp2_with fail
                  refine Calls.mono (of_calls mb l3.length fk z _ HWL.out hC.out) ?_
                  rintro e w' ⟨rfl, rfl⟩
                  rw [HFZ.out]
                  go_wp2_with fail
                  go_roundw
                  case rel =>
                    have hgm := HGM.out
                    have hok := HOK.out
                    have hsb := HSB.out
                    have hsz := HSZM.out
                    exact ⟨i + 1, by omega, by go_num, ⟨(HR2.out.block gb (blk_lt hP.out) (fun e => by injection e with e; omega)).trans hP.out⟩, ⟨(HR2.out.block (gb + 1) (blk_lt hZ.out) (fun e => by injection e with e; omega)).trans hZ.out⟩, ⟨(HR2.out.block sb (blk_lt hS.out) (fun e => by injection e with e; omega)).trans hS.out⟩, ⟨hC.out.kept HR2.out (fun e => by injection e with e; omega)⟩, ⟨Kd_R_grown hR.out HR2.out (fun j hj => by omega)⟩, ⟨row_kept hR5.out HR2.out (fun e => HC.out.apart g e rfl)⟩, HR1, ⟨below_grown hB.out HR2.out (by omega) (by have := blk_lt hP.out; omega)⟩⟩
                  case measure => simp [intOf]; omega
                · obtain rfl : i = l6.length := by omega
                  go_wp2_with fail
                  go_roundw
                  case rel => exact ⟨2, by omega, by go_num, hP, hZ, hS, hC, hR, hR5, ⟨by have h_ := hR6.out; rw [mixed_all] at h_; exact h_⟩, hB⟩
                  case measure => simp [intOf]
            · obtain rfl : j = 2 := by omega
              rw [if_pos (by omega)] at hR5
              rw [if_pos (by omega)] at hR6
              have k0 := (blk_cell hP.out 0).trans rfl
              have k1 := (blk_cell hP.out 1).trans rfl
              have k2 := (blk_cell hP.out 2).trans rfl
              have k3 := (blk_cell hP.out 3).trans rfl
              have k4 := (blk_cell hP.out 4).trans rfl
              have k5 := (blk_cell hP.out 5).trans rfl
              have k6 := (blk_cell hP.out 6).trans rfl
              have k7 := (blk_cell hP.out 7).trans rfl
              have k8 := (blk_cell hP.out 8).trans rfl
              have k9 := (blk_cell hP.out 9).trans rfl
              have f7 := blk_frozen hP.out 7
              have hlz : gb + 1 < wr.heap.size := blk_lt hZ.out
              have m0 := (blk_cell hZ.out 0).trans rfl
              have f10 := blk_frozen hZ.out 0
              have m1 := (blk_cell hZ.out 1).trans rfl
              have f11 := blk_frozen hZ.out 1
              have m2 := (blk_cell hZ.out 2).trans rfl
              have f12 := blk_frozen hZ.out 2
              have m3 := (blk_cell hZ.out 3).trans rfl
              have f13 := blk_frozen hZ.out 3
              have m4 := (blk_cell hZ.out 4).trans rfl
              have f14 := blk_frozen hZ.out 4
              have m5 := (blk_cell hZ.out 5).trans rfl
              have f15 := blk_frozen hZ.out 5
              have m6 := (blk_cell hZ.out 6).trans rfl
              have f16 := blk_frozen hZ.out 6
              have m7 := (blk_cell hZ.out 7).trans rfl
              have f17 := blk_frozen hZ.out 7
              have m8 := (blk_cell hZ.out 8).trans rfl
              have f18 := blk_frozen hZ.out 8
              have m9 := (blk_cell hZ.out 9).trans rfl
              have f19 := blk_frozen hZ.out 9

              clear s0 s1 j0 j1
              by_cases hz7 : 0 ≤ z7
              · have hw7 : wfI z7 := by
                  have h1 := HM1.out.cond
                  have h2 := HM1.out.few.2.2
                  exact wfI_of (by omega) (by omega)
                have HW7 := Aside0.mk hw7
                clear hw7
                generalize hf7 : ofF fk z7 = f7v
                have HF7 := Aside0.mk hf7
                clear hf7
                go_wp2_with fail
                refine Calls.mono (of_calls mb l3.length fk z7 _ HW7.out hC.out) ?_
                rintro e w' ⟨rfl, rfl⟩
                rw [HF7.out]
                go_wp2_with fail
                refine bodyPost_ret (results_cell_row rfl _ _ (gb + 1) 25 #[.int .i64 z0, .int .i64 z1, .int .i64 z2, .slice Ao ok.length co, .int .i64 z4, .slice B5 l5.length d5, .slice B6 l6.length d6, .int .i64 f7v, .int .i64 z8, .int .i64 z9] (0, 0) _ rfl (blk_set10 ((Below.heap_setCell _ _ _ _ (by simp)).trans hZ.out) _ _ _ _ _ _ _ _ _ _) Try.underlying25 rfl (by kernel_rfl)) rfl ?_
                have hsp : sp = (ok, l5.map (ofF fk), l6.map (ofF fk), f7v) := by
                  rw [← HSP.out]; unfold spreadF; rw [if_pos HM0.out, HRK2.out]; dsimp only; rw [if_pos hz7, HF7.out]
                have hs := HC.out.size
                have hgb := HGB.out
                have hsz := HSZM.out
                have hgm := HGM.out
                have hsb := HSB.out
                rw [hsp]
                refine ⟨_, _, _, rfl, ?_, ?_, ?_, ?_⟩
                · exact Kd.R_mono (Kd.R_lower (Kd_R_grown (Kd_R_grown (hR.out) (grown_set _ gb 7 _) (fun k hk => by omega)) (kept_set10 _ _ _ _ _ _ _ _ _ _ _ _) (fun k hk => by omega)) (by omega)) (fun _ _ => trivial)
                · exact Kd.R_mono (Kd.R_lower (Kd_R_grown (Kd_R_grown (hR5.out) (grown_set _ gb 7 _) (fun k hk => by omega)) (kept_set10 _ _ _ _ _ _ _ _ _ _ _ _) (fun k hk => by omega)) (by omega)) (fun _ _ => trivial)
                · exact Kd.R_mono (Kd.R_lower (Kd_R_grown (Kd_R_grown (hR6.out) (grown_set _ gb 7 _) (fun k hk => by omega)) (kept_set10 _ _ _ _ _ _ _ _ _ _ _ _) (fun k hk => by omega)) (by omega)) (fun _ _ => trivial)
                · exact (HA.out.trans ((below_grown (below_grown hB.out (grown_set _ gb 7 _) (Nat.le_refl _) (by omega)) (kept_set10 _ _ _ _ _ _ _ _ _ _ _ _) (by omega) (by simp [World.setCell]; omega)).mono (by omega)))
              · go_wp2_with fail
                refine bodyPost_ret (results_cell_row rfl _ _ (gb + 1) 25 #[.int .i64 z0, .int .i64 z1, .int .i64 z2, .slice Ao ok.length co, .int .i64 z4, .slice B5 l5.length d5, .slice B6 l6.length d6, .int .i64 z7, .int .i64 z8, .int .i64 z9] (0, 0) _ rfl (blk_set10 hZ.out _ _ _ _ _ _ _ _ _ _) Try.underlying25 rfl (by kernel_rfl)) rfl ?_
                have hsp : sp = (ok, l5.map (ofF fk), l6.map (ofF fk), z7) := by
                  rw [← HSP.out]; unfold spreadF; rw [if_pos HM0.out, HRK2.out]; dsimp only; rw [if_neg (by omega)]
                have hs := HC.out.size
                have hgb := HGB.out
                have hsz := HSZM.out
                have hgm := HGM.out
                have hsb := HSB.out
                rw [hsp]
                refine ⟨_, _, _, rfl, ?_, ?_, ?_, ?_⟩
                · exact Kd.R_mono (Kd.R_lower (Kd_R_grown (hR.out) (kept_set10 _ _ _ _ _ _ _ _ _ _ _ _) (fun k hk => by omega)) (by omega)) (fun _ _ => trivial)
                · exact Kd.R_mono (Kd.R_lower (Kd_R_grown (hR5.out) (kept_set10 _ _ _ _ _ _ _ _ _ _ _ _) (fun k hk => by omega)) (by omega)) (fun _ _ => trivial)
                · exact Kd.R_mono (Kd.R_lower (Kd_R_grown (hR6.out) (kept_set10 _ _ _ _ _ _ _ _ _ _ _ _) (fun k hk => by omega)) (by omega)) (fun _ _ => trivial)
                · exact (HA.out.trans ((below_grown (hB.out) (kept_set10 _ _ _ _ _ _ _ _ _ _ _ _) (by omega) (by omega)).mono (by omega)))
end Go.Proofs.Ytjkjbfhhfdbnoaa.NW
