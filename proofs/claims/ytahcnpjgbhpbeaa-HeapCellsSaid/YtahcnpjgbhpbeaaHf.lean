/- Every call that asks or sets, of a heap that has it or not, and of a heap that is nil: what each answers. -/
import Derived.Test.YtahcnpjgbhpbeaaHe
namespace Go.Proofs.Ytahcnpjgbhpbeaa.HP
open Go.RowKit Go.Proofs.YtahcnpjgbhpbeaaW.PrintWords
set_option linter.unusedVariables false
set_option linter.unusedSimpArgs false

theorem cells_of {W : World} {g t : Nat} {cs : Array Value} (h : W.heap[g]? = some (.cells cs t (0, 0))) (j : Nat) (u : Value) (hu : cs[j]? = some u) : W.cell? ⟨g, j, none⟩ = some u := by
  rw [cell_of_row W g j cs t (0, 0) h]; exact hu

set_option maxHeartbeats 1600000 in
set_option maxRecDepth 1000000 in
theorem Get_bad {p : Value} {t a : Int} {s : ByteArray} {w : World} (h : AtNone p t a s w) :
    Calls Try.prog 23 #[p, .agg #[.int .u8 t, .int .i64 a, .string s]] w fun e w' => e = .returned (.tuple #[Z26, .int .i64 2]) ∧ Below w.heap.size w w' := by
  have h1 := of_bad (tag := 5) (h.later (((Below.refl _ w).alloc (Nat.le_refl _) (.cells #[.int .u8 t, .int .i64 a, .string s] 26)).alloc (by simp) (.cells #[.int .u8 0, .int .i64 0, .string ⟨#[]⟩] 26)))
  clear h
  go_enter Try.func23, Try.ntmps23
  go_wp2_with fail
  refine Calls.mono h1 ?_
  rintro e w1 ⟨q, rfl, hb, hq, hQ⟩
  have hR : w1.heap[w.heap.size + 1]? = some (.cells #[.int .u8 0, .int .i64 0, .string ⟨#[]⟩] 26 (0, 0)) := (hb.block _ (by simp)).trans (by simpa using blk_new (w.alloc _) _)
  have hb1 : Below w.heap.size w w1 := (((Below.refl _ w).alloc (Nat.le_refl _) _).alloc (by simp) _).trans (hb.mono (by simp; omega))
  have c0 := cells_of hR 0 _ rfl
  have c1 := cells_of hR 1 _ rfl
  have c2 := cells_of hR 2 _ rfl
  have f0 := frozen_of_row w1 _ 0 _ _ hR
  have f1 := frozen_of_row w1 _ 1 _ _ hR
  have f2 := frozen_of_row w1 _ 2 _ _ hR
  have q1 := cells_of hQ 1 _ rfl
  have q2 := cells_of hQ 2 _ rfl
  have q3 := cells_of hQ 3 _ rfl
  clear h1 hb hq hQ
  go_wp2_with fail
  refine bodyPost_ret (results_ct rfl _ _ (w.heap.size + 1) 26 #[.int .u8 0, .int .i64 0, .string ⟨#[]⟩] (0, 0) _ rfl (blk_put (blk_put (blk_put hR 0 _ rfl) 1 _ rfl) 2 _ rfl) Try.underlying26 rfl (by kernel_rfl)) rfl ?_
  exact ⟨rfl, ((hb1.setCell (by simp) _).setCell (by simp) _).setCell (by simp) _⟩

set_option maxHeartbeats 1600000 in
set_option maxRecDepth 1000000 in
theorem Get_hit {p : Value} {a x1 x2 : Int} {s x3 : ByteArray} {q o : Nat} {w : World} (h : AtHit p 5 a s q o w) (hc : w.cell? ⟨q, o, none⟩ = some (.int .u8 5))
    (hc1 : w.cell? ⟨q, o + 1, none⟩ = some (.int .u8 x1)) (hc2 : w.cell? ⟨q, o + 2, none⟩ = some (.int .i64 x2)) (hc3 : w.cell? ⟨q, o + 3, none⟩ = some (.string x3)) :
    Calls Try.prog 23 #[p, .agg #[.int .u8 5, .int .i64 a, .string s]] w fun e w' => e = .returned (.tuple #[.agg #[.int .u8 x1, .int .i64 x2, .string x3], .int .i64 0]) ∧ Below w.heap.size w w' := by
  have hq : q < w.heap.size := World.block_lt_of_cell? w ⟨q, o, none⟩ hc
  have hbb := ((Below.refl _ w).alloc (Nat.le_refl _) (.cells #[.int .u8 5, .int .i64 a, .string s] 26)).alloc (by simp) (.cells #[.int .u8 0, .int .i64 0, .string ⟨#[]⟩] 26)
  have h1 := of_hit (h.later hbb) ((hbb.cell (p := ⟨q, o, none⟩) hq).trans hc)
  clear h
  go_enter Try.func23, Try.ntmps23
  go_wp2_with fail
  refine Calls.mono h1 ?_
  rintro e w1 ⟨rfl, hb⟩
  have hR : w1.heap[w.heap.size + 1]? = some (.cells #[.int .u8 0, .int .i64 0, .string ⟨#[]⟩] 26 (0, 0)) := (hb.block _ (by simp)).trans (by simpa using blk_new (w.alloc _) _)
  have hb1 : Below w.heap.size w w1 := hbb.trans (hb.mono (by simp; omega))
  have c0 := cells_of hR 0 _ rfl
  have c1 := cells_of hR 1 _ rfl
  have c2 := cells_of hR 2 _ rfl
  have f0 := frozen_of_row w1 _ 0 _ _ hR
  have f1 := frozen_of_row w1 _ 1 _ _ hR
  have f2 := frozen_of_row w1 _ 2 _ _ hR
  have q0 := (hb1.cell (p := ⟨q, o, none⟩) hq).trans hc
  have q1 := (hb1.cell (p := ⟨q, o + 1, none⟩) hq).trans hc1
  have q2 := (hb1.cell (p := ⟨q, o + 2, none⟩) hq).trans hc2
  have q3 := (hb1.cell (p := ⟨q, o + 3, none⟩) hq).trans hc3
  clear h1 hb hc hc1 hc2 hc3 hbb
  go_wp2_with fail
  refine bodyPost_ret (results_ct rfl _ _ (w.heap.size + 1) 26 #[.int .u8 x1, .int .i64 x2, .string x3] (0, 0) _ rfl (blk_put (blk_put (blk_put hR 0 _ rfl) 1 _ rfl) 2 _ rfl) Try.underlying26 rfl (by kernel_rfl)) rfl ?_
  exact ⟨rfl, ((hb1.setCell (by simp) _).setCell (by simp) _).setCell (by simp) _⟩

set_option maxHeartbeats 1600000 in
set_option maxRecDepth 1000000 in
theorem Fst_bad {p : Value} {t a : Int} {s : ByteArray} {w : World} (h : AtNone p t a s w) :
    Calls Try.prog 24 #[p, .agg #[.int .u8 t, .int .i64 a, .string s]] w fun e w' => e = .returned (.tuple #[Z26, .int .i64 2]) ∧ Below w.heap.size w w' := by
  have h1 := of_bad (tag := 4) (h.later (((Below.refl _ w).alloc (Nat.le_refl _) (.cells #[.int .u8 t, .int .i64 a, .string s] 26)).alloc (by simp) (.cells #[.int .u8 0, .int .i64 0, .string ⟨#[]⟩] 26)))
  clear h
  go_enter Try.func24, Try.ntmps24
  go_wp2_with fail
  refine Calls.mono h1 ?_
  rintro e w1 ⟨q, rfl, hb, hq, hQ⟩
  have hR : w1.heap[w.heap.size + 1]? = some (.cells #[.int .u8 0, .int .i64 0, .string ⟨#[]⟩] 26 (0, 0)) := (hb.block _ (by simp)).trans (by simpa using blk_new (w.alloc _) _)
  have hb1 : Below w.heap.size w w1 := (((Below.refl _ w).alloc (Nat.le_refl _) _).alloc (by simp) _).trans (hb.mono (by simp; omega))
  have c0 := cells_of hR 0 _ rfl
  have c1 := cells_of hR 1 _ rfl
  have c2 := cells_of hR 2 _ rfl
  have f0 := frozen_of_row w1 _ 0 _ _ hR
  have f1 := frozen_of_row w1 _ 1 _ _ hR
  have f2 := frozen_of_row w1 _ 2 _ _ hR
  have q1 := cells_of hQ 1 _ rfl
  have q2 := cells_of hQ 2 _ rfl
  have q3 := cells_of hQ 3 _ rfl
  clear h1 hb hq hQ
  go_wp2_with fail
  refine bodyPost_ret (results_ct rfl _ _ (w.heap.size + 1) 26 #[.int .u8 0, .int .i64 0, .string ⟨#[]⟩] (0, 0) _ rfl (blk_put (blk_put (blk_put hR 0 _ rfl) 1 _ rfl) 2 _ rfl) Try.underlying26 rfl (by kernel_rfl)) rfl ?_
  exact ⟨rfl, ((hb1.setCell (by simp) _).setCell (by simp) _).setCell (by simp) _⟩

set_option maxHeartbeats 1600000 in
set_option maxRecDepth 1000000 in
theorem Fst_hit {p : Value} {a x1 x2 : Int} {s x3 : ByteArray} {q o : Nat} {w : World} (h : AtHit p 4 a s q o w) (hc : w.cell? ⟨q, o, none⟩ = some (.int .u8 4))
    (hc1 : w.cell? ⟨q, o + 1, none⟩ = some (.int .u8 x1)) (hc2 : w.cell? ⟨q, o + 2, none⟩ = some (.int .i64 x2)) (hc3 : w.cell? ⟨q, o + 3, none⟩ = some (.string x3)) :
    Calls Try.prog 24 #[p, .agg #[.int .u8 4, .int .i64 a, .string s]] w fun e w' => e = .returned (.tuple #[.agg #[.int .u8 x1, .int .i64 x2, .string x3], .int .i64 0]) ∧ Below w.heap.size w w' := by
  have hq : q < w.heap.size := World.block_lt_of_cell? w ⟨q, o, none⟩ hc
  have hbb := ((Below.refl _ w).alloc (Nat.le_refl _) (.cells #[.int .u8 4, .int .i64 a, .string s] 26)).alloc (by simp) (.cells #[.int .u8 0, .int .i64 0, .string ⟨#[]⟩] 26)
  have h1 := of_hit (h.later hbb) ((hbb.cell (p := ⟨q, o, none⟩) hq).trans hc)
  clear h
  go_enter Try.func24, Try.ntmps24
  go_wp2_with fail
  refine Calls.mono h1 ?_
  rintro e w1 ⟨rfl, hb⟩
  have hR : w1.heap[w.heap.size + 1]? = some (.cells #[.int .u8 0, .int .i64 0, .string ⟨#[]⟩] 26 (0, 0)) := (hb.block _ (by simp)).trans (by simpa using blk_new (w.alloc _) _)
  have hb1 : Below w.heap.size w w1 := hbb.trans (hb.mono (by simp; omega))
  have c0 := cells_of hR 0 _ rfl
  have c1 := cells_of hR 1 _ rfl
  have c2 := cells_of hR 2 _ rfl
  have f0 := frozen_of_row w1 _ 0 _ _ hR
  have f1 := frozen_of_row w1 _ 1 _ _ hR
  have f2 := frozen_of_row w1 _ 2 _ _ hR
  have q0 := (hb1.cell (p := ⟨q, o, none⟩) hq).trans hc
  have q1 := (hb1.cell (p := ⟨q, o + 1, none⟩) hq).trans hc1
  have q2 := (hb1.cell (p := ⟨q, o + 2, none⟩) hq).trans hc2
  have q3 := (hb1.cell (p := ⟨q, o + 3, none⟩) hq).trans hc3
  clear h1 hb hc hc1 hc2 hc3 hbb
  go_wp2_with fail
  refine bodyPost_ret (results_ct rfl _ _ (w.heap.size + 1) 26 #[.int .u8 x1, .int .i64 x2, .string x3] (0, 0) _ rfl (blk_put (blk_put (blk_put hR 0 _ rfl) 1 _ rfl) 2 _ rfl) Try.underlying26 rfl (by kernel_rfl)) rfl ?_
  exact ⟨rfl, ((hb1.setCell (by simp) _).setCell (by simp) _).setCell (by simp) _⟩

set_option maxHeartbeats 1600000 in
set_option maxRecDepth 1000000 in
theorem Snd_bad {p : Value} {t a : Int} {s : ByteArray} {w : World} (h : AtNone p t a s w) :
    Calls Try.prog 25 #[p, .agg #[.int .u8 t, .int .i64 a, .string s]] w fun e w' => e = .returned (.tuple #[Z26, .int .i64 2]) ∧ Below w.heap.size w w' := by
  have h1 := of_bad (tag := 4) (h.later (((Below.refl _ w).alloc (Nat.le_refl _) (.cells #[.int .u8 t, .int .i64 a, .string s] 26)).alloc (by simp) (.cells #[.int .u8 0, .int .i64 0, .string ⟨#[]⟩] 26)))
  clear h
  go_enter Try.func25, Try.ntmps25
  go_wp2_with fail
  refine Calls.mono h1 ?_
  rintro e w1 ⟨q, rfl, hb, hq, hQ⟩
  have hR : w1.heap[w.heap.size + 1]? = some (.cells #[.int .u8 0, .int .i64 0, .string ⟨#[]⟩] 26 (0, 0)) := (hb.block _ (by simp)).trans (by simpa using blk_new (w.alloc _) _)
  have hb1 : Below w.heap.size w w1 := (((Below.refl _ w).alloc (Nat.le_refl _) _).alloc (by simp) _).trans (hb.mono (by simp; omega))
  have c0 := cells_of hR 0 _ rfl
  have c1 := cells_of hR 1 _ rfl
  have c2 := cells_of hR 2 _ rfl
  have f0 := frozen_of_row w1 _ 0 _ _ hR
  have f1 := frozen_of_row w1 _ 1 _ _ hR
  have f2 := frozen_of_row w1 _ 2 _ _ hR
  have q1 := cells_of hQ 4 _ rfl
  have q2 := cells_of hQ 5 _ rfl
  have q3 := cells_of hQ 6 _ rfl
  clear h1 hb hq hQ
  go_wp2_with fail
  refine bodyPost_ret (results_ct rfl _ _ (w.heap.size + 1) 26 #[.int .u8 0, .int .i64 0, .string ⟨#[]⟩] (0, 0) _ rfl (blk_put (blk_put (blk_put hR 0 _ rfl) 1 _ rfl) 2 _ rfl) Try.underlying26 rfl (by kernel_rfl)) rfl ?_
  exact ⟨rfl, ((hb1.setCell (by simp) _).setCell (by simp) _).setCell (by simp) _⟩

set_option maxHeartbeats 1600000 in
set_option maxRecDepth 1000000 in
theorem Snd_hit {p : Value} {a x1 x2 : Int} {s x3 : ByteArray} {q o : Nat} {w : World} (h : AtHit p 4 a s q o w) (hc : w.cell? ⟨q, o, none⟩ = some (.int .u8 4))
    (hc1 : w.cell? ⟨q, o + 4, none⟩ = some (.int .u8 x1)) (hc2 : w.cell? ⟨q, o + 5, none⟩ = some (.int .i64 x2)) (hc3 : w.cell? ⟨q, o + 6, none⟩ = some (.string x3)) :
    Calls Try.prog 25 #[p, .agg #[.int .u8 4, .int .i64 a, .string s]] w fun e w' => e = .returned (.tuple #[.agg #[.int .u8 x1, .int .i64 x2, .string x3], .int .i64 0]) ∧ Below w.heap.size w w' := by
  have hq : q < w.heap.size := World.block_lt_of_cell? w ⟨q, o, none⟩ hc
  have hbb := ((Below.refl _ w).alloc (Nat.le_refl _) (.cells #[.int .u8 4, .int .i64 a, .string s] 26)).alloc (by simp) (.cells #[.int .u8 0, .int .i64 0, .string ⟨#[]⟩] 26)
  have h1 := of_hit (h.later hbb) ((hbb.cell (p := ⟨q, o, none⟩) hq).trans hc)
  clear h
  go_enter Try.func25, Try.ntmps25
  go_wp2_with fail
  refine Calls.mono h1 ?_
  rintro e w1 ⟨rfl, hb⟩
  have hR : w1.heap[w.heap.size + 1]? = some (.cells #[.int .u8 0, .int .i64 0, .string ⟨#[]⟩] 26 (0, 0)) := (hb.block _ (by simp)).trans (by simpa using blk_new (w.alloc _) _)
  have hb1 : Below w.heap.size w w1 := hbb.trans (hb.mono (by simp; omega))
  have c0 := cells_of hR 0 _ rfl
  have c1 := cells_of hR 1 _ rfl
  have c2 := cells_of hR 2 _ rfl
  have f0 := frozen_of_row w1 _ 0 _ _ hR
  have f1 := frozen_of_row w1 _ 1 _ _ hR
  have f2 := frozen_of_row w1 _ 2 _ _ hR
  have q0 := (hb1.cell (p := ⟨q, o, none⟩) hq).trans hc
  have q1 := (hb1.cell (p := ⟨q, o + 4, none⟩) hq).trans hc1
  have q2 := (hb1.cell (p := ⟨q, o + 5, none⟩) hq).trans hc2
  have q3 := (hb1.cell (p := ⟨q, o + 6, none⟩) hq).trans hc3
  clear h1 hb hc hc1 hc2 hc3 hbb
  go_wp2_with fail
  refine bodyPost_ret (results_ct rfl _ _ (w.heap.size + 1) 26 #[.int .u8 x1, .int .i64 x2, .string x3] (0, 0) _ rfl (blk_put (blk_put (blk_put hR 0 _ rfl) 1 _ rfl) 2 _ rfl) Try.underlying26 rfl (by kernel_rfl)) rfl ?_
  exact ⟨rfl, ((hb1.setCell (by simp) _).setCell (by simp) _).setCell (by simp) _⟩

set_option maxHeartbeats 1600000 in
set_option maxRecDepth 1000000 in
theorem Thing_bad {p : Value} {t a : Int} {s : ByteArray} {w : World} (h : AtNone p t a s w) :
    Calls Try.prog 20 #[p, .agg #[.int .u8 t, .int .i64 a, .string s]] w fun e w' => e = .returned (.tuple #[.int .i64 0, .int .i64 2]) ∧ Below w.heap.size w w' := by
  have h1 := h _ ((Below.refl _ w).alloc (Nat.le_refl _) (.cells #[.int .u8 t, .int .i64 a, .string s] 26))
  clear h
  go_enter Try.func20, Try.ntmps20
  go_wp2_with fail
  refine Calls.mono h1 ?_
  rintro e w1 ⟨rfl, hb⟩
  have hb1 : Below w.heap.size w w1 := ((Below.refl _ w).alloc (Nat.le_refl _) _).trans (hb.mono (by simp))
  clear h1 hb
  go_wp2_with fail
  go_ret2
  exact ⟨rfl, hb1⟩

set_option maxHeartbeats 1600000 in
set_option maxRecDepth 1000000 in
theorem Thing_hit {p : Value} {t a x : Int} {s : ByteArray} {q o : Nat} {w : World} (ht : t = 6 ∨ t = 7) (h : AtHit p t a s q o w) (hc : w.cell? ⟨q, o, none⟩ = some (.int .u8 t))
    (hc1 : w.cell? ⟨q, o + 7, none⟩ = some (.int .i64 x)) :
    Calls Try.prog 20 #[p, .agg #[.int .u8 t, .int .i64 a, .string s]] w fun e w' => e = .returned (.tuple #[.int .i64 x, .int .i64 0]) ∧ Below w.heap.size w w' := by
  have hq : q < w.heap.size := World.block_lt_of_cell? w ⟨q, o, none⟩ hc
  have h1 := h _ ((Below.refl _ w).alloc (Nat.le_refl _) (.cells #[.int .u8 t, .int .i64 a, .string s] 26))
  clear h
  go_enter Try.func20, Try.ntmps20
  go_wp2_with fail
  refine Calls.mono h1 ?_
  rintro e w1 ⟨rfl, hb⟩
  have hb1 : Below w.heap.size w w1 := ((Below.refl _ w).alloc (Nat.le_refl _) _).trans (hb.mono (by simp))
  have q0 := (hb1.cell (p := ⟨q, o, none⟩) hq).trans hc
  have q1 := (hb1.cell (p := ⟨q, o + 7, none⟩) hq).trans hc1
  clear h1 hb hc hc1
  rcases ht with rfl | rfl
  all_goals
    go_wp2_with fail
    go_ret2
    exact ⟨rfl, hb1⟩

set_option maxHeartbeats 1600000 in
set_option maxRecDepth 1000000 in
theorem Set_bad {p : Value} {t a tb nb : Int} {s sb : ByteArray} {w : World} (h : AtNone p t a s w) :
    Calls Try.prog 22 #[p, .agg #[.int .u8 t, .int .i64 a, .string s], .agg #[.int .u8 tb, .int .i64 nb, .string sb]] w fun e w' => e = .returned (.int .i64 2) ∧ Below w.heap.size w w' := by
  have h1 := of_bad (tag := 5) (h.later (((Below.refl _ w).alloc (Nat.le_refl _) (.cells #[.int .u8 t, .int .i64 a, .string s] 26)).alloc (by simp) (.cells #[.int .u8 tb, .int .i64 nb, .string sb] 26)))
  clear h
  go_enter Try.func22, Try.ntmps22
  go_wp2_with fail
  refine Calls.mono h1 ?_
  rintro e w1 ⟨q, rfl, hb, hq, hQ⟩
  have hR : w1.heap[w.heap.size + 1]? = some (.cells #[.int .u8 tb, .int .i64 nb, .string sb] 26 (0, 0)) := (hb.block _ (by simp)).trans (by simpa using blk_new (w.alloc _) _)
  have hb1 : Below w.heap.size w w1 := (((Below.refl _ w).alloc (Nat.le_refl _) _).alloc (by simp) _).trans (hb.mono (by simp; omega))
  have c0 := cells_of hR 0 _ rfl
  have c1 := cells_of hR 1 _ rfl
  have c2 := cells_of hR 2 _ rfl
  have q1 := cells_of hQ 1 _ rfl
  have q2 := cells_of hQ 2 _ rfl
  have q3 := cells_of hQ 3 _ rfl
  have f1 := frozen_of_row w1 _ 1 _ _ hQ
  have f2 := frozen_of_row w1 _ 2 _ _ hQ
  have f3 := frozen_of_row w1 _ 3 _ _ hQ
  have hq' : w.heap.size ≤ q := by simp at hq; omega
  clear h1 hb hq hQ hR
  go_wp2_with fail
  go_ret
  exact ⟨rfl, ((hb1.setCell hq' _).setCell hq' _).setCell hq' _⟩

set_option maxHeartbeats 1600000 in
set_option maxRecDepth 1000000 in
theorem Set_hit {p : Value} {a tb nb : Int} {s sb : ByteArray} {q o : Nat} {w : World} {x1 x2 x3 : Value} (h : AtHit p 5 a s q o w) (hc : w.cell? ⟨q, o, none⟩ = some (.int .u8 5))
    (hc1 : w.cell? ⟨q, o + 1, none⟩ = some x1) (hc2 : w.cell? ⟨q, o + 2, none⟩ = some x2) (hc3 : w.cell? ⟨q, o + 3, none⟩ = some x3)
    (hf1 : w.frozen? ⟨q, o + 1, none⟩ = false) (hf2 : w.frozen? ⟨q, o + 2, none⟩ = false) (hf3 : w.frozen? ⟨q, o + 3, none⟩ = false) :
    Calls Try.prog 22 #[p, .agg #[.int .u8 5, .int .i64 a, .string s], .agg #[.int .u8 tb, .int .i64 nb, .string sb]] w fun e w' => e = .returned (.int .i64 0) ∧
      ∃ w1, Below w.heap.size w w1 ∧ w' = ((w1.setCell ⟨q, o + 1, none⟩ (.int .u8 tb)).setCell ⟨q, o + 2, none⟩ (.int .i64 nb)).setCell ⟨q, o + 3, none⟩ (.string sb) := by
  have hq : q < w.heap.size := World.block_lt_of_cell? w ⟨q, o, none⟩ hc
  have hbb := ((Below.refl _ w).alloc (Nat.le_refl _) (.cells #[.int .u8 5, .int .i64 a, .string s] 26)).alloc (by simp) (.cells #[.int .u8 tb, .int .i64 nb, .string sb] 26)
  have h1 := of_hit (h.later hbb) ((hbb.cell (p := ⟨q, o, none⟩) hq).trans hc)
  clear h
  go_enter Try.func22, Try.ntmps22
  go_wp2_with fail
  refine Calls.mono h1 ?_
  rintro e w1 ⟨rfl, hb⟩
  have hR : w1.heap[w.heap.size + 1]? = some (.cells #[.int .u8 tb, .int .i64 nb, .string sb] 26 (0, 0)) := (hb.block _ (by simp)).trans (by simpa using blk_new (w.alloc _) _)
  have hb1 : Below w.heap.size w w1 := hbb.trans (hb.mono (by simp; omega))
  have c0 := cells_of hR 0 _ rfl
  have c1 := cells_of hR 1 _ rfl
  have c2 := cells_of hR 2 _ rfl
  have q0 := (hb1.cell (p := ⟨q, o, none⟩) hq).trans hc
  have q1 := (hb1.cell (p := ⟨q, o + 1, none⟩) hq).trans hc1
  have q2 := (hb1.cell (p := ⟨q, o + 2, none⟩) hq).trans hc2
  have q3 := (hb1.cell (p := ⟨q, o + 3, none⟩) hq).trans hc3
  have f1 := (hb1.frozen (p := ⟨q, o + 1, none⟩) hq).trans hf1
  have f2 := (hb1.frozen (p := ⟨q, o + 2, none⟩) hq).trans hf2
  have f3 := (hb1.frozen (p := ⟨q, o + 3, none⟩) hq).trans hf3
  clear h1 hb hc hc1 hc2 hc3 hbb hR hf1 hf2 hf3
  go_wp2_with fail
  go_ret
  exact ⟨rfl, w1, hb1, rfl⟩

set_option maxHeartbeats 1600000 in
set_option maxRecDepth 1000000 in
theorem add_nil (w : World) (t ta na tb nb x : Int) (sa sb : ByteArray) :
    Calls Try.prog 42 #[.pointer none, .agg #[.int .u8 t, .int .u8 ta, .int .i64 na, .string sa, .int .u8 tb, .int .i64 nb, .string sb, .int .i64 x]] w fun e w' =>
      e = .returned (.tuple #[Z26, .int .i64 17]) ∧ Below w.heap.size w w' := by
  go_enter Try.func42, Try.ntmps42
  go_wp2_with fail
  go_region
  go_wp2_with fail
  refine bodyPost_ret (results_ct rfl _ _ (w.heap.size + 1) 26 #[.int .u8 0, .int .i64 0, .string ⟨#[]⟩] (0, 0) _ rfl ?_ Try.underlying26 rfl (by kernel_rfl)) rfl ?_
  · exact blk_drew (by simpa using blk_new (w.alloc _) _)
  · exact ⟨rfl, ((((Below.refl _ w).alloc (Nat.le_refl _) _).alloc (by simp) _).drew)⟩

set_option maxHeartbeats 1600000 in
set_option maxRecDepth 1000000 in
theorem Cell_nil (w : World) (ta na : Int) (sa : ByteArray) :
    Calls Try.prog 17 #[.pointer none, .agg #[.int .u8 ta, .int .i64 na, .string sa]] w fun e w' => e = .returned (.tuple #[Z26, .int .i64 17]) ∧ Below w.heap.size w w' := by
  have hbb := ((Below.refl _ w).alloc (Nat.le_refl _) (.cells #[.int .u8 ta, .int .i64 na, .string sa] 26)).alloc (by simp) (.cells #[.int .u8 0, .int .i64 0, .string ⟨#[]⟩] 26)
  go_enter Try.func17, Try.ntmps17
  go_wp2_with fail
  refine Calls.mono (add_nil _ 5 ta na 0 0 0 sa ⟨#[]⟩) ?_
  rintro e w1 ⟨rfl, hb⟩
  have hR : w1.heap[w.heap.size + 1]? = some (.cells #[.int .u8 0, .int .i64 0, .string ⟨#[]⟩] 26 (0, 0)) := (hb.block _ (by simp)).trans (by simpa using blk_new (w.alloc _) _)
  have hb1 : Below w.heap.size w w1 := hbb.trans (hb.mono (by simp <;> omega))
  have c0 := cells_of hR 0 _ rfl
  have c1 := cells_of hR 1 _ rfl
  have c2 := cells_of hR 2 _ rfl
  have f0 := frozen_of_row w1 _ 0 _ _ hR
  have f1 := frozen_of_row w1 _ 1 _ _ hR
  have f2 := frozen_of_row w1 _ 2 _ _ hR
  clear hb hbb
  go_wp2_with fail
  refine bodyPost_ret (results_ct rfl _ _ (w.heap.size + 1) 26 #[.int .u8 0, .int .i64 0, .string ⟨#[]⟩] (0, 0) _ rfl (blk_put (blk_put (blk_put hR 0 _ rfl) 1 _ rfl) 2 _ rfl) Try.underlying26 rfl (by kernel_rfl)) rfl ?_
  exact ⟨rfl, ((hb1.setCell (by simp) _).setCell (by simp) _).setCell (by simp) _⟩

set_option maxHeartbeats 1600000 in
set_option maxRecDepth 1000000 in
theorem Pair_nil (w : World) (ta na tb nb : Int) (sa sb : ByteArray) :
    Calls Try.prog 21 #[.pointer none, .agg #[.int .u8 ta, .int .i64 na, .string sa], .agg #[.int .u8 tb, .int .i64 nb, .string sb]] w fun e w' => e = .returned (.tuple #[Z26, .int .i64 17]) ∧ Below w.heap.size w w' := by
  have hbb := (((Below.refl _ w).alloc (Nat.le_refl _) (.cells #[.int .u8 ta, .int .i64 na, .string sa] 26)).alloc (by simp) (.cells #[.int .u8 tb, .int .i64 nb, .string sb] 26)).alloc (by simp; omega) (.cells #[.int .u8 0, .int .i64 0, .string ⟨#[]⟩] 26)
  go_enter Try.func21, Try.ntmps21
  go_wp2_with fail
  refine Calls.mono (add_nil _ 4 ta na tb nb 0 sa sb) ?_
  rintro e w1 ⟨rfl, hb⟩
  have hR : w1.heap[w.heap.size + 2]? = some (.cells #[.int .u8 0, .int .i64 0, .string ⟨#[]⟩] 26 (0, 0)) := (hb.block _ (by simp)).trans (by simpa using blk_new ((w.alloc _).alloc _) _)
  have hb1 : Below w.heap.size w w1 := hbb.trans (hb.mono (by simp <;> omega))
  have c0 := cells_of hR 0 _ rfl
  have c1 := cells_of hR 1 _ rfl
  have c2 := cells_of hR 2 _ rfl
  have f0 := frozen_of_row w1 _ 0 _ _ hR
  have f1 := frozen_of_row w1 _ 1 _ _ hR
  have f2 := frozen_of_row w1 _ 2 _ _ hR
  clear hb hbb
  go_wp2_with fail
  refine bodyPost_ret (results_ct rfl _ _ (w.heap.size + 2) 26 #[.int .u8 0, .int .i64 0, .string ⟨#[]⟩] (0, 0) _ rfl (blk_put (blk_put (blk_put hR 0 _ rfl) 1 _ rfl) 2 _ rfl) Try.underlying26 rfl (by kernel_rfl)) rfl ?_
  exact ⟨rfl, ((hb1.setCell (by dsimp only; omega) _).setCell (by dsimp only; omega) _).setCell (by dsimp only; omega) _⟩

set_option maxHeartbeats 1600000 in
set_option maxRecDepth 1000000 in
theorem Make_nil (w : World) (x : Int) :
    Calls Try.prog 18 #[.pointer none, .int .u8 6, .int .i64 x] w fun e w' => e = .returned (.tuple #[Z26, .int .i64 17]) ∧ Below w.heap.size w w' := by
  have hbb := (Below.refl _ w).alloc (Nat.le_refl _) (.cells #[.int .u8 0, .int .i64 0, .string ⟨#[]⟩] 26)
  go_enter Try.func18, Try.ntmps18
  go_wp2_with fail
  refine Calls.mono (add_nil _ 6 0 0 0 0 x ⟨#[]⟩ ⟨#[]⟩) ?_
  rintro e w1 ⟨rfl, hb⟩
  have hR : w1.heap[w.heap.size]? = some (.cells #[.int .u8 0, .int .i64 0, .string ⟨#[]⟩] 26 (0, 0)) := (hb.block _ (by simp)).trans (by simpa using blk_new w _)
  have hb1 : Below w.heap.size w w1 := hbb.trans (hb.mono (by simp <;> omega))
  have c0 := cells_of hR 0 _ rfl
  have c1 := cells_of hR 1 _ rfl
  have c2 := cells_of hR 2 _ rfl
  have f0 := frozen_of_row w1 _ 0 _ _ hR
  have f1 := frozen_of_row w1 _ 1 _ _ hR
  have f2 := frozen_of_row w1 _ 2 _ _ hR
  clear hb hbb
  go_wp2_with fail
  refine bodyPost_ret (results_ct rfl _ _ (w.heap.size) 26 #[.int .u8 0, .int .i64 0, .string ⟨#[]⟩] (0, 0) _ rfl (blk_put (blk_put (blk_put hR 0 _ rfl) 1 _ rfl) 2 _ rfl) Try.underlying26 rfl (by kernel_rfl)) rfl ?_
  exact ⟨rfl, ((hb1.setCell (by simp) _).setCell (by simp) _).setCell (by simp) _⟩

set_option maxHeartbeats 1600000 in
set_option maxRecDepth 1000000 in
theorem Len_nil (w : World) : Calls Try.prog 19 #[.pointer none] w fun e w' => e = .returned (.int .i64 0) ∧ w' = w := by
  go_enter Try.func19, Try.ntmps19
  go_wp2_with fail
  go_ret
  exact ⟨rfl, rfl⟩
end Go.Proofs.Ytahcnpjgbhpbeaa.HP
