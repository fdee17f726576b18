/- The deferred function of Eval. -/
import Derived.Test.YtjkjbfhhfdbnoaaTa
import Derived.Defers
import Derived.Recover
import Derived.Laws.Pointers
namespace Go.Proofs.Ytjkjbfhhfdbnoaa.NW
open Go.RowKit Go.Proofs.YtjkjbfhhfdbnoaaW.PrintWords Go.Proofs.YtjkjbfhhfdbnoaaW.PrintMore Go.Proofs.Ytjkjbfhhfdbnoaa.PB
set_option linter.unusedVariables false
set_option linter.unusedSimpArgs false
set_option maxHeartbeats 1600000 in
set_option maxRecDepth 1000000 in
theorem catch_idle (p8 p9 p10 p11 : Addr) (w : World) : CallsD Try.prog 56 #[.pointer (some p8), .pointer (some p9), .pointer (some p10), .pointer (some p11)] .returning w fun e u' w' => e = .returned (.tuple #[]) ∧ u' = .returning ∧ w' = w := by
  refine callsD_of_wpS Try.func56 rfl fun c₀ cs hu => ?_
  apply wpS_seq
  apply wpS_region
  simp [wpOpsS, go_sem, recoverD, hu, Try.ntmps56, Exit.thenS]
  refine wpS_of_wp ?_
  go_wp2_with fail
  cases c₀
  simp_all [bodyPostS, results, Try.results56]
set_option maxHeartbeats 1600000 in
set_option maxRecDepth 1000000 in
theorem catch_stop (gb : Nat) (w : World) {s8 s9 : Value} {n10 : Int} {b11 : Bool} (h8 : w.heap[gb]? = some (.cells #[s8] 26 (0, 0))) (h9 : w.heap[gb + 1]? = some (.cells #[s9] 26 (0, 0))) (h10 : w.heap[gb + 2]? = some (.cells #[.int .i64 n10] 3 (0, 0))) (h11 : w.heap[gb + 3]? = some (.cells #[.bool b11] 4 (0, 0))) :
    CallsD Try.prog 56 #[.pointer (some ⟨gb, 0, none⟩), .pointer (some ⟨gb + 1, 0, none⟩), .pointer (some ⟨gb + 2, 0, none⟩), .pointer (some ⟨gb + 3, 0, none⟩)] (.panicking stopE) w fun e u' w' => e = .returned (.tuple #[]) ∧ u' = .panicking [{ v := .iface 80 (.agg #[]), recovered := true }] ∧ Below gb w w' ∧ w'.heap[gb]? = some (.cells #[.slice none 0 0] 26 (0, 0)) ∧ w'.heap[gb + 1]? = some (.cells #[.slice none 0 0] 26 (0, 0)) ∧ w'.heap[gb + 2]? = some (.cells #[.int .i64 0] 3 (0, 0)) ∧ w'.heap[gb + 3]? = some (.cells #[.bool false] 4 (0, 0)) := by
  have hta : ∀ w : World, Sem.run Try.prog (Instr.typeAssert (.iface 80 (.agg #[])) 20 80 true) w = .ok (.tuple #[.agg #[], .bool true]) w := fun w => by rfl
  have hb := below_alloc (Below.refl w.heap.size w) (.cells #[] 80)
  have H8 := Aside0.mk (blk_below h8 hb)
  have H9 := Aside0.mk (blk_below h9 hb)
  have H10 := Aside0.mk (blk_below h10 hb)
  have H11 := Aside0.mk (blk_below h11 hb)
  have HB := Aside0.mk hb
  have hz := blk_lt h11
  have HZ := Aside0.mk hz
  have c8 := (blk_cell H8.out 0).trans rfl
  have c9 := (blk_cell H9.out 0).trans rfl
  have c10 := (blk_cell H10.out 0).trans rfl
  have c11 := (blk_cell H11.out 0).trans rfl
  have f8 := blk_frozen H8.out 0
  have f9 := blk_frozen H9.out 0
  have f10 := blk_frozen H10.out 0
  have f11 := blk_frozen H11.out 0
  clear h8 h9 h10 h11 hb hz
  refine callsD_of_wpS Try.func56 rfl fun c₀ cs hu => ?_
  apply wpS_seq
  apply wpS_region
  simp [wpOpsS, go_sem, recoverD, hu, Try.ntmps56, Exit.thenS, stopE]
  refine wpS_of_wp ?_
  go_wp2_with fail
  have hB : Below gb w (((((w.alloc (.cells #[] 80)).setCell ⟨gb, 0, none⟩ (.slice none 0 0)).setCell ⟨gb + 1, 0, none⟩ (.slice none 0 0)).setCell ⟨gb + 2, 0, none⟩ (.int .i64 0)).setCell ⟨gb + 3, 0, none⟩ (.bool false)) := (((((HB.out.mono (show gb ≤ w.heap.size by have := HZ.out; omega)).setCell (p := ⟨gb, 0, none⟩) (Nat.le_refl _) _).setCell (p := ⟨gb + 1, 0, none⟩) (Nat.le_succ _) _).setCell (p := ⟨gb + 2, 0, none⟩) (Nat.le_add_right _ _) _).setCell (p := ⟨gb + 3, 0, none⟩) (Nat.le_add_right _ _) _)
  have x8 : (((((w.alloc (.cells #[] 80)).setCell ⟨gb, 0, none⟩ (.slice none 0 0)).setCell ⟨gb + 1, 0, none⟩ (.slice none 0 0)).setCell ⟨gb + 2, 0, none⟩ (.int .i64 0)).setCell ⟨gb + 3, 0, none⟩ (.bool false)).heap[gb]? = some (.cells #[.slice none 0 0] 26 (0, 0)) := blk_far (blk_far (blk_far (blk_put H8.out 0 _ rfl) (p := ⟨gb + 1, 0, none⟩) (by show gb ≠ gb + 1; omega) _) (p := ⟨gb + 2, 0, none⟩) (by show gb ≠ gb + 2; omega) _) (p := ⟨gb + 3, 0, none⟩) (by show gb ≠ gb + 3; omega) _
  have x9 : (((((w.alloc (.cells #[] 80)).setCell ⟨gb, 0, none⟩ (.slice none 0 0)).setCell ⟨gb + 1, 0, none⟩ (.slice none 0 0)).setCell ⟨gb + 2, 0, none⟩ (.int .i64 0)).setCell ⟨gb + 3, 0, none⟩ (.bool false)).heap[gb + 1]? = some (.cells #[.slice none 0 0] 26 (0, 0)) := blk_far (blk_far (blk_put (blk_far H9.out (p := ⟨gb, 0, none⟩) (by show gb + 1 ≠ gb; omega) _) 0 _ rfl) (p := ⟨gb + 2, 0, none⟩) (by show gb + 1 ≠ gb + 2; omega) _) (p := ⟨gb + 3, 0, none⟩) (by show gb + 1 ≠ gb + 3; omega) _
  have x10 : (((((w.alloc (.cells #[] 80)).setCell ⟨gb, 0, none⟩ (.slice none 0 0)).setCell ⟨gb + 1, 0, none⟩ (.slice none 0 0)).setCell ⟨gb + 2, 0, none⟩ (.int .i64 0)).setCell ⟨gb + 3, 0, none⟩ (.bool false)).heap[gb + 2]? = some (.cells #[.int .i64 0] 3 (0, 0)) := blk_far (blk_put (blk_far (blk_far H10.out (p := ⟨gb, 0, none⟩) (by show gb + 2 ≠ gb; omega) _) (p := ⟨gb + 1, 0, none⟩) (by show gb + 2 ≠ gb + 1; omega) _) 0 _ rfl) (p := ⟨gb + 3, 0, none⟩) (by show gb + 2 ≠ gb + 3; omega) _
  have x11 : (((((w.alloc (.cells #[] 80)).setCell ⟨gb, 0, none⟩ (.slice none 0 0)).setCell ⟨gb + 1, 0, none⟩ (.slice none 0 0)).setCell ⟨gb + 2, 0, none⟩ (.int .i64 0)).setCell ⟨gb + 3, 0, none⟩ (.bool false)).heap[gb + 3]? = some (.cells #[.bool false] 4 (0, 0)) := blk_put (blk_far (blk_far (blk_far H11.out (p := ⟨gb, 0, none⟩) (by show gb + 3 ≠ gb; omega) _) (p := ⟨gb + 1, 0, none⟩) (by show gb + 3 ≠ gb + 1; omega) _) (p := ⟨gb + 2, 0, none⟩) (by show gb + 3 ≠ gb + 2; omega) _) 0 _ rfl
  exact ⟨rfl, _, rfl, _, results_none rfl _ _ _, rfl, rfl, hB, x8, x9, x10, x11⟩
end Go.Proofs.Ytjkjbfhhfdbnoaa.NW
