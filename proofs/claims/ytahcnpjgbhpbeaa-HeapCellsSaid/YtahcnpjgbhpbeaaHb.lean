/- Every call that makes something in a heap, its length, and a new heap: what each answers and leaves. -/
import Derived.Test.YtahcnpjgbhpbeaaHa
namespace Go.Proofs.Ytahcnpjgbhpbeaa.HP
open Go.RowKit Go.Proofs.YtahcnpjgbhpbeaaW.PrintWords
set_option linter.unusedVariables false
set_option linter.unusedSimpArgs false

set_option maxHeartbeats 1600000 in
set_option maxRecDepth 1000000 in
theorem Cell_any {g : Nat} {w : World} {base n : Nat} {cells : List Value} {v : Value} {limit : Int} (H : HeapIs w base g n cells limit v) (hl : limit ≤ 1048576) (ta na : Int) (sa : ByteArray) :
    Calls Try.prog 17 #[.pointer (some ⟨g, 0, none⟩), .agg #[.int .u8 ta, .int .i64 na, .string sa]] w fun e w' =>
      ∃ a b c, e = .returned (.tuple #[.agg #[.int .u8 a, .int .i64 b, .string ⟨#[]⟩], .int .i64 c]) ∧
        Adds w w' base g n cells limit v 5 [.int .u8 5, .int .u8 ta, .int .i64 na, .string sa, .int .u8 0, .int .i64 0, .string ⟨#[]⟩, .int .i64 0] a b c := by
  have hbel : Below w.heap.size w ((w.alloc (.cells #[.int .u8 ta, .int .i64 na, .string sa] 26)).alloc (.cells #[.int .u8 0, .int .i64 0, .string ⟨#[]⟩] 26)) := ((Below.refl _ w).alloc (Nat.le_refl _) _).alloc (by simp) _
  have H' := H.below hbel
  obtain ⟨q1, q2⟩ := H.apart (p := w.heap.size + 1) (by omega)
  go_enter Try.func17, Try.ntmps17
  go_wp2_with (go_at_call 42; refine Calls.mono (add_any H' hl 5 ta na 0 0 0 sa ⟨#[]⟩ (by decide)) ?_; rintro e w2 ⟨a, b, c, rfl, hA⟩; have hR : w2.heap[w.heap.size + 1]? = some (.cells #[.int .u8 0, .int .i64 0, .string ⟨#[]⟩] 26 (0,0)) := (hA.1.block (w.heap.size + 1) (by simp) q1 q2).trans (by simpa using blk_new (w.alloc _) _); have cr0 : w2.cell? ⟨w.heap.size + 1, 0, none⟩ = some (.int .u8 0) := (by rw [cell_of_row w2 _ 0 _ 26 (0,0) hR]; rfl); have cr1 : w2.cell? ⟨w.heap.size + 1, 1, none⟩ = some (.int .i64 0) := (by rw [cell_of_row w2 _ 1 _ 26 (0,0) hR]; rfl); have cr2 : w2.cell? ⟨w.heap.size + 1, 2, none⟩ = some (.string ⟨#[]⟩) := (by rw [cell_of_row w2 _ 2 _ 26 (0,0) hR]; rfl); have fr0 := frozen_of_row w2 (w.heap.size + 1) 0 _ 26 hR; have fr1 := frozen_of_row w2 (w.heap.size + 1) 1 _ 26 hR; have fr2 := frozen_of_row w2 (w.heap.size + 1) 2 _ 26 hR)
  refine bodyPost_ret (results_ct rfl _ _ (w.heap.size + 1) 26 #[.int .u8 a, .int .i64 b, .string ⟨#[]⟩] (0, 0) _ rfl (blk_put (blk_put (blk_put hR 0 _ rfl) 1 _ rfl) 2 _ rfl) Try.underlying26 rfl (by kernel_rfl)) rfl ?_
  exact ⟨a, b, c, rfl, Adds.out H hbel hA (by omega) (by simp) _ _ _⟩

set_option maxHeartbeats 1600000 in
set_option maxRecDepth 1000000 in
theorem Pair_any {g : Nat} {w : World} {base n : Nat} {cells : List Value} {v : Value} {limit : Int} (H : HeapIs w base g n cells limit v) (hl : limit ≤ 1048576) (ta na tb nb : Int) (sa sb : ByteArray) :
    Calls Try.prog 21 #[.pointer (some ⟨g, 0, none⟩), .agg #[.int .u8 ta, .int .i64 na, .string sa], .agg #[.int .u8 tb, .int .i64 nb, .string sb]] w fun e w' =>
      ∃ a b c, e = .returned (.tuple #[.agg #[.int .u8 a, .int .i64 b, .string ⟨#[]⟩], .int .i64 c]) ∧
        Adds w w' base g n cells limit v 4 [.int .u8 4, .int .u8 ta, .int .i64 na, .string sa, .int .u8 tb, .int .i64 nb, .string sb, .int .i64 0] a b c := by
  have hbel : Below w.heap.size w (((w.alloc (.cells #[.int .u8 ta, .int .i64 na, .string sa] 26)).alloc (.cells #[.int .u8 tb, .int .i64 nb, .string sb] 26)).alloc (.cells #[.int .u8 0, .int .i64 0, .string ⟨#[]⟩] 26)) := (((Below.refl _ w).alloc (Nat.le_refl _) _).alloc (by simp) _).alloc (by simp; omega) _
  have H' := H.below hbel
  obtain ⟨q1, q2⟩ := H.apart (p := w.heap.size + 2) (by omega)
  go_enter Try.func21, Try.ntmps21
  go_wp2_with (go_at_call 42; refine Calls.mono (add_any H' hl 4 ta na tb nb 0 sa sb (by decide)) ?_; rintro e w2 ⟨a, b, c, rfl, hA⟩; have hR : w2.heap[w.heap.size + 2]? = some (.cells #[.int .u8 0, .int .i64 0, .string ⟨#[]⟩] 26 (0,0)) := (hA.1.block (w.heap.size + 2) (by simp) q1 q2).trans (by simpa using blk_new ((w.alloc _).alloc _) _); have cr0 : w2.cell? ⟨w.heap.size + 2, 0, none⟩ = some (.int .u8 0) := (by rw [cell_of_row w2 _ 0 _ 26 (0,0) hR]; rfl); have cr1 : w2.cell? ⟨w.heap.size + 2, 1, none⟩ = some (.int .i64 0) := (by rw [cell_of_row w2 _ 1 _ 26 (0,0) hR]; rfl); have cr2 : w2.cell? ⟨w.heap.size + 2, 2, none⟩ = some (.string ⟨#[]⟩) := (by rw [cell_of_row w2 _ 2 _ 26 (0,0) hR]; rfl); have fr0 := frozen_of_row w2 (w.heap.size + 2) 0 _ 26 hR; have fr1 := frozen_of_row w2 (w.heap.size + 2) 1 _ 26 hR; have fr2 := frozen_of_row w2 (w.heap.size + 2) 2 _ 26 hR)
  refine bodyPost_ret (results_ct rfl _ _ (w.heap.size + 2) 26 #[.int .u8 a, .int .i64 b, .string ⟨#[]⟩] (0, 0) _ rfl (blk_put (blk_put (blk_put hR 0 _ rfl) 1 _ rfl) 2 _ rfl) Try.underlying26 rfl (by kernel_rfl)) rfl ?_
  exact ⟨a, b, c, rfl, Adds.out H hbel hA (by omega) (by simp) _ _ _⟩

set_option maxHeartbeats 1600000 in
set_option maxRecDepth 1000000 in
theorem Make_any {g : Nat} {w : World} {base n : Nat} {cells : List Value} {v : Value} {limit : Int} (H : HeapIs w base g n cells limit v) (hl : limit ≤ 1048576) (t x : Int) (ht : t = 6 ∨ t = 7) :
    Calls Try.prog 18 #[.pointer (some ⟨g, 0, none⟩), .int .u8 t, .int .i64 x] w fun e w' =>
      ∃ a b c, e = .returned (.tuple #[.agg #[.int .u8 a, .int .i64 b, .string ⟨#[]⟩], .int .i64 c]) ∧
        Adds w w' base g n cells limit v t [.int .u8 t, .int .u8 0, .int .i64 0, .string ⟨#[]⟩, .int .u8 0, .int .i64 0, .string ⟨#[]⟩, .int .i64 x] a b c := by
  have hbel : Below w.heap.size w (w.alloc (.cells #[.int .u8 0, .int .i64 0, .string ⟨#[]⟩] 26)) := (Below.refl _ w).alloc (Nat.le_refl _) _
  have H' := H.below hbel
  obtain ⟨q1, q2⟩ := H.apart (p := w.heap.size) (Nat.le_refl _)
  have ht' : (Lit.int .u8 t).wf = true := by rcases ht with rfl | rfl <;> decide
  go_enter Try.func18, Try.ntmps18
  rcases ht with rfl | rfl
  all_goals
    go_wp2_with (go_at_call 42; refine Calls.mono (add_any H' hl _ 0 0 0 0 x ⟨#[]⟩ ⟨#[]⟩ ht') ?_; rintro e w2 ⟨a, b, c, rfl, hA⟩; have hR : w2.heap[w.heap.size]? = some (.cells #[.int .u8 0, .int .i64 0, .string ⟨#[]⟩] 26 (0,0)) := (hA.1.block (w.heap.size) (by simp) q1 q2).trans (by simpa using blk_new w _); have cr0 : w2.cell? ⟨w.heap.size, 0, none⟩ = some (.int .u8 0) := (by rw [cell_of_row w2 _ 0 _ 26 (0,0) hR]; rfl); have cr1 : w2.cell? ⟨w.heap.size, 1, none⟩ = some (.int .i64 0) := (by rw [cell_of_row w2 _ 1 _ 26 (0,0) hR]; rfl); have cr2 : w2.cell? ⟨w.heap.size, 2, none⟩ = some (.string ⟨#[]⟩) := (by rw [cell_of_row w2 _ 2 _ 26 (0,0) hR]; rfl); have fr0 := frozen_of_row w2 (w.heap.size) 0 _ 26 hR; have fr1 := frozen_of_row w2 (w.heap.size) 1 _ 26 hR; have fr2 := frozen_of_row w2 (w.heap.size) 2 _ 26 hR)
    refine bodyPost_ret (results_ct rfl _ _ (w.heap.size) 26 #[.int .u8 a, .int .i64 b, .string ⟨#[]⟩] (0, 0) _ rfl (blk_put (blk_put (blk_put hR 0 _ rfl) 1 _ rfl) 2 _ rfl) Try.underlying26 rfl (by kernel_rfl)) rfl ?_
    exact ⟨a, b, c, rfl, Adds.out H hbel hA (by omega) (by simp) _ _ _⟩

set_option maxHeartbeats 1600000 in
set_option maxRecDepth 1000000 in
theorem Make_bad (p : Value) (w : World) (t x : Int) (h6 : (t != 6) = true) (h7 : (t != 7) = true) :
    Calls Try.prog 18 #[p, .int .u8 t, .int .i64 x] w fun e w' => e = .returned (.tuple #[Z26, .int .i64 1]) ∧ Below w.heap.size w w' := by
  go_enter Try.func18, Try.ntmps18
  go_wp2
  refine bodyPost_ret (results_ct rfl _ _ (w.heap.size) 26 #[.int .u8 0, .int .i64 0, .string ⟨#[]⟩] (0, 0) _ rfl ?_ Try.underlying26 rfl (by kernel_rfl)) rfl ?_
  · exact blk_new w _
  · exact ⟨rfl, (Below.refl _ w).alloc (Nat.le_refl _) _⟩

set_option maxHeartbeats 1600000 in
set_option maxRecDepth 1000000 in
theorem Len_any {g : Nat} {w : World} {base n : Nat} {cells : List Value} {v : Value} {limit : Int} (H : HeapIs w base g n cells limit v) :
    Calls Try.prog 19 #[.pointer (some ⟨g, 0, none⟩)] w fun e w' => e = .returned (.int .i64 n) ∧ w' = w := by
  obtain ⟨ad, cap, rfl⟩ : ∃ ad cap, v = .slice ad n cap := by
      rcases H.own.2 with ⟨h1, h2⟩ | ⟨g', cap, _, h1, _⟩
      · exact ⟨none, 0, by rw [h1, h2]⟩
      · exact ⟨_, cap, h1⟩
  have hgl := H.lt
  have k0 : w.cell? ⟨g, 0, none⟩ = some (.slice ad n cap) := by rw [cell_of_row w g 0 _ 65 (0,0) H.blk]; rfl
  go_enter Try.func19, Try.ntmps19
  go_wp2
  go_ret
  exact ⟨rfl, rfl⟩

theorem new_is (w : World) {base : Nat} (hb : base ≤ w.heap.size) {L L' : Int} (h : L' = L) : HeapIs (w.alloc (.cells #[.slice none 0 0, .int .i64 L] 65)) base w.heap.size 0 [] L' (.slice none 0 0) := by
  subst h
  exact ⟨blk_new w _, World.ownsRow_nil _ _ _ _, by simp [Value.ownBlock], by simp; omega, by omega⟩

set_option maxHeartbeats 1600000 in
set_option maxRecDepth 1000000 in
theorem New_any (w : World) (limit : Int) (base : Nat) (hb : base ≤ w.heap.size) (wf : (Lit.int .i64 limit).wf = true) :
    Calls Try.prog 16 #[.int .i64 limit] w fun e w' => e = .returned (.pointer (some ⟨w.heap.size, 0, none⟩)) ∧ Below w.heap.size w w' ∧ w.heap.size < w'.heap.size ∧ HeapIs w' base w.heap.size 0 [] (min (max limit 0) 1048576) (.slice none 0 0) := by
  go_enter Try.func16, Try.ntmps16
  go_wp2
  all_goals
    go_ret
    exact ⟨rfl, (Below.refl _ w).alloc (Nat.le_refl _) _, by simp, new_is w hb (by omega)⟩
end Go.Proofs.Ytahcnpjgbhpbeaa.HP
