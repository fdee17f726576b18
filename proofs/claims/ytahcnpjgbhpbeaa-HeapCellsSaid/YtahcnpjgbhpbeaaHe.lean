/- What at and of answer: of a heap that is nil, that lacks the thing, that has it. -/
import Derived.Test.YtahcnpjgbhpbeaaHd
namespace Go.Proofs.Ytahcnpjgbhpbeaa.HP
open Go.RowKit Go.Proofs.YtahcnpjgbhpbeaaW.PrintWords
set_option linter.unusedVariables false
set_option linter.unusedSimpArgs false

def AtNone (p : Value) (t a : Int) (s : ByteArray) (w : World) : Prop := ∀ W, Below w.heap.size w W →
  Calls Try.prog 43 #[p, .agg #[.int .u8 t, .int .i64 a, .string s]] W fun e w' => e = .returned (.pointer none) ∧ Below W.heap.size W w'
def AtHit (p : Value) (t a : Int) (s : ByteArray) (q o : Nat) (w : World) : Prop := ∀ W, Below w.heap.size w W →
  Calls Try.prog 43 #[p, .agg #[.int .u8 t, .int .i64 a, .string s]] W fun e w' => e = .returned (.pointer (some ⟨q, o, none⟩)) ∧ Below W.heap.size W w'

theorem AtNone.later {p : Value} {t a : Int} {s : ByteArray} {w w1 : World} (h : AtNone p t a s w) (hb : Below w.heap.size w w1) : AtNone p t a s w1 :=
  fun W hW => h W (hb.trans (hW.mono hb.size))
theorem AtHit.later {p : Value} {t a : Int} {s : ByteArray} {q o : Nat} {w w1 : World} (h : AtHit p t a s q o w) (hb : Below w.heap.size w w1) : AtHit p t a s q o w1 :=
  fun W hW => h W (hb.trans (hW.mono hb.size))

set_option maxHeartbeats 1600000 in
set_option maxRecDepth 1000000 in
theorem at_nil (t a : Int) (s : ByteArray) (w : World) : AtNone (.pointer none) t a s w := by
  intro W _
  go_enter Try.func43, Try.ntmps43
  go_wp2_with fail
  go_region
  go_wp2_with fail
  go_ret
  exact ⟨rfl, ((Below.refl _ W).alloc (Nat.le_refl _) _).drew⟩

set_option maxHeartbeats 1600000 in
set_option maxRecDepth 1000000 in
theorem at_out {g : Nat} {w : World} {base n : Nat} {cells : List Value} {v : Value} {limit : Int} (H : HeapIs w base g n cells limit v) (t a : Int) (s : ByteArray) (ha : a < 0 ∨ (n : Int) ≤ a) :
    AtNone (.pointer (some ⟨g, 0, none⟩)) t a s w := by
  intro W hW
  have H' := H.below hW
  obtain ⟨ad, cap, rfl⟩ : ∃ ad cap, v = .slice ad n cap := by
    rcases H.own.2 with ⟨h1, h2⟩ | ⟨g', cap, _, h1, _⟩
    · exact ⟨none, 0, by rw [h1, h2]⟩
    · exact ⟨_, cap, h1⟩
  have hgl := H'.lt
  have k0 : W.cell? ⟨g, 0, none⟩ = some (.slice ad n cap) := by rw [cell_of_row W g 0 _ 65 (0,0) H'.blk]; rfl
  clear hW H H'
  go_enter Try.func43, Try.ntmps43
  by_cases h0 : a < 0
  · have d0 : decide (a < 0) = true := decide_eq_true h0
    go_wp2_with fail
    go_quiet (fail)
    go_wp2_with fail
    go_ret
    exact ⟨rfl, pw_below_drewN ((Below.refl _ W).alloc (Nat.le_refl _) _) _⟩
  · have h1 : (n : Int) ≤ a := by omega
    have d0 : decide (a < 0) = false := decide_eq_false h0
    have d1 : decide ((n : Int) ≤ a) = true := decide_eq_true h1
    clear ha
    go_wp2_with fail
    go_quiet (fail)
    go_wp2_with fail
    go_ret
    exact ⟨rfl, pw_below_drewN ((Below.refl _ W).alloc (Nat.le_refl _) _) _⟩

theorem HeapIs.cell {g : Nat} {w : World} {base n : Nat} {cells : List Value} {v : Value} {limit : Int} (H : HeapIs w base g n cells limit v) {a : Nat} (ha : a < n) :
    ∃ gv cap, v = .slice (some ⟨gv, 0, none⟩) n cap ∧ gv < w.heap.size ∧ gv ≠ g ∧ n ≤ cap ∧ (∀ j u, cells[a * 8 + j]? = some u → w.cell? ⟨gv, a * 8 + j, none⟩ = some u ∧ w.frozen? ⟨gv, a * 8 + j, none⟩ = false) := by
  rcases H.own.2 with ⟨h1, h2⟩ | ⟨g', cap, cur, h1, _, h2, h3, _⟩
  · omega
  · subst h1
    refine ⟨g', cap, rfl, blk_lt h2, fun e => H.ne (by rw [e]; rfl), h3, fun j u hj => ⟨?_, frozen_of_row w g' _ _ 68 h2⟩⟩
    have := H.own.cells (g := g') rfl _ _ hj
    rwa [show (⟨g', 0, none⟩ : Addr).add (a * 8 + j) = ⟨g', a * 8 + j, none⟩ by unfold Addr.add; split <;> simp_all] at this

set_option maxHeartbeats 1600000 in
set_option maxRecDepth 1000000 in
theorem at_tag {g : Nat} {w : World} {base n : Nat} {cells : List Value} {v : Value} {limit : Int} (H : HeapIs w base g n cells limit v) (t t' : Int) (a : Nat) (s : ByteArray) (ha : a < n)
    (hc : cells[a * 8]? = some (.int .u8 t')) (hne : (t' != t) = true) : AtNone (.pointer (some ⟨g, 0, none⟩)) t a s w := by
  intro W hW
  have H' := H.below hW
  obtain ⟨gv, cap, rfl, hgv, hgg, hcap, hcell⟩ := H'.cell ha
  have hgl := H'.lt
  have k0 : W.cell? ⟨g, 0, none⟩ = some (.slice (some ⟨gv, 0, none⟩) n cap) := by rw [cell_of_row W g 0 _ 65 (0,0) H'.blk]; rfl
  have k2 : W.cell? ⟨gv, a * 8, none⟩ = some (.int .u8 t') := by simpa using (hcell 0 _ hc).1
  have hfew : n ≤ 1048576 := H.few
  clear hW H H' hcell hc
  have h0 : ¬ (a : Int) < 0 := by omega
  have h1 : ¬ (n : Int) ≤ a := by omega
  have h2 : (a : Int).toNat = a := by omega
  have h1' : (a : Int) < n := by omega
  have d0 : decide ((a : Int) < 0) = false := decide_eq_false h0
  have d1 : decide ((n : Int) ≤ a) = false := decide_eq_false h1
  go_enter Try.func43, Try.ntmps43
  go_wp2_with fail
  go_quiet (fail)
  go_wp2_with fail
  go_ret
  exact ⟨rfl, pw_below_drewN ((Below.refl _ W).alloc (Nat.le_refl _) _) _⟩

set_option maxHeartbeats 1600000 in
set_option maxRecDepth 1000000 in
theorem at_hit {g : Nat} {w : World} {base n : Nat} {cells : List Value} {limit : Int} {gv cap : Nat} (H : HeapIs w base g n cells limit (.slice (some ⟨gv, 0, none⟩) n cap)) (t : Int) (a : Nat) (ha : a < n)
    (hc : cells[a * 8]? = some (.int .u8 t)) : AtHit (.pointer (some ⟨g, 0, none⟩)) t a ⟨#[]⟩ gv (a * 8) w := by
  intro W hW
  have H' := H.below hW
  obtain ⟨gv', cap', hv, hgv, hgg, hcap, hcell⟩ := H'.cell ha
  obtain ⟨rfl, rfl⟩ : gv' = gv ∧ cap' = cap := by simp at hv; exact ⟨hv.1.symm, hv.2.symm⟩
  have hgl := H'.lt
  have k0 : W.cell? ⟨g, 0, none⟩ = some (.slice (some ⟨gv', 0, none⟩) n cap') := by rw [cell_of_row W g 0 _ 65 (0,0) H'.blk]; rfl
  have k2 : W.cell? ⟨gv', a * 8, none⟩ = some (.int .u8 t) := by simpa using (hcell 0 _ hc).1
  have hfew : n ≤ 1048576 := H.few
  clear hW H H' hcell hc hv
  have h0 : ¬ (a : Int) < 0 := by omega
  have h1 : ¬ (n : Int) ≤ a := by omega
  have h2 : (a : Int).toNat = a := by omega
  have h1' : (a : Int) < n := by omega
  have d0 : decide ((a : Int) < 0) = false := decide_eq_false h0
  have d1 : decide ((n : Int) ≤ a) = false := decide_eq_false h1
  go_enter Try.func43, Try.ntmps43
  go_wp2_with fail
  go_quiet (fail)
  go_wp2_with fail
  go_quiet (fail)
  go_wp2_with fail
  go_ret
  exact ⟨rfl, pw_below_drewN (pw_below_drewN ((Below.refl _ W).alloc (Nat.le_refl _) _) _) _⟩

set_option maxHeartbeats 1600000 in
set_option maxRecDepth 1000000 in
theorem of_bad {p : Value} {t a tag : Int} {s : ByteArray} {w : World} (h : AtNone p t a s w) :
    Calls Try.prog 44 #[p, .agg #[.int .u8 t, .int .i64 a, .string s], .int .u8 tag] w fun e w' =>
      ∃ q, e = .returned (.tuple #[.pointer (some ⟨q, 0, none⟩), .int .i64 2]) ∧ Below w.heap.size w w' ∧ w.heap.size ≤ q ∧
        w'.heap[q]? = some (.cells #[.int .u8 0, .int .u8 0, .int .i64 0, .string ⟨#[]⟩, .int .u8 0, .int .i64 0, .string ⟨#[]⟩, .int .i64 0] 68 (0, 0)) := by
  have h1 := h _ ((Below.refl _ w).alloc (Nat.le_refl _) (.cells #[.int .u8 t, .int .i64 a, .string s] 26))
  clear h
  go_enter Try.func44, Try.ntmps44
  go_wp2_with fail
  refine Calls.mono h1 ?_
  rintro e w1 ⟨rfl, hb⟩
  have hb1 : Below w.heap.size w w1 := ((Below.refl _ w).alloc (Nat.le_refl _) _).trans (hb.mono (by simp))
  clear h1 hb
  go_wp2_with fail
  go_ret2
  exact ⟨_, rfl, hb1.alloc hb1.size _, hb1.size, blk_new w1 _⟩

set_option maxHeartbeats 1600000 in
set_option maxRecDepth 1000000 in
theorem of_hit {p : Value} {t a : Int} {s : ByteArray} {q o : Nat} {w : World} (h : AtHit p t a s q o w) (hc : w.cell? ⟨q, o, none⟩ = some (.int .u8 t)) :
    Calls Try.prog 44 #[p, .agg #[.int .u8 t, .int .i64 a, .string s], .int .u8 t] w fun e w' =>
      e = .returned (.tuple #[.pointer (some ⟨q, o, none⟩), .int .i64 0]) ∧ Below w.heap.size w w' := by
  have h1 := h _ ((Below.refl _ w).alloc (Nat.le_refl _) (.cells #[.int .u8 t, .int .i64 a, .string s] 26))
  have hq : q < w.heap.size := World.block_lt_of_cell? w ⟨q, o, none⟩ hc
  clear h
  go_enter Try.func44, Try.ntmps44
  go_wp2_with fail
  refine Calls.mono h1 ?_
  rintro e w1 ⟨rfl, hb⟩
  have hb1 : Below w.heap.size w w1 := ((Below.refl _ w).alloc (Nat.le_refl _) _).trans (hb.mono (by simp))
  have hc1 := (hb1.cell (p := ⟨q, o, none⟩) hq).trans hc
  clear h1 hb hc
  go_wp2_with fail
  go_ret2
  exact ⟨rfl, hb1⟩
end Go.Proofs.Ytahcnpjgbhpbeaa.HP
