/- The document's example of a full heap comes to true, and leaves all that was there as it was. -/
import Derived.Test.YtahcnpjgbhpbeaaHb
namespace Go.Proofs.Ytahcnpjgbhpbeaa.HP
open Go.RowKit Go.Proofs.YtahcnpjgbhpbeaaW.PrintWords
set_option linter.unusedVariables false
set_option linter.unusedSimpArgs false

section
variable {w w' : World} {base g n : Nat} {cells : List Value} {limit : Int} {v : Value} {t : Int} {new : List Value} {a b c : Int}
theorem Adds.room (h : Adds w w' base g n cells limit v t new a b c) (hn : (n : Int) < limit) :
    a = t ∧ b = n ∧ c = 0 ∧ ∃ v', HeapIs w' base g (n + 1) (cells ++ new) limit v' ∧ Fr w w' g v.ownBlock ∧ (v'.ownBlock = v.ownBlock ∨ ∃ k, v'.ownBlock = some k ∧ w.heap.size ≤ k) := by
  rcases h.2 with ⟨h1, _⟩ | ⟨_, e2, e3, e4, v', e5, e6⟩
  · omega
  · exact ⟨e2, e3, e4, v', e5, h.1, e6⟩
theorem Adds.full (h : Adds w w' base g n cells limit v t new a b c) (hn : limit ≤ (n : Int)) :
    a = 0 ∧ b = 0 ∧ c = 17 ∧ HeapIs w' base g n cells limit v ∧ Fr w w' g v.ownBlock := by
  rcases h.2 with ⟨_, e2, e3, e4, e5⟩ | ⟨h1, _⟩
  · exact ⟨e2, e3, e4, e5, h.1⟩
  · omega
theorem HeapIs.fr {w0 : World} {B : Nat} (H : HeapIs w base g n cells limit v) (hb : Below B w0 w) (hF : Fr w w' g v.ownBlock) (hg : B ≤ g) (hB : B ≤ base) : Below B w0 w' :=
  ⟨hF.os.trans hb.os, hF.tape.trans hb.tape, hF.output.trans hb.output, Nat.le_trans hb.size hF.size, fun k hk =>
    (hF.block k (by have := H.base_le; omega) (by omega) (fun e => by have := (H.own.lt k e.symm).1; omega)).trans (hb.block k hk)⟩
end

set_option maxHeartbeats 1600000 in
set_option maxRecDepth 1000000 in
theorem awake_calls (w : World) :
    Calls Try.prog 15 #[] w fun e w' => e = .returned (.bool true) ∧ Below w.heap.size w w' := by
  go_enter Try.func15, Try.ntmps15
  go_wp2_with (go_at_call 16; refine Calls.mono (New_any _ 1 w.heap.size (Nat.le_refl _) (by decide)) ?_; rintro e w1 ⟨rfl, hb1, hs1, H1⟩)
  have H1' : HeapIs w1 w.heap.size w.heap.size 0 [] 1 (.slice none 0 0) := by have h := H1; rw [show (min (max 1 0) 1048576 : Int) = 1 by omega] at h; exact h
  clear H1
  refine Calls.mono (Pair_any H1' (by omega) 0 0 0 0 ⟨#[]⟩ ⟨#[]⟩) ?_
  rintro e w2 ⟨a, b, c, rfl, hA⟩
  obtain ⟨rfl, rfl, rfl, v2, H2, hF2, hv2⟩ := hA.room (by omega)
  have hb2 := H1'.fr hb1 hF2 (Nat.le_refl _) (Nat.le_refl _)
  go_wp2_with fail
  have hb3 : Below w2.heap.size w2 (w2.alloc (.cells #[.int .u8 4, .int .i64 0, .string ⟨#[]⟩] 26)) := (Below.refl _ _).alloc (Nat.le_refl _) _
  have H3 := H2.below hb3
  refine Calls.mono (Pair_any H3 (by omega) 4 0 4 0 ⟨#[]⟩ ⟨#[]⟩) ?_
  rintro e w3 ⟨a, b, c, rfl, hA⟩
  obtain ⟨rfl, rfl, rfl, H4, hF4⟩ := hA.full (by omega)
  have q := H2.apart (Nat.le_refl _)
  have hR : w3.heap[w2.heap.size]? = some (.cells #[.int .u8 4, .int .i64 0, .string ⟨#[]⟩] 26 (0, 0)) := (hF4.block _ (by simp) q.1 q.2).trans (blk_new w2 _)
  have hbs : w.heap.size ≤ w2.heap.size := hb2.size
  have hb4 := H3.fr (hb2.alloc hb2.size _) hF4 (Nat.le_refl _) (Nat.le_refl _)
  have c0 : w3.cell? ⟨w2.heap.size, 0, none⟩ = some (.int .u8 4) := by rw [cell_of_row w3 _ 0 _ 26 (0,0) hR]; rfl
  have hlt3 : w2.heap.size < w3.heap.size := blk_lt hR
  clear hR H4 hF4 H3 hF2 H2 hb1 H1' hA
  go_wp2_with fail
  go_ret
  exact ⟨rfl, hb4.alloc hb4.size _⟩
end Go.Proofs.Ytahcnpjgbhpbeaa.HP
