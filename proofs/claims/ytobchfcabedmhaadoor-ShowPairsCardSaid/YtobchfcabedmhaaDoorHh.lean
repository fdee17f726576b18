/- The document's example. -/
import Derived.Test.YtobchfcabedmhaaDoorHg
namespace Go.Proofs.YtobchfcabedmhaaDoor.NW
open Go.RowKit Go.Proofs.YtobchfcabedmhaaDoorW.PrintWords Go.Proofs.YtobchfcabedmhaaDoor.PS
set_option linter.unusedVariables false
set_option linter.unusedSimpArgs false
section
variable {w w' : World} {base g n : Nat} {cells : List Value} {limit : Int} {v : Value} {t : Int} {new : List Value} {a b c : Int}
theorem Adds.room (h : Adds w w' base g n cells limit v t new a b c) (hn : (n : Int) < limit) :
    a = t ∧ b = n ∧ c = 0 ∧ ∃ v', HeapIs w' base g (n + 1) (cells ++ new) limit v' ∧ Fr w w' g v.ownBlock ∧ (v'.ownBlock = v.ownBlock ∨ ∃ k, v'.ownBlock = some k ∧ w.heap.size ≤ k) := by
  rcases h.2 with ⟨h1, _⟩ | ⟨_, e2, e3, e4, v', e5, e6⟩
  · omega
  · exact ⟨e2, e3, e4, v', e5, h.1, e6⟩
theorem HeapIs.fr {w0 : World} {B : Nat} (H : HeapIs w base g n cells limit v) (hb : Below B w0 w) (hF : Fr w w' g v.ownBlock) (hg : B ≤ g) (hB : B ≤ base) : Below B w0 w' :=
  ⟨hF.os.trans hb.os, hF.tape.trans hb.tape, hF.output.trans hb.output, Nat.le_trans hb.size hF.size, fun k hk =>
    (hF.block k (by have := H.base_le; omega) (by omega) (fun e => by have := (H.own.lt k e.symm).1; omega)).trans (hb.block k hk)⟩
end
theorem pairCells_snoc (ps : List (S24 × S24)) (a b : S24) : pairCells ps ++ [.int .u8 4, .int .u8 a.f0, .int .i64 a.f1, .string a.f2, .int .u8 b.f0, .int .i64 b.f1, .string b.f2, .int .i64 0] = pairCells (ps ++ [(a, b)]) := by
  simp [pairCells]
/-- a heap of pairs that may take more -/
def HpIs (w : World) (base g : Nat) (ps : List (S24 × S24)) (limit : Int) : Prop := limit ≤ 1048576 ∧ ∃ v, HeapIs w base g ps.length (pairCells ps) limit v
theorem HpIs.below {w w1 : World} {base g : Nat} {ps : List (S24 × S24)} {limit : Int} (h : HpIs w base g ps limit) (hb : Below w.heap.size w w1) : HpIs w1 base g ps limit := ⟨h.1, h.2.imp fun _ h => h.below hb⟩
theorem HpIs.ok {w : World} {base g : Nat} {ps : List (S24 × S24)} {limit : Int} (h : HpIs w base g ps limit) : HvOk (.iface 26 (.pointer (some ⟨g, 0, none⟩))) ps w := .inr ⟨g, base, limit, h.2.choose, rfl, h.2.choose_spec⟩
theorem pairUp_calls {w : World} {base g : Nat} {ps : List (S24 × S24)} {limit : Int} (H : HpIs w base g ps limit) (hn : (ps.length : Int) < limit) (hg : base ≤ g) (a b : S24) :
    Calls Tryd.prog 11 #[.pointer (some ⟨g, 0, none⟩), .agg #[.int .u8 a.f0, .int .i64 a.f1, .string a.f2], .agg #[.int .u8 b.f0, .int .i64 b.f1, .string b.f2]] w fun e w' => e = .returned (.tuple #[.agg #[.int .u8 4, .int .i64 ps.length, .string ⟨#[]⟩], .int .i64 0]) ∧ HpIs w' base g (ps ++ [(a, b)]) limit ∧ Below base w w' ∧ ∀ k, k < w.heap.size → k ≠ g → (∀ c d, w.heap[k]? = some (.cells c d (0, 0)) → d ≠ 49) → w'.heap[k]? = w.heap[k]? := by
  obtain ⟨hl, v, H⟩ := H
  refine (Pair_any H hl a.f0 a.f1 b.f0 b.f1 a.f2 b.f2).mono ?_
  rintro e w' ⟨x, y, z, rfl, hA⟩
  obtain ⟨rfl, rfl, rfl, v', H', hF, _⟩ := hA.room hn
  rw [pairCells_snoc] at H'
  refine ⟨rfl, ⟨hl, v', by rw [List.length_append]; exact H'⟩, H.fr (Below.refl base w) hF hg (Nat.le_refl _), fun k hk hg' hd => hF.block k hk hg' (fun e => ?_)⟩
  obtain ⟨cells, hc⟩ := own_typed H.own k e.symm
  exact hd _ _ hc rfl
theorem itoa_one : Lib.itoa 1 = [49] := by
  unfold Lib.itoa; rw [if_neg (by decide), show (1 : Int).toNat = 1 from rfl, Lib.decDigits, dif_pos (by decide)]; rfl
theorem shown_awake : showF [(⟨1, 1, ⟨#[]⟩⟩, ⟨2, 1, ⟨#[]⟩⟩)] 6 ⟨4, 0, ⟨#[]⟩⟩ = [40, 49, 32, 46, 32, 116, 114, 117, 101, 41] := by
  simp [showF, atomB, pairAt, itoa_one]
set_option maxHeartbeats 1600000 in
set_option maxRecDepth 1000000 in
theorem awake_calls (w : World) (hP : PowOk w) :
    Calls Tryd.prog 8 #[] w fun e w' => e = .returned (.bool true) ∧ Below w.heap.size w w' := by
  have HP := Aside0.mk hP
  clear hP
  go_enter Tryd.func8, Tryd.ntmps8
  go_upto_region 2 with (first | (go_at_call 9; (refine Calls.mono (New_any _ 5 w.heap.size (Nat.le_refl _) (by decide)) ?_); rintro e w1 ⟨rfl, hb1, hs1, H1⟩))
  have HH1 := Aside0.mk (show HpIs w1 w.heap.size w.heap.size [] 5 from ⟨by decide, _, by have h := H1; rw [show (min (max 5 0) 1048576 : Int) = 5 by omega] at h; exact h⟩)
  have HB1 := Aside0.mk hb1
  clear H1 hb1 hs1
  go_upto_region 3 with (first | (go_at_call 11; (with_reducible refine (pairUp_calls HH1.out (by decide) (Nat.le_refl _) ⟨1, 1, ⟨#[]⟩⟩ ⟨2, 1, ⟨#[]⟩⟩).mono ?_); rintro e w2 ⟨rfl, hh2, hb2, _⟩; have HH2 := Aside0.mk hh2; have HB2 := Aside0.mk (HB1.out.trans hb2); clear hh2 hb2))
  have HBA := Aside0.mk (below_alloc (Below.refl w2.heap.size w2) (.cells #[.int .u8 4, .int .i64 0, .string ⟨#[]⟩] 24))
  have HN := Aside0.mk (blk_new w2 (.cells #[.int .u8 4, .int .i64 0, .string ⟨#[]⟩] 24))
  have HB3 := Aside0.mk (below_then HB2.out HB2.out.size HBA.out)
  have HH3 := Aside0.mk (HH2.out.below HBA.out)
  generalize w2.alloc _ = w3 at HN HB3 HH3 HBA ⊢
  generalize w2.heap.size = gb at HN ⊢
  have c0 := (blk_cell HN.out 0).trans rfl
  have c1 := (blk_cell HN.out 1).trans rfl
  have c2 := (blk_cell HN.out 2).trans rfl
  have HS := Aside0.mk (show_calls (HP.out.below HB3.out) (ps := [] ++ [(⟨1, 1, ⟨#[]⟩⟩, ⟨2, 1, ⟨#[]⟩⟩)]) (by
    intro p hp
    simp at hp
    subst hp
    exact ⟨⟨by decide, by decide, by decide, fun _ => rfl⟩, ⟨by decide, by decide, by decide, fun _ => rfl⟩⟩) HH3.out.ok rfl ⟨4, 0, ⟨#[]⟩⟩ ⟨by decide, by decide, by decide, fun _ => rfl⟩)
  rw [List.nil_append, shown_awake] at HS
  go_wp2_with (first | (go_at_call 12; (with_reducible refine HS.out.mono ?_); rintro e w4 ⟨rfl, hb4⟩; have HB4 := Aside0.mk hb4; clear hb4))
  go_ret
  exact ⟨rfl, below_then HB3.out HB3.out.size HB4.out⟩
end Go.Proofs.YtobchfcabedmhaaDoor.NW
