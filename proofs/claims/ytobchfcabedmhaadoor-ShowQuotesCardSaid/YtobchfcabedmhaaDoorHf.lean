/- shower.pair: what it writes. -/
import Derived.Test.YtobchfcabedmhaaDoorHe
namespace Go.Proofs.YtobchfcabedmhaaDoor.NW
open Go.RowKit Go.Proofs.YtobchfcabedmhaaDoorW.PrintWords Go.Proofs.YtobchfcabedmhaaDoor.PS
set_option linter.unusedVariables false
set_option linter.unusedSimpArgs false
/-- what the pairs are asked of: nil, or a heap of these pairs -/
def HvOk (hv : Value) (ps : List (S24 × S24)) (w0 : World) : Prop :=
  (hv = .nilIface ∧ ps = []) ∨ ∃ gh base limit vv, hv = .iface 26 (.pointer (some ⟨gh, 0, none⟩)) ∧ HeapIs w0 base gh ps.length (pairCells ps) limit vv
theorem prB_nil : ∀ (f : Nat) (n : Int), prB [] f n = [46, 46]
  | 0, _ => rfl
  | f + 1, n => by
    have : pairAt [] n = none := by unfold pairAt; split <;> simp
    show (match pairAt [] n with | none => [46, 46] | some p => [40] ++ showF [] f p.1 ++ [32, 46, 32] ++ showF [] f p.2 ++ [41]) = _
    rw [this]
theorem prB_succ (ps : List (S24 × S24)) (f : Nat) (n : Int) : prB ps (f + 1) n = match pairAt ps n with | none => [46, 46] | some p => [40] ++ showF ps f p.1 ++ [32, 46, 32] ++ showF ps f p.2 ++ [41] := rfl
set_option maxHeartbeats 3200000 in
set_option maxRecDepth 1000000 in
theorem pair_of {hv : Value} {ps : List (S24 × S24)} {w0 : World} {g f : Nat} (hps : ∀ p ∈ ps, Good p.1 ∧ Good p.2) (hh : HvOk hv ps w0) (hf : f ≤ 6) (hV : ∀ f', f = f' + 1 → ValOk hv ps w0 g f') : PairOk hv ps w0 g f := by
  intro n v0 l w dq hdq hb hs hl
  have hba := below_alloc (Below.refl w.heap.size w) (.cells #[.int .u8 4, .int .i64 n, .string ⟨#[]⟩] 24)
  have HI := Aside0.mk (blk_new w (.cells #[.int .u8 4, .int .i64 n, .string ⟨#[]⟩] 24))
  have hs1 := hs.below hba
  have HS1 := Aside0.mk hs1
  have HPRE := Aside0.mk (show ∀ l2 w5, Wrote w0.heap.size g hv v0 l2 (w.alloc (.cells #[.int .u8 4, .int .i64 n, .string ⟨#[]⟩] 24)) w5 → Wrote w0.heap.size g hv v0 l2 w w5 from fun l2 w5 h => Wrote.pre hba h)
  have HW := Aside0.mk (below_then hb hb.size hba)
  have HL := Aside0.mk hl
  have HL0 := Aside0.mk (show l.length ≤ 700000000 by omega)
  have hd7 : 1 ≤ dq ∧ dq ≤ 7 := by omega
  obtain ⟨pp, _, hbk⟩ := hs1.ex
  have c0 := (blk_cell hbk 0).trans rfl
  have HV := Aside0.mk hV
  have HH := Aside0.mk hh
  have HPS := Aside0.mk hps
  have HDQ := Aside0.mk hdq
  clear hs hs1 hb hl hbk hV hh hps hdq hba
  go_enter Tryd.func26, Tryd.ntmps26
  go_upto_region 1 with fail
  generalize w.alloc (.cells #[.int .u8 4, .int .i64 n, .string ⟨#[]⟩] 24) = w1 at HI HS1 HW HPRE c0 ⊢
  generalize w.heap.size = gb at HI ⊢
  by_cases h7 : 6 < dq
  · have d7 : decide (6 < dq) = true := decide_eq_true h7
    have HF := Aside0.mk (show f = 0 by have := HDQ.out; omega)
    go_wp2_with (first | (go_at_call 23; (with_reducible refine (writeString_on (Wrote.start HS1.out) ⟨#[46, 46]⟩ (by decide) (by have := HL0.out; omega)).mono ?_); rintro e w5 ⟨⟨rr, rfl⟩, hw5⟩; have HW5 := Aside0.mk hw5; clear hw5))
    refine bodyPost_ret (results_none rfl _ _ _) rfl ?_
    exact ⟨rfl, by rw [HF.out]; exact HPRE.out _ _ HW5.out⟩
  have d7 : decide (6 < dq) = false := decide_eq_false h7
  obtain ⟨f', rfl⟩ : ∃ f', f = f' + 1 := ⟨f - 1, by have := HDQ.out; omega⟩
  rcases HH.out with ⟨rfl, hp0⟩ | ⟨gh, base, limit, vv, rfl, hheap⟩
  · have HF := Aside0.mk (show prB ps (f' + 1) n = [46, 46] by rw [hp0]; exact prB_nil _ _)
    clear hp0
    go_wp2_with (first | (go_at_call 23; (with_reducible refine (writeString_on (Wrote.start HS1.out) ⟨#[46, 46]⟩ (by decide) (by have := HL0.out; omega)).mono ?_); rintro e w5 ⟨⟨rr, rfl⟩, hw5⟩; have HW5 := Aside0.mk hw5; clear hw5))
    refine bodyPost_ret (results_none rfl _ _ _) rfl ?_
    exact ⟨rfl, by rw [HF.out]; exact HPRE.out _ _ HW5.out⟩
  have HHP := Aside0.mk hheap
  clear hheap
  have j0 := (blk_cell HI.out 0).trans rfl
  have j1 := (blk_cell HI.out 1).trans rfl
  have j2 := (blk_cell HI.out 2).trans rfl
  go_upto_region 3 with fail
  have HFST := Aside0.mk (show ∀ W, Below w1.heap.size w1 W → Calls Tryd.prog 58 #[.pointer (some ⟨gh, 0, none⟩), .agg #[.int .u8 4, .int .i64 n, .string ⟨#[]⟩]] W fun e w' => e = .returned (.tuple #[.agg #[.int .u8 (fstOf ps n).1.f0, .int .i64 (fstOf ps n).1.f1, .string (fstOf ps n).1.f2], .int .i64 (fstOf ps n).2]) ∧ Below W.heap.size W w' from fun W hW => fst_calls HHP.out (below_then HW.out HW.out.size hW) n)
  have HSND := Aside0.mk (show ∀ W, Below w1.heap.size w1 W → Calls Tryd.prog 60 #[.pointer (some ⟨gh, 0, none⟩), .agg #[.int .u8 4, .int .i64 n, .string ⟨#[]⟩]] W fun e w' => e = .returned (.tuple #[.agg #[.int .u8 (sndOf ps n).1.f0, .int .i64 (sndOf ps n).1.f1, .string (sndOf ps n).1.f2], .int .i64 (sndOf ps n).2]) ∧ Below W.heap.size W w' from fun W hW => snd_calls HHP.out (below_then HW.out HW.out.size hW) n)
  have S0 : w1.cell? ⟨g, 0, none⟩ = some (.iface 26 (.pointer (some ⟨gh, 0, none⟩))) ∧ w1.cell? ⟨gb, 0, none⟩ = some (.int .u8 4) ∧ w1.cell? ⟨gb, 1, none⟩ = some (.int .i64 n) ∧ w1.cell? ⟨gb, 2, none⟩ = some (.string ⟨#[]⟩) := ⟨c0, j0, j1, j2⟩
  have HC := HFST
  go_cut [6, 7] from 23 to 31 (fun p e wx => ∃ gc, p = .pointer (some ⟨gc, 0, none⟩) ∧ e = .int .i64 (fstOf ps n).2 ∧ Aside0 (Below w1.heap.size w1 wx) ∧ Aside0 (wx.heap[gc]? = some (.cells #[.int .u8 (fstOf ps n).1.f0, .int .i64 (fstOf ps n).1.f1, .string (fstOf ps n).1.f2] 24 (0, 0))) ∧ Aside0 (w1.heap.size ≤ gc))
  case first =>
    have hbA := below_alloc (Below.refl w1.heap.size w1) (.cells #[.int .u8 0, .int .i64 0, .string ⟨#[]⟩] 24)
    have SA : (w1.alloc (.cells #[.int .u8 0, .int .i64 0, .string ⟨#[]⟩] 24)).cell? ⟨g, 0, none⟩ = some (.iface 26 (.pointer (some ⟨gh, 0, none⟩))) ∧ (w1.alloc (.cells #[.int .u8 0, .int .i64 0, .string ⟨#[]⟩] 24)).cell? ⟨gb, 0, none⟩ = some (.int .u8 4) ∧ (w1.alloc (.cells #[.int .u8 0, .int .i64 0, .string ⟨#[]⟩] 24)).cell? ⟨gb, 1, none⟩ = some (.int .i64 n) ∧ (w1.alloc (.cells #[.int .u8 0, .int .i64 0, .string ⟨#[]⟩] 24)).cell? ⟨gb, 2, none⟩ = some (.string ⟨#[]⟩) := ⟨(hbA.cell (World.block_lt_of_cell? _ _ S0.1)).trans S0.1, (hbA.cell (World.block_lt_of_cell? _ _ S0.2.1)).trans S0.2.1, (hbA.cell (World.block_lt_of_cell? _ _ S0.2.2.1)).trans S0.2.2.1, (hbA.cell (World.block_lt_of_cell? _ _ S0.2.2.2)).trans S0.2.2.2⟩
    go_region_held3 (fun W' => W'.cell? ⟨g, 0, none⟩ = some (.iface 26 (.pointer (some ⟨gh, 0, none⟩))) ∧ W'.cell? ⟨gb, 0, none⟩ = some (.int .u8 4) ∧ W'.cell? ⟨gb, 1, none⟩ = some (.int .i64 n) ∧ W'.cell? ⟨gb, 2, none⟩ = some (.string ⟨#[]⟩)) (first | exact S0 | exact SA | exact S2 | exact S3 _ | exact S5 | fail)
      (first
      | (go_at_call 58; (with_reducible refine (HC.out (w1.alloc (.cells #[.int .u8 0, .int .i64 0, .string ⟨#[]⟩] 24)).drew (below_drew hbA)).mono ?_); rintro e w2 ⟨rfl, hb2⟩; have hn := blk_below (blk_drew (blk_new w1 (.cells #[.int .u8 0, .int .i64 0, .string ⟨#[]⟩] 24))) hb2; have q0 := (blk_cell hn 0).trans rfl; have q1 := (blk_cell hn 1).trans rfl; have q2 := (blk_cell hn 2).trans rfl; have g0 := blk_frozen hn 0; have g1 := blk_frozen hn 1; have g2 := blk_frozen hn 2; have HN := Aside0.mk hn; have S2 : w2.cell? ⟨g, 0, none⟩ = some (.iface 26 (.pointer (some ⟨gh, 0, none⟩))) ∧ w2.cell? ⟨gb, 0, none⟩ = some (.int .u8 4) ∧ w2.cell? ⟨gb, 1, none⟩ = some (.int .i64 n) ∧ w2.cell? ⟨gb, 2, none⟩ = some (.string ⟨#[]⟩) := (by exact ⟨(((below_drew (Below.refl _ (w1.alloc (.cells #[.int .u8 0, .int .i64 0, .string ⟨#[]⟩] 24)))).trans hb2).cell (World.block_lt_of_cell? _ _ SA.1)).trans SA.1, (((below_drew (Below.refl _ (w1.alloc (.cells #[.int .u8 0, .int .i64 0, .string ⟨#[]⟩] 24)))).trans hb2).cell (World.block_lt_of_cell? _ _ SA.2.1)).trans SA.2.1, (((below_drew (Below.refl _ (w1.alloc (.cells #[.int .u8 0, .int .i64 0, .string ⟨#[]⟩] 24)))).trans hb2).cell (World.block_lt_of_cell? _ _ SA.2.2.1)).trans SA.2.2.1, (((below_drew (Below.refl _ (w1.alloc (.cells #[.int .u8 0, .int .i64 0, .string ⟨#[]⟩] 24)))).trans hb2).cell (World.block_lt_of_cell? _ _ SA.2.2.2)).trans SA.2.2.2⟩); have HB2 := Aside0.mk (below_then (below_drew (below_alloc (Below.refl w1.heap.size w1) (.cells #[.int .u8 0, .int .i64 0, .string ⟨#[]⟩] 24))) (by show w1.heap.size ≤ (w1.alloc (.cells #[.int .u8 0, .int .i64 0, .string ⟨#[]⟩] 24)).heap.size; rw [World.size_alloc]; omega) hb2); have HBX := Aside0.mk (((HB2.out.setCell (p := ⟨w1.heap.size, 0, none⟩) (Nat.le_refl _) (.int .u8 (fstOf ps n).1.f0)).setCell (p := ⟨w1.heap.size, 1, none⟩) (Nat.le_refl _) (.int .i64 (fstOf ps n).1.f1)).setCell (p := ⟨w1.heap.size, 2, none⟩) (Nat.le_refl _) (.string (fstOf ps n).1.f2)); have S5 : (((w2.setCell ⟨w1.heap.size, 0, none⟩ (.int .u8 (fstOf ps n).1.f0)).setCell ⟨w1.heap.size, 1, none⟩ (.int .i64 (fstOf ps n).1.f1)).setCell ⟨w1.heap.size, 2, none⟩ (.string (fstOf ps n).1.f2)).cell? ⟨g, 0, none⟩ = some (.iface 26 (.pointer (some ⟨gh, 0, none⟩))) ∧ (((w2.setCell ⟨w1.heap.size, 0, none⟩ (.int .u8 (fstOf ps n).1.f0)).setCell ⟨w1.heap.size, 1, none⟩ (.int .i64 (fstOf ps n).1.f1)).setCell ⟨w1.heap.size, 2, none⟩ (.string (fstOf ps n).1.f2)).cell? ⟨gb, 0, none⟩ = some (.int .u8 4) ∧ (((w2.setCell ⟨w1.heap.size, 0, none⟩ (.int .u8 (fstOf ps n).1.f0)).setCell ⟨w1.heap.size, 1, none⟩ (.int .i64 (fstOf ps n).1.f1)).setCell ⟨w1.heap.size, 2, none⟩ (.string (fstOf ps n).1.f2)).cell? ⟨gb, 1, none⟩ = some (.int .i64 n) ∧ (((w2.setCell ⟨w1.heap.size, 0, none⟩ (.int .u8 (fstOf ps n).1.f0)).setCell ⟨w1.heap.size, 1, none⟩ (.int .i64 (fstOf ps n).1.f1)).setCell ⟨w1.heap.size, 2, none⟩ (.string (fstOf ps n).1.f2)).cell? ⟨gb, 2, none⟩ = some (.string ⟨#[]⟩) := (by exact ⟨(HBX.out.cell (World.block_lt_of_cell? _ _ S0.1)).trans S0.1, (HBX.out.cell (World.block_lt_of_cell? _ _ S0.2.1)).trans S0.2.1, (HBX.out.cell (World.block_lt_of_cell? _ _ S0.2.2.1)).trans S0.2.2.1, (HBX.out.cell (World.block_lt_of_cell? _ _ S0.2.2.2)).trans S0.2.2.2⟩); clear hn hb2)
      | (go_at_call 58; (with_reducible refine (HC.out w1.drew (below_drew (Below.refl _ w1))).mono ?_); rintro e w2 ⟨rfl, hb2⟩; have HB2 := Aside0.mk ((below_drew (Below.refl w1.heap.size w1)).trans hb2); have S2 : w2.cell? ⟨g, 0, none⟩ = some (.iface 26 (.pointer (some ⟨gh, 0, none⟩))) ∧ w2.cell? ⟨gb, 0, none⟩ = some (.int .u8 4) ∧ w2.cell? ⟨gb, 1, none⟩ = some (.int .i64 n) ∧ w2.cell? ⟨gb, 2, none⟩ = some (.string ⟨#[]⟩) := (by exact ⟨(HB2.out.cell (World.block_lt_of_cell? _ _ S0.1)).trans S0.1, (HB2.out.cell (World.block_lt_of_cell? _ _ S0.2.1)).trans S0.2.1, (HB2.out.cell (World.block_lt_of_cell? _ _ S0.2.2.1)).trans S0.2.2.1, (HB2.out.cell (World.block_lt_of_cell? _ _ S0.2.2.2)).trans S0.2.2.2⟩); have S3 : ∀ o : Obj, (w2.alloc o).cell? ⟨g, 0, none⟩ = some (.iface 26 (.pointer (some ⟨gh, 0, none⟩))) ∧ (w2.alloc o).cell? ⟨gb, 0, none⟩ = some (.int .u8 4) ∧ (w2.alloc o).cell? ⟨gb, 1, none⟩ = some (.int .i64 n) ∧ (w2.alloc o).cell? ⟨gb, 2, none⟩ = some (.string ⟨#[]⟩) := (fun o => ⟨((below_alloc (Below.refl _ w2) o).cell (World.block_lt_of_cell? _ _ S2.1)).trans S2.1, ((below_alloc (Below.refl _ w2) o).cell (World.block_lt_of_cell? _ _ S2.2.1)).trans S2.2.1, ((below_alloc (Below.refl _ w2) o).cell (World.block_lt_of_cell? _ _ S2.2.2.1)).trans S2.2.2.1, ((below_alloc (Below.refl _ w2) o).cell (World.block_lt_of_cell? _ _ S2.2.2.2)).trans S2.2.2.2⟩); clear hb2))
    all_goals (go_wp2_with fail; go_meet; case rel => first | exact ⟨w2.heap.size, rfl, rfl, ⟨below_alloc HB2.out _⟩, ⟨blk_new w2 _⟩, ⟨HB2.out.size⟩⟩ | exact ⟨w1.heap.size, rfl, rfl, ⟨((HB2.out.setCell (p := ⟨w1.heap.size, 0, none⟩) (Nat.le_refl _) _).setCell (p := ⟨w1.heap.size, 1, none⟩) (Nat.le_refl _) _).setCell (p := ⟨w1.heap.size, 2, none⟩) (Nat.le_refl _) _⟩, ⟨blk_put (blk_put (blk_put HN.out 0 _ rfl) 1 _ rfl) 2 _ rfl⟩, ⟨Nat.le_refl _⟩⟩)
  case rest =>
    obtain ⟨gc1, rfl, rfl, HB3, HC3, HG3⟩ := hcut
    have S0' : wc.cell? ⟨g, 0, none⟩ = some (.iface 26 (.pointer (some ⟨gh, 0, none⟩))) ∧ wc.cell? ⟨gb, 0, none⟩ = some (.int .u8 4) ∧ wc.cell? ⟨gb, 1, none⟩ = some (.int .i64 n) ∧ wc.cell? ⟨gb, 2, none⟩ = some (.string ⟨#[]⟩) := ⟨(HB3.out.cell (World.block_lt_of_cell? _ _ S0.1)).trans S0.1, (HB3.out.cell (World.block_lt_of_cell? _ _ S0.2.1)).trans S0.2.1, (HB3.out.cell (World.block_lt_of_cell? _ _ S0.2.2.1)).trans S0.2.2.1, (HB3.out.cell (World.block_lt_of_cell? _ _ S0.2.2.2)).trans S0.2.2.2⟩
    replace HC := Aside0.mk (show ∀ W, Below wc.heap.size wc W → Calls Tryd.prog 60 #[.pointer (some ⟨gh, 0, none⟩), .agg #[.int .u8 4, .int .i64 n, .string ⟨#[]⟩]] W fun e w' => e = .returned (.tuple #[.agg #[.int .u8 (sndOf ps n).1.f0, .int .i64 (sndOf ps n).1.f1, .string (sndOf ps n).1.f2], .int .i64 (sndOf ps n).2]) ∧ Below W.heap.size W w' from fun W hW => HSND.out W (below_then HB3.out HB3.out.size hW))
    have HLT1 := Aside0.mk (blk_lt HC3.out)
    clear S0 HFST HSND c0 j0 j1 j2
    have S0 := S0'
    clear S0'
    generalize wc = w3 at S0 HC HB3 HC3 HLT1 ⊢
    go_upto_region 4 with fail
    go_cut [8, 9] from 32 to 40 (fun p e wx => ∃ gc, p = .pointer (some ⟨gc, 0, none⟩) ∧ e = .int .i64 (sndOf ps n).2 ∧ Aside0 (Below w3.heap.size w3 wx) ∧ Aside0 (wx.heap[gc]? = some (.cells #[.int .u8 (sndOf ps n).1.f0, .int .i64 (sndOf ps n).1.f1, .string (sndOf ps n).1.f2] 24 (0, 0))) ∧ Aside0 (w3.heap.size ≤ gc))
    case first =>
      have hbA := below_alloc (Below.refl w3.heap.size w3) (.cells #[.int .u8 0, .int .i64 0, .string ⟨#[]⟩] 24)
      have SA : (w3.alloc (.cells #[.int .u8 0, .int .i64 0, .string ⟨#[]⟩] 24)).cell? ⟨g, 0, none⟩ = some (.iface 26 (.pointer (some ⟨gh, 0, none⟩))) ∧ (w3.alloc (.cells #[.int .u8 0, .int .i64 0, .string ⟨#[]⟩] 24)).cell? ⟨gb, 0, none⟩ = some (.int .u8 4) ∧ (w3.alloc (.cells #[.int .u8 0, .int .i64 0, .string ⟨#[]⟩] 24)).cell? ⟨gb, 1, none⟩ = some (.int .i64 n) ∧ (w3.alloc (.cells #[.int .u8 0, .int .i64 0, .string ⟨#[]⟩] 24)).cell? ⟨gb, 2, none⟩ = some (.string ⟨#[]⟩) := ⟨(hbA.cell (World.block_lt_of_cell? _ _ S0.1)).trans S0.1, (hbA.cell (World.block_lt_of_cell? _ _ S0.2.1)).trans S0.2.1, (hbA.cell (World.block_lt_of_cell? _ _ S0.2.2.1)).trans S0.2.2.1, (hbA.cell (World.block_lt_of_cell? _ _ S0.2.2.2)).trans S0.2.2.2⟩
      go_region_held3 (fun W' => W'.cell? ⟨g, 0, none⟩ = some (.iface 26 (.pointer (some ⟨gh, 0, none⟩))) ∧ W'.cell? ⟨gb, 0, none⟩ = some (.int .u8 4) ∧ W'.cell? ⟨gb, 1, none⟩ = some (.int .i64 n) ∧ W'.cell? ⟨gb, 2, none⟩ = some (.string ⟨#[]⟩)) (first | exact S0 | exact SA | exact S2 | exact S3 _ | exact S5 | fail)
        (first
        | (go_at_call 60; (with_reducible refine (HC.out (w3.alloc (.cells #[.int .u8 0, .int .i64 0, .string ⟨#[]⟩] 24)).drew (below_drew hbA)).mono ?_); rintro e w2 ⟨rfl, hb2⟩; have hn := blk_below (blk_drew (blk_new w3 (.cells #[.int .u8 0, .int .i64 0, .string ⟨#[]⟩] 24))) hb2; have q0 := (blk_cell hn 0).trans rfl; have q1 := (blk_cell hn 1).trans rfl; have q2 := (blk_cell hn 2).trans rfl; have g0 := blk_frozen hn 0; have g1 := blk_frozen hn 1; have g2 := blk_frozen hn 2; have HN := Aside0.mk hn; have S2 : w2.cell? ⟨g, 0, none⟩ = some (.iface 26 (.pointer (some ⟨gh, 0, none⟩))) ∧ w2.cell? ⟨gb, 0, none⟩ = some (.int .u8 4) ∧ w2.cell? ⟨gb, 1, none⟩ = some (.int .i64 n) ∧ w2.cell? ⟨gb, 2, none⟩ = some (.string ⟨#[]⟩) := (by exact ⟨(((below_drew (Below.refl _ (w3.alloc (.cells #[.int .u8 0, .int .i64 0, .string ⟨#[]⟩] 24)))).trans hb2).cell (World.block_lt_of_cell? _ _ SA.1)).trans SA.1, (((below_drew (Below.refl _ (w3.alloc (.cells #[.int .u8 0, .int .i64 0, .string ⟨#[]⟩] 24)))).trans hb2).cell (World.block_lt_of_cell? _ _ SA.2.1)).trans SA.2.1, (((below_drew (Below.refl _ (w3.alloc (.cells #[.int .u8 0, .int .i64 0, .string ⟨#[]⟩] 24)))).trans hb2).cell (World.block_lt_of_cell? _ _ SA.2.2.1)).trans SA.2.2.1, (((below_drew (Below.refl _ (w3.alloc (.cells #[.int .u8 0, .int .i64 0, .string ⟨#[]⟩] 24)))).trans hb2).cell (World.block_lt_of_cell? _ _ SA.2.2.2)).trans SA.2.2.2⟩); have HB2 := Aside0.mk (below_then (below_drew (below_alloc (Below.refl w3.heap.size w3) (.cells #[.int .u8 0, .int .i64 0, .string ⟨#[]⟩] 24))) (by show w3.heap.size ≤ (w3.alloc (.cells #[.int .u8 0, .int .i64 0, .string ⟨#[]⟩] 24)).heap.size; rw [World.size_alloc]; omega) hb2); have HBX := Aside0.mk (((HB2.out.setCell (p := ⟨w3.heap.size, 0, none⟩) (Nat.le_refl _) (.int .u8 (sndOf ps n).1.f0)).setCell (p := ⟨w3.heap.size, 1, none⟩) (Nat.le_refl _) (.int .i64 (sndOf ps n).1.f1)).setCell (p := ⟨w3.heap.size, 2, none⟩) (Nat.le_refl _) (.string (sndOf ps n).1.f2)); have S5 : (((w2.setCell ⟨w3.heap.size, 0, none⟩ (.int .u8 (sndOf ps n).1.f0)).setCell ⟨w3.heap.size, 1, none⟩ (.int .i64 (sndOf ps n).1.f1)).setCell ⟨w3.heap.size, 2, none⟩ (.string (sndOf ps n).1.f2)).cell? ⟨g, 0, none⟩ = some (.iface 26 (.pointer (some ⟨gh, 0, none⟩))) ∧ (((w2.setCell ⟨w3.heap.size, 0, none⟩ (.int .u8 (sndOf ps n).1.f0)).setCell ⟨w3.heap.size, 1, none⟩ (.int .i64 (sndOf ps n).1.f1)).setCell ⟨w3.heap.size, 2, none⟩ (.string (sndOf ps n).1.f2)).cell? ⟨gb, 0, none⟩ = some (.int .u8 4) ∧ (((w2.setCell ⟨w3.heap.size, 0, none⟩ (.int .u8 (sndOf ps n).1.f0)).setCell ⟨w3.heap.size, 1, none⟩ (.int .i64 (sndOf ps n).1.f1)).setCell ⟨w3.heap.size, 2, none⟩ (.string (sndOf ps n).1.f2)).cell? ⟨gb, 1, none⟩ = some (.int .i64 n) ∧ (((w2.setCell ⟨w3.heap.size, 0, none⟩ (.int .u8 (sndOf ps n).1.f0)).setCell ⟨w3.heap.size, 1, none⟩ (.int .i64 (sndOf ps n).1.f1)).setCell ⟨w3.heap.size, 2, none⟩ (.string (sndOf ps n).1.f2)).cell? ⟨gb, 2, none⟩ = some (.string ⟨#[]⟩) := (by exact ⟨(HBX.out.cell (World.block_lt_of_cell? _ _ S0.1)).trans S0.1, (HBX.out.cell (World.block_lt_of_cell? _ _ S0.2.1)).trans S0.2.1, (HBX.out.cell (World.block_lt_of_cell? _ _ S0.2.2.1)).trans S0.2.2.1, (HBX.out.cell (World.block_lt_of_cell? _ _ S0.2.2.2)).trans S0.2.2.2⟩); clear hn hb2)
        | (go_at_call 60; (with_reducible refine (HC.out w3.drew (below_drew (Below.refl _ w3))).mono ?_); rintro e w2 ⟨rfl, hb2⟩; have HB2 := Aside0.mk ((below_drew (Below.refl w3.heap.size w3)).trans hb2); have S2 : w2.cell? ⟨g, 0, none⟩ = some (.iface 26 (.pointer (some ⟨gh, 0, none⟩))) ∧ w2.cell? ⟨gb, 0, none⟩ = some (.int .u8 4) ∧ w2.cell? ⟨gb, 1, none⟩ = some (.int .i64 n) ∧ w2.cell? ⟨gb, 2, none⟩ = some (.string ⟨#[]⟩) := (by exact ⟨(HB2.out.cell (World.block_lt_of_cell? _ _ S0.1)).trans S0.1, (HB2.out.cell (World.block_lt_of_cell? _ _ S0.2.1)).trans S0.2.1, (HB2.out.cell (World.block_lt_of_cell? _ _ S0.2.2.1)).trans S0.2.2.1, (HB2.out.cell (World.block_lt_of_cell? _ _ S0.2.2.2)).trans S0.2.2.2⟩); have S3 : ∀ o : Obj, (w2.alloc o).cell? ⟨g, 0, none⟩ = some (.iface 26 (.pointer (some ⟨gh, 0, none⟩))) ∧ (w2.alloc o).cell? ⟨gb, 0, none⟩ = some (.int .u8 4) ∧ (w2.alloc o).cell? ⟨gb, 1, none⟩ = some (.int .i64 n) ∧ (w2.alloc o).cell? ⟨gb, 2, none⟩ = some (.string ⟨#[]⟩) := (fun o => ⟨((below_alloc (Below.refl _ w2) o).cell (World.block_lt_of_cell? _ _ S2.1)).trans S2.1, ((below_alloc (Below.refl _ w2) o).cell (World.block_lt_of_cell? _ _ S2.2.1)).trans S2.2.1, ((below_alloc (Below.refl _ w2) o).cell (World.block_lt_of_cell? _ _ S2.2.2.1)).trans S2.2.2.1, ((below_alloc (Below.refl _ w2) o).cell (World.block_lt_of_cell? _ _ S2.2.2.2)).trans S2.2.2.2⟩); clear hb2))
      all_goals (go_wp2_with fail; go_meet; case rel => first | exact ⟨w2.heap.size, rfl, rfl, ⟨below_alloc HB2.out _⟩, ⟨blk_new w2 _⟩, ⟨HB2.out.size⟩⟩ | exact ⟨w3.heap.size, rfl, rfl, ⟨((HB2.out.setCell (p := ⟨w3.heap.size, 0, none⟩) (Nat.le_refl _) _).setCell (p := ⟨w3.heap.size, 1, none⟩) (Nat.le_refl _) _).setCell (p := ⟨w3.heap.size, 2, none⟩) (Nat.le_refl _) _⟩, ⟨blk_put (blk_put (blk_put HN.out 0 _ rfl) 1 _ rfl) 2 _ rfl⟩, ⟨Nat.le_refl _⟩⟩)
    case rest =>
      obtain ⟨gc2, rfl, rfl, HB4, HC4, HG4⟩ := hcut
      have HC3' := Aside0.mk (blk_below HC3.out HB4.out)
      have HB14 := Aside0.mk (below_then HB3.out HB3.out.size HB4.out)
      have HS4 := Aside0.mk (HS1.out.below HB14.out)
      have HPRE4 := Aside0.mk (show ∀ l2 w5, Wrote w0.heap.size g (.iface 26 (.pointer (some ⟨gh, 0, none⟩))) v0 l2 wc w5 → Wrote w0.heap.size g (.iface 26 (.pointer (some ⟨gh, 0, none⟩))) v0 l2 w w5 from fun l2 w5 h => HPRE.out l2 w5 (Wrote.pre HB14.out h))
      have HW4 := Aside0.mk (below_then HW.out HW.out.size HB14.out)
      have HNE := Aside0.mk (show (gc1 < wc.heap.size ∧ gc1 ≠ g ∧ some gc1 ≠ v0.ownBlock) ∧ (gc2 < wc.heap.size ∧ gc2 ≠ g ∧ some gc2 ≠ v0.ownBlock) from
        ⟨⟨by have := HLT1.out; have := HB4.out.size; omega, by have := HG3.out; have := HS1.out.lt; omega, fun e => by have := HG3.out; have := (HS1.out.row e.symm).2; omega⟩, ⟨blk_lt HC4.out, by have := HG4.out; have := HB3.out.size; have := HS1.out.lt; omega, fun e => by have := HG4.out; have := HB3.out.size; have := (HS1.out.row e.symm).2; omega⟩⟩)
      clear S0 HC
      cases hp : pairAt ps n with
      | none =>
        have HF := Aside0.mk (show prB ps (f' + 1) n = [46, 46] by rw [prB_succ, hp])
        have e1 : (fstOf ps n).2 = 2 := by unfold fstOf; rw [hp]
        have e2 : (sndOf ps n).2 = 2 := by unfold sndOf; rw [hp]
        rw [e1, e2]
        clear hp e1 e2
        go_wp2_with (first | (go_at_call 23; (with_reducible refine (writeString_on (Wrote.start HS4.out) ⟨#[46, 46]⟩ (by decide) (by have := HL0.out; omega)).mono ?_); rintro e w5 ⟨⟨rr, rfl⟩, hw5⟩; have HW5 := Aside0.mk hw5; clear hw5))
        refine bodyPost_ret (results_none rfl _ _ _) rfl ?_
        exact ⟨rfl, by rw [HF.out]; exact HPRE4.out _ _ HW5.out⟩
      | some p =>
        have HF := Aside0.mk (show prB ps (f' + 1) n = [40] ++ showF ps f' p.1 ++ [32, 46, 32] ++ showF ps f' p.2 ++ [41] by rw [prB_succ, hp])
        have e1 : fstOf ps n = (p.1, 0) := by unfold fstOf; rw [hp]
        have e2 : sndOf ps n = (p.2, 0) := by unfold sndOf; rw [hp]
        rw [e1] at HC3'
        rw [e2] at HC4
        rw [e1, e2]
        obtain ⟨ga, gb_⟩ := HPS.out p (pairAt_mem hp)
        have HGA := Aside0.mk ga
        have HGB := Aside0.mk gb_
        have HLA := Aside0.mk (show_len HPS.out f' p.1 ga)
        have HLB := Aside0.mk (show_len HPS.out f' p.2 gb_)
        have HLP := Aside0.mk (show 300000 * 2 ^ (f' + 1 + 1) = 300000 * 2 ^ (f' + 1) + 300000 * 2 ^ (f' + 1) by rw [Nat.pow_succ 2 (f' + 1)]; omega)
        clear hp e1 e2 ga gb_
        dsimp only at HC3' HC4 ⊢
        go_upto_region 8 with (first | (go_at_call 27; (with_reducible refine (writeByte_on (Wrote.start HS4.out) 40 (by decide) (by decide) (by have := HL0.out; omega)).mono ?_); rintro e w5 ⟨rfl, hw5⟩; have HW5 := Aside0.mk hw5; clear hw5))
        have hk1 := (HW5.out.keeps HNE.out.1.1 HNE.out.1.2.1 HNE.out.1.2.2).trans HC3'.out
        have a0 := (blk_cell hk1 0).trans rfl
        have a1 := (blk_cell hk1 1).trans rfl
        have a2 := (blk_cell hk1 2).trans rfl
        clear hk1
        have HB5 := Aside0.mk (HW4.out.trans (HW5.out.below HS4.out))
        have HQ := Aside0.mk (show dq = 6 - (f' : Int) by have := HDQ.out; omega)
        have HVA := Aside0.mk (Wrote.on HW5.out (E := fun e => e = .returned (.tuple #[])) (fun v' hv' => (HV.out f' rfl).call p.1 v' _ _ dq HGA.out HQ.out HB5.out hv' (by have := HLP.out; have := HL.out; have := HLA.out; rw [List.length_append]; simp only [List.length_cons, List.length_nil]; omega)))
        go_upto_region 10 with (first | (go_at_call 18; (with_reducible refine HVA.out.mono ?_); rintro e w6 ⟨rfl, hw6⟩; have HW6 := Aside0.mk hw6; clear hw6) | (go_at_call 23; (with_reducible refine (writeString_on HW6.out ⟨#[32, 46, 32]⟩ (by decide) (by have := HLP.out; have := HL.out; have := HLA.out; simp only [List.length_append, List.length_cons, List.length_nil]; omega)).mono ?_); rintro e w7 ⟨⟨rr, rfl⟩, hw7⟩; have HW7 := Aside0.mk hw7; clear hw7))
        clear a0 a1 a2 HVA
        have hk2 := (HW7.out.keeps HNE.out.2.1 HNE.out.2.2.1 HNE.out.2.2.2).trans HC4.out
        have a0 := (blk_cell hk2 0).trans rfl
        have a1 := (blk_cell hk2 1).trans rfl
        have a2 := (blk_cell hk2 2).trans rfl
        clear hk2
        have HB7 := Aside0.mk (HW4.out.trans (HW7.out.below HS4.out))
        have HVB := Aside0.mk (Wrote.on HW7.out (E := fun e => e = .returned (.tuple #[])) (fun v' hv' => (HV.out f' rfl).call p.2 v' _ _ dq HGB.out HQ.out HB7.out hv' (by have := HLP.out; have := HL.out; have := HLA.out; simp only [List.length_append, List.length_cons, List.length_nil]; show _ + 3 + _ ≤ _; omega)))
        go_wp2_with (first | (go_at_call 18; (with_reducible refine HVB.out.mono ?_); rintro e w8 ⟨rfl, hw8⟩; have HW8 := Aside0.mk hw8; clear hw8) | (go_at_call 27; (with_reducible refine (writeByte_on HW8.out 41 (by decide) (by decide) (by have := HLP.out; have := HL.out; have := HLA.out; have := HLB.out; simp only [List.length_append, List.length_cons, List.length_nil]; show _ + 3 + _ ≤ _; omega)).mono ?_); rintro e w9 ⟨rfl, hw9⟩; have HW9 := Aside0.mk hw9; clear hw9))
        go_end0
        exact ⟨rfl, by rw [HF.out]; simpa [List.append_assoc] using HPRE4.out _ _ HW9.out⟩
end Go.Proofs.YtobchfcabedmhaaDoor.NW
