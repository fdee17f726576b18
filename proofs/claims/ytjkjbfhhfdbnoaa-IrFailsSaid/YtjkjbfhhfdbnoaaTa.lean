/- need, at: what throws where a block does not go through. -/
import Derived.Test.YtjkjbfhhfdbnoaaRv
import Derived.Recover
import Derived.Laws.Pointers
import Derived.WalkLawsBesides
namespace Go.Proofs.Ytjkjbfhhfdbnoaa.NW
open Go.RowKit Go.Proofs.YtjkjbfhhfdbnoaaW.PrintWords Go.Proofs.YtjkjbfhhfdbnoaaW.PrintMore Go.Proofs.Ytjkjbfhhfdbnoaa.PB
set_option linter.unusedVariables false
set_option linter.unusedSimpArgs false
/-- what is thrown where a block does not go through -/
abbrev stopE : List PanicEntry := [{ v := .iface 80 (.agg #[]), recovered := false }]
set_option maxHeartbeats 1600000 in
set_option maxRecDepth 1000000 in
theorem need_ok (w : World) : Calls Try.prog 58 #[.bool true] w fun e w' => w' = w ∧ e = .returned (.tuple #[]) := by
  go_enter Try.func58, Try.ntmps58
  go_wp2_with fail
  go_end0
  exact ⟨rfl, rfl⟩
set_option maxHeartbeats 1600000 in
set_option maxRecDepth 1000000 in
theorem need_no (w : World) : Calls Try.prog 58 #[.bool false] w fun e w' => w' = w ∧ e = .panicked stopE := by
  go_enter Try.func58, Try.ntmps58
  go_wp2_with fail
  exact ⟨rfl, rfl, rfl⟩
set_option maxHeartbeats 1600000 in
set_option maxRecDepth 1000000 in
theorem at_ok (A : Option Addr) (c : Nat) (l : List S37) (i : Int) (w : World) (hl : k37.C w A l.length l) (h0 : 0 ≤ i) (hlt : i < l.length) :
    Calls Try.prog 80 #[.slice A l.length c, .int .i64 i] w fun e w' => e = .returned (.agg #[.int .u8 (rd_T37 l i).f0, .int .i64 (rd_T37 l i).f1, .string (rd_T37 l i).f2]) ∧ Below w.heap.size w w' := by
  have hm := Kd.C_max hl
  have HA := Aside0.mk (below_alloc (Below.refl w.heap.size w) (.cells #[.int .u8 0, .int .i64 0, .string ⟨#[]⟩] 37))
  have d0 : decide (i < (l.length : Int)) = true := decide_eq_true hlt
  obtain ⟨ad, e, e0, e1, e2⟩ := at_T37 hl i h0 hlt
  subst e
  have f0 := (HA.out.cell (World.block_lt_of_cell? w _ e0)).trans e0
  have f1 := (HA.out.cell (World.block_lt_of_cell? w _ e1)).trans e1
  have f2 := (HA.out.cell (World.block_lt_of_cell? w _ e2)).trans e2
  clear e0 e1 e2 hl
  generalize rd_T37 l i = v at f0 f1 f2 ⊢
  go_enter Try.func80, Try.ntmps80
  go_wp2_with (first | (go_at_call 58; (with_reducible refine (need_ok _).mono ?_); rintro e w2 ⟨rfl, rfl⟩))
  refine bodyPost_ret (results_cell_row rfl _ _ (w.heap.size) 37 #[.int .u8 v.f0, .int .i64 v.f1, .string v.f2] (0, 0) _ rfl (blk_new w _) Try.underlying37 rfl (by kernel_rfl)) rfl ?_
  exact ⟨rfl, below_alloc (Below.refl _ _) _⟩
set_option maxHeartbeats 1600000 in
set_option maxRecDepth 1000000 in
theorem at_no (A : Option Addr) (c : Nat) (l : List S37) (i : Int) (w : World) (hl : k37.C w A l.length l) (hlt : ¬ i < l.length) :
    Calls Try.prog 80 #[.slice A l.length c, .int .i64 i] w fun e w' => e = .panicked stopE ∧ Below w.heap.size w w' := by
  have hm := Kd.C_max hl
  have HA := Aside0.mk (below_alloc (Below.refl w.heap.size w) (.cells #[.int .u8 0, .int .i64 0, .string ⟨#[]⟩] 37))
  have d0 : decide (i < (l.length : Int)) = false := decide_eq_false hlt
  clear hl hlt
  go_enter Try.func80, Try.ntmps80
  go_wp2_with (first | (go_at_call 58; (with_reducible refine (need_no _).mono ?_); rintro e w2 ⟨rfl, rfl⟩))
  exact ⟨rfl, rfl, HA.out⟩
theorem at_both (A : Option Addr) (c : Nat) (l : List S37) (i : Int) (w : World) (hl : k37.C w A l.length l) (h0 : 0 ≤ i) :
    Calls Try.prog 80 #[.slice A l.length c, .int .i64 i] w fun e w' => ((i < l.length ∧ e = .returned (.agg #[.int .u8 (rd_T37 l i).f0, .int .i64 (rd_T37 l i).f1, .string (rd_T37 l i).f2])) ∨ (¬ i < l.length ∧ e = .panicked stopE)) ∧ Below w.heap.size w w' := by
  by_cases h : i < l.length
  · exact (at_ok A c l i w hl h0 h).mono fun e w' hh => ⟨.inl ⟨h, hh.1⟩, hh.2⟩
  · exact (at_no A c l i w hl h).mono fun e w' hh => ⟨.inr ⟨h, hh.1⟩, hh.2⟩
theorem need_fake (w : World) : Calls Try.prog 58 #[.bool false] w fun e w' => (False ∧ e = .returned (.tuple #[]) ∧ w' = w) ∨ (e = .panicked stopE ∧ w' = w) := (need_no w).mono fun e w' h => .inr ⟨h.2, h.1⟩
/-- the runner, where it lies: its registers are a row of its own -/
structure RunIs (w0 W : World) (rb gr cr : Nat) (r : List S37) (vg : Value) (g : List S54) (A0 : Option Addr) (c0 : Nat) (ups : List S37) (A2 : Option Addr) (c2 : Nat) (ons : List S54) : Prop where
  blk : W.heap[rb]? = some (.cells #[.slice (some ⟨gr, 0, none⟩) r.length cr, .slice A0 ups.length c0, .slice A2 ons.length c2, vg] 84 (0, 0))
  regs : Kd.R k37 37 W w0.heap.size (fun _ => True) (.slice (some ⟨gr, 0, none⟩) r.length cr) r
  gds : Kd.N k54 54 W w0.heap.size (fun k => k ≠ rb ∧ k ≠ gr) vg g
  old : Below w0.heap.size w0 W
  rbl : w0.heap.size ≤ rb
  ne : rb ≠ gr
  r0 : k37.C w0 A0 ups.length ups
  r2 : k54.C w0 A2 ons.length ons
section
variable {w0 W W1 : World} {rb gr cr : Nat} {r : List S37} {vg : Value} {g : List S54} {A0 : Option Addr} {c0 : Nat} {ups : List S37} {A2 : Option Addr} {c2 : Nat} {ons : List S54}
theorem RunIs.below (h : RunIs w0 W rb gr cr r vg g A0 c0 ups A2 c2 ons) (hb : Below W.heap.size W W1) : RunIs w0 W1 rb gr cr r vg g A0 c0 ups A2 c2 ons :=
  ⟨blk_below h.blk hb, Kd.R_below h.regs hb, Kd.N_below h.gds hb, below_then h.old h.old.size hb, h.rbl, h.ne, h.r0, h.r2⟩
theorem RunIs.gl (h : RunIs w0 W rb gr cr r vg g A0 c0 ups A2 c2 ons) : w0.heap.size ≤ gr := Kd.R_base h.regs gr rfl
theorem RunIs.cells (h : RunIs w0 W rb gr cr r vg g A0 c0 ups A2 c2 ons) : W.cell? ⟨rb, 0, none⟩ = some (.slice (some ⟨gr, 0, none⟩) r.length cr) ∧ W.cell? ⟨rb, 1, none⟩ = some (.slice A0 ups.length c0) ∧ W.cell? ⟨rb, 2, none⟩ = some (.slice A2 ons.length c2) ∧ W.cell? ⟨rb, 3, none⟩ = some vg :=
  ⟨(blk_cell h.blk 0).trans rfl, (blk_cell h.blk 1).trans rfl, (blk_cell h.blk 2).trans rfl, (blk_cell h.blk 3).trans rfl⟩
/-- a register's cells -/
theorem RunIs.at_ (h : RunIs w0 W rb gr cr r vg g A0 c0 ups A2 c2 ons) {i : Int} (h0 : 0 ≤ i) (h1 : i < r.length) : W.cell? ⟨gr, i.toNat * 3, none⟩ = some (.int .u8 (rd_T37 r i).f0) ∧ W.cell? ⟨gr, i.toNat * 3 + 1, none⟩ = some (.int .i64 (rd_T37 r i).f1) ∧ W.cell? ⟨gr, i.toNat * 3 + 2, none⟩ = some (.string (rd_T37 r i).f2) := by
  obtain ⟨ad, e, e0, e1, e2⟩ := at_T37 (Kd.R_reads' h.regs).2.2 i h0 h1
  injection e with e
  subst e
  rw [add_plain] at e0 e1 e2
  exact ⟨e0, e1, e2⟩
/-- a register that is put into -/
theorem RunIs.put (h : RunIs w0 W rb gr cr r vg g A0 c0 ups A2 c2 ons) {d : Int} (v : S37) (h0 : 0 ≤ d) (h1 : d < r.length) :
    RowPut W gr d v r ∧ RunIs w0 (((W.setCell ⟨gr, d.toNat * 3, none⟩ (.int .u8 v.f0)).setCell ⟨gr, d.toNat * 3 + 1, none⟩ (.int .i64 v.f1)).setCell ⟨gr, d.toNat * 3 + 2, none⟩ (.string v.f2)) rb gr cr (r.set d.toNat v) vg g A0 c0 ups A2 c2 ons := by
  have hp := row_put v h.regs h0 h1
  refine ⟨hp, ?_, ?_, ?_, hp.old _ _ h.old h.gl, h.rbl, h.ne, h.r0, h.r2⟩
  · rw [List.length_set]; exact (hp.far rb h.ne).trans h.blk
  · obtain ⟨e0, e1, e2⟩ := h.at_ h0 h1
    have := (Kd.R_seg (d := k37) (e := 37) (base := w0.heap.size) (ok := fun _ => True) (okp := fun _ => False) (x' := v) (j := 0) (c := [.int .u8 (rd_T37 r d).f0, .int .i64 (rd_T37 r d).f1, .string (rd_T37 r d).f2]) (seg := [.int .u8 v.f0, .int .i64 v.f1, .string v.f2]) h.regs d h0 (by omega) rfl (fun j u hu => by
      rcases j with _ | _ | _ | j
      · simp at hu; subst hu; exact e0
      · simp at hu; subst hu; exact e1
      · simp at hu; subst hu; exact e2
      · simp at hu) (Nat.le_refl _) (k37_mkM _ _ _ v) (fun _ hk => hk.elim)).1
    rw [List.length_set]
    exact this
  · exact Kd.N_step h.gds (fun k hk _ => hp.far k hk.2)
end
end Go.Proofs.Ytjkjbfhhfdbnoaa.NW
