/- The boxes of Eval; its doors. -/
import Derived.Test.YtjkjbfhhfdbnoaaTd
import Derived.Test.YtjkjbfhhfdbnoaaTe
import Derived.Test.YtjkjbfhhfdbnoaaTf
import Derived.Test.YtjkjbfhhfdbnoaaTg
import Derived.Test.YtjkjbfhhfdbnoaaTh
import Derived.Deep.RegionHeld3
import Derived.Test.YtjkjbfhhfdbnoaaRe
namespace Go.Proofs.Ytjkjbfhhfdbnoaa.NW
open Go.RowKit Go.Proofs.YtjkjbfhhfdbnoaaW.PrintWords Go.Proofs.YtjkjbfhhfdbnoaaW.PrintMore Go.Proofs.Ytjkjbfhhfdbnoaa.PB
set_option linter.unusedVariables false
set_option linter.unusedSimpArgs false
/-- the boxes and the results' cells of Eval -/
structure SixIs (W : World) (g : Nat) (cb ca : Array Value) (v8 v9 v10 v11 : Value) : Prop where
  b : W.heap[g]? = some (.cells cb 25 (0, 0))
  a : W.heap[g + 1]? = some (.cells ca 29 (0, 0))
  r8 : W.heap[g + 1 + 1]? = some (.cells #[v8] 26 (0, 0))
  r9 : W.heap[g + 1 + 1 + 1]? = some (.cells #[v9] 26 (0, 0))
  r10 : W.heap[g + 1 + 1 + 1 + 1]? = some (.cells #[v10] 3 (0, 0))
  r11 : W.heap[g + 1 + 1 + 1 + 1 + 1]? = some (.cells #[v11] 4 (0, 0))
theorem SixIs.below {W W1 : World} {g : Nat} {cb ca : Array Value} {v8 v9 v10 v11 : Value} (h : SixIs W g cb ca v8 v9 v10 v11) (hb : Below W.heap.size W W1) : SixIs W1 g cb ca v8 v9 v10 v11 :=
  ⟨blk_below h.b hb, blk_below h.a hb, blk_below h.r8 hb, blk_below h.r9 hb, blk_below h.r10 hb, blk_below h.r11 hb⟩
theorem SixIs.keep {W W1 : World} {g : Nat} {cb ca : Array Value} {v8 v9 v10 v11 : Value} (h : SixIs W g cb ca v8 v9 v10 v11) (hk : ∀ k, k ≤ g + 1 + 1 + 1 + 1 + 1 → W1.heap[k]? = W.heap[k]?) : SixIs W1 g cb ca v8 v9 v10 v11 :=
  ⟨(hk _ (by omega)).trans h.b, (hk _ (by omega)).trans h.a, (hk _ (by omega)).trans h.r8, (hk _ (by omega)).trans h.r9, (hk _ (by omega)).trans h.r10, (hk _ (by omega)).trans h.r11⟩
theorem SixIs.set {W : World} {g : Nat} {cb ca : Array Value} {v8 v9 v10 v11 : Value} (h : SixIs W g cb ca v8 v9 v10 v11) (u8 u9 u10 u11 : Value) :
    SixIs ((((W.setCell ⟨g + 1 + 1, 0, none⟩ u8).setCell ⟨g + 1 + 1 + 1, 0, none⟩ u9).setCell ⟨g + 1 + 1 + 1 + 1, 0, none⟩ u10).setCell ⟨g + 1 + 1 + 1 + 1 + 1, 0, none⟩ u11) g cb ca u8 u9 u10 u11 := by
  have far : ∀ (k : Nat) (o : Obj), k ≠ g + 1 + 1 → k ≠ g + 1 + 1 + 1 → k ≠ g + 1 + 1 + 1 + 1 → k ≠ g + 1 + 1 + 1 + 1 + 1 → W.heap[k]? = some o → ((((W.setCell ⟨g + 1 + 1, 0, none⟩ u8).setCell ⟨g + 1 + 1 + 1, 0, none⟩ u9).setCell ⟨g + 1 + 1 + 1 + 1, 0, none⟩ u10).setCell ⟨g + 1 + 1 + 1 + 1 + 1, 0, none⟩ u11).heap[k]? = some o := fun k o h1 h2 h3 h4 ho =>
    (Below.heap_setCell _ ⟨g + 1 + 1 + 1 + 1 + 1, 0, none⟩ _ k h4).trans ((Below.heap_setCell _ ⟨g + 1 + 1 + 1 + 1, 0, none⟩ _ k h3).trans ((Below.heap_setCell _ ⟨g + 1 + 1 + 1, 0, none⟩ _ k h2).trans ((Below.heap_setCell _ ⟨g + 1 + 1, 0, none⟩ _ k h1).trans ho)))
  refine ⟨far _ _ (by omega) (by omega) (by omega) (by omega) h.b, far _ _ (by omega) (by omega) (by omega) (by omega) h.a, ?_, ?_, ?_, ?_⟩
  · exact blk_far (blk_far (blk_far (blk_put h.r8 0 _ rfl) (p := ⟨g + 1 + 1 + 1, 0, none⟩) (by dsimp only; omega) _) (p := ⟨g + 1 + 1 + 1 + 1, 0, none⟩) (by dsimp only; omega) _) (p := ⟨g + 1 + 1 + 1 + 1 + 1, 0, none⟩) (by dsimp only; omega) _
  · exact blk_far (blk_far (blk_put (blk_far h.r9 (p := ⟨g + 1 + 1, 0, none⟩) (by dsimp only; omega) _) 0 _ rfl) (p := ⟨g + 1 + 1 + 1 + 1, 0, none⟩) (by dsimp only; omega) _) (p := ⟨g + 1 + 1 + 1 + 1 + 1, 0, none⟩) (by dsimp only; omega) _
  · exact blk_far (blk_put (blk_far (blk_far h.r10 (p := ⟨g + 1 + 1, 0, none⟩) (by dsimp only; omega) _) (p := ⟨g + 1 + 1 + 1, 0, none⟩) (by dsimp only; omega) _) 0 _ rfl) (p := ⟨g + 1 + 1 + 1 + 1 + 1, 0, none⟩) (by dsimp only; omega) _
  · exact blk_put (blk_far (blk_far (blk_far h.r11 (p := ⟨g + 1 + 1, 0, none⟩) (by dsimp only; omega) _) (p := ⟨g + 1 + 1 + 1, 0, none⟩) (by dsimp only; omega) _) (p := ⟨g + 1 + 1 + 1 + 1, 0, none⟩) (by dsimp only; omega) _) 0 _ rfl
theorem six_new (w : World) (cb ca : Array Value) (v8 v9 v10 v11 : Value) : SixIs ((((((w.alloc (.cells cb 25)).alloc (.cells ca 29)).alloc (.cells #[v8] 26)).alloc (.cells #[v9] 26)).alloc (.cells #[v10] 3)).alloc (.cells #[v11] 4)) w.heap.size cb ca v8 v9 v10 v11 := by
  have e1 : (w.alloc (.cells cb 25)).heap.size = w.heap.size + 1 := World.size_alloc ..
  have e2 : ((w.alloc (.cells cb 25)).alloc (.cells ca 29)).heap.size = w.heap.size + 1 + 1 := by rw [World.size_alloc, e1]
  have e3 : (((w.alloc (.cells cb 25)).alloc (.cells ca 29)).alloc (.cells #[v8] 26)).heap.size = w.heap.size + 1 + 1 + 1 := by rw [World.size_alloc, e2]
  have e4 : ((((w.alloc (.cells cb 25)).alloc (.cells ca 29)).alloc (.cells #[v8] 26)).alloc (.cells #[v9] 26)).heap.size = w.heap.size + 1 + 1 + 1 + 1 := by rw [World.size_alloc, e3]
  have e5 : (((((w.alloc (.cells cb 25)).alloc (.cells ca 29)).alloc (.cells #[v8] 26)).alloc (.cells #[v9] 26)).alloc (.cells #[v10] 3)).heap.size = w.heap.size + 1 + 1 + 1 + 1 + 1 := by rw [World.size_alloc, e4]
  refine ⟨blk_alloc (blk_alloc (blk_alloc (blk_alloc (blk_alloc (blk_new w _) _) _) _) _) _, ?_, ?_, ?_, ?_, ?_⟩
  · rw [← e1]; exact blk_alloc (blk_alloc (blk_alloc (blk_alloc (blk_new _ _) _) _) _) _
  · rw [← e2]; exact blk_alloc (blk_alloc (blk_alloc (blk_new _ _) _) _) _
  · rw [← e3]; exact blk_alloc (blk_alloc (blk_new _ _) _) _
  · rw [← e4]; exact blk_alloc (blk_new _ _) _
  · rw [← e5]; exact blk_new _ _
theorem results31 {T : Array Value} {W : World} {g : Nat} {cb ca : Array Value} {v8 v9 v10 v11 : Value} (h8 : T[8]?.getD undef = .pointer (some ⟨g + 1 + 1, 0, none⟩)) (h9 : T[9]?.getD undef = .pointer (some ⟨g + 1 + 1 + 1, 0, none⟩)) (h10 : T[10]?.getD undef = .pointer (some ⟨g + 1 + 1 + 1 + 1, 0, none⟩)) (h11 : T[11]?.getD undef = .pointer (some ⟨g + 1 + 1 + 1 + 1 + 1, 0, none⟩))
    (H : SixIs W g cb ca v8 v9 v10 v11) : (results Try.f31 T).run Try.prog W = .ok (.tuple #[v8, v9, v10, v11]) W := by
  have x8 := (blk_cell H.r8 0).trans rfl
  have x9 := (blk_cell H.r9 0).trans rfl
  have x10 := (blk_cell H.r10 0).trans rfl
  have x11 := (blk_cell H.r11 0).trans rfl
  simp [results, Try.results31, go_sem, h8, h9, h10, h11, x8, x9, x10, x11]
/-- a panic that is caught at the door -/
theorem door_stop {T : Array Value} {R : Ending → World → Prop} {gb : Nat} {cb ca : Array Value} {s8 s9 : Value} {n10 : Int} {b11 : Bool} {W : World} (h8 : T[8]?.getD undef = .pointer (some ⟨gb + 1 + 1, 0, none⟩)) (h9 : T[9]?.getD undef = .pointer (some ⟨gb + 1 + 1 + 1, 0, none⟩)) (h10 : T[10]?.getD undef = .pointer (some ⟨gb + 1 + 1 + 1 + 1, 0, none⟩)) (h11 : T[11]?.getD undef = .pointer (some ⟨gb + 1 + 1 + 1 + 1 + 1, 0, none⟩))
    (H : SixIs W gb cb ca s8 s9 (.int .i64 n10) (.bool b11)) (hR : ∀ W', Below (gb + 1 + 1) W W' → R (.returned (.tuple #[.slice none 0 0, .slice none 0 0, .int .i64 0, .bool false])) W') :
    bodyPostD Try.prog Try.f31 R (Exit.panic stopE) { tmps := T, defers := [{ target := Target.fn (Fn.func 56) #[.pointer (some ⟨gb + 1 + 1, 0, none⟩), .pointer (some ⟨gb + 1 + 1 + 1, 0, none⟩), .pointer (some ⟨gb + 1 + 1 + 1 + 1, 0, none⟩), .pointer (some ⟨gb + 1 + 1 + 1 + 1 + 1, 0, none⟩)], args := #[] }] } W := by
  refine leaves_cons (f := 56) (args := #[.pointer (some ⟨gb + 1 + 1, 0, none⟩), .pointer (some ⟨gb + 1 + 1 + 1, 0, none⟩), .pointer (some ⟨gb + 1 + 1 + 1 + 1, 0, none⟩), .pointer (some ⟨gb + 1 + 1 + 1 + 1 + 1, 0, none⟩)]) (by simp) (by simp [go_sem]) ?_
  refine (catch_stop (gb + 1 + 1) W H.r8 H.r9 H.r10 H.r11).mono ?_
  rintro e u' w'' ⟨rfl, rfl, hb, k8, k9, k10, k11⟩
  have H' : SixIs w'' gb cb ca (.slice none 0 0) (.slice none 0 0) (.int .i64 0) (.bool false) := ⟨(hb.block _ (by omega)).trans H.b, (hb.block _ (by omega)).trans H.a, k8, k9, k10, k11⟩
  have hres := results31 h8 h9 h10 h11 H'
  simp [Leaves, settle, hres]
  exact hR w'' hb
theorem door_ok {T : Array Value} {R : Ending → World → Prop} {gb : Nat} {cb ca : Array Value} {v8 v9 v10 v11 : Value} {W : World} (h8 : T[8]?.getD undef = .pointer (some ⟨gb + 1 + 1, 0, none⟩)) (h9 : T[9]?.getD undef = .pointer (some ⟨gb + 1 + 1 + 1, 0, none⟩)) (h10 : T[10]?.getD undef = .pointer (some ⟨gb + 1 + 1 + 1 + 1, 0, none⟩)) (h11 : T[11]?.getD undef = .pointer (some ⟨gb + 1 + 1 + 1 + 1 + 1, 0, none⟩))
    (H : SixIs W gb cb ca v8 v9 v10 v11) (hR : R (.returned (.tuple #[v8, v9, v10, v11])) W) :
    bodyPostD Try.prog Try.f31 R Exit.ret { tmps := T, defers := [{ target := Target.fn (Fn.func 56) #[.pointer (some ⟨gb + 1 + 1, 0, none⟩), .pointer (some ⟨gb + 1 + 1 + 1, 0, none⟩), .pointer (some ⟨gb + 1 + 1 + 1 + 1, 0, none⟩), .pointer (some ⟨gb + 1 + 1 + 1 + 1 + 1, 0, none⟩)], args := #[] }] } W := by
  have hres := results31 h8 h9 h10 h11 H
  refine leaves_cons (f := 56) (args := #[.pointer (some ⟨gb + 1 + 1, 0, none⟩), .pointer (some ⟨gb + 1 + 1 + 1, 0, none⟩), .pointer (some ⟨gb + 1 + 1 + 1 + 1, 0, none⟩), .pointer (some ⟨gb + 1 + 1 + 1 + 1 + 1, 0, none⟩)]) (by simp) (by simp [go_sem]) ?_
  refine (catch_idle _ _ _ _ W).mono ?_
  rintro e u' w'' ⟨rfl, rfl, rfl⟩
  simp [Leaves, settle, hres]
  exact hR
theorem SixIs.put10 {W : World} {g : Nat} {cb ca : Array Value} {v8 v9 v10 v11 : Value} (h : SixIs W g cb ca v8 v9 v10 v11) (u : Value) : SixIs (W.setCell ⟨g + 1 + 1 + 1 + 1, 0, none⟩ u) g cb ca v8 v9 u v11 :=
  ⟨blk_far h.b (by dsimp only; omega) u, blk_far h.a (by dsimp only; omega) u, blk_far h.r8 (by dsimp only; omega) u, blk_far h.r9 (by dsimp only; omega) u, blk_put h.r10 0 u rfl, blk_far h.r11 (by dsimp only; omega) u⟩
theorem row_far {W : World} {base : Nat} {v : Value} {l : List S37} (h : Kd.R k37 37 W base (fun _ => True) v l) {p : Addr} (hp : p.block < base) (u : Value) : Kd.R k37 37 (W.setCell p u) base (fun _ => True) v l :=
  Kd.R_mono (Kd.R_far (Kd.R_bound h) (fun k hk => by have := hk.2.1; omega) u) (fun _ _ => trivial)
theorem slice_out {n : Nat} {args : Array Value} {W : World} {l : List Int} {r : List S37} (h : Calls Try.prog n args W fun e w' => ∃ v, e = .returned v ∧ Kd.R k37 37 w' W.heap.size (fun _ => True) v (l.map (rd_T37 r)) ∧ Below W.heap.size W w') :
    Calls Try.prog n args W fun e w' => ∃ X y, e = .returned (.slice X l.length y) ∧ Kd.R k37 37 w' W.heap.size (fun _ => True) (.slice X l.length y) (l.map (rd_T37 r)) ∧ Below W.heap.size W w' :=
  h.mono fun e w' ⟨v, he, hr, hb⟩ => by
    obtain ⟨X, y, rfl⟩ := Kd.R_slice hr
    rw [List.length_map] at he hr
    exact ⟨X, y, he, hr, hb⟩
/-- Eval behind its loop -/
structure EndIs (w W : World) (gb base rb gr cr : Nat) (cb ca : Array Value) (r : List S37) (u1 u2 u3 v8 v9 v10 v11 : Value) : Prop where
  six : SixIs W gb cb ca v8 v9 v10 v11
  blk : W.heap[rb]? = some (.cells #[.slice (some ⟨gr, 0, none⟩) r.length cr, u1, u2, u3] 84 (0, 0))
  regs : Kd.R k37 37 W base (fun _ => True) (.slice (some ⟨gr, 0, none⟩) r.length cr) r
  old : Below w.heap.size w W
  b0 : w.heap.size = gb
  b1 : gb + 1 + 1 + 1 + 1 + 1 < base
  b2 : base ≤ rb
section
variable {w W W1 : World} {gb base rb gr cr : Nat} {cb ca : Array Value} {r : List S37} {u1 u2 u3 v8 v9 v10 v11 : Value}
theorem EndIs.below (h : EndIs w W gb base rb gr cr cb ca r u1 u2 u3 v8 v9 v10 v11) (hb : Below W.heap.size W W1) : EndIs w W1 gb base rb gr cr cb ca r u1 u2 u3 v8 v9 v10 v11 :=
  ⟨h.six.below hb, blk_below h.blk hb, Kd.R_below h.regs hb, below_then h.old h.old.size hb, h.b0, h.b1, h.b2⟩
theorem EndIs.put10 (h : EndIs w W gb base rb gr cr cb ca r u1 u2 u3 v8 v9 v10 v11) (u : Value) : EndIs w (W.setCell ⟨gb + 1 + 1 + 1 + 1, 0, none⟩ u) gb base rb gr cr cb ca r u1 u2 u3 v8 v9 u v11 :=
  ⟨h.six.put10 u, blk_far h.blk (by have := h.b1; have := h.b2; dsimp only; omega) u, row_far h.regs (by have := h.b1; dsimp only; omega) u, h.old.setCell (by have := h.b0; show w.heap.size ≤ gb + 1 + 1 + 1 + 1; omega) u, h.b0, h.b1, h.b2⟩
theorem EndIs.reads (h : EndIs w W gb base rb gr cr cb ca r u1 u2 u3 v8 v9 v10 v11) : k37.C W (some ⟨gr, 0, none⟩) r.length r := (Kd.R_reads' h.regs).2.2
theorem EndIs.at_ (h : EndIs w W gb base rb gr cr cb ca r u1 u2 u3 v8 v9 v10 v11) {i : Int} (h0 : 0 ≤ i) (h1 : i < r.length) : W.cell? ⟨gr, i.toNat * 3, none⟩ = some (.int .u8 (rd_T37 r i).f0) ∧ W.cell? ⟨gr, i.toNat * 3 + 1, none⟩ = some (.int .i64 (rd_T37 r i).f1) := by
  obtain ⟨ad, e, e0, e1, e2⟩ := at_T37 h.reads i h0 h1
  injection e with e
  subst e
  rw [add_plain] at e0 e1
  exact ⟨e0, e1⟩
/-- the last stores, over rows that the calls made -/
theorem EndIs.last (h : EndIs w W gb base rb gr cr cb ca r u1 u2 u3 v8 v9 v10 v11) {B5 B6 : Nat} {x8 x9 : Value} {l5 l6 : List S37} (h5 : Kd.R k37 37 W B5 (fun _ => True) x8 l5) (h6 : Kd.R k37 37 W B6 (fun _ => True) x9 l6) (hB5 : base ≤ B5) (hB6 : base ≤ B6) (x10 x11 : Value) :
    SixIs ((((W.setCell ⟨gb + 1 + 1, 0, none⟩ x8).setCell ⟨gb + 1 + 1 + 1, 0, none⟩ x9).setCell ⟨gb + 1 + 1 + 1 + 1, 0, none⟩ x10).setCell ⟨gb + 1 + 1 + 1 + 1 + 1, 0, none⟩ x11) gb cb ca x8 x9 x10 x11
    ∧ Kd.R k37 37 ((((W.setCell ⟨gb + 1 + 1, 0, none⟩ x8).setCell ⟨gb + 1 + 1 + 1, 0, none⟩ x9).setCell ⟨gb + 1 + 1 + 1 + 1, 0, none⟩ x10).setCell ⟨gb + 1 + 1 + 1 + 1 + 1, 0, none⟩ x11) B5 (fun _ => True) x8 l5
    ∧ Kd.R k37 37 ((((W.setCell ⟨gb + 1 + 1, 0, none⟩ x8).setCell ⟨gb + 1 + 1 + 1, 0, none⟩ x9).setCell ⟨gb + 1 + 1 + 1 + 1, 0, none⟩ x10).setCell ⟨gb + 1 + 1 + 1 + 1 + 1, 0, none⟩ x11) B6 (fun _ => True) x9 l6
    ∧ Below w.heap.size w ((((W.setCell ⟨gb + 1 + 1, 0, none⟩ x8).setCell ⟨gb + 1 + 1 + 1, 0, none⟩ x9).setCell ⟨gb + 1 + 1 + 1 + 1, 0, none⟩ x10).setCell ⟨gb + 1 + 1 + 1 + 1 + 1, 0, none⟩ x11) := by
  have h1 := h.b1
  have h0 := h.b0
  refine ⟨h.six.set x8 x9 x10 x11, ?_, ?_, ?_⟩
  · exact row_far (row_far (row_far (row_far h5 (by dsimp only; omega) _) (by dsimp only; omega) _) (by dsimp only; omega) _) (by dsimp only; omega) _
  · exact row_far (row_far (row_far (row_far h6 (by dsimp only; omega) _) (by dsimp only; omega) _) (by dsimp only; omega) _) (by dsimp only; omega) _
  · exact (((h.old.setCell (p := ⟨gb + 1 + 1, 0, none⟩) (by show w.heap.size ≤ gb + 1 + 1; omega) _).setCell (p := ⟨gb + 1 + 1 + 1, 0, none⟩) (by show w.heap.size ≤ gb + 1 + 1 + 1; omega) _).setCell (p := ⟨gb + 1 + 1 + 1 + 1, 0, none⟩) (by show w.heap.size ≤ gb + 1 + 1 + 1 + 1; omega) _).setCell (p := ⟨gb + 1 + 1 + 1 + 1 + 1, 0, none⟩) (by show w.heap.size ≤ gb + 1 + 1 + 1 + 1 + 1; omega) _
theorem evald_rows {o : Option (List S37 × List S37 × Int)} {s t : List S37} {n : Int} {w' : World} {x8 x9 : Value} {B5 B6 : Nat} (h : o = some (s, t, n)) (h1 : Kd.R k37 37 w' B5 (fun _ => True) x8 s) (h2 : Kd.R k37 37 w' B6 (fun _ => True) x9 t) (hB : Below w.heap.size w w') : Evald o w (.returned (.tuple #[x8, x9, .int .i64 n, .bool true])) w' := by
  obtain ⟨A, c, rfl, hc, hC⟩ := Kd.R_reads h1
  obtain ⟨B, b, rfl, hb, hD⟩ := Kd.R_reads h2
  exact evald_some h rfl rfl hc hb hC hD hB
end
end Go.Proofs.Ytjkjbfhhfdbnoaa.NW
