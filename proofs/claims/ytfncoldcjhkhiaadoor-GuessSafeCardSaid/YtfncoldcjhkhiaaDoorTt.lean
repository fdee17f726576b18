/- guess.goer.pop. -/
import Derived.Test.YtfncoldcjhkhiaaDoorTn
import Derived.Test.YtfncoldcjhkhiaaDoorTb
namespace Go.Proofs.YtfncoldcjhkhiaaDoor.NW
open Go.RowKit Go.Proofs.YtfncoldcjhkhiaaDoorW.PrintWords Go.Proofs.YtfncoldcjhkhiaaDoorW.PrintMore Go.Proofs.YtfncoldcjhkhiaaDoor.PC
set_option linter.unusedVariables false
set_option linter.unusedSimpArgs false
/-! a row cut short: four words of the print's, laid here -/
theorem own_slice {w : World} {base n : Nat} {e : TypeId} {size : Nat} {v : Value} {xs : List Value} (h : w.ownsRow base e size v n xs) : ∃ A c, v = .slice A n c := by
  rcases h.2 with ⟨rfl, rfl⟩ | ⟨g, cap, cur, rfl, _⟩
  · exact ⟨none, 0, rfl⟩
  · exact ⟨_, cap, rfl⟩
theorem own_take {w : World} {base n m c size : Nat} {e : TypeId} {A : Option Addr} {xs : List Value} (h : w.ownsRow base e size (.slice A n c) n xs) (hm : m ≤ n) : w.ownsRow base e size (.slice A m c) m (xs.take (m * size)) := by
  obtain ⟨h1, h2⟩ := h
  refine ⟨by rw [List.length_take, h1]; exact Nat.min_eq_left (Nat.mul_le_mul_right _ hm), ?_⟩
  rcases h2 with ⟨he, h0⟩ | ⟨g, cap, cur, he, hb, hh, hnc, hcm, hcs, ht⟩
  · injection he with ha _ hc
    subst ha; subst hc
    exact .inl ⟨by rw [show m = 0 by omega], by omega⟩
  · injection he with ha _ hc
    subst ha; subst hc
    refine .inr ⟨g, c, cur, rfl, hb, hh, by omega, hcm, hcs, ?_⟩
    rw [← ht, List.take_take, Nat.min_eq_left (Nat.mul_le_mul_right _ hm)]
theorem reps_take {α : Type} {R : α → List Value → Prop} {size m : Nat} {ps : List α} {cs : List Value} (h : Reps R size ps cs) (hm : m ≤ ps.length) : Reps R size (ps.take m) (cs.take (m * size)) := by
  refine ⟨by rw [List.length_take, List.length_take, h.1, Nat.min_eq_left hm, Nat.min_eq_left (Nat.mul_le_mul_right _ hm)], fun j p hj => ?_⟩
  rw [List.getElem?_take] at hj
  split at hj
  · rename_i hjm
    have := h.2 j p hj
    have hle : j * size + size ≤ m * size := by rw [← Nat.succ_mul]; exact Nat.mul_le_mul_right _ hjm
    rw [List.drop_take, List.take_take, Nat.min_eq_left (by omega)]
    exact this
  · cases hj
theorem R_take {α : Type} {d : Kd α} {e m n c : Nat} {w : World} {base : Nat} {ok : Nat → Prop} {A : Option Addr} {xs : List α} (h : d.R e w base ok (.slice A n c) xs) (hm : m ≤ xs.length) : d.R e w base ok (.slice A m c) (xs.take m) := by
  obtain ⟨h0, inner, ho, hr⟩ := h
  have hn : n = xs.length := by
    obtain ⟨A', c', he⟩ := own_slice ho
    injection he
  subst hn
  have hb : ∀ x y : Nat, (Value.slice A x c).ownBlock = (Value.slice A y c).ownBlock := by
    intro x y
    cases A <;> rfl
  refine ⟨fun k hk => h0 k (by rw [hb _ m]; exact hk), inner.take (m * d.sz), ?_, ?_⟩
  · rw [List.length_take, Nat.min_eq_left hm]
    exact own_take ho hm
  · rw [hb m xs.length]
    exact reps_take hr hm
section
variable {P : Program}
theorem cut_to (t e : TypeId) (kh : IntKind) {i : TypeInfo} (ht : P.underlying t = some (.slice e)) (hi : P.info? e = some i) (A : Option Addr) (n c : Nat) (j : Int) (h0 : 0 ≤ j) (hm : j ≤ n) (hc : n ≤ c) :
    ∀ W : World, (Instr.slice t (.slice A n c) none (some (.int kh j)) none).run P W = .ok (.slice A j.toNat c) W := by
  intro W
  have hel : P.elem t = e := by simp [Program.elem, ht]
  have hu : P.underlying t = some (.slice (P.elem t)) := by rw [hel]; exact ht
  have ha : (A.map fun x => x.add 0) = A := by cases A <;> simp [Addr.add]
  rw [run_slice_h W t A n c hu kh j h0 (by omega), hel]
  simp [sizeOf, typeInfo, hi, sliced, Result.andThen, ha]
end
/-- the goer's box (module, function: eight cells; slots, stack, way), its three rows -/
structure GoIs (w0 w : World) (g : Nat) (a0 a1 a2 a3 a4 a5 a6 a7 : Value) (s st : List Bool) (wy : List Int) (vs vt vw : Value) : Prop where
  blk : w.heap[g]? = some (.cells #[a0, a1, a2, a3, a4, a5, a6, a7, vs, vt, vw] 91 (0, 0))
  rs : Kd.R Kd.bool 4 w w0.heap.size (fun k => k ≠ g) vs s
  rt : Kd.R Kd.bool 4 w w0.heap.size (fun k => k ≠ g) vt st
  rw : Kd.R (Kd.int .i64) 3 w w0.heap.size (fun k => k ≠ g) vw wy
  dis : ∀ k, vs.ownBlock = some k → vt.ownBlock ≠ some k
  dsw : ∀ k, vs.ownBlock = some k → vw.ownBlock ≠ some k
  dtw : ∀ k, vt.ownBlock = some k → vw.ownBlock ≠ some k
  old : Below w0.heap.size w0 w
  gl : w0.heap.size ≤ g
theorem GoIs.below {w0 w w1 : World} {g : Nat} {a0 a1 a2 a3 a4 a5 a6 a7 : Value} {s st : List Bool} {wy : List Int} {vs vt vw : Value} (h : GoIs w0 w g a0 a1 a2 a3 a4 a5 a6 a7 s st wy vs vt vw) (hb : Below w.heap.size w w1) : GoIs w0 w1 g a0 a1 a2 a3 a4 a5 a6 a7 s st wy vs vt vw :=
  ⟨blk_below h.blk hb, Kd.R_below h.rs hb, Kd.R_below h.rt hb, Kd.R_below h.rw hb, h.dis, h.dsw, h.dtw, below_then h.old h.old.size hb, h.gl⟩
/-- the stack's slice is another one now -/
theorem GoIs.put {w0 w : World} {g : Nat} {a0 a1 a2 a3 a4 a5 a6 a7 : Value} {s st st' : List Bool} {wy : List Int} {vs vt vt' vw : Value} (h : GoIs w0 w g a0 a1 a2 a3 a4 a5 a6 a7 s st wy vs vt vw) (hr : Kd.R Kd.bool 4 w w0.heap.size (fun k => k ≠ g) vt' st') (hd : vt'.ownBlock = vt.ownBlock) : GoIs w0 (w.setCell ⟨g, 9, none⟩ vt') g a0 a1 a2 a3 a4 a5 a6 a7 s st' wy vs vt' vw :=
  ⟨blk_put h.blk 9 vt' rfl, Kd.R_far h.rs (p := ⟨g, 9, none⟩) (fun k hk => hk) vt', Kd.R_far hr (p := ⟨g, 9, none⟩) (fun k hk => hk) vt', Kd.R_far h.rw (p := ⟨g, 9, none⟩) (fun k hk => hk) vt', by rw [hd]; exact h.dis, h.dsw, by rw [hd]; exact h.dtw, h.old.setCell (p := ⟨g, 9, none⟩) h.gl vt', h.gl⟩
theorem heap_drewN (w : World) (n : Nat) : (w.drewN n).heap = w.heap := by
  induction n generalizing w with
  | zero => rfl
  | succ n ih => exact (ih w.drew).trans rfl
theorem Keeps.drewN {w w' : World} {g h : Nat} {row : Option Nat} (k : Keeps w w' g h row) (n : Nat) : Keeps w (w'.drewN n) g h row :=
  ⟨by rw [heap_drewN]; exact k.size, fun j a b c d => by rw [heap_drewN]; exact k.block j a b c d⟩
theorem Keeps.set {w w' : World} {g h : Nat} {row : Option Nat} (k : Keeps w w' g h row) {o : Nat} (v : Value) : Keeps w ((w'.setCell ⟨g, o, none⟩ v).drew) g h row :=
  ⟨by have := k.size; simpa [World.setCell] using this, fun j a b c d => (Below.heap_setCell w' _ v j b).trans (k.block j a b c d)⟩
theorem Keeps.trans {w w1 w2 : World} {g h : Nat} (k : Keeps w w1 g h none) (l : Keeps w1 w2 g h none) : Keeps w w2 g h none :=
  ⟨Nat.le_trans k.size l.size, fun j a b c d => (l.block j (Nat.lt_of_lt_of_le a k.size) b c d).trans (k.block j a b c d)⟩
section
variable {w0 w : World} {g : Nat} {a0 a1 a2 a3 a4 a5 a6 a7 : Value} {s st : List Bool} {wy : List Int} {vs vt vw : Value}
set_option maxHeartbeats 3200000 in
set_option maxRecDepth 1000000 in
theorem pop_calls {b : Bool} (h : GoIs w0 w g a0 a1 a2 a3 a4 a5 a6 a7 s (st ++ [b]) wy vs vt vw) :
    Calls Tryd.prog 86 #[.pointer (some ⟨g, 0, none⟩)] w fun e w' => e = .returned (.bool b) ∧ ∃ vt', GoIs w0 w' g a0 a1 a2 a3 a4 a5 a6 a7 s st wy vs vt' vw ∧ Keeps w w' g g none := by
  obtain ⟨gb, cap, ev, hgb, hgl, _⟩ := Kd.R_form h.rt (by simp)
  have hl : (st ++ [b]).length = st.length + 1 := by simp
  rw [hl] at ev
  have hr := h.rt
  rw [ev, ← hl] at hr
  have hc := (Kd.R_cell true hr (st.length : Int) (by omega) (by rw [hl]; omega)).1
  have hmx := (Kd.R_reads' hr).2.2.2.1
  have hcp := (Kd.R_reads' hr).2.1
  rw [hl] at hcp
  rw [hl] at hmx
  have e1 : w.cell? ⟨gb, st.length, none⟩ = some (.bool b) := by
    rw [Int.toNat_natCast] at hc
    rw [hc]
    simp [rdOf]
  have t1 : w.cell? ⟨g, 9, none⟩ = some (.slice (some ⟨gb, 0, none⟩) (st.length + 1) cap) := by rw [← ev]; exact (blk_cell h.blk 9).trans rfl
  have tf : w.frozen? ⟨g, 9, none⟩ = false := blk_frozen h.blk 9
  generalize hk : st.length = k at *
  have hw : wrap64 ((k : Int) + 1 - 1) = (k : Int) := by unfold wrap64; omega
  have i0 : (0 : Int) ≤ (k : Int) := by omega
  have i1 : (k : Int) ≤ (cap : Int) := by omega
  have i2 : k ≤ cap := by omega
  have i3 : ¬ (cap < k) := by omega
  have i4 : ¬ ((cap : Int) < (k : Int)) := by omega
  have HH := Aside0.mk h
  clear h hc hr
  have hcut : ∀ W : World, (Instr.slice 89 (.slice (some ⟨gb, 0, none⟩) (k + 1) cap) none (some (.int .i64 (k : Int))) none).run Tryd.prog W = .ok (.slice (some ⟨gb, 0, none⟩) k cap) W := fun W => by rw [cut_to 89 4 .i64 Tryd.underlying89 rfl (some ⟨gb, 0, none⟩) (k + 1) cap (k : Int) (by omega) (by omega) (by omega) W, Int.toNat_natCast]
  go_enter Tryd.func86, Tryd.ntmps86
  go_wp2_with fail
  go_quiet (fail)
  go_wp2_with fail
  obtain ⟨w2, hw2⟩ : ∃ w2, w2 = w.drewN nq := ⟨_, rfl⟩
  rw [← hw2]
  have t2 : w2.cell? ⟨g, 9, none⟩ = some (.slice (some ⟨gb, 0, none⟩) (k + 1) cap) := by rw [hw2]; exact t1
  have tf2 : w2.frozen? ⟨g, 9, none⟩ = false := by rw [hw2]; exact tf
  have S0 : w2.cell? ⟨g, 9, none⟩ = some (.slice (some ⟨gb, 0, none⟩) (k + 1) cap) := t2
  have HW2 := Aside0.mk hw2
  clear t1 tf e1 hw2
  go_region
  go_wp2_with fail
  go_ret
  refine ⟨rfl, .slice (some ⟨gb, 0, none⟩) k cap, ?_⟩
  have H := HH.out.below (w1 := w2) (by rw [HW2.out]; exact pw_below_drewN (Below.refl _ _) nq)
  have hrt := R_take (m := k) (ev ▸ H.rt) (by rw [hl]; omega)
  rw [← hk, List.take_left'  rfl] at hrt
  rw [hk] at hrt
  refine ⟨(H.put hrt (by rw [ev]; rfl)).below (Below.refl _ _).drew, ?_⟩
  rw [HW2.out]
  exact Keeps.set ((Keeps.refl w g g none).drewN nq) _
end
end Go.Proofs.YtfncoldcjhkhiaaDoor.NW
