/- verify.goes. -/
import Derived.Test.YtfncoldcjhkhiaaDoorTd
import Derived.Deep.RegionLaw
import Derived.Handy
import Derived.Test.YtfncoldcjhkhiaaDoorFa
namespace Go.Proofs.YtfncoldcjhkhiaaDoor.NW
open Go.RowKit Go.Proofs.YtfncoldcjhkhiaaDoorW.PrintWords Go.Proofs.YtfncoldcjhkhiaaDoorW.PrintMore Go.Proofs.YtfncoldcjhkhiaaDoor.PC
set_option linter.unusedVariables false
set_option linter.unusedSimpArgs false
section
variable {A0 : Option Addr} {c0 : Nat} {l0 : List Int} {A1 : Option Addr} {c1 : Nat} {l1 : List ByteArray} {A2 : Option Addr} {c2 : Nat} {l2 : List S44} {A3 : Option Addr} {c3 : Nat} {l3 : List S41}
/-- the cells of a checker -/
abbrev chkCells (A0 : Option Addr) (n0 c0 : Nat) (A1 : Option Addr) (n1 c1 : Nat) (A2 : Option Addr) (n2 c2 : Nat) (A3 : Option Addr) (n3 c3 : Nat) (p0 p1 p2 : Int) (B : Option Addr) (n b : Nat) (D T : Value) : Array Value :=
  #[.slice A0 n0 c0, .slice A1 n1 c1, .slice A2 n2 c2, .slice A3 n3 c3, .int .i64 p0, .int .i64 p1, .int .i64 p2, .slice B n b, D, T]
/-- a checker, made since w0: its depths lie in the block h, its todo is v -/
structure ChkIs (w0 w : World) (g h n : Nat) (cs : Value → Value → Array Value) (cd : Nat) (D T : List Int) (v : Value) : Prop where
  blk : w.heap[g]? = some (.cells (cs (.slice (some ⟨h, 0, none⟩) D.length cd) v) 86 (0, 0))
  dR : Kd.R (Kd.int .i64) 3 w w0.heap.size (fun k => k = h) (.slice (some ⟨h, 0, none⟩) D.length cd) D
  tR : Kd.R (Kd.int .i64) 3 w w0.heap.size (fun k => k ≠ g ∧ k ≠ h) v T
  old : Below w0.heap.size w0 w
  gh : g ≠ h
  gl : w0.heap.size ≤ g
  hl : w0.heap.size ≤ h
  len : D.length = n
/-- all blocks but these two, and a row's own, are as they were -/
structure Keeps (w w' : World) (g h : Nat) (row : Option Nat) : Prop where
  size : w.heap.size ≤ w'.heap.size
  block : ∀ k, k < w.heap.size → k ≠ g → k ≠ h → some k ≠ row → w'.heap[k]? = w.heap[k]?
theorem Keeps.refl (w : World) (g h : Nat) (row : Option Nat) : Keeps w w g h row := ⟨Nat.le_refl _, fun _ _ _ _ _ => rfl⟩
theorem ChkIs.pushed {w0 w w1 : World} {g h n cd : Nat} {p0 p1 p2 : Int} {B : Option Addr} {b : Nat} {D T : List Int} {v v1 : Value} (H : ChkIs w0 w g h n (chkCells A0 l0.length c0 A1 l1.length c1 A2 l2.length c2 A3 l3.length c3 p0 p1 p2 B n b) cd D T v)
    (s e : Int) (hs : 0 ≤ s) (hlt : s < n) (hr : Kd.R (Kd.int .i64) 3 w1 w0.heap.size (fun k => k ≠ g ∧ k ≠ h) v1 (T ++ [s])) (hb : Below w0.heap.size w0 w1) (hg : (w.setCell ⟨h, s.toNat, none⟩ (.int .i64 e)).grownBy w1 v.ownBlock) :
    w1.cell? ⟨g, 9, none⟩ = some v ∧ w1.frozen? ⟨g, 9, none⟩ = false ∧ (w1.setCell ⟨g, 9, none⟩ v1).cell? ⟨g, 8, none⟩ = some (.slice (some ⟨h, 0, none⟩) D.length cd) ∧ (w1.setCell ⟨g, 9, none⟩ v1).cell? ⟨h, s.toNat, none⟩ = some (.int .i64 e) ∧
      ChkIs w0 (w1.setCell ⟨g, 9, none⟩ v1) g h n (chkCells A0 l0.length c0 A1 l1.length c1 A2 l2.length c2 A3 l3.length c3 p0 p1 p2 B n b) cd (D.set s.toNat e) (T ++ [s]) v1 ∧ Keeps w (w1.setCell ⟨g, 9, none⟩ v1) g h v.ownBlock := by
  have hl := H.len
  have hne : some g ≠ v.ownBlock := fun e => (H.tR.1 g e.symm).1 rfl
  have hneh : some h ≠ v.ownBlock := fun e => (H.tR.1 h e.symm).2 rfl
  have BK := blk_grown (blk_far H.blk (p := ⟨h, s.toNat, none⟩) H.gh (.int .i64 e)) hg hne
  have BK2 : (w1.setCell ⟨g, 9, none⟩ v1).heap[g]? = some (.cells (chkCells A0 l0.length c0 A1 l1.length c1 A2 l2.length c2 A3 l3.length c3 p0 p1 p2 B n b (.slice (some ⟨h, 0, none⟩) D.length cd) v1) 86 (0, 0)) := blk_put BK 9 v1 rfl
  have hD1 := (Kd.R_put H.dR s e).1
  have hD2 := Kd.R_far (Kd.R_step hD1 (w1 := w1) (fun k hk hlt => hg.block k hlt (by rw [hk]; exact hneh))) (p := ⟨g, 9, none⟩) (fun k hk => by rw [hk]; exact H.gh.symm) v1
  have hD3 : (Kd.scalar (Value.int .i64) (fun _ => rfl)).R 3 (w1.setCell ⟨g, 9, none⟩ v1) w0.heap.size (fun k => k = h) (.slice (some ⟨h, 0, none⟩) (D.set s.toNat e).length cd) (D.set s.toNat e) := by rw [List.length_set]; exact hD2
  have hx := (Kd.R_cell 0 hD3 s hs (by rw [List.length_set]; omega)).1
  rw [show rdOf 0 (D.set s.toNat e) s = e from by
    have := Flow.at_set (D := D) (a := s) (b := s) (e := e) hs hs (by omega)
    rw [if_pos rfl] at this; exact this] at hx
  exact ⟨(blk_cell BK 9).trans rfl, blk_frozen BK 9, (blk_cell BK2 8).trans rfl, hx, ⟨by rw [List.length_set]; exact BK2, hD3, Kd.R_far hr (p := ⟨g, 9, none⟩) (fun k hk => hk.1) v1, hb.setCell (p := ⟨g, 9, none⟩) H.gl v1, H.gh, H.gl, H.hl, by rw [List.length_set]; exact hl⟩, by
    refine ⟨by have := hg.size; simpa [World.setCell] using this, fun k hk k1 k2 k3 => ?_⟩
    exact (Below.heap_setCell w1 _ v1 k k1).trans ((hg.block k (by simpa [World.setCell] using hk) k3).trans (Below.heap_setCell w _ _ k k2))⟩
set_option maxHeartbeats 1600000 in
set_option maxRecDepth 1000000 in
theorem goes_calls (w0 w : World) (g h n cd : Nat) (p0 p1 p2 : Int) (B : Option Addr) (b : Nat) (D T : List Int) (v : Value) (H : ChkIs w0 w g h n (chkCells A0 l0.length c0 A1 l1.length c1 A2 l2.length c2 A3 l3.length c3 p0 p1 p2 B n b) cd D T v)
    (s e : Int) (hs : 0 ≤ s) (hn : n ≤ 16384) (hT : T.length ≤ 100000) :
    Calls Tryd.prog 67 #[.pointer (some ⟨g, 0, none⟩), .int .i64 s, .int .i64 e] w fun x w' => x = .returned (.bool (Flow.goesS n D T s e).1) ∧ ∃ v', ChkIs w0 w' g h n (chkCells A0 l0.length c0 A1 l1.length c1 A2 l2.length c2 A3 l3.length c3 p0 p1 p2 B n b) cd (Flow.goesS n D T s e).2.1 (Flow.goesS n D T s e).2.2 v' ∧ Keeps w w' g h v.ownBlock := by
  have hB := H.blk
  have g7 : w.cell? ⟨g, 7, none⟩ = some (.slice B n b) := (blk_cell hB 7).trans rfl
  have g8 : w.cell? ⟨g, 8, none⟩ = some (.slice (some ⟨h, 0, none⟩) D.length cd) := (blk_cell hB 8).trans rfl
  have HH := Aside0.mk H
  have hnn : (n : Int) ≤ 9223372036854775807 := by omega
  by_cases k1 : s ≥ n
  · have e_ : Flow.goesS n D T s e = (false, D, T) := by unfold Flow.goesS; rw [if_pos (.inl k1)]
    have d1 : decide ((n : Int) ≤ s) = true := decide_eq_true k1
    rw [e_]
    clear e_ H hB k1
    go_enter Tryd.func67, Tryd.ntmps67
    go_wp2
    go_ret
    exact ⟨rfl, v, HH.out, Keeps.refl _ _ _ _⟩
  have d1 : decide ((n : Int) ≤ s) = false := decide_eq_false k1
  by_cases k2 : e > 256
  · have e_ : Flow.goesS n D T s e = (false, D, T) := by unfold Flow.goesS; rw [if_pos (.inr k2)]
    have d2 : decide (256 < e) = true := decide_eq_true k2
    rw [e_]
    clear e_ H hB k1 k2
    go_enter Tryd.func67, Tryd.ntmps67
    go_wp2
    go_ret
    exact ⟨rfl, v, HH.out, Keeps.refl _ _ _ _⟩
  have d2 : decide (256 < e) = false := decide_eq_false k2
  have hlt : s < (n : Int) := by omega
  have hlen := H.len
  have hlt2 : s < (D.length : Int) := by omega
  obtain ⟨q0, qf⟩ := Kd.R_cell 0 H.dR s hs (by rw [hlen]; exact hlt)
  have hd : rdOf 0 D s = Flow.at_ D s := rfl
  rw [hd] at q0
  by_cases k3 : Flow.at_ D s = -1
  · have e_ : Flow.goesS n D T s e = (true, D.set s.toNat e, T ++ [s]) := by unfold Flow.goesS; rw [if_neg (by omega), if_pos k3]
    rw [e_]
    rw [k3] at q0
    have HL := Aside0.mk hlen
    have hB1 := blk_far hB (p := ⟨h, s.toNat, none⟩) H.gh (.int .i64 e)
    have y8 : (w.setCell ⟨h, s.toNat, none⟩ (.int .i64 e)).cell? ⟨g, 8, none⟩ = some (.slice (some ⟨h, 0, none⟩) D.length cd) := (blk_cell hB1 8).trans rfl
    have y9 : (w.setCell ⟨h, s.toNat, none⟩ (.int .i64 e)).cell? ⟨g, 9, none⟩ = some v := (blk_cell hB1 9).trans rfl
    have HB1 := Aside0.mk hB1
    have hput := Kd.R_put H.dR s e
    have HD1 := Aside0.mk hput.1
    have HT1 := Aside0.mk (Kd.R_far H.tR (p := ⟨h, s.toNat, none⟩) (fun k hk => hk.2) (.int .i64 e))
    have HO1 := Aside0.mk (H.old.setCell (p := ⟨h, s.toNat, none⟩) H.hl (.int .i64 e))
    have HTL := Aside0.mk hT
    have GH := Aside0.mk H.gh.symm
    have GL := Aside0.mk H.gl
    have he0 : Flow.at_ (D.set s.toNat e) s = e := by rw [Flow.at_set hs hs (by omega), if_pos rfl]
    have HE0 := Aside0.mk he0
    clear e_ H hB k1 k2 k3 hd hlen hB1 hput hT he0
    go_enter Tryd.func67, Tryd.ntmps67
    go_wp2_with ((with_reducible refine gate_builtin (b := .append) (xs := #[.tmp 38, .tmp 40]) rfl ?_); at_builtin; go_loud (refine Kd.R_append (Kd.int .i64) (w0 := w0) w0.heap.size rfl (.tmp 38) (.tmp 40) 39 3 (.int .i64 0) 8 rfl Tryd.underlying39 info3 rfl (by decide) (by omega) v T s [.int .i64 s] (fun k => k ≠ g ∧ k ≠ h) (fun _ => False) rfl ?aX ?aP (fun _ hk => hk.elim) ?aF ?aO ?aB ?aS ?aL ?_; (case aP => exact rfl); (case aX => show Value.slice (some ⟨w.heap.size, 0, none⟩) 1 1 = _; rw [show (w.setCell ⟨h, s.toNat, none⟩ (.int .i64 e)).heap.size = w.heap.size by simp [World.setCell]]); (case aF => exact fun k hk => ⟨by have := blk_lt HB1.out; omega, by have := Kd.R_lt HD1.out h rfl; omega⟩); (case aO => exact HT1.out); (case aB => exact HO1.out); (case aS => exact HO1.out.size); (case aL => have := HTL.out; omega); intro v1 w1 hr hb hg hat); go_loud (obtain ⟨z9, zf, z8, x0, hC, hQ⟩ := HH.out.pushed s e hs hlt hr hb hg; have HC := Aside0.mk hC; have HQ := Aside0.mk hQ; obtain ⟨Av, cv, ev⟩ := Kd.R_slice hr; generalize (T ++ [s]).length = m at ev; clear hr hb hg hat hC hQ; subst ev))
    go_ret
    exact ⟨rfl, _, HC.out, HQ.out⟩
  · have e_ : Flow.goesS n D T s e = (decide (Flow.at_ D s = e), D, T) := by unfold Flow.goesS; rw [if_neg (by omega), if_neg k3]
    rw [e_]
    have d3 : (Flow.at_ D s == -1) = false := beq_eq_false_iff_ne.2 k3
    clear e_ H hB k1 k2 k3 hd hlen
    go_enter Tryd.func67, Tryd.ntmps67
    go_wp2
    go_ret
    exact ⟨rfl, v, HH.out, Keeps.refl _ _ _ _⟩
end
end Go.Proofs.YtfncoldcjhkhiaaDoor.NW
