/- What came in as what is around. -/
import Derived.Test.YtjkjbfhhfdbnoaaSc
namespace Go.Proofs.Ytjkjbfhhfdbnoaa.NW
open Go.RowKit Go.ChangeShapes Go.WideShapes Go.ChangeAt Go.Joins Go.Proofs.YtjkjbfhhfdbnoaaW.PrintWords Go.Proofs.YtjkjbfhhfdbnoaaW.PrintMore Go.Proofs.Ytjkjbfhhfdbnoaa.PB
set_option linter.unusedVariables false
set_option linter.unusedSimpArgs false

section
variable {H : Type} {enc : TypeId × Value → H} {w : World} {base : Nat} {spare : Nat → Bool} {held : Bool}
theorem cz26 : Try.prog.cellsOf 26 = 1 := by kernel_rfl
theorem cz27 : Try.prog.cellsOf 27 = 1 := by kernel_rfl
theorem cz54 : Try.prog.cellsOf 54 = 4 := by kernel_rfl
theorem cz29 : Try.prog.cellsOf 29 = 2 := by kernel_rfl
def W54 (a : S54) : Prop := a.f0.size ≤ maxLen ∧ (∀ v ∈ a.f3, W37 v) ∧ a.f3.length ≤ maxLen
theorem len4 {l : List Value} (h : l.length = 4) : ∃ c0 c1 c2 c3, l = [c0, c1, c2, c3] := by
  match l, h with
  | [a, b, c, d], _ => exact ⟨a, b, c, d, rfl⟩
theorem len2 {l : List Value} (h : l.length = 2) : ∃ c0 c1, l = [c0, c1] := by
  match l, h with
  | [a, b], _ => exact ⟨a, b, rfl⟩
theorem tr54 {fuel : Nat} {cs : List Value} {x : DataW H × List MemPlace} (h : DataW.trod enc Try.prog w base spare held fuel 54 cs = some x) : ∃ a : S54, k54.K w a cs ∧ W54 a := by
  obtain ⟨xs, n, _, _, hl, hxl, hf⟩ := DataW.trod_struct Try.underlying54 h
  have hl4 : cs.length = 4 := hl.trans cz54
  obtain ⟨c0, c1, c2, c3, rfl⟩ := len4 hl4
  have e0 : DataW.trod enc Try.prog w base spare held n 9 (List.take (Try.prog.cellsOf 9) (List.drop 0 [c0, c1, c2, c3])) = xs[0]? := hf 0 _ rfl
  simp only [cz9, List.drop_zero, List.drop_succ_cons, List.take_succ_cons, List.take_zero] at e0
  have e1 : DataW.trod enc Try.prog w base spare held n 3 (List.take (Try.prog.cellsOf 3) (List.drop 1 [c0, c1, c2, c3])) = xs[1]? := hf 1 _ rfl
  simp only [cz3, List.drop_zero, List.drop_succ_cons, List.take_succ_cons, List.take_zero] at e1
  have e2 : DataW.trod enc Try.prog w base spare held n 3 (List.take (Try.prog.cellsOf 3) (List.drop 2 [c0, c1, c2, c3])) = xs[2]? := hf 2 _ rfl
  simp only [cz3, List.drop_zero, List.drop_succ_cons, List.take_succ_cons, List.take_zero] at e2
  have e3 : DataW.trod enc Try.prog w base spare held n 26 (List.take (Try.prog.cellsOf 26) (List.drop 3 [c0, c1, c2, c3])) = xs[3]? := hf 3 _ rfl
  simp only [cz26, List.drop_zero, List.drop_succ_cons, List.take_succ_cons, List.take_zero] at e3
  have hx4 : xs.length = 4 := hxl
  rw [List.getElem?_eq_getElem (by omega)] at e0 e1 e2 e3
  obtain ⟨n0, g0, _, w0⟩ := DataW.trod_string Try.underlying9 e0
  obtain ⟨n1, g1, _, _⟩ := DataW.trod_int Try.underlying3 e1
  obtain ⟨n2, g2, _, _⟩ := DataW.trod_int Try.underlying3 e2
  obtain ⟨A3, d3, l3, g3, p3, q3, r3, m3⟩ := trC W37 Try.underlying26 cz37 tr37 e3
  simp only [List.cons.injEq, and_true] at g0 g1 g2 g3
  subst g0 g1 g2 g3
  exact ⟨⟨n0, n1, n2, l3⟩, k54_mk w ⟨n0, n1, n2, l3⟩ p3 q3, w0, r3, Nat.le_trans p3 m3⟩
theorem tr29 {fuel : Nat} {cs : List Value} {x : DataW H × List MemPlace} (h : DataW.trod enc Try.prog w base spare held fuel 29 cs = some x) :
    ∃ (A0 : Option Addr) (c0 : Nat) (l0 : List S37) (A1 : Option Addr) (c1 : Nat) (l1 : List S54), cs = [.slice A0 l0.length c0, .slice A1 l1.length c1] ∧ l0.length ≤ c0 ∧ k37.C w A0 l0.length l0 ∧ l1.length ≤ c1 ∧ k54.C w A1 l1.length l1 ∧ (∀ v ∈ l0, W37 v) ∧ (∀ x ∈ l1, W54 x) := by
  obtain ⟨xs, n, _, _, hl, hxl, hf⟩ := DataW.trod_struct Try.underlying29 h
  have hl2 : cs.length = 2 := hl.trans cz29
  obtain ⟨c0, c1, rfl⟩ := len2 hl2
  have e0 : DataW.trod enc Try.prog w base spare held n 26 (List.take (Try.prog.cellsOf 26) (List.drop 0 [c0, c1])) = xs[0]? := hf 0 _ rfl
  simp only [cz26, List.drop_zero, List.drop_succ_cons, List.take_succ_cons, List.take_zero] at e0
  have e1 : DataW.trod enc Try.prog w base spare held n 27 (List.take (Try.prog.cellsOf 27) (List.drop 1 [c0, c1])) = xs[1]? := hf 1 _ rfl
  simp only [cz27, List.drop_zero, List.drop_succ_cons, List.take_succ_cons, List.take_zero] at e1
  have hx2 : xs.length = 2 := hxl
  rw [List.getElem?_eq_getElem (by omega)] at e0 e1
  obtain ⟨A0, d0, l0, g0, p0, q0, r0, _⟩ := trC W37 Try.underlying26 cz37 tr37 e0
  obtain ⟨A1, d1, l1, g1, p1, q1, r1, _⟩ := trC W54 Try.underlying27 cz54 tr54 e1
  simp only [List.cons.injEq, and_true] at g0 g1
  subst g0 g1
  exact ⟨A0, d0, l0, A1, d1, l1, rfl, p0, q0, p1, q1, r0, r1⟩
end
end Go.Proofs.Ytjkjbfhhfdbnoaa.NW
