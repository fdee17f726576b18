/- What came in as a block, as rows of values, of instructions: the rows that the walks read. -/
import Derived.Test.YtjkjbfhhfdbnoaaRi
import Derived.WalkKit
import Derived.ProofKit
import Derived.OpenShut
import Derived.ShutString
import Derived.ChangeOld
import Derived.ChangeArms
import Derived.Below
import Derived.SizedLaws
import Derived.HandedShaped
import Derived.Lib.SmallJoins
import Derived.Carry
namespace Go.Proofs.Ytjkjbfhhfdbnoaa.NW
open Go.RowKit Go.ChangeShapes Go.WideShapes Go.ChangeAt Go.Joins Go.Proofs.YtjkjbfhhfdbnoaaW.PrintWords Go.Proofs.YtjkjbfhhfdbnoaaW.PrintMore Go.Proofs.Ytjkjbfhhfdbnoaa.PB
set_option linter.unusedVariables false
set_option linter.unusedSimpArgs false

/-! ### What came in, opened to the rows that the walks read -/
section
variable {H : Type} {enc : TypeId × Value → H} {w : World} {base : Nat} {spare : Nat → Bool} {held : Bool}

theorem trC {α : Type} {t e : Nat} {d : Kd α} (Q : α → Prop) (ht : Try.prog.underlying t = some (.slice e)) (hC : Try.prog.cellsOf e = d.sz)
    (hd : ∀ {fuel : Nat} {cs : List Value} {x : DataW H × List MemPlace}, DataW.trod enc Try.prog w base spare held fuel e cs = some x → ∃ a, d.K w a cs ∧ Q a)
    {fuel : Nat} {cs : List Value} {x : DataW H × List MemPlace} (h : DataW.trod enc Try.prog w base spare held fuel t cs = some x) :
    ∃ A c xs, cs = [.slice A xs.length c] ∧ xs.length ≤ c ∧ d.C w A xs.length xs ∧ (∀ a ∈ xs, Q a) ∧ c ≤ maxLen := by
  rcases DataW.trod_slice ht h with ⟨rfl, _⟩ | ⟨a, len, cap, elems, rest, n, _, rfl, _, _, hl, hm, hel, hi, _, _⟩
  · exact ⟨none, 0, [], rfl, Nat.le_refl _, Kd.C_nil d w, fun a ha => by simp at ha, Nat.zero_le _⟩
  · have hone : ∀ i, i < len → ∃ a' cs', d.K w a' cs' ∧ Q a' ∧ cs'.length = d.sz ∧ ∀ j u, cs'[j]? = some u → w.cell? (a.add (i * d.sz + j)) = some u := by
      intro i hlt
      have h1 := hi i hlt
      rw [List.getElem?_eq_getElem (by omega), hC] at h1
      obtain ⟨cs', hc, ht'⟩ := Option.bind_eq_some_iff.1 h1
      obtain ⟨a', hK, hQ⟩ := hd ht'
      obtain ⟨_, hcl, hat⟩ := World.cells?_some hc
      refine ⟨a', cs', hK, hQ, hcl, fun j u hj => ?_⟩
      have hjl : j < d.sz := by have := (List.getElem?_eq_some_iff.1 hj).1; omega
      have h2 := (hat j hjl).trans hj
      rw [show a.add (i * d.sz + j) = (a.add (i * d.sz)).add j by by_cases z1 : i * d.sz = 0 <;> by_cases z2 : j = 0 <;> simp [Addr.add, z1, z2, Nat.add_assoc]]
      exact h2
    have hall : ∀ m, m ≤ len → ∃ xs : List α, xs.length = m ∧ (∀ a' ∈ xs, Q a') ∧ ∀ j p, xs[j]? = some p → ∃ c, c.length = d.sz ∧ d.K w p c ∧ ∀ i u, c[i]? = some u → w.cell? (a.add (j * d.sz + i)) = some u := by
      intro m
      induction m with
      | zero => exact fun _ => ⟨[], rfl, fun a ha => by simp at ha, fun j p hj => by simp at hj⟩
      | succ m ih =>
        intro hm1
        obtain ⟨xs, hxl, hxq, hxs⟩ := ih (by omega)
        obtain ⟨a', cs', hK, hQ, hcl, hcell⟩ := hone m (by omega)
        refine ⟨xs ++ [a'], by simp [hxl], fun b hb => ?_, fun j p hj => ?_⟩
        · rcases List.mem_append.1 hb with hb | hb
          · exact hxq b hb
          · rw [List.mem_singleton.1 hb]; exact hQ
        · rcases Nat.lt_or_ge j m with hlt | hge
          · rw [List.getElem?_append_left (by omega)] at hj
            exact hxs j p hj
          · rw [List.getElem?_append_right (by omega), hxl] at hj
            have hjm : j = m := by
              have := (List.getElem?_eq_some_iff.1 hj).1
              simp at this
              omega
            subst hjm
            simp at hj
            subst hj
            exact ⟨cs', hcl, hK, hcell⟩
    obtain ⟨xs, hxl, hxq, hxs⟩ := hall len (Nat.le_refl _)
    subst hxl
    exact ⟨some a, cap, xs, rfl, hl, ⟨rfl, by unfold maxLen at hm; omega, fun _ => ⟨a, rfl, hxs⟩⟩, hxq, hm⟩
theorem cz2 : Try.prog.cellsOf 2 = 1 := by kernel_rfl
theorem cz3 : Try.prog.cellsOf 3 = 1 := by kernel_rfl
theorem cz5 : Try.prog.cellsOf 5 = 1 := by kernel_rfl
theorem cz9 : Try.prog.cellsOf 9 = 1 := by kernel_rfl
theorem cz22 : Try.prog.cellsOf 22 = 1 := by kernel_rfl
theorem cz23 : Try.prog.cellsOf 23 = 1 := by kernel_rfl
theorem cz37 : Try.prog.cellsOf 37 = 3 := by kernel_rfl
theorem cz39 : Try.prog.cellsOf 39 = 8 := by kernel_rfl
theorem trI {t : Nat} {k : IntKind} (ht : Try.prog.underlying t = some (.int k)) {fuel : Nat} {cs : List Value} {x : DataW H × List MemPlace} (h : DataW.trod enc Try.prog w base spare held fuel t cs = some x) :
    ∃ n, (Kd.int k).K w n cs ∧ (Lit.int k n).wf = true := by
  obtain ⟨n, rfl, _, hw⟩ := DataW.trod_int ht h
  exact ⟨n, rfl, hw⟩
theorem len3 {l : List Value} (h : l.length = 3) : ∃ c0 c1 c2, l = [c0, c1, c2] := by
  match l, h with
  | [c0, c1, c2], _ => exact ⟨c0, c1, c2, rfl⟩
theorem len8 {l : List Value} (h : l.length = 8) : ∃ c0 c1 c2 c3 c4 c5 c6 c7, l = [c0, c1, c2, c3, c4, c5, c6, c7] := by
  match l, h with
  | [c0, c1, c2, c3, c4, c5, c6, c7], _ => exact ⟨c0, c1, c2, c3, c4, c5, c6, c7, rfl⟩
theorem len10 {l : List Value} (h : l.length = 10) : ∃ c0 c1 c2 c3 c4 c5 c6 c7 c8 c9, l = [c0, c1, c2, c3, c4, c5, c6, c7, c8, c9] := by
  match l, h with
  | [c0, c1, c2, c3, c4, c5, c6, c7, c8, c9], _ => exact ⟨c0, c1, c2, c3, c4, c5, c6, c7, c8, c9, rfl⟩
def W37 (a : S37) : Prop := (Lit.int .u8 a.f0).wf = true ∧ (Lit.int .i64 a.f1).wf = true ∧ a.f2.size ≤ maxLen
theorem tr37 {fuel : Nat} {cs : List Value} {x : DataW H × List MemPlace} (h : DataW.trod enc Try.prog w base spare held fuel 37 cs = some x) : ∃ a : S37, k37.K w a cs ∧ W37 a := by
  obtain ⟨xs, n, _, _, hl, hxl, hf⟩ := DataW.trod_struct Try.underlying37 h
  have hl3 : cs.length = 3 := hl.trans cz37
  obtain ⟨c0, c1, c2, rfl⟩ := len3 hl3
  have e0 : DataW.trod enc Try.prog w base spare held n 5 (List.take (Try.prog.cellsOf 5) (List.drop 0 [c0, c1, c2])) = xs[0]? := hf 0 _ rfl
  simp only [cz5, List.drop_zero, List.drop_succ_cons, List.take_succ_cons, List.take_zero] at e0
  have e1 : DataW.trod enc Try.prog w base spare held n 2 (List.take (Try.prog.cellsOf 2) (List.drop 1 [c0, c1, c2])) = xs[1]? := hf 1 _ rfl
  simp only [cz2, List.drop_zero, List.drop_succ_cons, List.take_succ_cons, List.take_zero] at e1
  have e2 : DataW.trod enc Try.prog w base spare held n 9 (List.take (Try.prog.cellsOf 9) (List.drop 2 [c0, c1, c2])) = xs[2]? := hf 2 _ rfl
  simp only [cz9, List.drop_zero, List.drop_succ_cons, List.take_succ_cons, List.take_zero] at e2
  have hx3 : xs.length = 3 := hxl
  rw [List.getElem?_eq_getElem (by omega)] at e0 e1 e2
  obtain ⟨n0, g0, _, w0⟩ := DataW.trod_int Try.underlying5 e0
  obtain ⟨n1, g1, _, w1⟩ := DataW.trod_int Try.underlying2 e1
  obtain ⟨n2, g2, _, w2⟩ := DataW.trod_string Try.underlying9 e2
  simp only [List.cons.injEq, and_true] at g0 g1 g2
  subst g0 g1 g2
  exact ⟨⟨n0, n1, n2⟩, k37_mk w ⟨n0, n1, n2⟩, w0, w1, w2⟩
def W39 (a : S39) : Prop := (Lit.int .u8 a.f0).wf = true ∧ (Lit.int .i64 a.f1).wf = true ∧ (Lit.int .i64 a.f2).wf = true ∧ (Lit.int .i64 a.f3).wf = true ∧ a.f4.size ≤ maxLen ∧ W37 a.f5
theorem tr39 {fuel : Nat} {cs : List Value} {x : DataW H × List MemPlace} (h : DataW.trod enc Try.prog w base spare held fuel 39 cs = some x) : ∃ a : S39, k39.K w a cs ∧ W39 a := by
  obtain ⟨xs, n, _, _, hl, hxl, hf⟩ := DataW.trod_struct Try.underlying39 h
  have hl8 : cs.length = 8 := hl.trans cz39
  obtain ⟨c0, c1, c2, c3, c4, c5, c6, c7, rfl⟩ := len8 hl8
  have e0 : DataW.trod enc Try.prog w base spare held n 5 (List.take (Try.prog.cellsOf 5) (List.drop 0 [c0, c1, c2, c3, c4, c5, c6, c7])) = xs[0]? := hf 0 _ rfl
  simp only [cz5, List.drop_zero, List.drop_succ_cons, List.take_succ_cons, List.take_zero] at e0
  have e1 : DataW.trod enc Try.prog w base spare held n 3 (List.take (Try.prog.cellsOf 3) (List.drop 1 [c0, c1, c2, c3, c4, c5, c6, c7])) = xs[1]? := hf 1 _ rfl
  simp only [cz3, List.drop_zero, List.drop_succ_cons, List.take_succ_cons, List.take_zero] at e1
  have e2 : DataW.trod enc Try.prog w base spare held n 3 (List.take (Try.prog.cellsOf 3) (List.drop 2 [c0, c1, c2, c3, c4, c5, c6, c7])) = xs[2]? := hf 2 _ rfl
  simp only [cz3, List.drop_zero, List.drop_succ_cons, List.take_succ_cons, List.take_zero] at e2
  have e3 : DataW.trod enc Try.prog w base spare held n 3 (List.take (Try.prog.cellsOf 3) (List.drop 3 [c0, c1, c2, c3, c4, c5, c6, c7])) = xs[3]? := hf 3 _ rfl
  simp only [cz3, List.drop_zero, List.drop_succ_cons, List.take_succ_cons, List.take_zero] at e3
  have e4 : DataW.trod enc Try.prog w base spare held n 9 (List.take (Try.prog.cellsOf 9) (List.drop 4 [c0, c1, c2, c3, c4, c5, c6, c7])) = xs[4]? := hf 4 _ rfl
  simp only [cz9, List.drop_zero, List.drop_succ_cons, List.take_succ_cons, List.take_zero] at e4
  have e5 : DataW.trod enc Try.prog w base spare held n 37 (List.take (Try.prog.cellsOf 37) (List.drop 5 [c0, c1, c2, c3, c4, c5, c6, c7])) = xs[5]? := hf 5 _ rfl
  simp only [cz37, List.drop_zero, List.drop_succ_cons, List.take_succ_cons, List.take_zero] at e5
  have hx6 : xs.length = 6 := hxl
  rw [List.getElem?_eq_getElem (by omega)] at e0 e1 e2 e3 e4 e5
  obtain ⟨n0, g0, _, w0⟩ := DataW.trod_int Try.underlying5 e0
  obtain ⟨n1, g1, _, w1⟩ := DataW.trod_int Try.underlying3 e1
  obtain ⟨n2, g2, _, w2⟩ := DataW.trod_int Try.underlying3 e2
  obtain ⟨n3, g3, _, w3⟩ := DataW.trod_int Try.underlying3 e3
  obtain ⟨n4, g4, _, w4⟩ := DataW.trod_string Try.underlying9 e4
  obtain ⟨n5, g5, w5⟩ := tr37 e5
  have g5' := k37_open g5
  simp only [List.cons.injEq, and_true] at g0 g1 g2 g3 g4 g5'
  obtain ⟨rfl, rfl, rfl⟩ := g5'
  subst g0 g1 g2 g3 g4
  exact ⟨⟨n0, n1, n2, n3, n4, n5⟩, k39_mk w ⟨n0, n1, n2, n3, n4, n5⟩, w0, w1, w2, w3, w4, w5⟩
theorem cells25 : Try.prog.cellsOf 25 = 10 := by kernel_rfl
theorem tr25 {fuel : Nat} {cs : List Value} {x : DataW H × List MemPlace} (h : DataW.trod enc Try.prog w base spare held fuel 25 cs = some x) :
    ∃ (z0 z1 z2 : Int) (A3 : Option Addr) (c3 : Nat) (l3 : List S39) (z4 : Int) (A5 : Option Addr) (c5 : Nat) (l5 : List Int) (A6 : Option Addr) (c6 : Nat) (l6 : List Int) (z7 z8 z9 : Int),
      cs = [.int .i64 z0, .int .i64 z1, .int .i64 z2, .slice A3 l3.length c3, .int .i64 z4, .slice A5 l5.length c5, .slice A6 l6.length c6, .int .i64 z7, .int .i64 z8, .int .i64 z9] ∧ BlkIs w A3 c3 l3 A5 c5 l5 A6 c6 l6 ∧ (∀ a ∈ l3, W39 a) := by
  obtain ⟨xs, n, _, _, hl, hxl, hf⟩ := DataW.trod_struct Try.underlying25 h
  have hl10 : cs.length = 10 := hl.trans cells25
  obtain ⟨c0, c1, c2, c3, c4, c5, c6, c7, c8, c9, rfl⟩ := len10 hl10
  have e0 : DataW.trod enc Try.prog w base spare held n 3 (List.take (Try.prog.cellsOf 3) (List.drop 0 [c0, c1, c2, c3, c4, c5, c6, c7, c8, c9])) = xs[0]? := hf 0 _ rfl
  simp only [cz3, List.drop_zero, List.drop_succ_cons, List.take_succ_cons, List.take_zero] at e0
  have e1 : DataW.trod enc Try.prog w base spare held n 3 (List.take (Try.prog.cellsOf 3) (List.drop 1 [c0, c1, c2, c3, c4, c5, c6, c7, c8, c9])) = xs[1]? := hf 1 _ rfl
  simp only [cz3, List.drop_zero, List.drop_succ_cons, List.take_succ_cons, List.take_zero] at e1
  have e2 : DataW.trod enc Try.prog w base spare held n 3 (List.take (Try.prog.cellsOf 3) (List.drop 2 [c0, c1, c2, c3, c4, c5, c6, c7, c8, c9])) = xs[2]? := hf 2 _ rfl
  simp only [cz3, List.drop_zero, List.drop_succ_cons, List.take_succ_cons, List.take_zero] at e2
  have e3 : DataW.trod enc Try.prog w base spare held n 22 (List.take (Try.prog.cellsOf 22) (List.drop 3 [c0, c1, c2, c3, c4, c5, c6, c7, c8, c9])) = xs[3]? := hf 3 _ rfl
  simp only [cz22, List.drop_zero, List.drop_succ_cons, List.take_succ_cons, List.take_zero] at e3
  have e4 : DataW.trod enc Try.prog w base spare held n 3 (List.take (Try.prog.cellsOf 3) (List.drop 4 [c0, c1, c2, c3, c4, c5, c6, c7, c8, c9])) = xs[4]? := hf 4 _ rfl
  simp only [cz3, List.drop_zero, List.drop_succ_cons, List.take_succ_cons, List.take_zero] at e4
  have e5 : DataW.trod enc Try.prog w base spare held n 23 (List.take (Try.prog.cellsOf 23) (List.drop 5 [c0, c1, c2, c3, c4, c5, c6, c7, c8, c9])) = xs[5]? := hf 5 _ rfl
  simp only [cz23, List.drop_zero, List.drop_succ_cons, List.take_succ_cons, List.take_zero] at e5
  have e6 : DataW.trod enc Try.prog w base spare held n 23 (List.take (Try.prog.cellsOf 23) (List.drop 6 [c0, c1, c2, c3, c4, c5, c6, c7, c8, c9])) = xs[6]? := hf 6 _ rfl
  simp only [cz23, List.drop_zero, List.drop_succ_cons, List.take_succ_cons, List.take_zero] at e6
  have e7 : DataW.trod enc Try.prog w base spare held n 3 (List.take (Try.prog.cellsOf 3) (List.drop 7 [c0, c1, c2, c3, c4, c5, c6, c7, c8, c9])) = xs[7]? := hf 7 _ rfl
  simp only [cz3, List.drop_zero, List.drop_succ_cons, List.take_succ_cons, List.take_zero] at e7
  have e8 : DataW.trod enc Try.prog w base spare held n 3 (List.take (Try.prog.cellsOf 3) (List.drop 8 [c0, c1, c2, c3, c4, c5, c6, c7, c8, c9])) = xs[8]? := hf 8 _ rfl
  simp only [cz3, List.drop_zero, List.drop_succ_cons, List.take_succ_cons, List.take_zero] at e8
  have e9 : DataW.trod enc Try.prog w base spare held n 3 (List.take (Try.prog.cellsOf 3) (List.drop 9 [c0, c1, c2, c3, c4, c5, c6, c7, c8, c9])) = xs[9]? := hf 9 _ rfl
  simp only [cz3, List.drop_zero, List.drop_succ_cons, List.take_succ_cons, List.take_zero] at e9
  have hx10 : xs.length = 10 := hxl
  rw [List.getElem?_eq_getElem (by omega)] at e0 e1 e2 e3 e4 e5 e6 e7 e8 e9
  obtain ⟨n0, g0, _, _⟩ := DataW.trod_int Try.underlying3 e0
  obtain ⟨n1, g1, _, _⟩ := DataW.trod_int Try.underlying3 e1
  obtain ⟨n2, g2, _, _⟩ := DataW.trod_int Try.underlying3 e2
  obtain ⟨n4, g4, _, _⟩ := DataW.trod_int Try.underlying3 e4
  obtain ⟨n7, g7, _, _⟩ := DataW.trod_int Try.underlying3 e7
  obtain ⟨n8, g8, _, _⟩ := DataW.trod_int Try.underlying3 e8
  obtain ⟨n9, g9, _, _⟩ := DataW.trod_int Try.underlying3 e9
  obtain ⟨A3, d3, l3, g3, p3, q3, r3, _⟩ := trC W39 Try.underlying22 cz39 tr39 e3
  obtain ⟨A5, d5, l5, g5, p5, q5, _, _⟩ := trC (d := Kd.int .i64) (fun _ => True) Try.underlying23 cz3 (fun h => let ⟨n, hn, _⟩ := trI Try.underlying3 h; ⟨n, hn, trivial⟩) e5
  obtain ⟨A6, d6, l6, g6, p6, q6, _, _⟩ := trC (d := Kd.int .i64) (fun _ => True) Try.underlying23 cz3 (fun h => let ⟨n, hn, _⟩ := trI Try.underlying3 h; ⟨n, hn, trivial⟩) e6
  simp only [List.cons.injEq, and_true] at g0 g1 g2 g3 g4 g5 g6 g7 g8 g9
  subst g0 g1 g2 g3 g4 g5 g6 g7 g8 g9
  exact ⟨n0, n1, n2, A3, d3, l3, n4, A5, d5, l5, A6, d6, l6, n7, n8, n9, rfl, ⟨q3, p3, q5, p5, q6, p6⟩, r3⟩
end
end Go.Proofs.Ytjkjbfhhfdbnoaa.NW
