/- What the rows open. -/
import Derived.Test.YtobchfcabedmhaaDoorRows
import Derived.Test.YtobchfcabedmhaaDoorHq
import Derived.WalkKit
import Derived.ProofKit
import Derived.OpenShut
import Derived.ShutString
import Derived.ChangeOld
import Derived.ChangeArms
import Derived.Below
import Derived.SizedLaws
import Derived.HandedShaped
import Derived.LaidMore
import Derived.Lib.LaidTab
import Derived.Stop.Joined
import Derived.Stop.LaidErr
import Derived.Lib.SmallJoins
import Derived.Handed
import Derived.Carry
namespace Go.Proofs.YtobchfcabedmhaaDoor.NW
open Go.RowKit Go.ChangeShapes Go.WideShapes Go.ChangeAt Go.Joins Go.Proofs.YtobchfcabedmhaaDoorW.PrintWords Go.Proofs.YtobchfcabedmhaaDoorW.PrintMore Go.Proofs.YtobchfcabedmhaaDoor.PS
set_option linter.unusedVariables false
set_option linter.unusedSimpArgs false
theorem own : ownKnob Tryd.prog.godebug = none := by kernel_rfl
theorem laidOut : laidOutB Tryd.prog = true := by kernel_rfl
abbrev laidThree : List (String × DataW Unit) := [("math/bits.deBruijn32tab", Rows.laid_math_bits_deBruijn32tab), ("math/bits.deBruijn64tab", Rows.laid_math_bits_deBruijn64tab), ("internal/strconv.uint64pow10", Rows.laid_internal_strconv_uint64pow10)]
theorem gT : Tryd.prog.globalNamed "internal/strconv.uint64pow10" = some 0 := by kernel_rfl
theorem gTType : (Tryd.prog.globals[0]?).map (·.type) = some 86 := by kernel_rfl
theorem cells64 : Tryd.prog.cellsOf 64 = 1 := by kernel_rfl
theorem cells86 : Tryd.prog.cellsOf 86 = 20 := by kernel_rfl
set_option maxRecDepth 100000 in
theorem powOk_of {W : World} (hL : laidMetH Tryd.prog laidThree W) : PowOk W := by
  rw [MakeChecks.laidMetH_plain _ _ _ (by kernel_rfl)] at hL
  exact Lib.tabIs_of_head gT gTType Tryd.underlying86 Tryd.underlying64 cells64 cells86 (laidMet.tail (laidMet.tail hL))
theorem u8_b {x : Int} (h : (Lit.int .u8 x).wf = true) : 0 ≤ x ∧ x ≤ 255 := by
  have h1 : (decide (IntKind.u8.min ≤ x) && decide (x ≤ IntKind.u8.max)) = true := h
  rw [show IntKind.u8.min = 0 by decide, show IntKind.u8.max = 255 by decide] at h1
  simp at h1
  omega
theorem i64_b {x : Int} (h : (Lit.int .i64 x).wf = true) : -9223372036854775808 ≤ x ∧ x ≤ 9223372036854775807 := by
  have h1 : (decide (IntKind.i64.min ≤ x) && decide (x ≤ IntKind.i64.max)) = true := h
  rw [show IntKind.i64.min = -9223372036854775808 by decide, show IntKind.i64.max = 9223372036854775807 by decide] at h1
  simp at h1
  omega
section
variable {H : Type} {enc : TypeId × Value → H}
/-- THE OPENING OF A ROW THAT LISTS VARIABLES, with the world's shape told besides. -/
theorem change_and_shaped {a : Assume} {C : Checked} {os : Os} {f : FuncId} {fn : Func} {s : ChangeSpec} {conds : List PathCond} {apart fresh handsOn again : Bool} {X : World → Array Value → Prop}
    (hX : ∀ (w w' : World) (args : Array Value), w.heap = w'.heap → X w args → X w' args)
    (own : ownKnob C.prog.godebug = none) (started : os.Started) (noInit : C.prog.inits.idxOf? f = none) (hfn : C.prog.funcs[f]? = some fn)
    (witness : ∃ (w : World) (tape : Tape) (i : Input), w.os = os ∧ (w.forCall tape i).Shaped C.prog ∧ i.vars = [] ∧ Input.okWide C.prog (w.forCall tape i) .any w.heap.size f i ∧
      ((s.pre enc C.prog fn conds apart (w.forCall tape i).memory i.args ∧ X (w.forCall tape i).memory i.args) ∧ sizedMet enc C.prog fn (OpenSpec.ofChange s) apart (w.forCall tape i).memory i.args) ∧ a.holds C.prog (lone (Frame.enter C.prog f i.args .normal) [] (w.forCall tape i)))
    (contract : ∀ (W : World) (base : Nat) (args : Array Value) (ds gs : List (DataW H)) (before : List MemPlace),
      (∀ (j : Nat) t v, fn.params[j]? = some t → args[j]? = some v → Value.okWide C.prog W .any base t v) →
      DataW.Whole enc C.prog fn.params.toList s.vars apart W args.toList ds gs before →
      conds.all (PathCond.test C.prog ⟨fn.params.toList, ds, s.plain.varTypes C.prog, gs⟩) = true →
      (DataW.weightsEach C.prog (fn.params.toList ++ s.plain.varTypes C.prog) (ds ++ gs)).all (· ≤ reachBytes) = true → X W args → W.ShapedOpen C.prog →
      a.holds C.prog (lone (Frame.enter C.prog f args .normal) [] W) →
      Calls C.prog f args W fun e W' => ∃ v, e = .returned v ∧ s.post enc C.prog fn apart fresh handsOn again W args v W') :
    ReturnsInHanded a C os f .any (fun w args => (s.pre enc C.prog fn conds apart w args ∧ X w args) ∧ sizedMet enc C.prog fn (OpenSpec.ofChange s) apart w args) (s.post enc C.prog fn apart fresh handsOn again) := by
  refine returnsInHanded_of_calls own started noInit witness ?_
  intro w tape i _ hsh _ hok hpre hholds
  obtain ⟨_, _, _, fn', hfn', _, _, _, _, hval⟩ := hok
  have e : fn' = fn := Option.some.inj (hfn'.symm.trans hfn)
  subst e
  obtain ⟨⟨⟨ds, gs, before, hw, hc⟩, hx⟩, hz⟩ := hpre
  have hw' := DataW.Whole.of_heap (w' := w.forCall tape i) (by rfl) hw
  refine (contract (w.forCall tape i) w.heap.size i.args ds gs before hval hw' hc (hz.weights hw) (hX _ _ _ (by rfl) hx) hsh hholds).mono fun e W' ⟨v, he, hp⟩ => ?_
  subst he
  exact ChangeSpec.post_blind hp
end
theorem door_met (os : Os) (args : Array Value) : laidMetH Tryd.prog laidThree ((World.doorLaid Tryd.prog 200 os).forCall (fun _ _ => 0) ⟨#[], args, []⟩).memory :=
  laidMetH_of_parts3 (fuel := 8) (laidMet_of_run' 8 (by kernel_rfl) (by kernel_rfl)) (by kernel_rfl) (by kernel_rfl)
section
variable {H : Type} {enc : TypeId × Value → H} {w : World} {base : Nat} {spare : Nat → Bool} {held : Bool}
theorem trC {α : Type} {t e : Nat} {d : Kd α} (Q : α → Prop) (ht : Tryd.prog.underlying t = some (.slice e)) (hC : Tryd.prog.cellsOf e = d.sz)
    (hd : ∀ {fuel : Nat} {cs : List Value} {x : DataW H × List MemPlace}, DataW.trod enc Tryd.prog w base spare held fuel e cs = some x → ∃ a, d.K w a cs ∧ Q a)
    {fuel : Nat} {cs : List Value} {x : DataW H × List MemPlace} (h : DataW.trod enc Tryd.prog w base spare held fuel t cs = some x) :
    ∃ A c xs, cs = [.slice A xs.length c] ∧ xs.length ≤ c ∧ d.C w A xs.length xs ∧ (∀ a ∈ xs, Q a) ∧ c ≤ maxLen := by
  rcases DataW.trod_slice ht h with ⟨rfl, _⟩ | ⟨a, len, cap, elems, rest, n, _, rfl, _, _, hl, hm, hel, hi, _, _⟩
  · exact ⟨none, 0, [], rfl, Nat.le_refl _, Kd.C_nil d w, fun a ha => by simp at ha, Nat.zero_le _⟩
  · have hone : ∀ i, i < len → ∃ a' cs', d.K w a' cs' ∧ Q a' ∧ cs'.length = d.sz ∧ ∀ j u, cs'[j]? = some u → w.cell? (a.add (i * d.sz + j)) = some u := by
      intro i hlt
      have h1 := hi i hlt
      rw [List.getElem?_eq_getElem (by omega), hC] at h1
      obtain ⟨cs', hc, ht'⟩ := Option.bind_eq_some_iff.1 h1
      obtain ⟨a', hK, hQ⟩ := hd ht'
      obtain ⟨_, hcl, hat⟩ := World.cells?_some hc
      refine ⟨a', cs', hK, hQ, hcl, fun j u hj => ?_⟩
      have hjl : j < d.sz := by have := (List.getElem?_eq_some_iff.1 hj).1; omega
      have h2 := (hat j hjl).trans hj
      rw [show a.add (i * d.sz + j) = (a.add (i * d.sz)).add j by by_cases z1 : i * d.sz = 0 <;> by_cases z2 : j = 0 <;> simp [Addr.add, z1, z2, Nat.add_assoc]]
      exact h2
    have hall : ∀ m, m ≤ len → ∃ xs : List α, xs.length = m ∧ (∀ a' ∈ xs, Q a') ∧ ∀ j p, xs[j]? = some p → ∃ c, c.length = d.sz ∧ d.K w p c ∧ ∀ i u, c[i]? = some u → w.cell? (a.add (j * d.sz + i)) = some u := by
      intro m
      induction m with
      | zero => exact fun _ => ⟨[], rfl, fun a ha => by simp at ha, fun j p hj => by simp at hj⟩
      | succ m ih =>
        intro hm1
        obtain ⟨xs, hxl, hxq, hxs⟩ := ih (by omega)
        obtain ⟨a', cs', hK, hQ, hcl, hcell⟩ := hone m (by omega)
        refine ⟨xs ++ [a'], by simp [hxl], fun b hb => ?_, fun j p hj => ?_⟩
        · rcases List.mem_append.1 hb with hb | hb
          · exact hxq b hb
          · rw [List.mem_singleton.1 hb]; exact hQ
        · rcases Nat.lt_or_ge j m with hlt | hge
          · rw [List.getElem?_append_left (by omega)] at hj
            exact hxs j p hj
          · rw [List.getElem?_append_right (by omega), hxl] at hj
            have hjm : j = m := by
              have := (List.getElem?_eq_some_iff.1 hj).1
              simp at this
              omega
            subst hjm
            simp at hj
            subst hj
            exact ⟨cs', hcl, hK, hcell⟩
    obtain ⟨xs, hxl, hxq, hxs⟩ := hall len (Nat.le_refl _)
    subst hxl
    exact ⟨some a, cap, xs, rfl, hl, ⟨rfl, by unfold maxLen at hm; omega, fun _ => ⟨a, rfl, hxs⟩⟩, hxq, hm⟩
theorem len3 {l : List Value} (h : l.length = 3) : ∃ c0 c1 c2, l = [c0, c1, c2] := by
  match l, h with
  | [c0, c1, c2], _ => exact ⟨c0, c1, c2, rfl⟩
theorem cz2 : Tryd.prog.cellsOf 2 = 1 := by kernel_rfl
theorem cz5 : Tryd.prog.cellsOf 5 = 1 := by kernel_rfl
theorem cz9 : Tryd.prog.cellsOf 9 = 1 := by kernel_rfl
theorem cz24 : Tryd.prog.cellsOf 24 = 3 := by kernel_rfl
def W24 (a : S24) : Prop := (Lit.int .u8 a.f0).wf = true ∧ (Lit.int .i64 a.f1).wf = true ∧ a.f2.size ≤ maxLen
theorem tr24 {fuel : Nat} {cs : List Value} {x : DataW H × List MemPlace} (h : DataW.trod enc Tryd.prog w base spare held fuel 24 cs = some x) : ∃ a : S24, k24.K w a cs ∧ W24 a := by
  obtain ⟨xs, n, _, _, hl, hxl, hf⟩ := DataW.trod_struct Tryd.underlying24 h
  have hl3 : cs.length = 3 := hl.trans cz24
  obtain ⟨c0, c1, c2, rfl⟩ := len3 hl3
  have e0 : DataW.trod enc Tryd.prog w base spare held n 5 (List.take (Tryd.prog.cellsOf 5) (List.drop 0 [c0, c1, c2])) = xs[0]? := hf 0 _ rfl
  simp only [cz5, List.drop_zero, List.drop_succ_cons, List.take_succ_cons, List.take_zero] at e0
  have e1 : DataW.trod enc Tryd.prog w base spare held n 2 (List.take (Tryd.prog.cellsOf 2) (List.drop 1 [c0, c1, c2])) = xs[1]? := hf 1 _ rfl
  simp only [cz2, List.drop_zero, List.drop_succ_cons, List.take_succ_cons, List.take_zero] at e1
  have e2 : DataW.trod enc Tryd.prog w base spare held n 9 (List.take (Tryd.prog.cellsOf 9) (List.drop 2 [c0, c1, c2])) = xs[2]? := hf 2 _ rfl
  simp only [cz9, List.drop_zero, List.drop_succ_cons, List.take_succ_cons, List.take_zero] at e2
  have hx3 : xs.length = 3 := hxl
  rw [List.getElem?_eq_getElem (by omega)] at e0 e1 e2
  obtain ⟨n0, g0, _, w0⟩ := DataW.trod_int Tryd.underlying5 e0
  obtain ⟨n1, g1, _, w1⟩ := DataW.trod_int Tryd.underlying2 e1
  obtain ⟨n2, g2, _, w2⟩ := DataW.trod_string Tryd.underlying9 e2
  simp only [List.cons.injEq, and_true] at g0 g1 g2
  subst g0 g1 g2
  exact ⟨⟨n0, n1, n2⟩, k24_mk w ⟨n0, n1, n2⟩, w0, w1, w2⟩
end
end Go.Proofs.YtobchfcabedmhaaDoor.NW
