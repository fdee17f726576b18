-- Own words of this session
import Derived.Test.YtobchfcabedmhaaDoorProg
import Derived.Below
import Derived.Deep.Draws
import Derived.Deep.AppendLies
import Derived.Maps.AppendAt
import Derived.OwnWalk
import Derived.Laws.BytesArg
import Derived.Laws.MakeOwn
import Derived.Laws.OwnMore
import Derived.Deep.OwnRows
import Derived.Tactics
import Derived.Lib.ConvBytes
import Derived.Laws.Slices
import Derived.WalkKit
import Derived.KernelRfl
import Derived.RowKit3
import Derived.Deep.LoopGhost
import Derived.Deep.QuietTactic
import Derived.BigQuiet
import Derived.WideLaws
import Derived.Deep.DeepCutAuto
import Derived.Deep.CutBlock
import Derived.Deep.RegionHeld3
import Derived.Laws.Rows
import Derived.Lib.AppendStr
import Derived.ArgAppend
import Derived.Laws.IdiomCopy
import Derived.OrdersHeld
import Derived.Laws.BitsLemmas
import Derived.RowKit
import Derived.Test.YtobchfcabedmhaaDoorWWords
import Derived.Test.YtobchfcabedmhaaDoorWLast
import Derived.Test.YtobchfcabedmhaaDoorWTab
import Derived.Test.YtobchfcabedmhaaDoorWFour
import Derived.Test.YtobchfcabedmhaaDoorWQPut
import Derived.Test.YtobchfcabedmhaaDoorWApart
import Derived.Test.YtobchfcabedmhaaDoorWArr
import Derived.Test.YtobchfcabedmhaaDoorWZeros
import Derived.Test.YtobchfcabedmhaaDoorWFoot
import Derived.Test.YtobchfcabedmhaaDoorWKept
import Derived.Test.YtobchfcabedmhaaDoorWShare
import Derived.Test.YtobchfcabedmhaaDoorWN
import Derived.Test.YtobchfcabedmhaaDoorWFootNe
import Derived.Test.YtobchfcabedmhaaDoorWAt
import Derived.Test.YtobchfcabedmhaaDoorWEqStruct
import Derived.Test.YtobchfcabedmhaaDoorWRepsOne
import Derived.Test.YtobchfcabedmhaaDoorWInv
import Derived.Test.YtobchfcabedmhaaDoorWInvWords
import Derived.Test.YtobchfcabedmhaaDoorWGuard
import Derived.Test.YtobchfcabedmhaaDoorWNEv
import Derived.Test.YtobchfcabedmhaaDoorWMore
namespace Go.Proofs.YtobchfcabedmhaaDoorW.Own
open Go.RowKit Go.Proofs.YtobchfcabedmhaaDoorW.PrintWords Go.Proofs.YtobchfcabedmhaaDoorW.PrintLast Go.Proofs.YtobchfcabedmhaaDoorW.PrintMore

section
variable {P : Program} {ops : Array Oper} {Q : Exit → Act → World → Prop}
/-- A call of the function that a variable holds, in a region that draws. -/
theorem goesT_ {oi : Oper} {N : Option Tmp} {a : Act} {w : World} {K : Act → World → Prop} {f : FuncId} {fn : Func} {s : Operand} {xs_ : Array Operand} {ts : Array TypeId} (hf : P.funcs[f]? = some fn) (hname : (fn.name == "runtime.NumGoroutine") = false) (hb : fn.body.isSome = true) (args : Array Value)
    (hw : Region.wanted oi (yielded ops a.tmps) = true) (hN : oi.dst = N) (hop : oi.op = .call { callee := .value s, args := xs_, argTypes := ts }) (hs : a.eval s = .func (.func f) #[] #[]) (hargs : xs_.map a.eval = args)
    (h : Calls P f args w fun e w' => ∃ v, e = .returned v ∧ K (a.put N v) w') : if Region.wanted oi (yielded ops a.tmps) = true then Oper.wp P oi a w K Q else K (a.put N undef) w := by
  refine call_ f args hw hN ?_ h
  have he := enters_ hf hname hb args w
  unfold execOp
  simp [hop, resolve, Deferred.ofValue, invoke, hs, hargs, he]
/-- The same in a plain region, as an arm of go_wp2_with. -/
theorem goesLT_ {rest : List Oper} {oi : Oper} {a : Act} {w : World} (N : Option Tmp) (hd : oi.dst = N) (hg : oi.guard = none) {f : FuncId} {fn : Func} {s : Operand} {xs_ : Array Operand} {ts : Array TypeId} (hf : P.funcs[f]? = some fn) (hname : (fn.name == "runtime.NumGoroutine") = false) (hb : fn.body.isSome = true) (args : Array Value)
    (hop : oi.op = .call { callee := .value s, args := xs_, argTypes := ts }) (hs : a.eval s = .func (.func f) #[] #[]) (hargs : xs_.map a.eval = args)
    (h : Calls P f args w fun e w' => ∃ v, e = .returned v ∧ wpList P ops Q rest (a.put N v) w') : wpList P ops Q (oi :: rest) a w := by
  refine wpList_plain hg fun K hK => ?_
  have he := enters_ hf hname hb args w
  have hrun : (execOp a.eval oi).run P w = .ok (.enter f args) w := by
    unfold execOp
    simp [hop, resolve, Deferred.ofValue, invoke, hs, hargs, he]
  unfold Oper.wp
  rw [hrun, Oper.upon_enter]
  refine h.mono fun e w'' hh => ?_
  obtain ⟨v, rfl, hk⟩ := hh
  subst hd
  exact hK _ _ hk
end

/-! ### Texts: which comes first -/
theorem bytesLess_swap : ∀ a b : List UInt8, (Op.bytesLess a b || a == b) = !(Op.bytesLess b a)
  | [], [] => rfl
  | [], _ :: _ => rfl
  | _ :: _, [] => rfl
  | x :: xs, y :: ys => by
    have ih := bytesLess_swap xs ys
    by_cases h : x = y
    · subst h
      simp only [Op.bytesLess, List.cons_beq_cons, beq_self_eq_true, Bool.true_and]
      simpa using ih
    · have h1 : (x == y) = false := by simpa using h
      have h2 : (y == x) = false := by simpa using fun e => h e.symm
      have h3 : x.toNat ≠ y.toNat := fun e => h (UInt8.toNat_inj.1 e)
      simp only [Op.bytesLess, List.cons_beq_cons, h1, h2, Bool.false_and, Bool.or_false]
      by_cases h4 : x < y
      · have h5 : ¬ y < x := by rw [UInt8.lt_iff_toNat_lt] at *; omega
        simp [h4, h5]
      · have h5 : y < x := by rw [UInt8.lt_iff_toNat_lt] at *; omega
        simp [h4, h5]
theorem own_gtr (t : TypeId) (a b : ByteArray) : binOp .gtr t (.string a) (.string b) = pure (.bool (Op.bytesLess b.toList a.toList)) := by
  have := bytesLess_swap a.toList b.toList
  simp [binOp, Op.stringOp, this]
theorem own_leq (t : TypeId) (a b : ByteArray) : binOp .leq t (.string a) (.string b) = pure (.bool !(Op.bytesLess b.toList a.toList)) := by
  have := bytesLess_swap a.toList b.toList
  simp [binOp, Op.stringOp, this]
theorem own_geq (t : TypeId) (a b : ByteArray) : binOp .geq t (.string a) (.string b) = pure (.bool !(Op.bytesLess a.toList b.toList)) := by simp [binOp, Op.stringOp]
end Go.Proofs.YtobchfcabedmhaaDoorW.Own
