/-
  No cell of these rows narrows 'for every input' (looked for: loops, veiled, ifaces, maps, wideKeys, modest, calm, conditions, laid).
  DERIVED. THE GIVEN ROWS OF THIS SEAT. 11 by the template 'for every input the law returns true; each argument reads behind the call as it read before'; 0 by the template 'total and deterministic' (their statements: YtjkjbfhhfdbnoaaTotals.lean).
  GIVEN WITH THE SEED: the statements are not yours to turn. If you find one false, say at which input.
  Laid BY PROGRAM, IN A SANDBOX (cutbox-rows.mjs): the forced cells as the released guide's own fill.sh prints them over the translation f332b1ee507fa09e… (all of the seat's roots in one cut). By AI agents, Wed Nov 11 2026. No macro, syntax, notation, axiom, sorry.
-/
import Derived.Test.YtjkjbfhhfdbnoaaChecked
import GoSem.Claim
import GoSem.ClaimJoined
import GoSem.ClaimMapViews
import Derived.JoinedTies
import Derived.KernelRfl
namespace Go.Proofs.Ytjkjbfhhfdbnoaa
/- THE CELL 'sum', in the pinned program and in every row, IS THE sha256 OF THE DUMP (.gsa) THAT YtjkjbfhhfdbnoaaProg.lean LOADS. Nothing in Lean hashes anything: it is a label: what it is worth is what the hold of that sum in a sandbox is worth. -/
noncomputable def Try.pinned : Pinned := { name := "ytjkjbfhhfdbnoaa", sum := "f332b1ee507fa09e83ac2cb959a7385dc4ec30ed9407c8f537a6bb5a7690f984", checked := Try.checked }
namespace Rows
def none {H : Type} : Left H := { results := [], args := [] }

/-- 'sacristanlaw17.SpreadTells': WHATEVER THE INPUT: true; the input reads as it did. -/
def spreadTellsSpec : ChangeSpec := { name := "spreadTells", fn := fun _ => fun
  | [d1, d2, d3, d4] => { results := [.lit (.bool true)], args := [d1, d2, d3, d4] }
  | _ => none }
def spreadTellsRow : OpenClaim := { program := "ytjkjbfhhfdbnoaa", sum := "f332b1ee507fa09e83ac2cb959a7385dc4ec30ed9407c8f537a6bb5a7690f984", func := "sacristan/sacristanlaw17.SpreadTells", spec := "spreadTells", inPlace := ["internal/bytealg.IndexByteString", "internal/bytealg.IndexString"], unfollowed := true, recurses := true, named := ["internal/bytealg.MaxLen"], apart := false }
def SpreadTellsSaid : Prop := spreadTellsRow.holds Try.pinned (OpenSpec.ofChange spreadTellsSpec)

/-- ITS FALSE NEIGHBOUR: 'it returns false'. Refute it at one input. -/
def spreadTellsWrong : ChangeSpec := { name := "spreadTells", fn := fun _ => fun
  | [d1, d2, d3, d4] => { results := [.lit (.bool false)], args := [d1, d2, d3, d4] }
  | _ => none }
def SpreadTellsWrongFalsely : Prop := spreadTellsRow.holds Try.pinned (OpenSpec.ofChange spreadTellsWrong)

/-- 'sacristanlaw17.SpreadEnds': WHATEVER THE INPUT: true; the input reads as it did. -/
def spreadEndsSpec : ChangeSpec := { name := "spreadEnds", fn := fun _ => fun
  | [d] => { results := [.lit (.bool true)], args := [d] }
  | _ => none }
def spreadEndsRow : OpenClaim := { program := "ytjkjbfhhfdbnoaa", sum := "f332b1ee507fa09e83ac2cb959a7385dc4ec30ed9407c8f537a6bb5a7690f984", func := "sacristan/sacristanlaw17.SpreadEnds", spec := "spreadEnds", inPlace := ["internal/bytealg.IndexByteString", "internal/bytealg.IndexString"], unfollowed := true, recurses := true, named := ["internal/bytealg.MaxLen"], apart := false }
def SpreadEndsSaid : Prop := spreadEndsRow.holds Try.pinned (OpenSpec.ofChange spreadEndsSpec)

/-- ITS FALSE NEIGHBOUR: 'it returns false'. Refute it at one input. -/
def spreadEndsWrong : ChangeSpec := { name := "spreadEnds", fn := fun _ => fun
  | [d] => { results := [.lit (.bool false)], args := [d] }
  | _ => none }
def SpreadEndsWrongFalsely : Prop := spreadEndsRow.holds Try.pinned (OpenSpec.ofChange spreadEndsWrong)

/-- 'sacristanlaw18.SweepKeeps': WHATEVER THE INPUT: true; the input reads as it did. -/
def sweepKeepsSpec : ChangeSpec := { name := "sweepKeeps", fn := fun _ => fun
  | [d] => { results := [.lit (.bool true)], args := [d] }
  | _ => none }
def sweepKeepsRow : OpenClaim := { program := "ytjkjbfhhfdbnoaa", sum := "f332b1ee507fa09e83ac2cb959a7385dc4ec30ed9407c8f537a6bb5a7690f984", func := "sacristan/sacristanlaw18.SweepKeeps", spec := "sweepKeeps", inPlace := ["internal/bytealg.IndexByteString", "internal/bytealg.IndexString"], unfollowed := true, recurses := true, named := ["internal/bytealg.MaxLen"], apart := false }
def SweepKeepsSaid : Prop := sweepKeepsRow.holds Try.pinned (OpenSpec.ofChange sweepKeepsSpec)

/-- ITS FALSE NEIGHBOUR: 'it returns false'. Refute it at one input. -/
def sweepKeepsWrong : ChangeSpec := { name := "sweepKeeps", fn := fun _ => fun
  | [d] => { results := [.lit (.bool false)], args := [d] }
  | _ => none }
def SweepKeepsWrongFalsely : Prop := sweepKeepsRow.holds Try.pinned (OpenSpec.ofChange sweepKeepsWrong)

/-- 'sacristanlaw18.SweepLast': WHATEVER THE INPUT: true; the input reads as it did. -/
def sweepLastSpec : ChangeSpec := { name := "sweepLast", fn := fun _ => fun
  | [d] => { results := [.lit (.bool true)], args := [d] }
  | _ => none }
def sweepLastRow : OpenClaim := { program := "ytjkjbfhhfdbnoaa", sum := "f332b1ee507fa09e83ac2cb959a7385dc4ec30ed9407c8f537a6bb5a7690f984", func := "sacristan/sacristanlaw18.SweepLast", spec := "sweepLast", inPlace := ["internal/bytealg.IndexByteString", "internal/bytealg.IndexString"], unfollowed := true, recurses := true, named := ["internal/bytealg.MaxLen"], apart := false }
def SweepLastSaid : Prop := sweepLastRow.holds Try.pinned (OpenSpec.ofChange sweepLastSpec)

/-- ITS FALSE NEIGHBOUR: 'it returns false'. Refute it at one input. -/
def sweepLastWrong : ChangeSpec := { name := "sweepLast", fn := fun _ => fun
  | [d] => { results := [.lit (.bool false)], args := [d] }
  | _ => none }
def SweepLastWrongFalsely : Prop := sweepLastRow.holds Try.pinned (OpenSpec.ofChange sweepLastWrong)

/-- 'sacristanlaw16.FoldTells': WHATEVER THE INPUT: true; the input reads as it did. -/
def foldTellsSpec : ChangeSpec := { name := "foldTells", fn := fun _ => fun
  | [d1, d2, d3, d4] => { results := [.lit (.bool true)], args := [d1, d2, d3, d4] }
  | _ => none }
def foldTellsRow : OpenClaim := { program := "ytjkjbfhhfdbnoaa", sum := "f332b1ee507fa09e83ac2cb959a7385dc4ec30ed9407c8f537a6bb5a7690f984", func := "sacristan/sacristanlaw16.FoldTells", spec := "foldTells", inPlace := ["internal/bytealg.IndexByteString", "internal/bytealg.IndexString"], unfollowed := true, recurses := true, named := ["internal/bytealg.MaxLen"], apart := false }
def FoldTellsSaid : Prop := foldTellsRow.holds Try.pinned (OpenSpec.ofChange foldTellsSpec)

/-- ITS FALSE NEIGHBOUR: 'it returns false'. Refute it at one input. -/
def foldTellsWrong : ChangeSpec := { name := "foldTells", fn := fun _ => fun
  | [d1, d2, d3, d4] => { results := [.lit (.bool false)], args := [d1, d2, d3, d4] }
  | _ => none }
def FoldTellsWrongFalsely : Prop := foldTellsRow.holds Try.pinned (OpenSpec.ofChange foldTellsWrong)

/-- 'sacristanlaw16.FoldAll': WHATEVER THE INPUT: true; the input reads as it did. -/
def foldAllSpec : ChangeSpec := { name := "foldAll", fn := fun _ => fun
  | [d1, d2] => { results := [.lit (.bool true)], args := [d1, d2] }
  | _ => none }
def foldAllRow : OpenClaim := { program := "ytjkjbfhhfdbnoaa", sum := "f332b1ee507fa09e83ac2cb959a7385dc4ec30ed9407c8f537a6bb5a7690f984", func := "sacristan/sacristanlaw16.FoldAll", spec := "foldAll", inPlace := ["internal/bytealg.IndexByteString", "internal/bytealg.IndexString"], unfollowed := true, recurses := true, named := ["internal/bytealg.MaxLen"], apart := false }
def FoldAllSaid : Prop := foldAllRow.holds Try.pinned (OpenSpec.ofChange foldAllSpec)

/-- ITS FALSE NEIGHBOUR: 'it returns false'. Refute it at one input. -/
def foldAllWrong : ChangeSpec := { name := "foldAll", fn := fun _ => fun
  | [d1, d2] => { results := [.lit (.bool false)], args := [d1, d2] }
  | _ => none }
def FoldAllWrongFalsely : Prop := foldAllRow.holds Try.pinned (OpenSpec.ofChange foldAllWrong)

/-- 'sacristanlaw15.IrJoins': WHATEVER THE INPUT: true; the input reads as it did. -/
def irJoinsSpec : ChangeSpec := { name := "irJoins", fn := fun _ => fun
  | [d1, d2, d3, d4, d5] => { results := [.lit (.bool true)], args := [d1, d2, d3, d4, d5] }
  | _ => none }
def irJoinsRow : OpenClaim := { program := "ytjkjbfhhfdbnoaa", sum := "f332b1ee507fa09e83ac2cb959a7385dc4ec30ed9407c8f537a6bb5a7690f984", func := "sacristan/sacristanlaw15.IrJoins", spec := "irJoins", inPlace := ["internal/bytealg.IndexByteString", "internal/bytealg.IndexString"], unfollowed := true, recurses := true, named := ["internal/bytealg.MaxLen"], apart := false }
def IrJoinsSaid : Prop := irJoinsRow.holds Try.pinned (OpenSpec.ofChange irJoinsSpec)

/-- ITS FALSE NEIGHBOUR: 'it returns false'. Refute it at one input. -/
def irJoinsWrong : ChangeSpec := { name := "irJoins", fn := fun _ => fun
  | [d1, d2, d3, d4, d5] => { results := [.lit (.bool false)], args := [d1, d2, d3, d4, d5] }
  | _ => none }
def IrJoinsWrongFalsely : Prop := irJoinsRow.holds Try.pinned (OpenSpec.ofChange irJoinsWrong)

/-- 'sacristanlaw15.IrAround': WHATEVER THE INPUT: true; the input reads as it did. -/
def irAroundSpec : ChangeSpec := { name := "irAround", fn := fun _ => fun
  | [d1, d2, d3, d4, d5] => { results := [.lit (.bool true)], args := [d1, d2, d3, d4, d5] }
  | _ => none }
def irAroundRow : OpenClaim := { program := "ytjkjbfhhfdbnoaa", sum := "f332b1ee507fa09e83ac2cb959a7385dc4ec30ed9407c8f537a6bb5a7690f984", func := "sacristan/sacristanlaw15.IrAround", spec := "irAround", inPlace := ["internal/bytealg.IndexByteString", "internal/bytealg.IndexString"], unfollowed := true, recurses := true, named := ["internal/bytealg.MaxLen"], apart := false }
def IrAroundSaid : Prop := irAroundRow.holds Try.pinned (OpenSpec.ofChange irAroundSpec)

/-- ITS FALSE NEIGHBOUR: 'it returns false'. Refute it at one input. -/
def irAroundWrong : ChangeSpec := { name := "irAround", fn := fun _ => fun
  | [d1, d2, d3, d4, d5] => { results := [.lit (.bool false)], args := [d1, d2, d3, d4, d5] }
  | _ => none }
def IrAroundWrongFalsely : Prop := irAroundRow.holds Try.pinned (OpenSpec.ofChange irAroundWrong)

/-- 'sacristanlaw15.IrFails': WHATEVER THE INPUT: true; the input reads as it did. -/
def irFailsSpec : ChangeSpec := { name := "irFails", fn := fun _ => fun
  | [d1, d2, d3] => { results := [.lit (.bool true)], args := [d1, d2, d3] }
  | _ => none }
def irFailsRow : OpenClaim := { program := "ytjkjbfhhfdbnoaa", sum := "f332b1ee507fa09e83ac2cb959a7385dc4ec30ed9407c8f537a6bb5a7690f984", func := "sacristan/sacristanlaw15.IrFails", spec := "irFails", inPlace := ["internal/bytealg.IndexByteString", "internal/bytealg.IndexString"], unfollowed := true, recurses := true, named := ["internal/bytealg.MaxLen"], apart := false }
def IrFailsSaid : Prop := irFailsRow.holds Try.pinned (OpenSpec.ofChange irFailsSpec)

/-- ITS FALSE NEIGHBOUR: 'it returns false'. Refute it at one input. -/
def irFailsWrong : ChangeSpec := { name := "irFails", fn := fun _ => fun
  | [d1, d2, d3] => { results := [.lit (.bool false)], args := [d1, d2, d3] }
  | _ => none }
def IrFailsWrongFalsely : Prop := irFailsRow.holds Try.pinned (OpenSpec.ofChange irFailsWrong)

/-- 'sacristanlaw15.IrSame': WHATEVER THE INPUT: true; the input reads as it did. -/
def irSameSpec : ChangeSpec := { name := "irSame", fn := fun _ => fun
  | [d1, d2, d3] => { results := [.lit (.bool true)], args := [d1, d2, d3] }
  | _ => none }
def irSameRow : OpenClaim := { program := "ytjkjbfhhfdbnoaa", sum := "f332b1ee507fa09e83ac2cb959a7385dc4ec30ed9407c8f537a6bb5a7690f984", func := "sacristan/sacristanlaw15.IrSame", spec := "irSame", inPlace := ["internal/bytealg.IndexByteString", "internal/bytealg.IndexString"], unfollowed := true, recurses := true, named := ["internal/bytealg.MaxLen"], apart := false }
def IrSameSaid : Prop := irSameRow.holds Try.pinned (OpenSpec.ofChange irSameSpec)

/-- ITS FALSE NEIGHBOUR: 'it returns false'. Refute it at one input. -/
def irSameWrong : ChangeSpec := { name := "irSame", fn := fun _ => fun
  | [d1, d2, d3] => { results := [.lit (.bool false)], args := [d1, d2, d3] }
  | _ => none }
def IrSameWrongFalsely : Prop := irSameRow.holds Try.pinned (OpenSpec.ofChange irSameWrong)

/-- 'sacristanlaw18.SweepTells': WHATEVER THE INPUT: true; the input reads as it did. -/
def sweepTellsSpec : ChangeSpec := { name := "sweepTells", fn := fun _ => fun
  | [d1, d2, d3, d4] => { results := [.lit (.bool true)], args := [d1, d2, d3, d4] }
  | _ => none }
def sweepTellsRow : OpenClaim := { program := "ytjkjbfhhfdbnoaa", sum := "f332b1ee507fa09e83ac2cb959a7385dc4ec30ed9407c8f537a6bb5a7690f984", func := "sacristan/sacristanlaw18.SweepTells", spec := "sweepTells", inPlace := ["internal/bytealg.IndexByteString", "internal/bytealg.IndexString"], unfollowed := true, recurses := true, named := ["internal/bytealg.MaxLen"], apart := false }
def SweepTellsSaid : Prop := sweepTellsRow.holds Try.pinned (OpenSpec.ofChange sweepTellsSpec)

/-- ITS FALSE NEIGHBOUR: 'it returns false'. Refute it at one input. -/
def sweepTellsWrong : ChangeSpec := { name := "sweepTells", fn := fun _ => fun
  | [d1, d2, d3, d4] => { results := [.lit (.bool false)], args := [d1, d2, d3, d4] }
  | _ => none }
def SweepTellsWrongFalsely : Prop := sweepTellsRow.holds Try.pinned (OpenSpec.ofChange sweepTellsWrong)

/- THE SECOND FORM. 'bulk': how many values and letters a reading holds, each counted each time it is reached (what is shared counts as often as it is met; a slice's spare places count too). A statement '..UptoSaid' is the law's where the arguments, and the package variables that the reading takes, are together of bulk at most 1048576: NARROWER than '..Said'. Prove '..Said' where nothing that the law and all that it calls make is longer than what came in: it says more and counts as full. Else prove '..UptoSaid'. A law counts once. -/
mutual
def uptoBulk {H : Type} : DataW H → Nat
  | .lit (.string bytes) => bytes.length + 1
  | .lit _ => 1
  | .nil => 1
  | .ptr d => uptoBulk d + 1
  | .slice elems spare => uptoBulkAll elems + uptoBulkAll spare + 1
  | .agg parts => uptoBulkAll parts + 1
  | .iface _ d => uptoBulk d + 1
  | .map entries => uptoBulkEntries entries + 1
  | .held _ => 1
def uptoBulkAll {H : Type} : List (DataW H) → Nat
  | [] => 0
  | d :: r => uptoBulk d + uptoBulkAll r
def uptoBulkEntries {H : Type} : List (Lit × DataW H) → Nat
  | [] => 0
  | x :: r => uptoBulkEntry x + uptoBulkEntries r
def uptoBulkEntry {H : Type} : Lit × DataW H → Nat
  | (.string bytes, d) => bytes.length + uptoBulk d + 1
  | (_, d) => uptoBulk d + 1
 end
def uptoSmall : (H : Type) → List (DataW H) → Bool := fun _ ds => decide (uptoBulkAll ds ≤ 1048576)
def OpenSpec.upto (s : _root_.Go.ChangeSpec) : _root_.Go.OpenSpec := { _root_.Go.OpenSpec.ofChange s with cond := some uptoSmall }

/-- 'sacristanlaw17.SpreadTells', WHERE WHAT IT READS IS OF BULK AT MOST 1048576: true; the input reads as it did. -/
def spreadTellsUptoRow : OpenClaim := { program := "ytjkjbfhhfdbnoaa", sum := "f332b1ee507fa09e83ac2cb959a7385dc4ec30ed9407c8f537a6bb5a7690f984", func := "sacristan/sacristanlaw17.SpreadTells", spec := "spreadTells", inPlace := ["internal/bytealg.IndexByteString", "internal/bytealg.IndexString"], unfollowed := true, recurses := true, named := ["internal/bytealg.MaxLen"], apart := false, narrowed := true }
def SpreadTellsUptoSaid : Prop := spreadTellsUptoRow.holds Try.pinned (OpenSpec.upto spreadTellsSpec)

/-- 'sacristanlaw17.SpreadEnds', WHERE WHAT IT READS IS OF BULK AT MOST 1048576: true; the input reads as it did. -/
def spreadEndsUptoRow : OpenClaim := { program := "ytjkjbfhhfdbnoaa", sum := "f332b1ee507fa09e83ac2cb959a7385dc4ec30ed9407c8f537a6bb5a7690f984", func := "sacristan/sacristanlaw17.SpreadEnds", spec := "spreadEnds", inPlace := ["internal/bytealg.IndexByteString", "internal/bytealg.IndexString"], unfollowed := true, recurses := true, named := ["internal/bytealg.MaxLen"], apart := false, narrowed := true }
def SpreadEndsUptoSaid : Prop := spreadEndsUptoRow.holds Try.pinned (OpenSpec.upto spreadEndsSpec)

/-- 'sacristanlaw18.SweepKeeps', WHERE WHAT IT READS IS OF BULK AT MOST 1048576: true; the input reads as it did. -/
def sweepKeepsUptoRow : OpenClaim := { program := "ytjkjbfhhfdbnoaa", sum := "f332b1ee507fa09e83ac2cb959a7385dc4ec30ed9407c8f537a6bb5a7690f984", func := "sacristan/sacristanlaw18.SweepKeeps", spec := "sweepKeeps", inPlace := ["internal/bytealg.IndexByteString", "internal/bytealg.IndexString"], unfollowed := true, recurses := true, named := ["internal/bytealg.MaxLen"], apart := false, narrowed := true }
def SweepKeepsUptoSaid : Prop := sweepKeepsUptoRow.holds Try.pinned (OpenSpec.upto sweepKeepsSpec)

/-- 'sacristanlaw18.SweepLast', WHERE WHAT IT READS IS OF BULK AT MOST 1048576: true; the input reads as it did. -/
def sweepLastUptoRow : OpenClaim := { program := "ytjkjbfhhfdbnoaa", sum := "f332b1ee507fa09e83ac2cb959a7385dc4ec30ed9407c8f537a6bb5a7690f984", func := "sacristan/sacristanlaw18.SweepLast", spec := "sweepLast", inPlace := ["internal/bytealg.IndexByteString", "internal/bytealg.IndexString"], unfollowed := true, recurses := true, named := ["internal/bytealg.MaxLen"], apart := false, narrowed := true }
def SweepLastUptoSaid : Prop := sweepLastUptoRow.holds Try.pinned (OpenSpec.upto sweepLastSpec)

/-- 'sacristanlaw16.FoldTells', WHERE WHAT IT READS IS OF BULK AT MOST 1048576: true; the input reads as it did. -/
def foldTellsUptoRow : OpenClaim := { program := "ytjkjbfhhfdbnoaa", sum := "f332b1ee507fa09e83ac2cb959a7385dc4ec30ed9407c8f537a6bb5a7690f984", func := "sacristan/sacristanlaw16.FoldTells", spec := "foldTells", inPlace := ["internal/bytealg.IndexByteString", "internal/bytealg.IndexString"], unfollowed := true, recurses := true, named := ["internal/bytealg.MaxLen"], apart := false, narrowed := true }
def FoldTellsUptoSaid : Prop := foldTellsUptoRow.holds Try.pinned (OpenSpec.upto foldTellsSpec)

/-- 'sacristanlaw16.FoldAll', WHERE WHAT IT READS IS OF BULK AT MOST 1048576: true; the input reads as it did. -/
def foldAllUptoRow : OpenClaim := { program := "ytjkjbfhhfdbnoaa", sum := "f332b1ee507fa09e83ac2cb959a7385dc4ec30ed9407c8f537a6bb5a7690f984", func := "sacristan/sacristanlaw16.FoldAll", spec := "foldAll", inPlace := ["internal/bytealg.IndexByteString", "internal/bytealg.IndexString"], unfollowed := true, recurses := true, named := ["internal/bytealg.MaxLen"], apart := false, narrowed := true }
def FoldAllUptoSaid : Prop := foldAllUptoRow.holds Try.pinned (OpenSpec.upto foldAllSpec)

/-- 'sacristanlaw15.IrJoins', WHERE WHAT IT READS IS OF BULK AT MOST 1048576: true; the input reads as it did. -/
def irJoinsUptoRow : OpenClaim := { program := "ytjkjbfhhfdbnoaa", sum := "f332b1ee507fa09e83ac2cb959a7385dc4ec30ed9407c8f537a6bb5a7690f984", func := "sacristan/sacristanlaw15.IrJoins", spec := "irJoins", inPlace := ["internal/bytealg.IndexByteString", "internal/bytealg.IndexString"], unfollowed := true, recurses := true, named := ["internal/bytealg.MaxLen"], apart := false, narrowed := true }
def IrJoinsUptoSaid : Prop := irJoinsUptoRow.holds Try.pinned (OpenSpec.upto irJoinsSpec)

/-- 'sacristanlaw15.IrAround', WHERE WHAT IT READS IS OF BULK AT MOST 1048576: true; the input reads as it did. -/
def irAroundUptoRow : OpenClaim := { program := "ytjkjbfhhfdbnoaa", sum := "f332b1ee507fa09e83ac2cb959a7385dc4ec30ed9407c8f537a6bb5a7690f984", func := "sacristan/sacristanlaw15.IrAround", spec := "irAround", inPlace := ["internal/bytealg.IndexByteString", "internal/bytealg.IndexString"], unfollowed := true, recurses := true, named := ["internal/bytealg.MaxLen"], apart := false, narrowed := true }
def IrAroundUptoSaid : Prop := irAroundUptoRow.holds Try.pinned (OpenSpec.upto irAroundSpec)

/-- 'sacristanlaw15.IrFails', WHERE WHAT IT READS IS OF BULK AT MOST 1048576: true; the input reads as it did. -/
def irFailsUptoRow : OpenClaim := { program := "ytjkjbfhhfdbnoaa", sum := "f332b1ee507fa09e83ac2cb959a7385dc4ec30ed9407c8f537a6bb5a7690f984", func := "sacristan/sacristanlaw15.IrFails", spec := "irFails", inPlace := ["internal/bytealg.IndexByteString", "internal/bytealg.IndexString"], unfollowed := true, recurses := true, named := ["internal/bytealg.MaxLen"], apart := false, narrowed := true }
def IrFailsUptoSaid : Prop := irFailsUptoRow.holds Try.pinned (OpenSpec.upto irFailsSpec)

/-- 'sacristanlaw15.IrSame', WHERE WHAT IT READS IS OF BULK AT MOST 1048576: true; the input reads as it did. -/
def irSameUptoRow : OpenClaim := { program := "ytjkjbfhhfdbnoaa", sum := "f332b1ee507fa09e83ac2cb959a7385dc4ec30ed9407c8f537a6bb5a7690f984", func := "sacristan/sacristanlaw15.IrSame", spec := "irSame", inPlace := ["internal/bytealg.IndexByteString", "internal/bytealg.IndexString"], unfollowed := true, recurses := true, named := ["internal/bytealg.MaxLen"], apart := false, narrowed := true }
def IrSameUptoSaid : Prop := irSameUptoRow.holds Try.pinned (OpenSpec.upto irSameSpec)

/-- 'sacristanlaw18.SweepTells', WHERE WHAT IT READS IS OF BULK AT MOST 1048576: true; the input reads as it did. -/
def sweepTellsUptoRow : OpenClaim := { program := "ytjkjbfhhfdbnoaa", sum := "f332b1ee507fa09e83ac2cb959a7385dc4ec30ed9407c8f537a6bb5a7690f984", func := "sacristan/sacristanlaw18.SweepTells", spec := "sweepTells", inPlace := ["internal/bytealg.IndexByteString", "internal/bytealg.IndexString"], unfollowed := true, recurses := true, named := ["internal/bytealg.MaxLen"], apart := false, narrowed := true }
def SweepTellsUptoSaid : Prop := sweepTellsUptoRow.holds Try.pinned (OpenSpec.upto sweepTellsSpec)

end Rows
end Go.Proofs.Ytjkjbfhhfdbnoaa
