/-
  No cell of these rows narrows 'for every input' (looked for: loops, veiled, ifaces, maps, wideKeys, modest, calm, conditions, laid).
  DERIVED. THE GIVEN ROWS OF THIS SEAT. 12 by the template 'for every input the law returns true; each argument reads behind the call as it read before'; 0 by the template 'total and deterministic' (their statements: YtahcnpjgbhpbeaaTotals.lean).
  GIVEN WITH THE SEED: the statements are not yours to turn. If you find one false, say at which input.
  Laid BY PROGRAM, IN A SANDBOX (cutbox-rows.mjs): the forced cells as the released guide's own fill.sh prints them over the translation 309ef476cd98481c… (all of the seat's roots in one cut). By AI agents, Wed Nov 11 2026. No macro, syntax, notation, axiom, sorry.
-/
import Derived.Test.YtahcnpjgbhpbeaaChecked
import GoSem.Claim
import GoSem.ClaimJoined
import GoSem.ClaimMapViews
import Derived.JoinedTies
import Derived.KernelRfl
namespace Go.Proofs.Ytahcnpjgbhpbeaa
/- THE CELL 'sum', in the pinned program and in every row, IS THE sha256 OF THE DUMP (.gsa) THAT YtahcnpjgbhpbeaaProg.lean LOADS. Nothing in Lean hashes anything: it is a label: what it is worth is what the hold of that sum in a sandbox is worth. -/
noncomputable def Try.pinned : Pinned := { name := "ytahcnpjgbhpbeaa", sum := "309ef476cd98481ce99cbcc6e283aefd4173ed1fb43ee82789c9f310fc7cff0b", checked := Try.checked }
namespace Rows
def none {H : Type} : Left H := { results := [], args := [] }

/-- 'sacristanlaw02.HeapFull': WHATEVER THE INPUT: true; the input reads as it did. -/
def heapFullSpec : ChangeSpec := { name := "heapFull", fn := fun _ => fun
  | [d1, d2] => { results := [.lit (.bool true)], args := [d1, d2] }
  | _ => none }
def heapFullRow : OpenClaim := { program := "ytahcnpjgbhpbeaa", sum := "309ef476cd98481ce99cbcc6e283aefd4173ed1fb43ee82789c9f310fc7cff0b", func := "sacristan/sacristanlaw02.HeapFull", spec := "heapFull", apart := false }
def HeapFullSaid : Prop := heapFullRow.holds Try.pinned (OpenSpec.ofChange heapFullSpec)

/-- ITS FALSE NEIGHBOUR: 'it returns false'. Refute it at one input. -/
def heapFullWrong : ChangeSpec := { name := "heapFull", fn := fun _ => fun
  | [d1, d2] => { results := [.lit (.bool false)], args := [d1, d2] }
  | _ => none }
def HeapFullWrongFalsely : Prop := heapFullRow.holds Try.pinned (OpenSpec.ofChange heapFullWrong)

/-- 'sacristanlaw02.HeapThings': WHATEVER THE INPUT: true; the input reads as it did. -/
def heapThingsSpec : ChangeSpec := { name := "heapThings", fn := fun _ => fun
  | [d1, d2] => { results := [.lit (.bool true)], args := [d1, d2] }
  | _ => none }
def heapThingsRow : OpenClaim := { program := "ytahcnpjgbhpbeaa", sum := "309ef476cd98481ce99cbcc6e283aefd4173ed1fb43ee82789c9f310fc7cff0b", func := "sacristan/sacristanlaw02.HeapThings", spec := "heapThings", apart := false }
def HeapThingsSaid : Prop := heapThingsRow.holds Try.pinned (OpenSpec.ofChange heapThingsSpec)

/-- ITS FALSE NEIGHBOUR: 'it returns false'. Refute it at one input. -/
def heapThingsWrong : ChangeSpec := { name := "heapThings", fn := fun _ => fun
  | [d1, d2] => { results := [.lit (.bool false)], args := [d1, d2] }
  | _ => none }
def HeapThingsWrongFalsely : Prop := heapThingsRow.holds Try.pinned (OpenSpec.ofChange heapThingsWrong)

/-- 'sacristanlaw02.HeapCells': WHATEVER THE INPUT: true; the input reads as it did. -/
def heapCellsSpec : ChangeSpec := { name := "heapCells", fn := fun _ => fun
  | [d1, d2, d3, d4] => { results := [.lit (.bool true)], args := [d1, d2, d3, d4] }
  | _ => none }
def heapCellsRow : OpenClaim := { program := "ytahcnpjgbhpbeaa", sum := "309ef476cd98481ce99cbcc6e283aefd4173ed1fb43ee82789c9f310fc7cff0b", func := "sacristan/sacristanlaw02.HeapCells", spec := "heapCells", apart := false }
def HeapCellsSaid : Prop := heapCellsRow.holds Try.pinned (OpenSpec.ofChange heapCellsSpec)

/-- ITS FALSE NEIGHBOUR: 'it returns false'. Refute it at one input. -/
def heapCellsWrong : ChangeSpec := { name := "heapCells", fn := fun _ => fun
  | [d1, d2, d3, d4] => { results := [.lit (.bool false)], args := [d1, d2, d3, d4] }
  | _ => none }
def HeapCellsWrongFalsely : Prop := heapCellsRow.holds Try.pinned (OpenSpec.ofChange heapCellsWrong)

/-- 'sacristanlaw02.HeapNil': WHATEVER THE INPUT: true; the input reads as it did. -/
def heapNilSpec : ChangeSpec := { name := "heapNil", fn := fun _ => fun
  | [d] => { results := [.lit (.bool true)], args := [d] }
  | _ => none }
def heapNilRow : OpenClaim := { program := "ytahcnpjgbhpbeaa", sum := "309ef476cd98481ce99cbcc6e283aefd4173ed1fb43ee82789c9f310fc7cff0b", func := "sacristan/sacristanlaw02.HeapNil", spec := "heapNil", apart := false }
def HeapNilSaid : Prop := heapNilRow.holds Try.pinned (OpenSpec.ofChange heapNilSpec)

/-- ITS FALSE NEIGHBOUR: 'it returns false'. Refute it at one input. -/
def heapNilWrong : ChangeSpec := { name := "heapNil", fn := fun _ => fun
  | [d] => { results := [.lit (.bool false)], args := [d] }
  | _ => none }
def HeapNilWrongFalsely : Prop := heapNilRow.holds Try.pinned (OpenSpec.ofChange heapNilWrong)

/-- 'sacristanlaw01.ValueTwos': WHATEVER THE INPUT: true; the input reads as it did. -/
def valueTwosSpec : ChangeSpec := { name := "valueTwos", fn := fun _ => fun
  | [d1, d2, d3, d4] => { results := [.lit (.bool true)], args := [d1, d2, d3, d4] }
  | _ => none }
def valueTwosRow : OpenClaim := { program := "ytahcnpjgbhpbeaa", sum := "309ef476cd98481ce99cbcc6e283aefd4173ed1fb43ee82789c9f310fc7cff0b", func := "sacristan/sacristanlaw01.ValueTwos", spec := "valueTwos", unfollowed := true, recurses := true, apart := false }
def ValueTwosSaid : Prop := valueTwosRow.holds Try.pinned (OpenSpec.ofChange valueTwosSpec)

/-- ITS FALSE NEIGHBOUR: 'it returns false'. Refute it at one input. -/
def valueTwosWrong : ChangeSpec := { name := "valueTwos", fn := fun _ => fun
  | [d1, d2, d3, d4] => { results := [.lit (.bool false)], args := [d1, d2, d3, d4] }
  | _ => none }
def ValueTwosWrongFalsely : Prop := valueTwosRow.holds Try.pinned (OpenSpec.ofChange valueTwosWrong)

/-- 'sacristanlaw01.ValueInts': WHATEVER THE INPUT: true; the input reads as it did. -/
def valueIntsSpec : ChangeSpec := { name := "valueInts", fn := fun _ => fun
  | [d1, d2, d3] => { results := [.lit (.bool true)], args := [d1, d2, d3] }
  | _ => none }
def valueIntsRow : OpenClaim := { program := "ytahcnpjgbhpbeaa", sum := "309ef476cd98481ce99cbcc6e283aefd4173ed1fb43ee82789c9f310fc7cff0b", func := "sacristan/sacristanlaw01.ValueInts", spec := "valueInts", unfollowed := true, recurses := true, apart := false }
def ValueIntsSaid : Prop := valueIntsRow.holds Try.pinned (OpenSpec.ofChange valueIntsSpec)

/-- ITS FALSE NEIGHBOUR: 'it returns false'. Refute it at one input. -/
def valueIntsWrong : ChangeSpec := { name := "valueInts", fn := fun _ => fun
  | [d1, d2, d3] => { results := [.lit (.bool false)], args := [d1, d2, d3] }
  | _ => none }
def ValueIntsWrongFalsely : Prop := valueIntsRow.holds Try.pinned (OpenSpec.ofChange valueIntsWrong)

/-- 'sacristanlaw01.ValueMakes': WHATEVER THE INPUT: true; the input reads as it did. -/
def valueMakesSpec : ChangeSpec := { name := "valueMakes", fn := fun _ => fun
  | [d1, d2, d3, d4] => { results := [.lit (.bool true)], args := [d1, d2, d3, d4] }
  | _ => none }
def valueMakesRow : OpenClaim := { program := "ytahcnpjgbhpbeaa", sum := "309ef476cd98481ce99cbcc6e283aefd4173ed1fb43ee82789c9f310fc7cff0b", func := "sacristan/sacristanlaw01.ValueMakes", spec := "valueMakes", unfollowed := true, recurses := true, apart := false }
def ValueMakesSaid : Prop := valueMakesRow.holds Try.pinned (OpenSpec.ofChange valueMakesSpec)

/-- ITS FALSE NEIGHBOUR: 'it returns false'. Refute it at one input. -/
def valueMakesWrong : ChangeSpec := { name := "valueMakes", fn := fun _ => fun
  | [d1, d2, d3, d4] => { results := [.lit (.bool false)], args := [d1, d2, d3, d4] }
  | _ => none }
def ValueMakesWrongFalsely : Prop := valueMakesRow.holds Try.pinned (OpenSpec.ofChange valueMakesWrong)

/-- 'sacristanlaw01.ValueShifts': WHATEVER THE INPUT: true; the input reads as it did. -/
def valueShiftsSpec : ChangeSpec := { name := "valueShifts", fn := fun _ => fun
  | [d1, d2, d3] => { results := [.lit (.bool true)], args := [d1, d2, d3] }
  | _ => none }
def valueShiftsRow : OpenClaim := { program := "ytahcnpjgbhpbeaa", sum := "309ef476cd98481ce99cbcc6e283aefd4173ed1fb43ee82789c9f310fc7cff0b", func := "sacristan/sacristanlaw01.ValueShifts", spec := "valueShifts", unfollowed := true, recurses := true, apart := false }
def ValueShiftsSaid : Prop := valueShiftsRow.holds Try.pinned (OpenSpec.ofChange valueShiftsSpec)

/-- ITS FALSE NEIGHBOUR: 'it returns false'. Refute it at one input. -/
def valueShiftsWrong : ChangeSpec := { name := "valueShifts", fn := fun _ => fun
  | [d1, d2, d3] => { results := [.lit (.bool false)], args := [d1, d2, d3] }
  | _ => none }
def ValueShiftsWrongFalsely : Prop := valueShiftsRow.holds Try.pinned (OpenSpec.ofChange valueShiftsWrong)

/-- 'sacristanlaw01.ValueOrder': WHATEVER THE INPUT: true; the input reads as it did. -/
def valueOrderSpec : ChangeSpec := { name := "valueOrder", fn := fun _ => fun
  | [d1, d2, d3, d4] => { results := [.lit (.bool true)], args := [d1, d2, d3, d4] }
  | _ => none }
def valueOrderRow : OpenClaim := { program := "ytahcnpjgbhpbeaa", sum := "309ef476cd98481ce99cbcc6e283aefd4173ed1fb43ee82789c9f310fc7cff0b", func := "sacristan/sacristanlaw01.ValueOrder", spec := "valueOrder", unfollowed := true, recurses := true, apart := false }
def ValueOrderSaid : Prop := valueOrderRow.holds Try.pinned (OpenSpec.ofChange valueOrderSpec)

/-- ITS FALSE NEIGHBOUR: 'it returns false'. Refute it at one input. -/
def valueOrderWrong : ChangeSpec := { name := "valueOrder", fn := fun _ => fun
  | [d1, d2, d3, d4] => { results := [.lit (.bool false)], args := [d1, d2, d3, d4] }
  | _ => none }
def ValueOrderWrongFalsely : Prop := valueOrderRow.holds Try.pinned (OpenSpec.ofChange valueOrderWrong)

/-- 'sacristanlaw01.ValueNarrow': WHATEVER THE INPUT: true; the input reads as it did. -/
def valueNarrowSpec : ChangeSpec := { name := "valueNarrow", fn := fun _ => fun
  | [d1, d2] => { results := [.lit (.bool true)], args := [d1, d2] }
  | _ => none }
def valueNarrowRow : OpenClaim := { program := "ytahcnpjgbhpbeaa", sum := "309ef476cd98481ce99cbcc6e283aefd4173ed1fb43ee82789c9f310fc7cff0b", func := "sacristan/sacristanlaw01.ValueNarrow", spec := "valueNarrow", unfollowed := true, recurses := true, apart := false }
def ValueNarrowSaid : Prop := valueNarrowRow.holds Try.pinned (OpenSpec.ofChange valueNarrowSpec)

/-- ITS FALSE NEIGHBOUR: 'it returns false'. Refute it at one input. -/
def valueNarrowWrong : ChangeSpec := { name := "valueNarrow", fn := fun _ => fun
  | [d1, d2] => { results := [.lit (.bool false)], args := [d1, d2] }
  | _ => none }
def ValueNarrowWrongFalsely : Prop := valueNarrowRow.holds Try.pinned (OpenSpec.ofChange valueNarrowWrong)

/-- 'sacristanlaw01.ValueCats': WHATEVER THE INPUT: true; the input reads as it did. -/
def valueCatsSpec : ChangeSpec := { name := "valueCats", fn := fun _ => fun
  | [d1, d2, d3, d4] => { results := [.lit (.bool true)], args := [d1, d2, d3, d4] }
  | _ => none }
def valueCatsRow : OpenClaim := { program := "ytahcnpjgbhpbeaa", sum := "309ef476cd98481ce99cbcc6e283aefd4173ed1fb43ee82789c9f310fc7cff0b", func := "sacristan/sacristanlaw01.ValueCats", spec := "valueCats", unfollowed := true, recurses := true, apart := false }
def ValueCatsSaid : Prop := valueCatsRow.holds Try.pinned (OpenSpec.ofChange valueCatsSpec)

/-- ITS FALSE NEIGHBOUR: 'it returns false'. Refute it at one input. -/
def valueCatsWrong : ChangeSpec := { name := "valueCats", fn := fun _ => fun
  | [d1, d2, d3, d4] => { results := [.lit (.bool false)], args := [d1, d2, d3, d4] }
  | _ => none }
def ValueCatsWrongFalsely : Prop := valueCatsRow.holds Try.pinned (OpenSpec.ofChange valueCatsWrong)

/-- 'sacristanlaw01.ValueOnes': WHATEVER THE INPUT: true; the input reads as it did. -/
def valueOnesSpec : ChangeSpec := { name := "valueOnes", fn := fun _ => fun
  | [d1, d2, d3] => { results := [.lit (.bool true)], args := [d1, d2, d3] }
  | _ => none }
def valueOnesRow : OpenClaim := { program := "ytahcnpjgbhpbeaa", sum := "309ef476cd98481ce99cbcc6e283aefd4173ed1fb43ee82789c9f310fc7cff0b", func := "sacristan/sacristanlaw01.ValueOnes", spec := "valueOnes", unfollowed := true, recurses := true, apart := false }
def ValueOnesSaid : Prop := valueOnesRow.holds Try.pinned (OpenSpec.ofChange valueOnesSpec)

/-- ITS FALSE NEIGHBOUR: 'it returns false'. Refute it at one input. -/
def valueOnesWrong : ChangeSpec := { name := "valueOnes", fn := fun _ => fun
  | [d1, d2, d3] => { results := [.lit (.bool false)], args := [d1, d2, d3] }
  | _ => none }
def ValueOnesWrongFalsely : Prop := valueOnesRow.holds Try.pinned (OpenSpec.ofChange valueOnesWrong)

/- THE SECOND FORM. 'bulk': how many values and letters a reading holds, each counted each time it is reached (what is shared counts as often as it is met; a slice's spare places count too). A statement '..UptoSaid' is the law's where the arguments, and the package variables that the reading takes, are together of bulk at most 1048576: NARROWER than '..Said'. Prove '..Said' where nothing that the law and all that it calls make is longer than what came in: it says more and counts as full. Else prove '..UptoSaid'. A law counts once. -/
mutual
def uptoBulk {H : Type} : DataW H → Nat
  | .lit (.string bytes) => bytes.length + 1
  | .lit _ => 1
  | .nil => 1
  | .ptr d => uptoBulk d + 1
  | .slice elems spare => uptoBulkAll elems + uptoBulkAll spare + 1
  | .agg parts => uptoBulkAll parts + 1
  | .iface _ d => uptoBulk d + 1
  | .map entries => uptoBulkEntries entries + 1
  | .held _ => 1
def uptoBulkAll {H : Type} : List (DataW H) → Nat
  | [] => 0
  | d :: r => uptoBulk d + uptoBulkAll r
def uptoBulkEntries {H : Type} : List (Lit × DataW H) → Nat
  | [] => 0
  | x :: r => uptoBulkEntry x + uptoBulkEntries r
def uptoBulkEntry {H : Type} : Lit × DataW H → Nat
  | (.string bytes, d) => bytes.length + uptoBulk d + 1
  | (_, d) => uptoBulk d + 1
 end
def uptoSmall : (H : Type) → List (DataW H) → Bool := fun _ ds => decide (uptoBulkAll ds ≤ 1048576)
def OpenSpec.upto (s : _root_.Go.ChangeSpec) : _root_.Go.OpenSpec := { _root_.Go.OpenSpec.ofChange s with cond := some uptoSmall }

/-- 'sacristanlaw02.HeapFull', WHERE WHAT IT READS IS OF BULK AT MOST 1048576: true; the input reads as it did. -/
def heapFullUptoRow : OpenClaim := { program := "ytahcnpjgbhpbeaa", sum := "309ef476cd98481ce99cbcc6e283aefd4173ed1fb43ee82789c9f310fc7cff0b", func := "sacristan/sacristanlaw02.HeapFull", spec := "heapFull", apart := false, narrowed := true }
def HeapFullUptoSaid : Prop := heapFullUptoRow.holds Try.pinned (OpenSpec.upto heapFullSpec)

/-- 'sacristanlaw02.HeapThings', WHERE WHAT IT READS IS OF BULK AT MOST 1048576: true; the input reads as it did. -/
def heapThingsUptoRow : OpenClaim := { program := "ytahcnpjgbhpbeaa", sum := "309ef476cd98481ce99cbcc6e283aefd4173ed1fb43ee82789c9f310fc7cff0b", func := "sacristan/sacristanlaw02.HeapThings", spec := "heapThings", apart := false, narrowed := true }
def HeapThingsUptoSaid : Prop := heapThingsUptoRow.holds Try.pinned (OpenSpec.upto heapThingsSpec)

/-- 'sacristanlaw02.HeapCells', WHERE WHAT IT READS IS OF BULK AT MOST 1048576: true; the input reads as it did. -/
def heapCellsUptoRow : OpenClaim := { program := "ytahcnpjgbhpbeaa", sum := "309ef476cd98481ce99cbcc6e283aefd4173ed1fb43ee82789c9f310fc7cff0b", func := "sacristan/sacristanlaw02.HeapCells", spec := "heapCells", apart := false, narrowed := true }
def HeapCellsUptoSaid : Prop := heapCellsUptoRow.holds Try.pinned (OpenSpec.upto heapCellsSpec)

/-- 'sacristanlaw02.HeapNil', WHERE WHAT IT READS IS OF BULK AT MOST 1048576: true; the input reads as it did. -/
def heapNilUptoRow : OpenClaim := { program := "ytahcnpjgbhpbeaa", sum := "309ef476cd98481ce99cbcc6e283aefd4173ed1fb43ee82789c9f310fc7cff0b", func := "sacristan/sacristanlaw02.HeapNil", spec := "heapNil", apart := false, narrowed := true }
def HeapNilUptoSaid : Prop := heapNilUptoRow.holds Try.pinned (OpenSpec.upto heapNilSpec)

/-- 'sacristanlaw01.ValueTwos', WHERE WHAT IT READS IS OF BULK AT MOST 1048576: true; the input reads as it did. -/
def valueTwosUptoRow : OpenClaim := { program := "ytahcnpjgbhpbeaa", sum := "309ef476cd98481ce99cbcc6e283aefd4173ed1fb43ee82789c9f310fc7cff0b", func := "sacristan/sacristanlaw01.ValueTwos", spec := "valueTwos", unfollowed := true, recurses := true, apart := false, narrowed := true }
def ValueTwosUptoSaid : Prop := valueTwosUptoRow.holds Try.pinned (OpenSpec.upto valueTwosSpec)

/-- 'sacristanlaw01.ValueInts', WHERE WHAT IT READS IS OF BULK AT MOST 1048576: true; the input reads as it did. -/
def valueIntsUptoRow : OpenClaim := { program := "ytahcnpjgbhpbeaa", sum := "309ef476cd98481ce99cbcc6e283aefd4173ed1fb43ee82789c9f310fc7cff0b", func := "sacristan/sacristanlaw01.ValueInts", spec := "valueInts", unfollowed := true, recurses := true, apart := false, narrowed := true }
def ValueIntsUptoSaid : Prop := valueIntsUptoRow.holds Try.pinned (OpenSpec.upto valueIntsSpec)

/-- 'sacristanlaw01.ValueMakes', WHERE WHAT IT READS IS OF BULK AT MOST 1048576: true; the input reads as it did. -/
def valueMakesUptoRow : OpenClaim := { program := "ytahcnpjgbhpbeaa", sum := "309ef476cd98481ce99cbcc6e283aefd4173ed1fb43ee82789c9f310fc7cff0b", func := "sacristan/sacristanlaw01.ValueMakes", spec := "valueMakes", unfollowed := true, recurses := true, apart := false, narrowed := true }
def ValueMakesUptoSaid : Prop := valueMakesUptoRow.holds Try.pinned (OpenSpec.upto valueMakesSpec)

/-- 'sacristanlaw01.ValueShifts', WHERE WHAT IT READS IS OF BULK AT MOST 1048576: true; the input reads as it did. -/
def valueShiftsUptoRow : OpenClaim := { program := "ytahcnpjgbhpbeaa", sum := "309ef476cd98481ce99cbcc6e283aefd4173ed1fb43ee82789c9f310fc7cff0b", func := "sacristan/sacristanlaw01.ValueShifts", spec := "valueShifts", unfollowed := true, recurses := true, apart := false, narrowed := true }
def ValueShiftsUptoSaid : Prop := valueShiftsUptoRow.holds Try.pinned (OpenSpec.upto valueShiftsSpec)

/-- 'sacristanlaw01.ValueOrder', WHERE WHAT IT READS IS OF BULK AT MOST 1048576: true; the input reads as it did. -/
def valueOrderUptoRow : OpenClaim := { program := "ytahcnpjgbhpbeaa", sum := "309ef476cd98481ce99cbcc6e283aefd4173ed1fb43ee82789c9f310fc7cff0b", func := "sacristan/sacristanlaw01.ValueOrder", spec := "valueOrder", unfollowed := true, recurses := true, apart := false, narrowed := true }
def ValueOrderUptoSaid : Prop := valueOrderUptoRow.holds Try.pinned (OpenSpec.upto valueOrderSpec)

/-- 'sacristanlaw01.ValueNarrow', WHERE WHAT IT READS IS OF BULK AT MOST 1048576: true; the input reads as it did. -/
def valueNarrowUptoRow : OpenClaim := { program := "ytahcnpjgbhpbeaa", sum := "309ef476cd98481ce99cbcc6e283aefd4173ed1fb43ee82789c9f310fc7cff0b", func := "sacristan/sacristanlaw01.ValueNarrow", spec := "valueNarrow", unfollowed := true, recurses := true, apart := false, narrowed := true }
def ValueNarrowUptoSaid : Prop := valueNarrowUptoRow.holds Try.pinned (OpenSpec.upto valueNarrowSpec)

/-- 'sacristanlaw01.ValueCats', WHERE WHAT IT READS IS OF BULK AT MOST 1048576: true; the input reads as it did. -/
def valueCatsUptoRow : OpenClaim := { program := "ytahcnpjgbhpbeaa", sum := "309ef476cd98481ce99cbcc6e283aefd4173ed1fb43ee82789c9f310fc7cff0b", func := "sacristan/sacristanlaw01.ValueCats", spec := "valueCats", unfollowed := true, recurses := true, apart := false, narrowed := true }
def ValueCatsUptoSaid : Prop := valueCatsUptoRow.holds Try.pinned (OpenSpec.upto valueCatsSpec)

/-- 'sacristanlaw01.ValueOnes', WHERE WHAT IT READS IS OF BULK AT MOST 1048576: true; the input reads as it did. -/
def valueOnesUptoRow : OpenClaim := { program := "ytahcnpjgbhpbeaa", sum := "309ef476cd98481ce99cbcc6e283aefd4173ed1fb43ee82789c9f310fc7cff0b", func := "sacristan/sacristanlaw01.ValueOnes", spec := "valueOnes", unfollowed := true, recurses := true, apart := false, narrowed := true }
def ValueOnesUptoSaid : Prop := valueOnesUptoRow.holds Try.pinned (OpenSpec.upto valueOnesSpec)

end Rows
end Go.Proofs.Ytahcnpjgbhpbeaa
