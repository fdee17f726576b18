/- Whatever the value, HeapNil's code comes to true. -/
import Derived.Test.YtahcnpjgbhpbeaaHg
namespace Go.Proofs.Ytahcnpjgbhpbeaa.HP
open Go.RowKit Go.Proofs.YtahcnpjgbhpbeaaW.PrintWords
set_option linter.unusedVariables false
set_option linter.unusedSimpArgs false

set_option maxHeartbeats 1600000 in
set_option maxRecDepth 1000000 in
theorem HeapNil_calls (w : World) (t a : Int) (s : ByteArray) :
    Calls Try.prog 6 #[.agg #[.int .u8 t, .int .i64 a, .string s]] w fun e w' => e = .returned (.bool true) ∧ Below w.heap.size w w' := by
  have hN := at_nil t a s w
  have b1 := (Below.refl _ w).alloc (Nat.le_refl _) (.cells #[.int .u8 t, .int .i64 a, .string s] 26)
  have V1 := blk_new w (.cells #[.int .u8 t, .int .i64 a, .string s] 26)
  go_enter Try.func6, Try.ntmps6
  go_wp2_with fail
  refine Calls.mono (Pair_nil _ t a t a s s) ?_
  rintro e u2 ⟨rfl, hb⟩
  have hB := b1.trans (hb.mono b1.size)
  have b2 := hB.alloc hB.size (.cells #[.int .u8 0, .int .i64 0, .string ⟨#[]⟩] 26)
  have V2 := blk_alloc (blk_below V1 hb) (.cells #[.int .u8 0, .int .i64 0, .string ⟨#[]⟩] 26)
  clear hb hB b1 V1
  have c0 := cells_of V2 0 _ rfl
  have c1 := cells_of V2 1 _ rfl
  have c2 := cells_of V2 2 _ rfl
  go_wp2_with fail
  refine Calls.mono (Cell_nil _ t a s) ?_
  rintro e u3 ⟨rfl, hb⟩
  have hB := b2.trans (hb.mono b2.size)
  have b3 := hB.alloc hB.size (.cells #[.int .u8 0, .int .i64 0, .string ⟨#[]⟩] 26)
  have V3 := blk_alloc (blk_below V2 hb) (.cells #[.int .u8 0, .int .i64 0, .string ⟨#[]⟩] 26)
  clear hb hB b2 V2 c0 c1 c2
  have c0 := cells_of V3 0 _ rfl
  have c1 := cells_of V3 1 _ rfl
  have c2 := cells_of V3 2 _ rfl
  go_wp2_with fail
  refine Calls.mono (Make_nil _ 1) ?_
  rintro e u4 ⟨rfl, hb⟩
  have hB := b3.trans (hb.mono b3.size)
  have b4 := hB.alloc hB.size (.cells #[.int .u8 0, .int .i64 0, .string ⟨#[]⟩] 26)
  have V4 := blk_alloc (blk_below V3 hb) (.cells #[.int .u8 0, .int .i64 0, .string ⟨#[]⟩] 26)
  have hl4 : w.heap.size < u4.heap.size := blk_lt (blk_below V3 hb)
  clear hb hB b3 V3 c0 c1 c2
  have c0 := cells_of V4 0 _ rfl
  have c1 := cells_of V4 1 _ rfl
  have c2 := cells_of V4 2 _ rfl
  have hl5 : w.heap.size < u4.heap.size + 1 := by omega
  go_wp2_with fail
  have b5 := b4.alloc b4.size (.cells #[] 74)
  have V5 := blk_alloc V4 (.cells #[] 74)
  refine Calls.mono (asks_nil t a s _ 0 _) ?_
  rintro e u5 ⟨rfl, hb⟩
  have b6 := b5.trans (hb.mono b5.size)
  have V6 := blk_below V5 hb
  clear hb b4 V4 b5 V5 c0 c1 c2 hl4 hl5
  have c0 := cells_of V6 0 _ rfl
  have c1 := cells_of V6 1 _ rfl
  have c2 := cells_of V6 2 _ rfl
  go_wp2_with fail
  refine Calls.mono (Set_bad (hN.later b6)) ?_
  rintro e u6 ⟨rfl, hb⟩
  have b7 := b6.trans (hb.mono b6.size)
  clear hb b6 V6 c0 c1 c2
  go_wp2_with fail
  refine Calls.mono (Len_nil _) ?_
  rintro e u7 ⟨rfl, rfl⟩
  go_wp2_with fail
  refine Calls.mono (awake_calls _) ?_
  rintro e u8 ⟨rfl, hb⟩
  have b8 := b7.trans (hb.mono b7.size)
  clear hb
  go_wp2_with fail
  go_ret
  exact ⟨rfl, b8⟩
end Go.Proofs.Ytahcnpjgbhpbeaa.HP
