/- Asks, of a heap that is nil, comes to true. -/
import Derived.Test.YtahcnpjgbhpbeaaHf
namespace Go.Proofs.Ytahcnpjgbhpbeaa.HP
open Go.RowKit Go.Proofs.YtahcnpjgbhpbeaaW.PrintWords
set_option linter.unusedVariables false
set_option linter.unusedSimpArgs false

set_option maxHeartbeats 1600000 in
set_option maxRecDepth 1000000 in
theorem At_empty (t a : Int) (s : ByteArray) (ad : Option Addr) (cap : Nat) (w : World) :
    Calls Try.prog 45 #[.slice ad 0 cap, .agg #[.int .u8 t, .int .i64 a, .string s]] w fun e w' =>
      e = .returned (.tuple #[.agg #[.int .u8 0, .int .u8 0, .int .i64 0, .string ⟨#[]⟩, .int .u8 0, .int .i64 0, .string ⟨#[]⟩, .int .i64 0], .bool false]) ∧ Below w.heap.size w w' := by
  go_enter Try.func45, Try.ntmps45
  by_cases h0 : a < 0
  · go_wp2_with fail
    refine bodyPost_ret (results_ct rfl _ _ (w.heap.size + 1) 74 #[.int .u8 0, .int .u8 0, .int .i64 0, .string ⟨#[]⟩, .int .u8 0, .int .i64 0, .string ⟨#[]⟩, .int .i64 0] (0, 0) _ rfl (by simpa using blk_new (w.alloc _) _) Try.underlying74 rfl (by kernel_rfl)) rfl ?_
    exact ⟨rfl, ((Below.refl _ w).alloc (Nat.le_refl _) _).alloc (by simp) _⟩
  · have h1 : (0 : Int) ≤ a := by omega
    go_wp2_with fail
    refine bodyPost_ret (results_ct rfl _ _ (w.heap.size + 1) 74 #[.int .u8 0, .int .u8 0, .int .i64 0, .string ⟨#[]⟩, .int .u8 0, .int .i64 0, .string ⟨#[]⟩, .int .i64 0] (0, 0) _ rfl (by simpa using blk_new (w.alloc _) _) Try.underlying74 rfl (by kernel_rfl)) rfl ?_
    exact ⟨rfl, ((Below.refl _ w).alloc (Nat.le_refl _) _).alloc (by simp) _⟩

set_option maxHeartbeats 1600000 in
set_option maxRecDepth 1000000 in
theorem asks_nil (t a : Int) (s : ByteArray) (ad : Option Addr) (cap : Nat) (w : World) :
    Calls Try.prog 26 #[.pointer none, .slice ad 0 cap, .agg #[.int .u8 t, .int .i64 a, .string s]] w fun e w' => e = .returned (.bool true) ∧ Below w.heap.size w w' := by
  have hN := at_nil t a s w
  have b0 := (Below.refl _ w).alloc (Nat.le_refl _) (.cells #[.int .u8 t, .int .i64 a, .string s] 26)
  go_enter Try.func26, Try.ntmps26
  go_wp2_with fail
  refine Calls.mono (At_empty t a s ad cap _) ?_
  rintro e w1 ⟨rfl, hb⟩
  have b1 : Below w.heap.size w w1 := b0.trans (hb.mono (by simp))
  have hV1 : w1.heap[w.heap.size]? = some (.cells #[.int .u8 t, .int .i64 a, .string s] 26 (0, 0)) := (hb.block _ (by simp)).trans (blk_new w _)
  clear hb b0
  have B1 := b1.alloc b1.size (.cells #[.int .u8 0, .int .u8 0, .int .i64 0, .string ⟨#[]⟩, .int .u8 0, .int .i64 0, .string ⟨#[]⟩, .int .i64 0] 74)
  have V1 := blk_alloc hV1 (.cells #[.int .u8 0, .int .u8 0, .int .i64 0, .string ⟨#[]⟩, .int .u8 0, .int .i64 0, .string ⟨#[]⟩, .int .i64 0] 74)
  have T1 := blk_new w1 (.cells #[.int .u8 0, .int .u8 0, .int .i64 0, .string ⟨#[]⟩, .int .u8 0, .int .i64 0, .string ⟨#[]⟩, .int .i64 0] 74)
  clear b1 hV1
  have cv0 := cells_of V1 0 _ rfl
  have cv1 := cells_of V1 1 _ rfl
  have cv2 := cells_of V1 2 _ rfl
  have ct0 := cells_of T1 0 _ rfl
  go_wp2_with fail
  refine Calls.mono (Fst_bad (hN.later B1)) ?_
  rintro e u2 ⟨rfl, hb⟩
  have hB := B1.trans (hb.mono B1.size)
  have B2 := hB.alloc hB.size (.cells #[.int .u8 0, .int .i64 0, .string ⟨#[]⟩] 26)
  have V2 := blk_alloc (blk_below V1 hb) (.cells #[.int .u8 0, .int .i64 0, .string ⟨#[]⟩] 26)
  have T2 := blk_alloc (blk_below T1 hb) (.cells #[.int .u8 0, .int .i64 0, .string ⟨#[]⟩] 26)
  have F2 := blk_new u2 (.cells #[.int .u8 0, .int .i64 0, .string ⟨#[]⟩] 26)
  clear hb hB B1 V1 T1 cv0 cv1 cv2 ct0
  have cv0 := cells_of V2 0 _ rfl
  have cv1 := cells_of V2 1 _ rfl
  have cv2 := cells_of V2 2 _ rfl
  have ct0 := cells_of T2 0 _ rfl
  have cf0 := cells_of F2 0 _ rfl
  have cf1 := cells_of F2 1 _ rfl
  have cf2 := cells_of F2 2 _ rfl
  go_wp2_with fail
  refine Calls.mono (Snd_bad (hN.later B2)) ?_
  rintro e u3 ⟨rfl, hb⟩
  have hB := B2.trans (hb.mono B2.size)
  have B3 := hB.alloc hB.size (.cells #[.int .u8 0, .int .i64 0, .string ⟨#[]⟩] 26)
  have V3 := blk_alloc (blk_below V2 hb) (.cells #[.int .u8 0, .int .i64 0, .string ⟨#[]⟩] 26)
  have T3 := blk_alloc (blk_below T2 hb) (.cells #[.int .u8 0, .int .i64 0, .string ⟨#[]⟩] 26)
  have F3 := blk_alloc (blk_below F2 hb) (.cells #[.int .u8 0, .int .i64 0, .string ⟨#[]⟩] 26)
  have S3 := blk_new u3 (.cells #[.int .u8 0, .int .i64 0, .string ⟨#[]⟩] 26)
  clear hb hB B2 V2 T2 F2 cv0 cv1 cv2 ct0 cf0 cf1 cf2
  have cv0 := cells_of V3 0 _ rfl
  have cv1 := cells_of V3 1 _ rfl
  have cv2 := cells_of V3 2 _ rfl
  have ct0 := cells_of T3 0 _ rfl
  have cf0 := cells_of F3 0 _ rfl
  have cf1 := cells_of F3 1 _ rfl
  have cf2 := cells_of F3 2 _ rfl
  have cs0 := cells_of S3 0 _ rfl
  have cs1 := cells_of S3 1 _ rfl
  have cs2 := cells_of S3 2 _ rfl
  go_wp2_with fail
  refine Calls.mono (Get_bad (hN.later B3)) ?_
  rintro e u4 ⟨rfl, hb⟩
  have hB := B3.trans (hb.mono B3.size)
  have B4 := hB.alloc hB.size (.cells #[.int .u8 0, .int .i64 0, .string ⟨#[]⟩] 26)
  have V4 := blk_alloc (blk_below V3 hb) (.cells #[.int .u8 0, .int .i64 0, .string ⟨#[]⟩] 26)
  have T4 := blk_alloc (blk_below T3 hb) (.cells #[.int .u8 0, .int .i64 0, .string ⟨#[]⟩] 26)
  have F4 := blk_alloc (blk_below F3 hb) (.cells #[.int .u8 0, .int .i64 0, .string ⟨#[]⟩] 26)
  have S4 := blk_alloc (blk_below S3 hb) (.cells #[.int .u8 0, .int .i64 0, .string ⟨#[]⟩] 26)
  have G4 := blk_new u4 (.cells #[.int .u8 0, .int .i64 0, .string ⟨#[]⟩] 26)
  clear hb hB B3 V3 T3 F3 S3 cv0 cv1 cv2 ct0 cf0 cf1 cf2 cs0 cs1 cs2
  have cv0 := cells_of V4 0 _ rfl
  have cv1 := cells_of V4 1 _ rfl
  have cv2 := cells_of V4 2 _ rfl
  have ct0 := cells_of T4 0 _ rfl
  have cf0 := cells_of F4 0 _ rfl
  have cf1 := cells_of F4 1 _ rfl
  have cf2 := cells_of F4 2 _ rfl
  have cs0 := cells_of S4 0 _ rfl
  have cs1 := cells_of S4 1 _ rfl
  have cs2 := cells_of S4 2 _ rfl
  have cg0 := cells_of G4 0 _ rfl
  have cg1 := cells_of G4 1 _ rfl
  have cg2 := cells_of G4 2 _ rfl
  go_wp2_with fail
  refine Calls.mono (Thing_bad (hN.later B4)) ?_
  rintro e u5 ⟨rfl, hb⟩
  have B5 := B4.trans (hb.mono B4.size)
  have V5 := blk_below V4 hb
  have T5 := blk_below T4 hb
  have F5 := blk_below F4 hb
  have S5 := blk_below S4 hb
  have G5 := blk_below G4 hb
  clear hb B4 V4 T4 F4 S4 G4 cv0 cv1 cv2 ct0 cf0 cf1 cf2 cs0 cs1 cs2 cg0 cg1 cg2
  have cv0 := cells_of V5 0 _ rfl
  have cv1 := cells_of V5 1 _ rfl
  have cv2 := cells_of V5 2 _ rfl
  have ct0 := cells_of T5 0 _ rfl
  have cf0 := cells_of F5 0 _ rfl
  have cf1 := cells_of F5 1 _ rfl
  have cf2 := cells_of F5 2 _ rfl
  have cs0 := cells_of S5 0 _ rfl
  have cs1 := cells_of S5 1 _ rfl
  have cs2 := cells_of S5 2 _ rfl
  have cg0 := cells_of G5 0 _ rfl
  have cg1 := cells_of G5 1 _ rfl
  have cg2 := cells_of G5 2 _ rfl
  go_wp2_with fail
  go_ret
  exact ⟨rfl, B5⟩
end Go.Proofs.Ytahcnpjgbhpbeaa.HP
