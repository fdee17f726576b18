/- Whatever the limit and the Tag, HeapFull's code comes to true, and leaves all that was there as it was. -/
import Derived.Test.YtahcnpjgbhpbeaaHc
namespace Go.Proofs.Ytahcnpjgbhpbeaa.HP
open Go.RowKit Go.Proofs.YtahcnpjgbhpbeaaW.PrintWords
set_option linter.unusedVariables false
set_option linter.unusedSimpArgs false

set_option maxHeartbeats 1600000 in
set_option maxRecDepth 1000000 in
theorem full_far (w : World) (limit tag : Int) (h : 300 < limit) :
    Calls Try.prog 3 #[.int .i64 limit, .int .u8 tag] w fun e w' => e = .returned (.bool true) ∧ Below w.heap.size w w' := by
  go_enter Try.func3, Try.ntmps3
  go_wp2_with fail
  refine Calls.mono (awake_calls w) ?_
  rintro e w1 ⟨rfl, hb⟩
  go_wp2_with fail
  go_ret
  exact ⟨rfl, hb⟩

set_option maxHeartbeats 1600000 in
set_option maxRecDepth 1000000 in
theorem full_neg (w : World) (limit tag : Int) (h : limit < 0) (wf : (Lit.int .i64 limit).wf = true) (wt : (Lit.int .u8 tag).wf = true) :
    Calls Try.prog 3 #[.int .i64 limit, .int .u8 tag] w fun e w' => e = .returned (.bool true) ∧ Below w.heap.size w w' := by
  go_enter Try.func3, Try.ntmps3
  go_wp2_with fail
  refine Calls.mono (New_any w limit w.heap.size (Nat.le_refl _) wf) ?_
  rintro e w1 ⟨rfl, hb1, hs1, H1⟩
  rw [show min (max limit 0) 1048576 = ((0 : Nat) : Int) by omega] at H1
  go_wp2_with fail
  go_loopw [7] (fun i wr => ∃ k : Nat, i = .int .i64 k ∧ k ≤ 0 + 3 ∧ ∃ v cells, HeapIs wr w.heap.size w.heap.size (min k 0) cells (0 : Int) v ∧ Below w.heap.size w wr) (fun i _ => (303 : Nat) - (intOf i).toNat)
  case atStart => exact ⟨0, rfl, by omega, _, _, by simpa using H1, hb1⟩
  case round =>
  obtain ⟨k, rfl, hk, v, cells, H, hb⟩ := hrel
  by_cases hlt : k < 0 + 3
  · go_wp2_with fail
    refine Calls.mono (Cell_any H (by omega) 1 k ⟨#[]⟩) ?_
    rintro e w2 ⟨a, b, c, rfl, hA⟩
    by_cases hr : k < 0
    · first
      | (exfalso; omega)
      | (have hm : min k 0 = k := by omega
         rw [hm] at hA H
         obtain ⟨rfl, rfl, rfl, v2, H2, hF2, hv2⟩ := hA.room (by omega)
         have hb2 := H.fr hb hF2 (Nat.le_refl _) (Nat.le_refl _)
         have H3 := H2.below ((Below.refl _ w2).alloc (Nat.le_refl _) (.cells #[.int .u8 5, .int .i64 k, .string ⟨#[]⟩] 26))
         have hb3 := hb2.alloc hb2.size (.cells #[.int .u8 5, .int .i64 k, .string ⟨#[]⟩] 26)
         clear H2 hF2 hb2 hA hb H1 hb1
         go_wp2_with fail
         exact ⟨⟨k + 1, by push_cast; rfl, by omega, v2, _, by rw [show min (k + 1) 0 = k + 1 by omega]; exact H3, hb3⟩, by simp [intOf]; omega⟩)
    · have hm : min k 0 = 0 := by omega
      rw [hm] at hA H
      obtain ⟨rfl, rfl, rfl, H2, hF2⟩ := hA.full (by omega)
      have hb2 := H.fr hb hF2 (Nat.le_refl _) (Nat.le_refl _)
      have H3 := H2.below ((Below.refl _ w2).alloc (Nat.le_refl _) (.cells #[.int .u8 0, .int .i64 0, .string ⟨#[]⟩] 26))
      have hb3 := hb2.alloc hb2.size (.cells #[.int .u8 0, .int .i64 0, .string ⟨#[]⟩] 26)
      clear H2 hF2 hb2 hA hb H1 hb1
      go_wp2_with fail
      exact ⟨⟨k + 1, by push_cast; rfl, by omega, v, _, by rw [show min (k + 1) 0 = 0 by omega]; exact H3, hb3⟩, by simp [intOf]; omega⟩
  · obtain rfl : k = 0 + 3 := by omega
    rw [show min (0 + 3) 0 = 0 by omega] at H
    go_wp2_with fail
    by_cases ht : tag = 6 ∨ tag = 7
    · refine Calls.mono (Make_any H (by omega) tag 5 ht) ?_
      rintro e w2 ⟨a, b, c, rfl, hA⟩
      obtain ⟨rfl, rfl, rfl, H2, hF2⟩ := hA.full (by omega)
      have hb2 := H.fr hb hF2 (Nat.le_refl _) (Nat.le_refl _)
      have H3 := H2.below ((Below.refl _ w2).alloc (Nat.le_refl _) (.cells #[.int .u8 0, .int .i64 0, .string ⟨#[]⟩] 26))
      have hb3 := hb2.alloc hb2.size (.cells #[.int .u8 0, .int .i64 0, .string ⟨#[]⟩] 26)
      clear H2 hF2 hb2 hA hb H1 hb1 H
      rcases ht with rfl | rfl
      all_goals
        go_wp2_with fail
        refine Calls.mono (Len_any H3) ?_
        rintro e w3 ⟨rfl, rfl⟩
        go_wp2_with fail
        refine Calls.mono (awake_calls _) ?_
        rintro e w3 ⟨rfl, hb4⟩
        go_wp2_with fail
        go_ret
        exact ⟨rfl, hb3.trans (hb4.mono hb3.size)⟩
    · have h6 : (tag != 6) = true := by simpa using fun h => ht (.inl h)
      have h7 : (tag != 7) = true := by simpa using fun h => ht (.inr h)
      refine Calls.mono (Make_bad _ wr tag 5 h6 h7) ?_
      rintro e w2 ⟨rfl, hb2⟩
      have H2 := H.below hb2
      have hb2 := hb.trans (hb2.mono hb.size)
      have H3 := H2.below ((Below.refl _ w2).alloc (Nat.le_refl _) (.cells #[.int .u8 0, .int .i64 0, .string ⟨#[]⟩] 26))
      have hb3 := hb2.alloc hb2.size (.cells #[.int .u8 0, .int .i64 0, .string ⟨#[]⟩] 26)
      have h6' : (tag == 6) = false := by simpa using fun h => ht (.inl h)
      have h7' : (tag == 7) = false := by simpa using fun h => ht (.inr h)
      clear H2 hb2 hb H1 hb1 H ht
      go_wp2_with fail
      refine Calls.mono (Len_any H3) ?_
      rintro e w3 ⟨rfl, rfl⟩
      go_wp2_with fail
      refine Calls.mono (awake_calls _) ?_
      rintro e w3 ⟨rfl, hb4⟩
      go_wp2_with fail
      go_ret
      exact ⟨rfl, hb3.trans (hb4.mono hb3.size)⟩

set_option maxHeartbeats 1600000 in
set_option maxRecDepth 1000000 in
theorem full_nat (w : World) (N : Nat) (tag : Int) (h : N ≤ 300) (wf : (Lit.int .i64 (N : Int)).wf = true) (wt : (Lit.int .u8 tag).wf = true) :
    Calls Try.prog 3 #[.int .i64 (N : Int), .int .u8 tag] w fun e w' => e = .returned (.bool true) ∧ Below w.heap.size w w' := by
  go_enter Try.func3, Try.ntmps3
  go_wp2_with fail
  refine Calls.mono (New_any w (N : Int) w.heap.size (Nat.le_refl _) wf) ?_
  rintro e w1 ⟨rfl, hb1, hs1, H1⟩
  rw [show min (max (N : Int) 0) 1048576 = ((N : Nat) : Int) by omega] at H1
  go_wp2_with fail
  go_loopw [7] (fun i wr => ∃ k : Nat, i = .int .i64 k ∧ k ≤ N + 3 ∧ ∃ v cells, HeapIs wr w.heap.size w.heap.size (min k N) cells (N : Int) v ∧ Below w.heap.size w wr) (fun i _ => (303 : Nat) - (intOf i).toNat)
  case atStart => exact ⟨0, rfl, by omega, _, _, by simpa using H1, hb1⟩
  case round =>
  obtain ⟨k, rfl, hk, v, cells, H, hb⟩ := hrel
  by_cases hlt : k < N + 3
  · go_wp2_with fail
    refine Calls.mono (Cell_any H (by omega) 1 k ⟨#[]⟩) ?_
    rintro e w2 ⟨a, b, c, rfl, hA⟩
    by_cases hr : k < N
    · first
      | (exfalso; omega)
      | (have hm : min k N = k := by omega
         rw [hm] at hA H
         obtain ⟨rfl, rfl, rfl, v2, H2, hF2, hv2⟩ := hA.room (by omega)
         have hb2 := H.fr hb hF2 (Nat.le_refl _) (Nat.le_refl _)
         have H3 := H2.below ((Below.refl _ w2).alloc (Nat.le_refl _) (.cells #[.int .u8 5, .int .i64 k, .string ⟨#[]⟩] 26))
         have hb3 := hb2.alloc hb2.size (.cells #[.int .u8 5, .int .i64 k, .string ⟨#[]⟩] 26)
         clear H2 hF2 hb2 hA hb H1 hb1
         go_wp2_with fail
         exact ⟨⟨k + 1, by push_cast; rfl, by omega, v2, _, by rw [show min (k + 1) N = k + 1 by omega]; exact H3, hb3⟩, by simp [intOf]; omega⟩)
    · have hm : min k N = N := by omega
      rw [hm] at hA H
      obtain ⟨rfl, rfl, rfl, H2, hF2⟩ := hA.full (by omega)
      have hb2 := H.fr hb hF2 (Nat.le_refl _) (Nat.le_refl _)
      have H3 := H2.below ((Below.refl _ w2).alloc (Nat.le_refl _) (.cells #[.int .u8 0, .int .i64 0, .string ⟨#[]⟩] 26))
      have hb3 := hb2.alloc hb2.size (.cells #[.int .u8 0, .int .i64 0, .string ⟨#[]⟩] 26)
      clear H2 hF2 hb2 hA hb H1 hb1
      go_wp2_with fail
      exact ⟨⟨k + 1, by push_cast; rfl, by omega, v, _, by rw [show min (k + 1) N = N by omega]; exact H3, hb3⟩, by simp [intOf]; omega⟩
  · obtain rfl : k = N + 3 := by omega
    rw [show min (N + 3) N = N by omega] at H
    go_wp2_with fail
    by_cases ht : tag = 6 ∨ tag = 7
    · refine Calls.mono (Make_any H (by omega) tag 5 ht) ?_
      rintro e w2 ⟨a, b, c, rfl, hA⟩
      obtain ⟨rfl, rfl, rfl, H2, hF2⟩ := hA.full (by omega)
      have hb2 := H.fr hb hF2 (Nat.le_refl _) (Nat.le_refl _)
      have H3 := H2.below ((Below.refl _ w2).alloc (Nat.le_refl _) (.cells #[.int .u8 0, .int .i64 0, .string ⟨#[]⟩] 26))
      have hb3 := hb2.alloc hb2.size (.cells #[.int .u8 0, .int .i64 0, .string ⟨#[]⟩] 26)
      clear H2 hF2 hb2 hA hb H1 hb1 H
      rcases ht with rfl | rfl
      all_goals
        go_wp2_with fail
        refine Calls.mono (Len_any H3) ?_
        rintro e w3 ⟨rfl, rfl⟩
        go_wp2_with fail
        refine Calls.mono (awake_calls _) ?_
        rintro e w3 ⟨rfl, hb4⟩
        go_wp2_with fail
        go_ret
        exact ⟨rfl, hb3.trans (hb4.mono hb3.size)⟩
    · have h6 : (tag != 6) = true := by simpa using fun h => ht (.inl h)
      have h7 : (tag != 7) = true := by simpa using fun h => ht (.inr h)
      refine Calls.mono (Make_bad _ wr tag 5 h6 h7) ?_
      rintro e w2 ⟨rfl, hb2⟩
      have H2 := H.below hb2
      have hb2 := hb.trans (hb2.mono hb.size)
      have H3 := H2.below ((Below.refl _ w2).alloc (Nat.le_refl _) (.cells #[.int .u8 0, .int .i64 0, .string ⟨#[]⟩] 26))
      have hb3 := hb2.alloc hb2.size (.cells #[.int .u8 0, .int .i64 0, .string ⟨#[]⟩] 26)
      have h6' : (tag == 6) = false := by simpa using fun h => ht (.inl h)
      have h7' : (tag == 7) = false := by simpa using fun h => ht (.inr h)
      clear H2 hb2 hb H1 hb1 H ht
      go_wp2_with fail
      refine Calls.mono (Len_any H3) ?_
      rintro e w3 ⟨rfl, rfl⟩
      go_wp2_with fail
      refine Calls.mono (awake_calls _) ?_
      rintro e w3 ⟨rfl, hb4⟩
      go_wp2_with fail
      go_ret
      exact ⟨rfl, hb3.trans (hb4.mono hb3.size)⟩

theorem HeapFull_calls (w : World) (limit tag : Int) (wf : (Lit.int .i64 limit).wf = true) (wt : (Lit.int .u8 tag).wf = true) :
    Calls Try.prog 3 #[.int .i64 limit, .int .u8 tag] w fun e w' => e = .returned (.bool true) ∧ Below w.heap.size w w' := by
  by_cases h1 : limit < 0
  · exact full_neg w limit tag h1 wf wt
  · by_cases h2 : 300 < limit
    · exact full_far w limit tag h2
    · obtain ⟨N, rfl⟩ : ∃ N : Nat, limit = N := ⟨limit.toNat, by omega⟩
      exact full_nat w N tag (by omega) wf wt
end Go.Proofs.Ytahcnpjgbhpbeaa.HP
