/- value.May, and the closure that asks for a register. -/
import Derived.Test.YtjkjbfhhfdbnoaaRa
namespace Go.Proofs.Ytjkjbfhhfdbnoaa.NW
open Go.RowKit Go.Proofs.YtjkjbfhhfdbnoaaW.PrintWords
set_option linter.unusedVariables false
set_option linter.unusedSimpArgs false

/-- value.May -/
def mayB (t n : Int) (s : ByteArray) : Bool :=
  if t = 3 then (if n = 0 then decide (s.size ≤ 65536) else false) else if ¬ s.toList = [] then false else if 7 < t then false else if t = 0 then n == 0 else if t = 2 then (n == 0 || n == 1) else if t = 1 then true else decide (0 ≤ n)

theorem isEmpty_of {l : List UInt8} (h : ¬ l = []) : l.isEmpty = false := by cases l with
  | nil => exact absurd rfl h
  | cons => rfl

set_option maxHeartbeats 1600000 in
set_option maxRecDepth 1000000 in
theorem vmay_calls (t n : Int) (s : ByteArray) (w : World) :
    Calls Try.prog 84 #[.agg #[.int .u8 t, .int .i64 n, .string s]] w fun e w' => e = .returned (.bool (mayB t n s)) ∧ Below w.heap.size w w' := by
  have hA : Below w.heap.size w (w.alloc (.cells #[.int .u8 t, .int .i64 n, .string s] 37)) := (Below.refl _ w).alloc (Nat.le_refl _) _
  have HA := Aside0.mk hA
  clear hA
  by_cases h3 : t = 3
  · subst h3
    by_cases hn : n = 0
    · subst hn
      rw [show mayB 3 0 s = decide (s.size ≤ 65536) by unfold mayB; rw [if_pos rfl, if_pos rfl]]
      go_enter Try.func84, Try.ntmps84
      go_wp2
      go_ret
      exact ⟨by first | rfl | (simp; done) | (simp; omega) | (simp [*]; done), HA.out⟩
    · rw [show mayB 3 n s = false by unfold mayB; rw [if_pos rfl, if_neg hn]]
      go_enter Try.func84, Try.ntmps84
      go_wp2
      go_ret
      exact ⟨by first | rfl | (simp; done) | (simp; omega) | (simp [*]; done), HA.out⟩
  · by_cases hs : s.toList = []
    · have hs' : (!s.toList.isEmpty) = false := by rw [hs]; rfl
      by_cases h7 : 7 < t
      · rw [show mayB t n s = false by unfold mayB; rw [if_neg h3, if_neg (by simp [hs]), if_pos h7]]
        go_enter Try.func84, Try.ntmps84
        go_wp2
        go_ret
        exact ⟨by first | rfl | (simp; done) | (simp; omega) | (simp [*]; done), HA.out⟩
      · by_cases h0 : t = 0
        · subst h0
          rw [show mayB 0 n s = (n == 0) by unfold mayB; rw [if_neg h3, if_neg (by simp [hs]), if_neg h7, if_pos rfl]]
          go_enter Try.func84, Try.ntmps84
          go_wp2
          go_ret
          exact ⟨by first | rfl | (simp; done) | (simp; omega) | (simp [*]; done), HA.out⟩
        · by_cases h2 : t = 2
          · subst h2
            rw [show mayB 2 n s = (n == 0 || n == 1) by unfold mayB; rw [if_neg h3, if_neg (by simp [hs]), if_neg h7, if_neg h0, if_pos rfl]]
            by_cases hn : n = 0
            · subst hn
              go_enter Try.func84, Try.ntmps84
              go_wp2
              go_ret
              exact ⟨by first | rfl | (simp; done) | (simp; omega) | (simp [*]; done), HA.out⟩
            · go_enter Try.func84, Try.ntmps84
              go_wp2
              go_ret
              exact ⟨by first | rfl | simp [hn], HA.out⟩
          · by_cases h1 : t = 1
            · subst h1
              rw [show mayB 1 n s = true by unfold mayB; rw [if_neg h3, if_neg (by simp [hs]), if_neg h7, if_neg h0, if_neg h2, if_pos rfl]]
              go_enter Try.func84, Try.ntmps84
              go_wp2
              go_ret
              exact ⟨by first | rfl | (simp; done) | (simp; omega) | (simp [*]; done), HA.out⟩
            · rw [show mayB t n s = decide (0 ≤ n) by unfold mayB; rw [if_neg h3, if_neg (by simp [hs]), if_neg h7, if_neg h0, if_neg h2, if_neg h1]]
              go_enter Try.func84, Try.ntmps84
              go_wp2
              go_ret
              exact ⟨by first | rfl | (simp; done) | (simp; omega) | (simp [*]; done), HA.out⟩
    · have hs' := isEmpty_of hs
      rw [show mayB t n s = false by unfold mayB; rw [if_neg h3, if_pos hs]]
      go_enter Try.func84, Try.ntmps84
      go_wp2
      go_ret
      exact ⟨by first | rfl | (simp; done) | (simp; omega) | (simp [*]; done), HA.out⟩

/-- the closure that asks whether a number is a register -/
def regB (R n : Int) : Bool := if 0 ≤ n then decide (n < R) else false

set_option maxHeartbeats 1600000 in
set_option maxRecDepth 1000000 in
theorem reg_calls (n R : Int) (g : Nat) (w : World) (hc : w.cell? ⟨g, 2, none⟩ = some (.int .i64 R)) :
    Calls Try.prog 83 #[.int .i64 n, .pointer (some ⟨g, 0, none⟩)] w fun e w' => e = .returned (.bool (regB R n)) ∧ w = w' := by
  by_cases h : 0 ≤ n
  · rw [show regB R n = decide (n < R) by unfold regB; rw [if_pos h]]
    go_enter Try.func83, Try.ntmps83
    go_wp2
    go_ret
    exact ⟨rfl, rfl⟩
  · rw [show regB R n = false by unfold regB; rw [if_neg h]]
    go_enter Try.func83, Try.ntmps83
    go_wp2
    go_ret
    exact ⟨rfl, rfl⟩
end Go.Proofs.Ytjkjbfhhfdbnoaa.NW
