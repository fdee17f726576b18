/- The words that are reckoned with, plainly. -/
import Derived.Test.YtfncoldcjhkhiaaDoorKa
import Derived.Test.YtfncoldcjhkhiaaDoorPCe1
namespace Go.Proofs.YtfncoldcjhkhiaaDoor.Pure
open Go.RowKit Go.Proofs.YtfncoldcjhkhiaaDoor.PC Go.Proofs.YtfncoldcjhkhiaaDoor.NW Go.Proofs.YtfncoldcjhkhiaaDoorW.PrintWords Go.Proofs.YtfncoldcjhkhiaaDoorW.PrintLast Go.Proofs.YtfncoldcjhkhiaaDoorW.PrintMore
set_option linter.unusedVariables false
set_option linter.unusedSimpArgs false
def pureB (op a : Int) : Bool := decide (1 ≤ op ∧ op ≤ 8 ∨ 13 ≤ op ∧ op ≤ 15) || (decide (op = 16) && pureW a)
theorem contains_up {k : Nat} {l : List ByteArray} {x : ByteArray} {r : Bool} (h : slices_Contains_string_string.f k l x = some r) : ∀ m, k ≤ m → slices_Contains_string_string.f m l x = some r := fun m hm => by
  induction hm with
  | refl => exact h
  | step _ ih => exact slices_Contains_string_string.mono _ _ _ _ ih
theorem pure_word : ∀ i : Fin 32, slices_Contains_string_string.f 40 ([(⟨#[105, 110]⟩ : ByteArray), (⟨#[111, 117, 116]⟩ : ByteArray), (⟨#[112, 97, 105, 114]⟩ : ByteArray), (⟨#[102, 115, 116]⟩ : ByteArray), (⟨#[115, 110, 100]⟩ : ByteArray), (⟨#[99, 101, 108, 108]⟩ : ByteArray), (⟨#[103, 101, 116]⟩ : ByteArray), (⟨#[115, 101, 116]⟩ : ByteArray)] : List ByteArray) (rdOf ByteArray.empty wordsL ((i.val : Nat) : Int)) = some (!pureW ((i.val : Nat) : Int)) := by decide +kernel
theorem j0_is (k : Nat) (hk : 40 ≤ k) (op a : Int) (c : Bool) (hc : c = true → 1 ≤ op ∧ op ≤ 8 ∨ 13 ≤ op ∧ op ≤ 15) (hn : c = false → ¬ (1 ≤ op ∧ op ≤ 8 ∨ 13 ≤ op ∧ op ≤ 15)) : guess_Pure.j0 (k + 1) op c op a = some (pureB op a) := by
  rw [guess_Pure.j0]
  unfold pureB
  cases c with
  | true => rw [if_pos rfl, decide_eq_true (hc rfl)]; rfl
  | false =>
    rw [if_neg (by decide), decide_eq_false (hn rfl)]
    by_cases h : op = 16
    · subst h
      rw [if_pos rfl, show code_Words.f = some wordsL from rfl, Option.bind_some, show (wordsL.length : Int) = 32 from rfl]
      by_cases h0 : a < 0
      · rw [if_pos h0]
        have : pureW a = false := by unfold pureW placeB; rw [decide_eq_false (by omega)]; rfl
        rw [this]; rfl
      rw [if_neg h0]
      by_cases h1 : a ≥ 32
      · rw [if_pos h1]
        have : pureW a = false := by unfold pureW placeB; rw [decide_eq_false (by omega)]; rfl
        rw [this]; rfl
      rw [if_neg h1, if_pos (by omega), if_pos (by omega)]
      have e : ((⟨a.toNat, by omega⟩ : Fin 32).val : Int) = a := by simp only []; omega
      have := pure_word ⟨a.toNat, by omega⟩
      rw [e] at this
      rw [contains_up this k hk, Option.bind_some, Bool.not_not]
      rfl
    · rw [if_neg h, decide_eq_false h]; rfl
/-- guess.Pure -/
theorem guessPure_f (l0 : List Int) (l1 : List ByteArray) (l2 : List S44) (l3 : List S41) (op a : Int) (k : Nat) (hk : 41 ≤ k) : guess_Pure.f k l0 l1 l2 l3 op a = some (pureB op a) := by
  obtain ⟨k, rfl⟩ : ∃ k', k = k' + 1 := ⟨k - 1, by omega⟩
  have hk' : 40 ≤ k := by omega
  unfold guess_Pure.f
  by_cases h1 : op = 1
  · rw [if_pos h1]; exact j0_is k hk' op a _ (fun _ => by omega) (fun h => by rw [h1] at h; cases h)
  rw [if_neg h1]
  by_cases h2 : op = 2
  · rw [if_pos h2]; exact j0_is k hk' op a _ (fun _ => by omega) (fun h => by rw [h2] at h; cases h)
  rw [if_neg h2]
  by_cases h3 : op = 3
  · rw [if_pos h3]; exact j0_is k hk' op a _ (fun _ => by omega) (fun h => by rw [h3] at h; cases h)
  rw [if_neg h3]
  by_cases h4 : op = 4
  · rw [if_pos h4]; exact j0_is k hk' op a _ (fun _ => by omega) (fun h => by rw [h4] at h; cases h)
  rw [if_neg h4]
  by_cases h5 : op = 5
  · rw [if_pos h5]; exact j0_is k hk' op a _ (fun _ => by omega) (fun h => by rw [h5] at h; cases h)
  rw [if_neg h5]
  by_cases h6 : op = 6
  · rw [if_pos h6]; exact j0_is k hk' op a _ (fun _ => by omega) (fun h => by rw [h6] at h; cases h)
  rw [if_neg h6]
  by_cases h7 : op = 7
  · rw [if_pos h7]; exact j0_is k hk' op a _ (fun _ => by omega) (fun h => by rw [h7] at h; cases h)
  rw [if_neg h7]
  by_cases h8 : op = 8
  · rw [if_pos h8]; exact j0_is k hk' op a _ (fun _ => by omega) (fun h => by rw [h8] at h; cases h)
  rw [if_neg h8]
  by_cases h15 : op = 15
  · rw [if_pos h15]; exact j0_is k hk' op a _ (fun _ => by omega) (fun h => by rw [h15] at h; cases h)
  rw [if_neg h15]
  by_cases h13 : op = 13
  · rw [if_pos h13]; exact j0_is k hk' op a _ (fun _ => by omega) (fun h => by rw [h13] at h; cases h)
  rw [if_neg h13]
  exact j0_is k hk' op a _ (fun h => by have := beq_iff_eq.1 h; omega) (fun h => by have := beq_eq_false_iff_ne.1 h; omega)
end Go.Proofs.YtfncoldcjhkhiaaDoor.Pure
