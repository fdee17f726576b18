/- tree.Takes and ir's pure answer what the words' lists tell. -/
import Derived.Test.YtjkjbfhhfdbnoaaProg
import Derived.Test.YtjkjbfhhfdbnoaaQBa
import Derived.Deep.RegionLaw
import Derived.Handy
import Derived.Outline
import Derived.Deep.QuietTactic
import Derived.BigQuiet
import Derived.Test.YtjkjbfhhfdbnoaaShelf
namespace Go.Proofs.Ytjkjbfhhfdbnoaa.NW
open Go.RowKit Go.Proofs.YtjkjbfhhfdbnoaaW.PrintWords
set_option linter.unusedVariables false
set_option linter.unusedSimpArgs false

/-- the one variable of the library's that a search reads holds some int -/
def MaxOk (w : World) : Prop := ∃ m, w.cell? ⟨0, 0, none⟩ = some (.int .i64 m)
theorem MaxOk.lt {w : World} (h : MaxOk w) : 0 < w.heap.size := by
  obtain ⟨m, h⟩ := h
  exact World.block_lt_of_cell? w ⟨0, 0, none⟩ h
theorem MaxOk.below {w w' : World} (h : MaxOk w) (hb : Below w.heap.size w w') : MaxOk w' := by
  have hl := h.lt
  obtain ⟨m, h⟩ := h
  exact ⟨m, (hb.cell (p := ⟨0, 0, none⟩) hl).trans h⟩
theorem MaxOk.drew {w : World} (h : MaxOk w) : MaxOk w.drew := h
theorem MaxOk.drewN {w : World} (h : MaxOk w) (n : Nat) : MaxOk (w.drewN n) := by
  induction n generalizing w with
  | zero => exact h
  | succ n ih => exact ih h.drew

def S0 : ByteArray := ⟨#[32, 105, 110, 32]⟩
def S1 : ByteArray := ⟨#[32, 110, 101, 103, 32, 110, 111, 116, 32, 108, 101, 110, 32, 105, 56, 32, 105, 49, 54, 32, 105, 51, 50, 32, 117, 56, 32, 117, 49, 54, 32, 117, 51, 50, 32, 102, 115, 116, 32, 115, 110, 100, 32, 99, 101, 108, 108, 32, 103, 101, 116, 32, 111, 117, 116, 32]⟩
def S2 : ByteArray := ⟨#[32, 43, 32, 45, 32, 42, 32, 47, 32, 37, 32, 97, 110, 100, 32, 111, 114, 32, 120, 111, 114, 32, 115, 104, 108, 32, 115, 104, 114, 32, 117, 115, 104, 114, 32, 60, 32, 61, 32, 99, 97, 116, 32, 97, 116, 32, 112, 97, 105, 114, 32, 115, 101, 116, 32]⟩

set_option maxHeartbeats 1600000 in
set_option maxRecDepth 1000000 in
theorem words_calls (w : World) :
    Calls Try.prog 111 #[] w fun e w' => e = .returned (.agg #[.string S0, .string S1, .string S2]) ∧ Below w.heap.size w w' := by
  go_enter Try.func111, Try.ntmps111
  go_wp2
  refine bodyPost_ret (v := .agg #[.string S0, .string S1, .string S2]) (by simp [results, Try.results111, go_sem]; exact ⟨rfl, rfl, rfl⟩) rfl ⟨rfl, ?_⟩
  exact (Below.refl _ w).alloc (Nat.le_refl _) _

def hasIn (l s : ByteArray) : Bool := Lib.contains l.data.toList ((⟨#[32]⟩ ++ s ++ ⟨#[32]⟩ : ByteArray)).data.toList
def takesRaw (s : ByteArray) : Int := if s.toList = [] then -1 else if Lib.contains s.data.toList [32] = true then -1 else if hasIn S0 s = true then 0 else if hasIn S1 s = true then 1 else if hasIn S2 s = true then 2 else -1
def Sx (k : Nat) : ByteArray := if k = 0 then S0 else if k = 1 then S1 else S2
theorem Sx_size (k : Nat) : (Sx k).size < 4294967281 := by unfold Sx; split; · decide
                                                           split <;> decide

theorem takesRaw_at (s : ByteArray) (k : Nat) (hk : k < 3) (h0 : ¬ s.toList = []) (h1 : Lib.contains s.data.toList [32] = false) (hno : ∀ j < k, hasIn (Sx j) s = false) (h2 : hasIn (Sx k) s = true) : takesRaw s = k := by
  unfold takesRaw
  rw [if_neg h0, if_neg (by rw [h1]; decide)]
  match k, hk with
  | 0, _ => rw [if_pos (show hasIn S0 s = true from h2)]; rfl
  | 1, _ => rw [if_neg (by rw [show hasIn S0 s = false from hno 0 (by omega)]; decide), if_pos (show hasIn S1 s = true from h2)]; rfl
  | 2, _ => rw [if_neg (by rw [show hasIn S0 s = false from hno 0 (by omega)]; decide), if_neg (by rw [show hasIn S1 s = false from hno 1 (by omega)]; decide), if_pos (show hasIn S2 s = true from h2)]; rfl
theorem takesRaw_not (s : ByteArray) (h0 : ¬ s.toList = []) (h1 : Lib.contains s.data.toList [32] = false) (hno : ∀ j < 3, hasIn (Sx j) s = false) : takesRaw s = -1 := by
  unfold takesRaw
  rw [if_neg h0, if_neg (by rw [h1]; decide), if_neg (by rw [show hasIn S0 s = false from hno 0 (by omega)]; decide), if_neg (by rw [show hasIn S1 s = false from hno 1 (by omega)]; decide), if_neg (by rw [show hasIn S2 s = false from hno 2 (by omega)]; decide)]

set_option maxHeartbeats 1600000 in
set_option maxRecDepth 1000000 in
theorem takes_calls (s : ByteArray) (w : World) (hs : s.size ≤ 4294967000) (hM : MaxOk w) :
    Calls Try.prog 101 #[.string s] w fun e w' => e = .returned (.int .i64 (takesRaw s)) ∧ Below w.heap.size w w' := by
  have HM := Aside0.mk hM
  clear hM
  have i0 : ∀ w : World, (Instr.index 138 (.agg #[.string S0, .string S1, .string S2]) (.int .i64 0)).run Try.prog w = .ok (.string S0) w := fun _ => by kernel_rfl
  have i1 : ∀ w : World, (Instr.index 138 (.agg #[.string S0, .string S1, .string S2]) (.int .i64 1)).run Try.prog w = .ok (.string S1) w := fun _ => by kernel_rfl
  have i2 : ∀ w : World, (Instr.index 138 (.agg #[.string S0, .string S1, .string S2]) (.int .i64 2)).run Try.prog w = .ok (.string S2) w := fun _ => by kernel_rfl
  have IX : Aside0 (∀ (k : Nat) (w : World), k < 3 → (Instr.index 138 (.agg #[.string S0, .string S1, .string S2]) (.int .i64 (k : Int))).run Try.prog w = .ok (.string (Sx k)) w) := ⟨fun k w hk => match k, hk with
    | 0, _ => i0 w
    | 1, _ => i1 w
    | 2, _ => i2 w⟩
  clear i0 i1 i2
  by_cases h0 : s.toList = []
  · have e0 : takesRaw s = -1 := by unfold takesRaw; rw [if_pos h0]
    rw [e0]
    clear e0
    have h0' : (!s.toList.isEmpty) = false := by rw [h0]; rfl
    go_enter Try.func101, Try.ntmps101
    go_wp2
    go_ret
    exact ⟨rfl, Below.refl _ w⟩
  · have h0' : s.toList.isEmpty = false := by cases h : s.toList with
      | nil => exact absurd h h0
      | cons => rfl
    cases h1 : Lib.contains s.data.toList [32] with
    | true =>
      have e0 : takesRaw s = -1 := by unfold takesRaw; rw [if_neg h0, if_pos h1]
      rw [e0]
      clear e0
      have H1 := Aside0.mk h1
      clear h1
      go_enter Try.func101, Try.ntmps101
      go_wp2_with (go_at_call 110; obtain ⟨m_, hm_⟩ := HM.out; refine (Try.strings_Contains _ _ m_ _ (by omega) hm_).mono ?_; rintro e w' ⟨rfl, rfl⟩; clear hm_; rw [H1.out])
      go_ret
      exact ⟨rfl, Below.refl _ _⟩
    | false =>
      have H1 := Aside0.mk h1
      clear h1
      go_enter Try.func101, Try.ntmps101
      go_wp2_with (first | (go_at_call 110; obtain ⟨m_, hm_⟩ := HM.out; refine (Try.strings_Contains _ _ m_ _ (by omega) hm_).mono ?_; rintro e w' ⟨rfl, rfl⟩; clear hm_; rw [H1.out]) | (go_at_call 111; refine (words_calls _).mono ?_; rintro e w1 ⟨rfl, hb⟩))
      have HM1 := Aside0.mk (HM.out.below hb)
      have HB := Aside0.mk hb
      have H0 := Aside0.mk h0
      clear hb h0 h0' HM
      go_loop [12] (fun i => ∃ k : Nat, k ≤ 3 ∧ i = .int .i64 k ∧ Aside0 (∀ j < k, hasIn (Sx j) s = false)) (fun i => 3 - (intOf i).toNat)
      case atStart => exact ⟨0, by omega, rfl, ⟨fun j hj => absurd hj (by omega)⟩⟩
      case round =>
        obtain ⟨k, hk, rfl, hno⟩ := hrel
        by_cases hlt : k < 3
        · have ik := IX.out k
          have ik' : ∀ w : World, (Instr.index 138 (.agg #[.string S0, .string S1, .string S2]) (.int .i64 (k : Int))).run Try.prog w = .ok (.string (Sx k)) w := fun w => ik w hlt
          clear ik
          cases h2 : hasIn (Sx k) s with
          | true =>
            have H2 := Aside0.mk h2
            clear h2
            go_wp2_with (go_at_call 110; obtain ⟨m_, hm_⟩ := HM1.out; refine (Try.strings_Contains _ _ m_ _ (Sx_size k) hm_).mono ?_; rintro e w' ⟨rfl, rfl⟩; clear hm_; rw [show Lib.contains (Sx k).data.toList _ = true from H2.out])
            go_ret
            refine ⟨?_, HB.out⟩
            rw [takesRaw_at s k hlt H0.out H1.out hno.out H2.out]
            rfl
          | false =>
            have H2 := Aside0.mk h2
            clear h2
            go_wp2_with (go_at_call 110; obtain ⟨m_, hm_⟩ := HM1.out; refine (Try.strings_Contains _ _ m_ _ (Sx_size k) hm_).mono ?_; rintro e w' ⟨rfl, rfl⟩; clear hm_; rw [show Lib.contains (Sx k).data.toList _ = false from H2.out])
            go_round
            case rel => exact ⟨k + 1, by omega, by go_num, ⟨fun j hj => if e : j = k then e ▸ H2.out else hno.out j (by omega)⟩⟩
            case measure => simp [intOf]; omega
        · obtain rfl : k = 3 := by omega
          go_wp2
          go_ret
          refine ⟨?_, HB.out⟩
          rw [takesRaw_not s H0.out H1.out hno.out]
          rfl

/-- is a word one of those that aren't reckoned? -/
def impureB (s : ByteArray) : Bool := s.toList == [102, 115, 116] || (s.toList == [115, 110, 100] || (s.toList == [99, 101, 108, 108] || (s.toList == [103, 101, 116] || (s.toList == [111, 117, 116] || (s.toList == [105, 110] || (s.toList == [112, 97, 105, 114] || s.toList == [115, 101, 116]))))))
def pureB (s : ByteArray) (n : Int) : Bool := if impureB s = true then false else (takesRaw s == n)

set_option maxHeartbeats 1600000 in
set_option maxRecDepth 1000000 in
theorem pure_calls (s : ByteArray) (n : Int) (w : World) (hs : s.size ≤ 4294967000) (hM : MaxOk w) :
    Calls Try.prog 85 #[.string s, .int .i64 n] w fun e w' => e = .returned (.bool (pureB s n)) ∧ Below w.heap.size w w' := by
  have HM := Aside0.mk hM
  clear hM
  cases h1 : s.toList == ([102, 115, 116] : List UInt8) with
  | true =>
    have e0 : pureB s n = false := by unfold pureB impureB; rw [if_pos (by simp only [h1, Bool.true_or, Bool.or_true])]
    rw [e0]
    clear e0
    go_enter Try.func85, Try.ntmps85
    go_wp2
    go_ret
    exact ⟨rfl, Below.refl _ w⟩
  | false =>
    cases h2 : s.toList == ([115, 110, 100] : List UInt8) with
    | true =>
      have e0 : pureB s n = false := by unfold pureB impureB; rw [if_pos (by simp only [h1, h2, Bool.true_or, Bool.or_true])]
      rw [e0]
      clear e0
      go_enter Try.func85, Try.ntmps85
      go_wp2
      go_ret
      exact ⟨rfl, Below.refl _ w⟩
    | false =>
      cases h3 : s.toList == ([99, 101, 108, 108] : List UInt8) with
      | true =>
        have e0 : pureB s n = false := by unfold pureB impureB; rw [if_pos (by simp only [h1, h2, h3, Bool.true_or, Bool.or_true])]
        rw [e0]
        clear e0
        go_enter Try.func85, Try.ntmps85
        go_wp2
        go_ret
        exact ⟨rfl, Below.refl _ w⟩
      | false =>
        cases h4 : s.toList == ([103, 101, 116] : List UInt8) with
        | true =>
          have e0 : pureB s n = false := by unfold pureB impureB; rw [if_pos (by simp only [h1, h2, h3, h4, Bool.true_or, Bool.or_true])]
          rw [e0]
          clear e0
          go_enter Try.func85, Try.ntmps85
          go_wp2
          go_ret
          exact ⟨rfl, Below.refl _ w⟩
        | false =>
          cases h5 : s.toList == ([111, 117, 116] : List UInt8) with
          | true =>
            have e0 : pureB s n = false := by unfold pureB impureB; rw [if_pos (by simp only [h1, h2, h3, h4, h5, Bool.true_or, Bool.or_true])]
            rw [e0]
            clear e0
            go_enter Try.func85, Try.ntmps85
            go_wp2
            go_ret
            exact ⟨rfl, Below.refl _ w⟩
          | false =>
            cases h6 : s.toList == ([105, 110] : List UInt8) with
            | true =>
              have e0 : pureB s n = false := by unfold pureB impureB; rw [if_pos (by simp only [h1, h2, h3, h4, h5, h6, Bool.true_or, Bool.or_true])]
              rw [e0]
              clear e0
              go_enter Try.func85, Try.ntmps85
              go_wp2
              go_ret
              exact ⟨rfl, Below.refl _ w⟩
            | false =>
              cases h7 : s.toList == ([112, 97, 105, 114] : List UInt8) with
              | true =>
                have e0 : pureB s n = false := by unfold pureB impureB; rw [if_pos (by simp only [h1, h2, h3, h4, h5, h6, h7, Bool.true_or, Bool.or_true])]
                rw [e0]
                clear e0
                go_enter Try.func85, Try.ntmps85
                go_wp2
                go_ret
                exact ⟨rfl, Below.refl _ w⟩
              | false =>
                cases h8 : s.toList == ([115, 101, 116] : List UInt8) with
                | true =>
                  have e0 : pureB s n = false := by unfold pureB impureB; rw [if_pos (by simp only [h1, h2, h3, h4, h5, h6, h7, h8, Bool.true_or, Bool.or_true])]
                  rw [e0]
                  clear e0
                  go_enter Try.func85, Try.ntmps85
                  go_wp2
                  go_ret
                  exact ⟨rfl, Below.refl _ w⟩
                | false =>
                  have e0 : pureB s n = (takesRaw s == n) := by unfold pureB impureB; rw [if_neg (by simp only [h1, h2, h3, h4, h5, h6, h7, h8, Bool.or_self]; decide)]
                  rw [e0]
                  clear e0
                  go_enter Try.func85, Try.ntmps85
                  go_wp2_with (go_at_call 101; refine (takes_calls _ _ hs HM.out).mono ?_; rintro e w1 ⟨rfl, hb⟩)
                  go_ret
                  exact ⟨rfl, hb⟩
end Go.Proofs.Ytjkjbfhhfdbnoaa.NW
