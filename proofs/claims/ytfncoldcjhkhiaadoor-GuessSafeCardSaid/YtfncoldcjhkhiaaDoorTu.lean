/- guess.goer.takes. -/
import Derived.Test.YtfncoldcjhkhiaaDoorTt
import Derived.Outline
namespace Go.Proofs.YtfncoldcjhkhiaaDoor.NW
open Go.RowKit Go.Proofs.YtfncoldcjhkhiaaDoorW.PrintWords Go.Proofs.YtfncoldcjhkhiaaDoorW.PrintMore Go.Proofs.YtfncoldcjhkhiaaDoor.PC
set_option linter.unusedVariables false
set_option linter.unusedSimpArgs false
section
variable {w0 w : World} {g : Nat} {a0 a1 a2 a3 a4 a5 a6 a7 : Value} {s st : List Bool} {wy : List Int} {vs vt vw : Value}
def freeS (st : List Bool) (n : Nat) : Bool := (st.drop (st.length - n)).all (! ·)
theorem free_cut {st : List Bool} {i : Nat} (hi : i < st.length) : ∃ b, st.take (st.length - i) = st.take (st.length - (i + 1)) ++ [b] ∧ freeS st (i + 1) = (!b && freeS st i) := by
  have hk : st.length - (i + 1) < st.length := by omega
  refine ⟨st[st.length - (i + 1)], ?_, ?_⟩
  · rw [show st.length - i = st.length - (i + 1) + 1 by omega, List.take_succ_eq_append_getElem hk]
  · unfold freeS
    rw [List.drop_eq_getElem_cons hk, List.all_cons, show st.length - (i + 1) + 1 = st.length - i by omega]
theorem free_zero (st : List Bool) : freeS st 0 = true := by unfold freeS; simp
set_option maxHeartbeats 3200000 in
set_option maxRecDepth 1000000 in
theorem goTakes_calls {n : Nat} (hn : n ≤ st.length) (h : GoIs w0 w g a0 a1 a2 a3 a4 a5 a6 a7 s st wy vs vt vw) :
    Calls Tryd.prog 87 #[.pointer (some ⟨g, 0, none⟩), .int .i64 (n : Int)] w fun e w' => e = .returned (.bool (freeS st n)) ∧ ∃ vt', GoIs w0 w' g a0 a1 a2 a3 a4 a5 a6 a7 s (st.take (st.length - n)) wy vs vt' vw ∧ Keeps w w' g g none := by
  obtain ⟨hmx⟩ : Nonempty (PLift (st.length ≤ 9223372036854775807)) := by
    obtain ⟨A, c, e⟩ := Kd.R_slice h.rt
    have hr := h.rt
    rw [e] at hr
    exact ⟨⟨(Kd.R_reads' hr).2.2.2.1⟩⟩
  replace hmx := hmx.down
  have HH := Aside0.mk h
  clear h
  go_enter Tryd.func87, Tryd.ntmps87
  go_wp2_with fail
  go_loopw [5, 7] (fun s5 s7 wr => ∃ i : Nat, i ≤ n ∧ s5 = .bool (freeS st i) ∧ s7 = .int .i64 (i : Int) ∧ Aside0 (∃ vt', GoIs w0 wr g a0 a1 a2 a3 a4 a5 a6 a7 s (st.take (st.length - i)) wy vs vt' vw ∧ Keeps w wr g g none)) (fun s5 s7 _ => n - (intOf s7).toNat)
  case atStart => exact ⟨0, by omega, by rw [free_zero], rfl, ⟨vt, by rw [Nat.sub_zero, List.take_length]; exact HH.out, Keeps.refl _ _ _ _⟩⟩
  case round =>
    obtain ⟨i, hi, rfl, rfl, ⟨v1, HP, hkp⟩⟩ := hrel
    have HKP := Aside0.mk hkp
    clear hkp
    by_cases hlt : i < n
    · obtain ⟨b, hb1, hb2⟩ := free_cut (st := st) (i := i) (by omega)
      rw [hb1] at HP
      have HB2 := Aside0.mk hb2
      have HPP := Aside0.mk HP
      clear HP hb1 hb2
      cases b with
      | true =>
        go_wp2_with (go_at_call 86; go_loud (refine (pop_calls HPP.out).mono ?_); rintro e w1 ⟨rfl, vt2, hq, hkq⟩; have HQ := Aside0.mk hq; have HKQ := Aside0.mk hkq; clear hq hkq)
        go_roundw
        case rel => exact ⟨i + 1, by omega, by rw [HB2.out]; rfl, by go_num, ⟨_, HQ.out, HKP.out.trans HKQ.out⟩⟩
        case measure => simp [intOf]; omega
      | false =>
        go_wp2_with (go_at_call 86; go_loud (refine (pop_calls HPP.out).mono ?_); rintro e w1 ⟨rfl, vt2, hq, hkq⟩; have HQ := Aside0.mk hq; have HKQ := Aside0.mk hkq; clear hq hkq)
        go_roundw
        case rel => exact ⟨i + 1, by omega, by rw [HB2.out]; rfl, by go_num, ⟨_, HQ.out, HKP.out.trans HKQ.out⟩⟩
        case measure => simp [intOf]; omega
    · obtain rfl : i = n := by omega
      have HPP := Aside0.mk HP
      clear HP
      go_wp2_with fail
      go_ret
      exact ⟨rfl, _, HPP.out, HKP.out⟩
end
end Go.Proofs.YtfncoldcjhkhiaaDoor.NW
