/- slices.ContainsFunc at texts. -/
import Derived.Test.YtfncoldcjhkhiaaDoorTe
namespace Go.Proofs.YtfncoldcjhkhiaaDoor.NW
open Go.RowKit Go.Proofs.YtfncoldcjhkhiaaDoorW.PrintWords Go.Proofs.YtfncoldcjhkhiaaDoorW.PrintMore Go.Proofs.YtfncoldcjhkhiaaDoor.PC
set_option linter.unusedVariables false
set_option linter.unusedSimpArgs false
def longB (s : ByteArray) : Bool := decide (65536 < s.size)
set_option maxHeartbeats 1600000 in
set_option maxRecDepth 1000000 in
theorem long_calls (s : ByteArray) (w : World) : Calls Tryd.prog 48 #[.string s] w fun e w' => e = .returned (.bool (longB s)) ∧ w = w' := by
  have h : longB s = decide ((65536 : Int) < (s.size : Int)) := by unfold longB; rw [Bool.eq_iff_iff, decide_eq_true_iff, decide_eq_true_iff]; omega
  rw [h]
  clear h
  go_enter Tryd.func48, Tryd.ntmps48
  go_wp2
  go_ret
  exact ⟨rfl, rfl⟩
set_option maxHeartbeats 1600000 in
set_option maxRecDepth 1000000 in
theorem idxS_calls (A : Option Addr) (c : Nat) (l : List ByteArray) (w : World) (hr : Kd.C Kd.string w A l.length l) :
    Calls Tryd.prog 82 #[.slice A l.length c, .func (.func 48) #[] #[]] w fun e w' => e = .returned (.int .i64 (idxP longB l)) ∧ w = w' := by
  have hm := Kd.C_max hr
  have HR := Aside0.mk hr
  clear hr
  go_enter Tryd.func82, Tryd.ntmps82
  go_wp2
  go_loop [8] (fun i => ∃ k : Nat, k ≤ l.length ∧ i = .int .i64 (k : Int) ∧ Aside0 (∀ (j : Nat) (h : j < l.length), j < k → longB l[j] = false)) (fun i => l.length - (intOf i).toNat)
  case atStart => exact ⟨0, by omega, rfl, ⟨fun j h hj => absurd hj (by omega)⟩⟩
  case round =>
    obtain ⟨k, hk, rfl, hno⟩ := hrel
    by_cases hlt : k < l.length
    · obtain ⟨ad, rfl, q0⟩ := Kd.at_string HR.out (k : Int) (by omega) (by omega)
      have hx : rdOf ByteArray.empty l (k : Int) = l[k] := by
        rw [rdOf, List.getD_eq_getElem?_getD, show ((k : Int).toNat) = k by omega, List.getElem?_eq_getElem hlt]; rfl
      rw [hx, show ((k : Int).toNat) = k by omega] at q0
      have HY1 := Aside0.mk (fun hy => idxP_at (p := longB) hlt hno.out hy)
      have HN1 := Aside0.mk (fun (hy : longB l[k] = false) (j : Nat) (h : j < l.length) (hj : j < k + 1) => if e : j = k then (by subst e; exact hy) else hno.out j h (by omega))
      generalize hxx : l[k] = x at q0 HY1 HN1
      clear hxx hx
      cases hpx : longB x with
      | true =>
        have HX := Aside0.mk (HY1.out hpx)
        have HPX := Aside0.mk hpx
        clear hpx
        go_wp2_with fail
        refine Calls.mono (long_calls x _) ?_
        rintro e w' ⟨rfl, rfl⟩
        rw [HPX.out]
        go_wp2_with fail
        go_ret
        exact ⟨by rw [HX.out]; rfl, rfl⟩
      | false =>
        have HX := Aside0.mk (HN1.out hpx)
        have HPX := Aside0.mk hpx
        clear hpx
        go_wp2_with fail
        refine Calls.mono (long_calls x _) ?_
        rintro e w' ⟨rfl, rfl⟩
        rw [HPX.out]
        go_wp2_with fail
        go_round
        case rel => exact ⟨k + 1, by omega, by go_num, HX⟩
        case measure => simp [intOf]; omega
    · obtain rfl : k = l.length := by omega
      go_wp2
      go_ret
      exact ⟨by rw [idxP_not (fun j h => hno.out j h h)]; rfl, rfl⟩
set_option maxHeartbeats 1600000 in
set_option maxRecDepth 1000000 in
theorem conS_calls (A : Option Addr) (c : Nat) (l : List ByteArray) (w : World) (hr : Kd.C Kd.string w A l.length l) :
    Calls Tryd.prog 53 #[.slice A l.length c, .func (.func 48) #[] #[]] w fun e w' => e = .returned (.bool (l.any longB)) ∧ w = w' := by
  have HI := Aside0.mk (idxS_calls A c l w hr)
  clear hr
  have HG := Aside0.mk (idxP_ge longB l)
  generalize hi : idxP longB l = i at HG HI
  clear hi
  go_enter Tryd.func53, Tryd.ntmps53
  go_wp2_with (go_at_call 82; refine HI.out.mono ?_; rintro e w' ⟨rfl, rfl⟩)
  go_ret
  exact ⟨by rw [← HG.out]; rfl, rfl⟩
end Go.Proofs.YtfncoldcjhkhiaaDoor.NW
