/- Whether a row of registers has a bad one. -/
import Derived.Test.YtjkjbfhhfdbnoaaRc
import Derived.Test.YtjkjbfhhfdbnoaaPBx0
namespace Go.Proofs.Ytjkjbfhhfdbnoaa.NW
open Go.RowKit Go.Proofs.YtjkjbfhhfdbnoaaW.PrintWords Go.Proofs.Ytjkjbfhhfdbnoaa.PB
set_option linter.unusedVariables false
set_option linter.unusedSimpArgs false

def badB (R n : Int) : Bool := if n < 0 then true else decide (R ≤ n)

set_option maxHeartbeats 1600000 in
set_option maxRecDepth 1000000 in
theorem bad_calls (n R : Int) (g : Nat) (w : World) (hc : w.cell? ⟨g, 2, none⟩ = some (.int .i64 R)) :
    Calls Try.prog 65 #[.int .i64 n, .pointer (some ⟨g, 0, none⟩)] w fun e w' => e = .returned (.bool (badB R n)) ∧ w = w' := by
  by_cases h : n < 0
  · rw [show badB R n = true by unfold badB; rw [if_pos h]]
    go_enter Try.func65, Try.ntmps65
    go_wp2
    go_ret
    exact ⟨rfl, rfl⟩
  · rw [show badB R n = decide (R ≤ n) by unfold badB; rw [if_neg h]]
    go_enter Try.func65, Try.ntmps65
    go_wp2
    go_ret
    exact ⟨rfl, rfl⟩

def idxBad (R : Int) (l : List Int) : Int := if l.any (badB R) = true then (l.findIdx (badB R) : Int) else -1
theorem idxBad_at {R : Int} {l : List Int} {k : Nat} (hk : k < l.length) (hno : ∀ j < k, badB R (l.getD j 0) = false) (hy : badB R (l.getD k 0) = true) : idxBad R l = k := by
  have hg : ∀ j, j < l.length → l.getD j 0 = l[j]! := fun j hj => by simp [List.getD, hj]
  have ha : l.any (badB R) = true := by
    rw [List.any_eq_true]
    exact ⟨l[k], List.getElem_mem _, by simpa [List.getD, hk] using hy⟩
  unfold idxBad
  rw [if_pos ha]
  congr 1
  rw [List.findIdx_eq hk]
  refine ⟨by simpa [List.getD, hk] using hy, fun j hj => ?_⟩
  have := hno j hj
  simpa [List.getD, Nat.lt_trans hj hk] using this
theorem idxBad_not {R : Int} {l : List Int} (hno : ∀ j < l.length, badB R (l.getD j 0) = false) : idxBad R l = -1 := by
  unfold idxBad
  rw [if_neg]
  intro ha
  rw [List.any_eq_true] at ha
  obtain ⟨x, hx, hp⟩ := ha
  obtain ⟨j, hj, rfl⟩ := List.getElem_of_mem hx
  have := hno j hj
  simp [List.getD, hj] at this
  rw [this] at hp
  cases hp
theorem idxBad_ge (R : Int) (l : List Int) : decide (0 ≤ idxBad R l) = l.any (badB R) := by
  unfold idxBad
  cases h : l.any (badB R) <;> simp

/-- one number of a row -/
theorem int_at {w : World} {A : Option Addr} {n : Nat} {xs : List Int} (h : (Kd.int .i64).C w A n xs) (k : Nat) (hk : k < n) : ∃ ad, A = some ad ∧ w.cell? (ad.add k) = some (.int .i64 (xs.getD k 0)) := by
  obtain ⟨ad, c, rfl, hl, hK, hc⟩ := Kd.C_get h (0 : Int) k (by omega) (by omega)
  refine ⟨ad, rfl, ?_⟩
  have hK' : c = [.int .i64 (xs.getD k 0)] := hK
  subst hK'
  have h1 := hc 0 _ rfl
  rw [show (k : Int).toNat * (Kd.int .i64).sz + 0 = k from by simp [show (Kd.int .i64).sz = 1 from rfl]] at h1
  exact h1

set_option maxHeartbeats 1600000 in
set_option maxRecDepth 1000000 in
theorem indexBad_calls (R : Int) (g : Nat) (A : Option Addr) (c : Nat) (l : List Int) (w : World) (hr : (Kd.int .i64).C w A l.length l) (hc : w.cell? ⟨g, 2, none⟩ = some (.int .i64 R)) :
    Calls Try.prog 86 #[.slice A l.length c, .func (.func 65) #[] #[.pointer (some ⟨g, 0, none⟩)]] w fun e w' => e = .returned (.int .i64 (idxBad R l)) ∧ w = w' := by
  have hm := Kd.C_max hr
  have HR := Aside0.mk hr
  have HC := Aside0.mk hc
  clear hr hc
  go_enter Try.func86, Try.ntmps86
  go_wp2
  go_loop [8] (fun i => ∃ k : Nat, k ≤ l.length ∧ i = .int .i64 k ∧ Aside0 (∀ j < k, badB R (l.getD j 0) = false)) (fun i => l.length - (intOf i).toNat)
  case atStart => exact ⟨0, by omega, rfl, ⟨fun j hj => absurd hj (by omega)⟩⟩
  case round =>
    obtain ⟨k, hk, rfl, hno⟩ := hrel
    by_cases hlt : k < l.length
    · obtain ⟨ad, rfl, hx⟩ := int_at HR.out k hlt
      generalize hxx : l.getD k 0 = x at hx
      have HX := Aside0.mk hxx
      clear hxx
      cases hb : badB R x with
      | true =>
        have HY := Aside0.mk hb
        clear hb
        go_wp2_with fail
        refine Calls.mono (bad_calls _ R g _ HC.out) ?_
        rintro e w' ⟨rfl, rfl⟩
        rw [HY.out]
        go_wp2_with fail
        go_ret
        exact ⟨by rw [idxBad_at hlt hno.out (HX.out.symm ▸ HY.out)]; rfl, rfl⟩
      | false =>
        have HY := Aside0.mk hb
        clear hb
        go_wp2_with fail
        refine Calls.mono (bad_calls _ R g _ HC.out) ?_
        rintro e w' ⟨rfl, rfl⟩
        rw [HY.out]
        go_wp2_with fail
        go_round
        case rel => exact ⟨k + 1, by omega, by go_num, ⟨fun j hj => if e : j = k then e ▸ (HX.out.symm ▸ HY.out) else hno.out j (by omega)⟩⟩
        case measure => simp [intOf]; omega
    · obtain rfl : k = l.length := by omega
      go_wp2
      go_ret
      exact ⟨by rw [idxBad_not hno.out]; rfl, rfl⟩

set_option maxHeartbeats 1600000 in
set_option maxRecDepth 1000000 in
theorem containsBad_calls (R : Int) (g : Nat) (A : Option Addr) (c : Nat) (l : List Int) (w : World) (hr : (Kd.int .i64).C w A l.length l) (hc : w.cell? ⟨g, 2, none⟩ = some (.int .i64 R)) :
    Calls Try.prog 66 #[.slice A l.length c, .func (.func 65) #[] #[.pointer (some ⟨g, 0, none⟩)]] w fun e w' => e = .returned (.bool (l.any (badB R))) ∧ w = w' := by
  have HR := Aside0.mk hr
  have HC := Aside0.mk hc
  clear hr hc
  have HG := Aside0.mk (idxBad_ge R l)
  generalize hi : idxBad R l = i at HG
  have HI := Aside0.mk hi
  clear hi
  go_enter Try.func66, Try.ntmps66
  go_wp2_with (go_at_call 86; refine (indexBad_calls R g _ _ _ _ HR.out HC.out).mono ?_; rintro e w' ⟨rfl, rfl⟩; rw [HI.out])
  go_ret
  exact ⟨by rw [← HG.out]; rfl, rfl⟩
end Go.Proofs.Ytjkjbfhhfdbnoaa.NW
