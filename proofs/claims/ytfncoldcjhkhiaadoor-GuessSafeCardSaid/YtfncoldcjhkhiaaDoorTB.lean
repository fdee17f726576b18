/- slices.Contains and the reference's in. -/
import Derived.Test.YtfncoldcjhkhiaaDoorPCx2
import Derived.Test.YtfncoldcjhkhiaaDoorTa
namespace Go.Proofs.YtfncoldcjhkhiaaDoor.NW
open Go.RowKit Go.Proofs.YtfncoldcjhkhiaaDoorW.PrintWords Go.Proofs.YtfncoldcjhkhiaaDoorW.PrintMore Go.Proofs.YtfncoldcjhkhiaaDoor.PC
set_option linter.unusedVariables false
set_option linter.unusedSimpArgs false
theorem has_snoc {l : List Int} {x : Int} {i : Nat} (h : i < l.length) : (x ∈ l.take (i + 1)) ↔ (x ∈ l.take i ∨ x = l[i]) := by
  rw [List.take_succ_eq_append_getElem h, List.mem_append, List.mem_singleton]
theorem rd_at {l : List Int} {i : Nat} (h : i < l.length) : rd l (i : Int) = l[i] := by
  unfold rd
  simp [List.getD_eq_getElem?_getD, List.getElem?_eq_getElem h]
set_option maxHeartbeats 1600000 in
set_option maxRecDepth 100000 in
/-- the reference's in -/
theorem in19_calls (A : Option Addr) (c : Nat) (l : List Int) (x : Int) (w : World) (hr : Kd.C (Kd.int .i64) w A l.length l) (hl : l.length ≤ 300) :
    Calls Tryd.prog 71 #[.int .i64 x, .slice A l.length c] w fun e w' => e = .returned (.bool (decide (x ∈ l))) ∧ w = w' := by
  have HR := Aside0.mk hr
  have hmx : (l.length : Int) ≤ 300 := by omega
  clear hr hl
  obtain ⟨r, hrr⟩ : ∃ r, decide (x ∈ l) = r := ⟨_, rfl⟩
  rw [hrr]
  have HRR := Aside0.mk hrr
  clear hrr
  go_enter Tryd.func71, Tryd.ntmps71
  go_wp2_with fail
  go_loop [8] (fun s8 => ∃ i : Nat, i ≤ l.length ∧ s8 = .int .i64 (i : Int) ∧ Aside0 (x ∉ l.take i)) (fun s8 => l.length - (intOf s8).toNat)
  case atStart => exact ⟨0, by omega, rfl, ⟨by simp⟩⟩
  case round =>
    obtain ⟨i, hi, rfl, hno⟩ := hrel
    by_cases hlt : i < l.length
    · obtain ⟨ad, ea, hx⟩ := Kd.at_int HR.out (i : Int) (by omega) (by omega)
      subst ea
      rw [rd_at hlt, Int.toNat_natCast] at hx
      obtain ⟨y, hy⟩ : ∃ y, l[i] = y := ⟨_, rfl⟩
      rw [hy] at hx
      have b0 : (0 : Int) ≤ (i : Int) := by omega
      have b1 : (i : Int) < (l.length : Int) := by omega
      by_cases he : y = x
      · have d : (y == x) = true := beq_iff_eq.2 he
        obtain rfl : r = true := by rw [← HRR.out]; exact decide_eq_true (he ▸ hy ▸ List.getElem_mem hlt)
        clear he hy hlt hi
        go_wp2_with fail
        go_ret
        exact ⟨rfl, rfl⟩
      · have d : (y == x) = false := beq_eq_false_iff_ne.2 he
        have HN := Aside0.mk (show x ∉ l.take (i + 1) from fun h => by rcases (has_snoc hlt).1 h with h | h; exact hno.out h; exact he (hy ▸ h.symm))
        have HI := Aside0.mk (show i + 1 ≤ l.length from hlt)
        clear he hy hlt hi
        go_wp2_with fail
        go_round
        case rel => exact ⟨i + 1, HI.out, by go_num, HN⟩
        case measure => have := HI.out; simp [intOf]; omega
    · obtain rfl : i = l.length := by omega
      obtain rfl : r = false := by rw [← HRR.out]; exact decide_eq_false (by have := hno.out; rw [List.take_length] at this; exact this)
      clear hlt hi
      go_wp2_with fail
      go_ret
      exact ⟨rfl, rfl⟩
def IdxPost (l : List Int) (x : Int) (w : World) (e : Ending) (w' : World) : Prop := (∃ r : Int, e = .returned (.int .i64 r) ∧ decide (0 ≤ r) = decide (x ∈ l)) ∧ w = w'
set_option maxHeartbeats 1600000 in
set_option maxRecDepth 100000 in
/-- slices.Index -/
theorem index19_calls (A : Option Addr) (c : Nat) (l : List Int) (x : Int) (w : World) (hr : Kd.C (Kd.int .i64) w A l.length l) (hl : l.length ≤ 300) :
    Calls Tryd.prog 85 #[.slice A l.length c, .int .i64 x] w (IdxPost l x w) := by
  have HR := Aside0.mk hr
  have hmx : (l.length : Int) ≤ 300 := by omega
  clear hr hl
  go_enter Tryd.func85, Tryd.ntmps85
  go_wp2_with fail
  go_loop [8] (fun s8 => ∃ i : Nat, i ≤ l.length ∧ s8 = .int .i64 (i : Int) ∧ Aside0 (x ∉ l.take i)) (fun s8 => l.length - (intOf s8).toNat)
  case atStart => exact ⟨0, by omega, rfl, ⟨by simp⟩⟩
  case round =>
    obtain ⟨i, hi, rfl, hno⟩ := hrel
    by_cases hlt : i < l.length
    · obtain ⟨ad, ea, hx⟩ := Kd.at_int HR.out (i : Int) (by omega) (by omega)
      subst ea
      rw [rd_at hlt, Int.toNat_natCast] at hx
      obtain ⟨y, hy⟩ : ∃ y, l[i] = y := ⟨_, rfl⟩
      rw [hy] at hx
      have b0 : (0 : Int) ≤ (i : Int) := by omega
      have b1 : (i : Int) < (l.length : Int) := by omega
      by_cases he : x = y
      · have d : (x == y) = true := beq_iff_eq.2 he
        have HD := Aside0.mk (show decide (0 ≤ (i : Int)) = decide (x ∈ l) by rw [decide_eq_true b0, decide_eq_true (show x ∈ l by rw [he, ← hy]; exact List.getElem_mem hlt)])
        clear he hy hlt hi
        go_wp2_with fail
        go_ret
        exact ⟨⟨_, rfl, HD.out⟩, rfl⟩
      · have d : (x == y) = false := beq_eq_false_iff_ne.2 he
        have HN := Aside0.mk (show x ∉ l.take (i + 1) from fun h => by rcases (has_snoc hlt).1 h with h | h; exact hno.out h; exact he (hy ▸ h))
        have HI := Aside0.mk (show i + 1 ≤ l.length from hlt)
        clear he hy hlt hi
        go_wp2_with fail
        go_round
        case rel => exact ⟨i + 1, HI.out, by go_num, HN⟩
        case measure => have := HI.out; simp [intOf]; omega
    · obtain rfl : i = l.length := by omega
      have HD := Aside0.mk (show decide (0 ≤ (-1 : Int)) = decide (x ∈ l) by rw [decide_eq_false (show ¬ x ∈ l by have := hno.out; rw [List.take_length] at this; exact this)]; rfl)
      clear hlt hi
      go_wp2_with fail
      go_ret
      exact ⟨⟨_, rfl, HD.out⟩, rfl⟩
set_option maxHeartbeats 1600000 in
set_option maxRecDepth 100000 in
/-- slices.Contains -/
theorem contains19_calls (A : Option Addr) (c : Nat) (l : List Int) (x : Int) (w : World) (hr : Kd.C (Kd.int .i64) w A l.length l) (hl : l.length ≤ 300) :
    Calls Tryd.prog 69 #[.slice A l.length c, .int .i64 x] w fun e w' => e = .returned (.bool (decide (x ∈ l))) ∧ w = w' := by
  have HI := Aside0.mk (index19_calls A c l x w hr hl)
  obtain ⟨r, hrr⟩ : ∃ r, decide (x ∈ l) = r := ⟨_, rfl⟩
  rw [hrr]
  have HRR := Aside0.mk hrr
  clear hr hl hrr
  go_enter Tryd.func69, Tryd.ntmps69
  go_wp2_with (go_at_call 85; refine HI.out.mono ?_; rintro e w' ⟨⟨q, rfl, hq⟩, rfl⟩; rw [HRR.out] at hq)
  go_ret
  exact ⟨rfl, rfl⟩
end Go.Proofs.YtfncoldcjhkhiaaDoor.NW
