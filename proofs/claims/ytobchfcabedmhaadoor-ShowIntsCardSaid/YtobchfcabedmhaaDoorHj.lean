/- sacristanref03.Digits and Number. -/
import Derived.Test.YtobchfcabedmhaaDoorHi
namespace Go.Proofs.YtobchfcabedmhaaDoor.NW
open Go.RowKit Go.Proofs.YtobchfcabedmhaaDoorW.PrintWords Go.Proofs.YtobchfcabedmhaaDoor.PS
set_option linter.unusedVariables false
set_option linter.unusedSimpArgs false
def DigOk (n : Nat) : Prop := ∀ w : World, Calls Tryd.prog 21 #[.int .u64 n] w fun e w' => e = .returned (.string ⟨(Lib.decDigits n).toArray⟩) ∧ Below w.heap.size w w'
theorem DigOk.call {n : Nat} (h : DigOk n) (w : World) : Calls Tryd.prog 21 #[.int .u64 n] w fun e w' => e = .returned (.string ⟨(Lib.decDigits n).toArray⟩) ∧ Below w.heap.size w w' := h w
theorem bytes_app (x y : List UInt8) : (⟨x.toArray⟩ : ByteArray) ++ ⟨y.toArray⟩ = ⟨(x ++ y).toArray⟩ := by
  apply ByteArray.ext
  simp [ByteArray.data_append]
theorem conv_one {W : World} {g : Nat} {z : Int} {b : UInt8} (h : W.heap[g]? = some (.cells #[.int .u8 z] 5 (0, 0))) (hz : z = b.toNat) : (convert 54 9 (.slice (some ⟨g, 0, none⟩) 1 1)).run Tryd.prog W = .ok (.string ⟨#[b]⟩) W := by
  subst hz
  exact row_string (base := 0) (l := [b]) ⟨rfl, .inr ⟨g, 1, _, rfl, Nat.zero_le _, h, Nat.le_refl _, by decide, rfl, rfl⟩⟩
set_option maxHeartbeats 3200000 in
set_option maxRecDepth 1000000 in
theorem digits_calls : ∀ n : Nat, n < 18446744073709551616 → DigOk n := by
  intro n
  induction n using Nat.strongRecOn with
  | _ n ih =>
    intro hn w
    by_cases h10 : n < 10
    · have d0 : decide ((n : Int) < 10) = true := decide_eq_true (by omega)
      have hD : Lib.decDigits n = [UInt8.ofNat (48 + n)] := by rw [Lib.decDigits, dif_pos h10]
      rw [hD]
      have hz : 48 + (n : Int) = (UInt8.ofNat (48 + n)).toNat := by rw [UInt8.toNat_ofNat']; omega
      clear hD
      generalize UInt8.ofNat (48 + n) = b at hz ⊢
      have hconv := conv_one (b := b) (blk_new w (.cells #[.int .u8 (48 + (n : Int))] 5)) hz
      clear hz
      have HB := Aside0.mk (below_alloc (Below.refl w.heap.size w) (.cells #[.int .u8 (48 + (n : Int))] 5))
      go_enter Tryd.func21, Tryd.ntmps21
      go_wp2_with fail
      go_ret
      exact ⟨rfl, HB.out⟩
    · have d0 : decide ((n : Int) < 10) = false := decide_eq_false (by omega)
      have hD : Lib.decDigits n = Lib.decDigits (n / 10) ++ [UInt8.ofNat (48 + n % 10)] := by rw [Lib.decDigits, dif_neg h10]
      rw [hD]
      have HC := Aside0.mk (show ∀ w, Calls Tryd.prog 21 #[.int .u64 ((n / 10 : Nat) : Int)] w fun e w' => e = .returned (.string ⟨(Lib.decDigits (n / 10)).toArray⟩) ∧ Below w.heap.size w w' from ih (n / 10) (by omega) (by omega))
      have hlq := decDigits_len (n / 10) 19 (by omega)
      have ht : Int.tmod (n : Int) 10 = ((n % 10 : Nat) : Int) := by rw [Int.tmod_eq_emod_of_nonneg (by omega)]; omega
      have hw1 : IntKind.u64.wrap ((n : Int) / 10) = ((n / 10 : Nat) : Int) := by simp [IntKind.wrap, IntKind.signed, IntKind.bits]; omega
      have hr : n % 10 < 10 := by omega
      generalize n / 10 = q at HC hw1 hlq ⊢
      generalize n % 10 = r at ht hr ⊢
      have hw2 : IntKind.u8.wrap (r : Int) = r := by simp [IntKind.wrap, IntKind.signed, IntKind.bits]; omega
      have hw3 : IntKind.u8.wrap (48 + (r : Int)) = 48 + (r : Int) := by simp [IntKind.wrap, IntKind.signed, IntKind.bits]; omega
      have hz : 48 + (r : Int) = (UInt8.ofNat (48 + r)).toNat := by rw [UInt8.toNat_ofNat']; omega
      have HZ := Aside0.mk hz
      clear hz hD ih
      generalize UInt8.ofNat (48 + r) = b at HZ ⊢
      rw [← bytes_app]
      have hsz : ¬ 9223372036854775807 < (⟨(Lib.decDigits q).toArray⟩ : ByteArray).size + (⟨[b].toArray⟩ : ByteArray).size := by rw [bytes_size, bytes_size]; simp; omega
      have HZ2 := Aside0.mk (show (⟨[b].toArray⟩ : ByteArray) = ⟨#[b]⟩ from rfl)
      clear hlq
      generalize (⟨(Lib.decDigits q).toArray⟩ : ByteArray) = A at HC hsz ⊢
      have hcW := fun (W : World) (g : Nat) (hW : W.heap[g]? = some (.cells #[.int .u8 (48 + (r : Int))] 5 (0, 0))) => conv_one (b := b) hW HZ.out
      rw [← HZ2.out] at hcW
      clear HZ2
      generalize (⟨[b].toArray⟩ : ByteArray) = B at hsz hcW ⊢
      have HCW := Aside0.mk hcW
      clear hcW
      have hcA := HCW.out _ _ (blk_drew (blk_new w (.cells #[.int .u8 (48 + (r : Int))] 5)))
      go_enter Tryd.func21, Tryd.ntmps21
      go_upto_region 3 with fail
      go_region_with (first | (go_at_call 21; (with_reducible refine (HC.out w.drew).mono ?_); rintro e w2 ⟨rfl, hb2⟩; have HB2 := Aside0.mk ((below_drew (Below.refl w.heap.size w)).trans hb2); have hcB := HCW.out _ _ (blk_new w2 (.cells #[.int .u8 (48 + (r : Int))] 5)); have HB3 := Aside0.mk (below_alloc HB2.out (.cells #[.int .u8 (48 + (r : Int))] 5)); clear hb2) | (go_at_call 21; (with_reducible refine (HC.out (w.alloc (.cells #[.int .u8 (48 + (r : Int))] 5)).drew).mono ?_); rintro e w2 ⟨rfl, hb2⟩; have hcB := HCW.out _ _ (blk_below (blk_drew (blk_new w (.cells #[.int .u8 (48 + (r : Int))] 5))) hb2); have HB3 := Aside0.mk (below_then (below_drew (below_alloc (Below.refl w.heap.size w) (.cells #[.int .u8 (48 + (r : Int))] 5))) (by show w.heap.size ≤ (w.alloc (.cells #[.int .u8 (48 + (r : Int))] 5)).heap.size; rw [World.size_alloc]; omega) hb2); clear hb2))
      all_goals
        go_wp2_with fail
        go_ret
        exact ⟨rfl, HB3.out⟩
set_option maxHeartbeats 1600000 in
set_option maxRecDepth 1000000 in
theorem number_calls (n : Int) (h0 : -9223372036854775808 ≤ n) (h1 : n ≤ 9223372036854775807) (w : World) :
    Calls Tryd.prog 14 #[.int .i64 n] w fun e w' => e = .returned (.string ⟨(Lib.itoa n).toArray⟩) ∧ Below w.heap.size w w' := by
  by_cases hn : n < 0
  · have d0 : decide (n < 0) = true := decide_eq_true hn
    have hI : Lib.itoa n = [45] ++ Lib.decDigits n.natAbs := by unfold Lib.itoa; rw [if_pos hn]; rfl
    have hl := decDigits_len n.natAbs 19 (by omega)
    have HC := Aside0.mk (show ∀ w, Calls Tryd.prog 21 #[.int .u64 (n.natAbs : Int)] w fun e w' => e = .returned (.string ⟨(Lib.decDigits n.natAbs).toArray⟩) ∧ Below w.heap.size w w' from digits_calls n.natAbs (by omega))
    rw [hI, ← bytes_app]
    have hsz : ¬ 9223372036854775807 < 1 + (⟨(Lib.decDigits n.natAbs).toArray⟩ : ByteArray).size := by rw [bytes_size]; omega
    clear hl hI
    generalize (⟨(Lib.decDigits n.natAbs).toArray⟩ : ByteArray) = A at HC hsz ⊢
    obtain ⟨m, hm, hm1⟩ : ∃ m : Nat, n = -(m + 1 : Int) ∧ n.natAbs = m + 1 := ⟨n.natAbs - 1, by omega, by omega⟩
    rw [hm1] at HC
    subst hm
    clear hm1
    go_enter Tryd.func14, Tryd.ntmps14
    go_upto_region 2 with fail
    go_wp2_with fail
    rw [show (-(-((m : Int) + 1) + 1) + 1 : Int) = ((m + 1 : Nat) : Int) by omega]
    refine (HC.out _).mono ?_
    rintro e w2 ⟨rfl, hb2⟩
    have HB2 := Aside0.mk hb2
    clear hb2
    go_wp2_with fail
    go_ret
    exact ⟨rfl, HB2.out⟩
  · have d0 : decide (n < 0) = false := decide_eq_false hn
    obtain ⟨m, rfl⟩ : ∃ m : Nat, n = m := ⟨n.toNat, by omega⟩
    have hI : Lib.itoa m = Lib.decDigits m := by unfold Lib.itoa; rw [if_neg hn]; rfl
    have HC := Aside0.mk (show ∀ w, Calls Tryd.prog 21 #[.int .u64 (m : Int)] w fun e w' => e = .returned (.string ⟨(Lib.decDigits m).toArray⟩) ∧ Below w.heap.size w w' from digits_calls m (by omega))
    rw [hI]
    clear hI hn
    go_enter Tryd.func14, Tryd.ntmps14
    go_wp2_with (first | (go_at_call 21; (with_reducible refine (HC.out _).mono ?_); rintro e w2 ⟨rfl, hb2⟩; have HB2 := Aside0.mk hb2; clear hb2))
    go_ret
    exact ⟨rfl, HB2.out⟩
end Go.Proofs.YtobchfcabedmhaaDoor.NW
