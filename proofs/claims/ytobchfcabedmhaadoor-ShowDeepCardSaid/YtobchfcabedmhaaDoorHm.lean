/- ShowInts, walked. -/
import Derived.Test.YtobchfcabedmhaaDoorHl
namespace Go.Proofs.YtobchfcabedmhaaDoor.NW
open Go.RowKit Go.Proofs.YtobchfcabedmhaaDoorW.PrintWords Go.Proofs.YtobchfcabedmhaaDoorW.PrintMore Go.Proofs.YtobchfcabedmhaaDoor.PS
set_option linter.unusedVariables false
set_option linter.unusedSimpArgs false
def decVal (l : List UInt8) : Nat := l.foldl (fun a c => 10 * a + (c.toNat - 48)) 0
theorem decVal_dec : ∀ n, decVal (Lib.decDigits n) = n := by
  intro n
  induction n using Nat.strongRecOn with
  | _ n ih =>
    rw [Lib.decDigits]
    split
    · simp only [decVal, List.foldl_cons, List.foldl_nil, UInt8.toNat_ofNat']; omega
    · have := ih (n / 10) (by omega)
      unfold decVal at this ⊢
      rw [List.foldl_append, this]
      simp only [List.foldl_cons, List.foldl_nil, UInt8.toNat_ofNat']
      omega
theorem dec_digit : ∀ n, ∀ c ∈ Lib.decDigits n, 48 ≤ c.toNat := by
  intro n
  induction n using Nat.strongRecOn with
  | _ n ih =>
    intro c hc
    rw [Lib.decDigits] at hc
    split at hc
    · simp only [List.mem_singleton] at hc; subst hc; rw [UInt8.toNat_ofNat']; omega
    · rcases List.mem_append.1 hc with hc | hc
      · exact ih (n / 10) (by omega) c hc
      · simp only [List.mem_singleton] at hc; subst hc; rw [UInt8.toNat_ofNat']; omega
theorem dec_inj {a b : Nat} (h : Lib.decDigits a = Lib.decDigits b) : a = b := by rw [← decVal_dec a, h, decVal_dec]
theorem itoa_inj {a b : Int} (h : Lib.itoa a = Lib.itoa b) : a = b := by
  unfold Lib.itoa at h
  split at h <;> split at h
  · injection h with _ h; have := dec_inj h; omega
  · have := dec_digit b.toNat 45 (by rw [← h]; exact List.mem_cons_self); exact absurd this (by decide)
  · have := dec_digit a.toNat 45 (by rw [h]; exact List.mem_cons_self); exact absurd this (by decide)
  · have := dec_inj h; omega
theorem bytes_inj {x y : List UInt8} (h : (⟨x.toArray⟩ : ByteArray) = ⟨y.toArray⟩) : x = y := by
  injection h with h
  simpa using congrArg Array.toList h
theorem toList_bytes (x : List UInt8) : (⟨x.toArray⟩ : ByteArray).toList = x := by rw [ByteArray.toList_eq]
set_option maxHeartbeats 1600000 in
set_option maxRecDepth 1000000 in
theorem showInts_calls (a b : Int) (w : World) (hP : PowOk w) (ha : -9223372036854775808 ≤ a ∧ a ≤ 9223372036854775807) (hb : -9223372036854775808 ≤ b ∧ b ≤ 9223372036854775807) :
    Calls Tryd.prog 4 #[.int .i64 a, .int .i64 b] w fun e w' => e = .returned (.bool true) ∧ Below w.heap.size w w' := by
  have HP := Aside0.mk hP
  have HSH := Aside0.mk (show ∀ (n : Int), (-9223372036854775808 ≤ n ∧ n ≤ 9223372036854775807) → ∀ W, Below w.heap.size w W → Calls Tryd.prog 12 #[.nilIface, .agg #[.int .u8 1, .int .i64 n, .string ⟨#[]⟩]] W fun e w' => e = .returned (.string ⟨(Lib.itoa n).toArray⟩) ∧ Below W.heap.size W w' from fun n hn W hW =>
    show_calls (hv := .nilIface) (ps := []) (hP.below hW) (fun p hp => by cases hp) (.inl ⟨rfl, rfl⟩) rfl ⟨1, n, ⟨#[]⟩⟩ ⟨(by decide : (0 : Int) ≤ 1), hn, (by decide : (⟨#[]⟩ : ByteArray).size ≤ 65536), fun h => absurd h (by decide : ¬ (1 : Int) = 4)⟩)
  have HSA := Aside0.mk (HSH.out a ha)
  have HSB := Aside0.mk (HSH.out b hb)
  have HNA := Aside0.mk (show ∀ W, Below w.heap.size w W → Calls Tryd.prog 14 #[.int .i64 a] W fun e w' => e = .returned (.string ⟨(Lib.itoa a).toArray⟩) ∧ Below W.heap.size W w' from fun W _ => number_calls a ha.1 ha.2 W)
  have hab : ((⟨(Lib.itoa a).toArray⟩ : ByteArray).toList == (⟨(Lib.itoa b).toArray⟩ : ByteArray).toList) = (a == b) := by
    rw [toList_bytes, toList_bytes]
    by_cases h : a = b
    · subst h; simp
    · rw [show (a == b) = false by simpa using h]; simpa using fun h2 => h (itoa_inj h2)
  generalize (⟨(Lib.itoa a).toArray⟩ : ByteArray) = X at HSA HNA hab
  generalize (⟨(Lib.itoa b).toArray⟩ : ByteArray) = Y at HSB hab
  have HX := Aside0.mk hab
  clear hab ha hb hP HSH
  go_enter Tryd.func4, Tryd.ntmps4
  go_upto_region 2 with (first | (go_at_call 12; (with_reducible refine (HSA.out w (Below.refl _ _)).mono ?_); rintro e w2 ⟨rfl, hb2⟩; have HB2 := Aside0.mk hb2; clear hb2) | (go_at_call 12; (with_reducible refine (HSB.out w2 HB2.out).mono ?_); rintro e w3 ⟨rfl, hb3⟩; have HB3 := Aside0.mk (below_then HB2.out HB2.out.size hb3); clear hb3))
  have hx := HX.out
  cases hE : (a == b)
  all_goals
    rw [hE] at hx
    go_wp2_with (first | (go_at_call 14; (with_reducible refine (HNA.out _ HB3.out).mono ?_); rintro e w4 ⟨rfl, hb4⟩; have HB4 := Aside0.mk (below_then HB3.out HB3.out.size hb4); clear hb4) | (go_at_call 8; (with_reducible refine (awake_calls _ (HP.out.below HB4.out)).mono ?_); rintro e w5 ⟨rfl, hb5⟩; have HB5 := Aside0.mk (below_then HB4.out HB4.out.size hb5); clear hb5))
    go_ret
    exact ⟨rfl, HB5.out⟩
end Go.Proofs.YtobchfcabedmhaaDoor.NW
