/- ShowQuotes, walked. -/
import Derived.Test.YtobchfcabedmhaaDoorHm
namespace Go.Proofs.YtobchfcabedmhaaDoor.NW
open Go.RowKit Go.Proofs.YtobchfcabedmhaaDoorW.PrintWords Go.Proofs.YtobchfcabedmhaaDoorW.PrintMore Go.Proofs.YtobchfcabedmhaaDoor.PS
set_option linter.unusedVariables false
set_option linter.unusedSimpArgs false
theorem hexB_inj : ∀ a b : Fin 16, hexB a.val.toUInt8 = hexB b.val.toUInt8 → a = b := by decide +kernel
theorem hex_eq {c d : UInt8} (h1 : hexB (c / 16) = hexB (d / 16)) (h2 : hexB (c % 16) = hexB (d % 16)) : c = d := by
  have c1 : (c / 16).toNat = c.toNat / 16 := by rw [UInt8.toNat_div]; rfl
  have c2 : (c % 16).toNat = c.toNat % 16 := by rw [UInt8.toNat_mod]; rfl
  have d1 : (d / 16).toNat = d.toNat / 16 := by rw [UInt8.toNat_div]; rfl
  have d2 : (d % 16).toNat = d.toNat % 16 := by rw [UInt8.toNat_mod]; rfl
  have hc := c.toNat_lt
  have hd := d.toNat_lt
  have k1 := hexB_inj ⟨(c / 16).toNat, by omega⟩ ⟨(d / 16).toNat, by omega⟩ (by have e : ∀ x : UInt8, x.toNat.toUInt8 = x := fun x => UInt8.ofNat_toNat; show hexB ((c / 16).toNat.toUInt8) = hexB ((d / 16).toNat.toUInt8); rw [e, e]; exact h1)
  have k2 := hexB_inj ⟨(c % 16).toNat, by omega⟩ ⟨(d % 16).toNat, by omega⟩ (by have e : ∀ x : UInt8, x.toNat.toUInt8 = x := fun x => UInt8.ofNat_toNat; show hexB ((c % 16).toNat.toUInt8) = hexB ((d % 16).toNat.toUInt8); rw [e, e]; exact h2)
  simp only [Fin.mk.injEq] at k1 k2
  exact UInt8.toNat_inj.1 (by omega)
theorem escB_cut {c d : UInt8} {x y : List UInt8} (h : escB c ++ x = escB d ++ y) : c = d ∧ x = y := by
  unfold escB at h
  by_cases hc : c = 34 ∨ c = 92
  · rw [if_pos hc] at h
    by_cases hd : d = 34 ∨ d = 92
    · rw [if_pos hd] at h; simp at h; exact h
    · rw [if_neg hd] at h
      split at h
      · simp at h; exact absurd (.inr h.1.symm) hd
      · simp at h; rcases hc with rfl | rfl <;> simp at h
  · rw [if_neg hc] at h
    by_cases hc2 : 32 ≤ c ∧ c ≤ 126
    · rw [if_pos hc2] at h
      by_cases hd : d = 34 ∨ d = 92
      · rw [if_pos hd] at h; simp at h; exact absurd (.inr h.1) hc
      · rw [if_neg hd] at h
        split at h
        · simp at h; exact h
        · simp at h; exact absurd (.inr h.1) hc
    · rw [if_neg hc2] at h
      by_cases hd : d = 34 ∨ d = 92
      · rw [if_pos hd] at h; simp at h; rcases hd with rfl | rfl <;> simp at h
      · rw [if_neg hd] at h
        split at h
        · simp at h; exact absurd (.inr h.1.symm) hd
        · simp at h; exact ⟨hex_eq h.1 h.2.1, h.2.2⟩
theorem esc_inj : ∀ (x y : List UInt8), x.flatMap escB ++ [34] = y.flatMap escB ++ [34] → x = y
  | [], [], _ => rfl
  | [], d :: y, h => by
    exfalso
    simp only [List.flatMap_nil, List.nil_append, List.flatMap_cons, List.append_assoc] at h
    have := (escB_len d).1
    have hl := congrArg List.length h
    rw [List.length_append, List.length_append] at hl
    simp at hl
    omega
  | c :: x, [], h => by
    exfalso
    simp only [List.flatMap_nil, List.nil_append, List.flatMap_cons, List.append_assoc] at h
    have := (escB_len c).1
    have hl := congrArg List.length h
    rw [List.length_append, List.length_append] at hl
    simp at hl
    omega
  | c :: x, d :: y, h => by
    simp only [List.flatMap_cons, List.append_assoc] at h
    obtain ⟨rfl, h2⟩ := escB_cut h
    rw [esc_inj x y h2]
theorem quote_inj {x y : List UInt8} (h : quoteB x = quoteB y) : x = y := by
  unfold quoteB at h
  injection h with _ h
  exact esc_inj x y h
set_option maxHeartbeats 1600000 in
set_option maxRecDepth 1000000 in
theorem showQuotes_calls (s t : ByteArray) (w : World) (hP : PowOk w) :
    Calls Tryd.prog 7 #[.string s, .string t] w fun e w' => e = .returned (.bool true) ∧ Below w.heap.size w w' := by
  have HP := Aside0.mk hP
  by_cases hs : s.size ≤ 1000
  case neg =>
    have d0 : decide ((1000 : Int) < s.size) = true := decide_eq_true (by omega)
    clear hs hP
    go_enter Tryd.func7, Tryd.ntmps7
    go_wp2_with (first | (go_at_call 8; (with_reducible refine (awake_calls _ HP.out).mono ?_); rintro e w5 ⟨rfl, hb5⟩; have HB5 := Aside0.mk hb5; clear hb5))
    go_ret
    exact ⟨rfl, HB5.out⟩
  by_cases ht : t.size ≤ 1000
  case neg =>
    have d0 : decide ((1000 : Int) < s.size) = false := decide_eq_false (by omega)
    have d1 : decide ((1000 : Int) < t.size) = true := decide_eq_true (by omega)
    clear ht hs hP
    go_enter Tryd.func7, Tryd.ntmps7
    go_wp2_with (first | (go_at_call 8; (with_reducible refine (awake_calls _ HP.out).mono ?_); rintro e w5 ⟨rfl, hb5⟩; have HB5 := Aside0.mk hb5; clear hb5))
    go_ret
    exact ⟨rfl, HB5.out⟩
  have d0 : decide ((1000 : Int) < s.size) = false := decide_eq_false (by omega)
  have d1 : decide ((1000 : Int) < t.size) = false := decide_eq_false (by omega)
  have HQS := Aside0.mk (fun W => quoteShow_calls W s (by omega))
  have HQT := Aside0.mk (fun W => quoteShow_calls W t (by omega))
  have HRS := Aside0.mk (fun W => refQuote_calls W s (by omega))
  have HS3 := Aside0.mk (show ∀ W, Below w.heap.size w W → Calls Tryd.prog 12 #[.nilIface, .agg #[.int .u8 3, .int .i64 0, .string s]] W fun e w' => e = .returned (.string ⟨(quoteB s.data.toList).toArray⟩) ∧ Below W.heap.size W w' from fun W hW =>
    show_calls (hv := .nilIface) (ps := []) (hP.below hW) (fun p hp => by cases hp) (.inl ⟨rfl, rfl⟩) rfl ⟨3, 0, s⟩ ⟨(by decide : (0 : Int) ≤ 3), ⟨(by decide : (-9223372036854775808 : Int) ≤ 0), (by decide : (0 : Int) ≤ 9223372036854775807)⟩, (by show s.size ≤ _; omega), fun h => absurd h (by decide : ¬ (3 : Int) = 4)⟩)
  have HS4 := Aside0.mk (show ∀ W, Below w.heap.size w W → Calls Tryd.prog 12 #[.nilIface, .agg #[.int .u8 4, .int .i64 0, .string ⟨#[]⟩]] W fun e w' => e = .returned (.string ⟨#[46, 46]⟩) ∧ Below W.heap.size W w' from fun W hW =>
    show_calls (hv := .nilIface) (ps := []) (hP.below hW) (fun p hp => by cases hp) (.inl ⟨rfl, rfl⟩) rfl ⟨4, 0, ⟨#[]⟩⟩ ⟨(by decide : (0 : Int) ≤ 4), ⟨(by decide : (-9223372036854775808 : Int) ≤ 0), (by decide : (0 : Int) ≤ 9223372036854775807)⟩, (by decide : (⟨#[]⟩ : ByteArray).size ≤ 65536), fun _ => rfl⟩)
  have hab : ((⟨(quoteB s.data.toList).toArray⟩ : ByteArray).toList == (⟨(quoteB t.data.toList).toArray⟩ : ByteArray).toList) = (s.toList == t.toList) := by
    rw [toList_bytes, toList_bytes, ByteArray.toList_eq, ByteArray.toList_eq]
    by_cases h : s.data.toList = t.data.toList
    · rw [h]; simp
    · rw [show (s.data.toList == t.data.toList) = false from beq_eq_false_iff_ne.mpr h]; exact beq_eq_false_iff_ne.mpr (fun h2 => h (quote_inj h2))
  generalize (⟨(quoteB s.data.toList).toArray⟩ : ByteArray) = X at HQS HRS HS3 hab
  generalize (⟨(quoteB t.data.toList).toArray⟩ : ByteArray) = Y at HQT hab
  have HX := Aside0.mk hab
  clear hab hs ht hP
  have hx := HX.out
  cases hE : (s.toList == t.toList)
  all_goals
    rw [hE] at hx
    go_enter Tryd.func7, Tryd.ntmps7
    go_wp2_with (first
      | (go_at_call 15; (with_reducible refine (HQS.out w).mono ?_); rintro e w1 ⟨rfl, hb1⟩; have HB1 := Aside0.mk hb1; clear hb1)
      | (go_at_call 16; (with_reducible refine (HRS.out w1).mono ?_); rintro e w2 ⟨rfl, hb2⟩; have HB2 := Aside0.mk (below_then HB1.out HB1.out.size hb2); clear hb2)
      | (go_at_call 15; (with_reducible refine (HQS.out w2).mono ?_); rintro e w3 ⟨rfl, hb3⟩; have HB3 := Aside0.mk (below_then HB2.out HB2.out.size hb3); clear hb3)
      | (go_at_call 15; (with_reducible refine (HQT.out w3).mono ?_); rintro e w4 ⟨rfl, hb4⟩; have HB4 := Aside0.mk (below_then HB3.out HB3.out.size hb4); clear hb4)
      | (go_at_call 12; (with_reducible refine (HS3.out w4 HB4.out).mono ?_); rintro e w5 ⟨rfl, hb5⟩; have HB5 := Aside0.mk (below_then HB4.out HB4.out.size hb5); clear hb5)
      | (go_at_call 15; (with_reducible refine (HQS.out w5).mono ?_); rintro e w6 ⟨rfl, hb6⟩; have HB6 := Aside0.mk (below_then HB5.out HB5.out.size hb6); clear hb6)
      | (go_at_call 12; (with_reducible refine (HS4.out w6 HB6.out).mono ?_); rintro e w7 ⟨rfl, hb7⟩; have HB7 := Aside0.mk (below_then HB6.out HB6.out.size hb7); clear hb7)
      | (go_at_call 8; (with_reducible refine (awake_calls _ (HP.out.below HB7.out)).mono ?_); rintro e w8 ⟨rfl, hb8⟩; have HB8 := Aside0.mk (below_then HB7.out HB7.out.size hb8); clear hb8))
    go_ret
    exact ⟨rfl, HB8.out⟩
end Go.Proofs.YtobchfcabedmhaaDoor.NW
