/- The reference's reckons. -/
import Derived.Test.YtfncoldcjhkhiaaDoorTC
namespace Go.Proofs.YtfncoldcjhkhiaaDoor.NW
open Go.RowKit Go.Proofs.YtfncoldcjhkhiaaDoorW.PrintWords Go.Proofs.YtfncoldcjhkhiaaDoorW.PrintMore Go.Proofs.YtfncoldcjhkhiaaDoor.PC
set_option linter.unusedVariables false
set_option linter.unusedSimpArgs false
def anyT (l : List ByteArray) (x : ByteArray) : Bool := l.any fun y => y.toList == x.toList
theorem anyT_no {l : List ByteArray} {x : ByteArray} {i : Nat} (h : i < l.length) (h1 : anyT (l.take i) x = false) (h2 : (l[i].toList == x.toList) = false) : anyT (l.take (i + 1)) x = false := by
  unfold anyT at *
  rw [List.take_succ_eq_append_getElem h, List.any_append, h1]
  simp only [List.any_cons, List.any_nil, h2]; rfl
theorem anyT_yes {l : List ByteArray} {x : ByteArray} {i : Nat} (h : i < l.length) (h2 : (l[i].toList == x.toList) = true) : anyT l x = true := by
  unfold anyT
  rw [List.any_eq_true]
  exact ⟨l[i], List.getElem_mem h, h2⟩
def onesL : List ByteArray := sacristanref01_Ones.f.getD []
def twosL : List ByteArray := sacristanref01_Twos.f.getD []
theorem ones_f : sacristanref01_Ones.f = some onesL := rfl
theorem twos_f : sacristanref01_Twos.f = some twosL := rfl
theorem words_f : sacristanref09_Words.f = some wordsL := by decide +kernel
theorem reck_word : ∀ i : Fin 32, anyT (onesL ++ twosL) (rdOf ByteArray.empty wordsL ((i.val : Nat) : Int)) = Pure.pureW ((i.val : Nat) : Int) := by decide +kernel
set_option maxHeartbeats 3200000 in
set_option maxRecDepth 100000 in
/-- the reference's reckons at a word -/
theorem reckons_calls (a : Int) (ha : 0 ≤ a ∧ a < 32) (w : World) :
    Calls Tryd.prog 73 #[.int .i64 a] w fun e w' => e = .returned (.bool (Pure.pureW a)) ∧ Below w.heap.size w w' := by
  have a0 := ha.1
  have a1 := ha.2
  have hb := reck_word ⟨a.toNat, by omega⟩
  rw [show (((⟨a.toNat, by omega⟩ : Fin 32).val : Nat) : Int) = a by simp only []; omega] at hb
  obtain ⟨r, hrr⟩ : ∃ r, Pure.pureW a = r := ⟨_, rfl⟩
  obtain ⟨wd, hwd⟩ : ∃ wd, rdOf ByteArray.empty wordsL a = wd := ⟨_, rfl⟩
  rw [hrr, hwd] at hb
  rw [hrr]
  obtain ⟨L, hL⟩ : ∃ L, onesL ++ twosL = L := ⟨_, rfl⟩
  have hLl : L.length = 24 := by rw [← hL]; rfl
  rw [hL] at hb
  have HB := Aside0.mk hb
  have HWD := Aside0.mk hwd
  have HL := Aside0.mk hL
  have HLL := Aside0.mk hLl
  have hmx : (L.length : Int) ≤ 300 := by omega
  have d0 : decide (a < 0) = false := decide_eq_false (by omega)
  have d1 : decide (32 ≤ a) = false := decide_eq_false (by omega)
  have d2 : a < 32 := a1
  clear ha hb hrr hwd hL hLl
  go_enter Tryd.func73, Tryd.ntmps73
  go_wp2_with (first | (go_at_call 17; refine (sacristanref09_Words.calls wordsL _ words_f).mono ?_; rintro e w1 ⟨v, rfl, hr, hb1⟩; obtain ⟨gw, cw, ev, _⟩ := Kd.R_form hr (by decide); rw [show wordsL.length = 32 from rfl] at ev; subst ev; have HB1 := Aside0.mk hb1; have c1 := (Kd.R_celln ByteArray.empty hr a a0 d2).1; rw [HWD.out] at c1; clear hr hb1) | (go_at_call 40; refine (sacristanref01_Ones.calls onesL _ ones_f).mono ?_; rintro e w2 ⟨v2, rfl, hr2, hb2⟩; have HR2 := Aside0.mk (Kd.R_lower hr2 HB1.out.size); have HB2 := Aside0.mk (below_then HB1.out HB1.out.size hb2); clear hr2 hb2) | (go_at_call 41; refine (sacristanref01_Twos.calls twosL _ twos_f).mono ?_; rintro e w3 ⟨v3, rfl, hr3, hb3⟩; have HR23 := Aside0.mk (Kd.R_below HR2.out hb3); have HB3 := Aside0.mk (below_then HB2.out HB2.out.size hb3); obtain ⟨A3, c3, e3⟩ := Kd.R_slice hr3; subst e3; have HR3 := Aside0.mk (Kd.R_reads' hr3); clear hr3 hb3) | ((with_reducible refine gate_builtin (b := .append) (xs := #[.tmp 16, .tmp 17]) rfl ?_); at_builtin; go_loud (refine Kd.R_append_rows Kd.string (w0 := w) w.heap.size rfl (.tmp 16) (.tmp 17) 22 9 (.string ⟨#[]⟩) 16 rfl Tryd.underlying22 info9 rfl (by decide) (by omega) v2 onesL twosL A3 twosL.length c3 (fun _ => True) (fun _ => False) rfl rfl HR23.out HR3.out.2.2 (fun x cs h => h) (fun _ hk => hk.elim) (fun _ _ => trivial) HB3.out HB3.out.size (by decide) ?_; intro v4 w4 hr4 hb4 hg hat; rw [HL.out] at hr4; obtain ⟨g4, c4, e4, _⟩ := Kd.R_form hr4 (by have := HLL.out; omega); subst e4; have HR4 := Aside0.mk hr4; have HB4 := Aside0.mk hb4; clear hr4 hb4 hg hat)))
  go_loop [21] (fun s21 => ∃ i : Nat, i ≤ L.length ∧ s21 = .int .i64 (i : Int) ∧ Aside0 (anyT (L.take i) wd = false)) (fun s21 => L.length - (intOf s21).toNat)
  case atStart => exact ⟨0, by omega, rfl, ⟨by rw [List.take_zero]; rfl⟩⟩
  case round =>
    obtain ⟨i, hi, rfl, hno⟩ := hrel
    by_cases hlt : i < L.length
    · have hx := (Kd.R_celln ByteArray.empty HR4.out (i : Int) (by omega) (by omega)).1
      rw [rdS_at hlt, Int.toNat_natCast] at hx
      obtain ⟨y, hy⟩ : ∃ y, L[i] = y := ⟨_, rfl⟩
      rw [hy] at hx
      have b0 : (0 : Int) ≤ (i : Int) := by omega
      have b1 : (i : Int) < (L.length : Int) := by omega
      cases d : (y.toList == wd.toList) with
      | true =>
        obtain rfl : r = true := by rw [← HB.out]; exact anyT_yes hlt (by rw [hy]; exact d)
        clear hy hlt hi
        go_wp2_with fail
        go_ret
        exact ⟨rfl, HB4.out⟩
      | false =>
        have HN := Aside0.mk (anyT_no hlt hno.out (by rw [hy]; exact d))
        have HI := Aside0.mk (show i + 1 ≤ L.length from hlt)
        clear hy hlt hi
        go_wp2_with fail
        go_round
        case rel => exact ⟨i + 1, HI.out, by go_num, HN⟩
        case measure => have := HI.out; simp [intOf]; omega
    · obtain rfl : i = L.length := by omega
      obtain rfl : r = false := by rw [← HB.out]; have := hno.out; rw [List.take_length] at this; exact this
      clear hlt hi
      go_wp2_with fail
      go_ret
      exact ⟨rfl, HB4.out⟩
end Go.Proofs.YtfncoldcjhkhiaaDoor.NW
