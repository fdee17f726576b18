/- sacristanref15.inst: which instruction may be. -/
import Derived.Test.YtjkjbfhhfdbnoaaSj
namespace Go.Proofs.Ytjkjbfhhfdbnoaa.NW
open Go.RowKit Go.Proofs.YtjkjbfhhfdbnoaaW.PrintWords Go.Proofs.YtjkjbfhhfdbnoaaW.PrintMore Go.Proofs.Ytjkjbfhhfdbnoaa.PB
set_option linter.unusedVariables false
set_option linter.unusedSimpArgs false
theorem inOnes_calls (wd : ByteArray) : ∃ l : List ByteArray, (∀ w : World, Calls Try.prog 69 #[] w fun e w' => ∃ A c, e = .returned (.slice A l.length c) ∧ l.length ≤ c ∧ Kd.C Kd.string w' A l.length l ∧ Below w.heap.size w w') ∧ (∀ (w : World) A c, Kd.C Kd.string w A l.length l → l.length ≤ c → Calls Try.prog 68 #[.string wd, .slice A l.length c] w fun e w' => e = .returned (.bool (pureB wd 1)) ∧ Below w.heap.size w w') := by
  have h := Pure.in_ones wd 40 (by omega)
  cases ho : sacristanref01_Ones.f with
  | none => rw [ho] at h; cases h
  | some l =>
    rw [ho] at h
    refine ⟨l, fun w => (sacristanref01_Ones.calls l w ho).mono fun e w' ⟨v, he, hr, hb⟩ => ?_, fun w A c hr hc => ?_⟩
    · obtain ⟨A, c, rfl, hle, hC⟩ := Kd.R_reads hr
      exact ⟨A, c, he, hle, hC, hb⟩
    · have h2 : sacristanref15_in.f 40 wd l = some (pureB wd 1) := by
        cases hi : sacristanref15_in.f 40 wd l with
        | none => simp [hi] at h
        | some b => simpa [hi] using h
      exact (sacristanref15_in.calls 40 wd A c l _ w hr hc h2).mono fun e w' h => ⟨h.1, h.2.below⟩
theorem inTwos_calls (wd : ByteArray) : ∃ l : List ByteArray, (∀ w : World, Calls Try.prog 70 #[] w fun e w' => ∃ A c, e = .returned (.slice A l.length c) ∧ l.length ≤ c ∧ Kd.C Kd.string w' A l.length l ∧ Below w.heap.size w w') ∧ (∀ (w : World) A c, Kd.C Kd.string w A l.length l → l.length ≤ c → Calls Try.prog 68 #[.string wd, .slice A l.length c] w fun e w' => e = .returned (.bool (pureB wd 2)) ∧ Below w.heap.size w w') := by
  have h := Pure.in_twos wd 40 (by omega)
  cases ho : sacristanref01_Twos.f with
  | none => rw [ho] at h; cases h
  | some l =>
    rw [ho] at h
    refine ⟨l, fun w => (sacristanref01_Twos.calls l w ho).mono fun e w' ⟨v, he, hr, hb⟩ => ?_, fun w A c hr hc => ?_⟩
    · obtain ⟨A, c, rfl, hle, hC⟩ := Kd.R_reads hr
      exact ⟨A, c, he, hle, hC, hb⟩
    · have h2 : sacristanref15_in.f 40 wd l = some (pureB wd 2) := by
        cases hi : sacristanref15_in.f 40 wd l with
        | none => simp [hi] at h
        | some b => simpa [hi] using h
      exact (sacristanref15_in.calls 40 wd A c l _ w hr hc h2).mono fun e w' h => ⟨h.1, h.2.below⟩
/-- the order of the tests, of three registers -/
def instT (op : Int) (p q r : Bool) (a b : Int) (wd : ByteArray) (t n : Int) (s : ByteArray) (g : Int) : Bool :=
  if op = 1 then (if p = true then (if t ≤ 3 then mayB t n s else false) else false)
  else if op = 2 then (if p = true then q else false)
  else if op = 3 then (if p = true then (if q = true then pureB wd 1 else false) else false)
  else if op = 4 then (if p = true then (if q = true then (if r = true then pureB wd 2 else false) else false) else false)
  else if op = 5 then (if p = true then decide (0 ≤ a) else false)
  else if op = 6 then true
  else if op = 7 then (if p = true then (if 0 ≤ a then (if 0 ≤ b then decide (b < g) else false) else false) else false)
  else if op = 8 then q else false
theorem instT_eq (R op d a b : Int) (wd : ByteArray) (t n : Int) (s : ByteArray) (g : Int) : instB R op d a b wd t n s g = instT op (regB R d) (regB R a) (regB R b) a b wd t n s g := rfl
set_option maxHeartbeats 3200000 in
set_option maxRecDepth 1000000 in
theorem instR_calls (z0 z1 z2 z4 z7 z8 z9 : Int) (A3 A5 A6 : Option Addr) (n3 c3 n5 c5 n6 c6 : Nat) (op d a b : Int) (wd : ByteArray) (t n : Int) (s : ByteArray) (g : Int) (w : World) :
    Calls Try.prog 45 #[.agg #[.int .i64 z0, .int .i64 z1, .int .i64 z2, .slice A3 n3 c3, .int .i64 z4, .slice A5 n5 c5, .slice A6 n6 c6, .int .i64 z7, .int .i64 z8, .int .i64 z9], .agg #[.int .u8 op, .int .i64 d, .int .i64 a, .int .i64 b, .string wd, .int .u8 t, .int .i64 n, .string s], .int .i64 g] w fun e w' => e = .returned (.bool (instB z2 op d a b wd t n s g)) ∧ Below w.heap.size w w' := by
  have hb1 := below_alloc (below_alloc (Below.refl w.heap.size w) (.cells #[.int .i64 z0, .int .i64 z1, .int .i64 z2, .slice A3 n3 c3, .int .i64 z4, .slice A5 n5 c5, .slice A6 n6 c6, .int .i64 z7, .int .i64 z8, .int .i64 z9] 25)) (.cells #[.int .u8 op, .int .i64 d, .int .i64 a, .int .i64 b, .string wd, .int .u8 t, .int .i64 n, .string s] 39)
  have hI : ((w.alloc (.cells #[.int .i64 z0, .int .i64 z1, .int .i64 z2, .slice A3 n3 c3, .int .i64 z4, .slice A5 n5 c5, .slice A6 n6 c6, .int .i64 z7, .int .i64 z8, .int .i64 z9] 25)).alloc (.cells #[.int .u8 op, .int .i64 d, .int .i64 a, .int .i64 b, .string wd, .int .u8 t, .int .i64 n, .string s] 39)).heap[w.heap.size]? = _ := blk_alloc (blk_new w (.cells #[.int .i64 z0, .int .i64 z1, .int .i64 z2, .slice A3 n3 c3, .int .i64 z4, .slice A5 n5 c5, .slice A6 n6 c6, .int .i64 z7, .int .i64 z8, .int .i64 z9] 25)) (.cells #[.int .u8 op, .int .i64 d, .int .i64 a, .int .i64 b, .string wd, .int .u8 t, .int .i64 n, .string s] 39)
  have hJ := blk_new2 w (.cells #[.int .i64 z0, .int .i64 z1, .int .i64 z2, .slice A3 n3 c3, .int .i64 z4, .slice A5 n5 c5, .slice A6 n6 c6, .int .i64 z7, .int .i64 z8, .int .i64 z9] 25) (.cells #[.int .u8 op, .int .i64 d, .int .i64 a, .int .i64 b, .string wd, .int .u8 t, .int .i64 n, .string s] 39)
  have HB1 := Aside0.mk hb1
  have HI := Aside0.mk hI
  have HJ := Aside0.mk hJ
  clear hb1 hI hJ
  obtain ⟨lo, ho1, ho2⟩ := inOnes_calls wd
  obtain ⟨lt, ht1, ht2⟩ := inTwos_calls wd
  have HO1 := Aside0.mk ho1
  have HO2 := Aside0.mk ho2
  have HT1 := Aside0.mk ht1
  have HT2 := Aside0.mk ht2
  clear ho1 ho2 ht1 ht2
  rw [instT_eq]
  generalize hp : regB z2 d = p
  generalize hq : regB z2 a = q
  generalize hr : regB z2 b = r
  have HPp := Aside0.mk hp
  have HQq := Aside0.mk hq
  have HRr := Aside0.mk hr
  clear hp hq hr
  generalize hres : instT op p q r a b wd t n s g = res
  have HRES := Aside0.mk hres
  clear hres
  go_enter Try.func45, Try.ntmps45
  go_upto_region 1 with fail
  generalize (w.alloc (.cells #[.int .i64 z0, .int .i64 z1, .int .i64 z2, .slice A3 n3 c3, .int .i64 z4, .slice A5 n5 c5, .slice A6 n6 c6, .int .i64 z7, .int .i64 z8, .int .i64 z9] 25)).alloc (.cells #[.int .u8 op, .int .i64 d, .int .i64 a, .int .i64 b, .string wd, .int .u8 t, .int .i64 n, .string s] 39) = w1 at HB1 HI HJ ⊢
  generalize w.heap.size = gb at HI HJ ⊢
  have i2 := (blk_cell HI.out 2).trans rfl
  have j0 := (blk_cell HJ.out 0).trans rfl
  have j1 := (blk_cell HJ.out 1).trans rfl
  have j2 := (blk_cell HJ.out 2).trans rfl
  have j3 := (blk_cell HJ.out 3).trans rfl
  have j4 := (blk_cell HJ.out 4).trans rfl
  have j5 := (blk_cell HJ.out 5).trans rfl
  have j6 := (blk_cell HJ.out 6).trans rfl
  have j7 := (blk_cell HJ.out 7).trans rfl
  go_cut [7] from 10 to 19 (fun u wc => u = .bool p ∧ Aside0 (wc = w1))
  case first =>
    have hv := HPp.out
    unfold regB at hv
    by_cases h0 : 0 ≤ d
    · rw [if_pos h0] at hv
      subst hv
      have e0 : decide (0 ≤ d) = true := decide_eq_true h0
      clear h0
      go_wp2_with fail
      go_meet
      case rel => exact ⟨rfl, ⟨rfl⟩⟩
    · rw [if_neg h0] at hv
      subst hv
      have e0 : decide (0 ≤ d) = false := decide_eq_false h0
      clear h0
      go_wp2_with fail
      go_meet
      case rel => exact ⟨rfl, ⟨rfl⟩⟩
  case rest =>
  obtain ⟨rfl, hw⟩ := hcut
  obtain rfl := hw.out.symm
  clear hw HPp
  go_upto_region 2 with fail
  go_cut [8] from 20 to 29 (fun u wc => u = .bool q ∧ Aside0 (wc = w1))
  case first =>
    have hv := HQq.out
    unfold regB at hv
    by_cases h0 : 0 ≤ a
    · rw [if_pos h0] at hv
      subst hv
      have e0 : decide (0 ≤ a) = true := decide_eq_true h0
      clear h0
      go_wp2_with fail
      go_meet
      case rel => exact ⟨rfl, ⟨rfl⟩⟩
    · rw [if_neg h0] at hv
      subst hv
      have e0 : decide (0 ≤ a) = false := decide_eq_false h0
      clear h0
      go_wp2_with fail
      go_meet
      case rel => exact ⟨rfl, ⟨rfl⟩⟩
  case rest =>
  obtain ⟨rfl, hw⟩ := hcut
  obtain rfl := hw.out.symm
  clear hw HQq
  go_upto_region 3 with fail
  go_cut [9] from 30 to 39 (fun u wc => u = .bool r ∧ Aside0 (wc = w1))
  case first =>
    have hv := HRr.out
    unfold regB at hv
    by_cases h0 : 0 ≤ b
    · rw [if_pos h0] at hv
      subst hv
      have e0 : decide (0 ≤ b) = true := decide_eq_true h0
      clear h0
      go_wp2_with fail
      go_meet
      case rel => exact ⟨rfl, ⟨rfl⟩⟩
    · rw [if_neg h0] at hv
      subst hv
      have e0 : decide (0 ≤ b) = false := decide_eq_false h0
      clear h0
      go_wp2_with fail
      go_meet
      case rel => exact ⟨rfl, ⟨rfl⟩⟩
  case rest =>
  obtain ⟨rfl, hw⟩ := hcut
  obtain rfl := hw.out.symm
  clear hw HRr
  have hops : op = 1 ∨ op = 2 ∨ op = 3 ∨ op = 4 ∨ op = 5 ∨ op = 6 ∨ op = 7 ∨ op = 8 ∨ (op ≠ 1 ∧ op ≠ 2 ∧ op ≠ 3 ∧ op ≠ 4 ∧ op ≠ 5 ∧ op ≠ 6 ∧ op ≠ 7 ∧ op ≠ 8) := by omega
  rcases hops with rfl | rfl | rfl | rfl | rfl | rfl | rfl | rfl | ⟨h1, h2, h3, h4, h5, h6, h7, h8⟩
  · cases p with
    | false =>
      go_wp2_with fail
      go_ret
      exact ⟨by first | rfl | exact congrArg (fun z => Ending.returned (.bool z)) HRES.out, HB1.out⟩
    | true =>
      have hr9 : (if t ≤ 3 then mayB t n s else false) = res := HRES.out
      by_cases h3 : t ≤ 3
      · rw [if_pos h3] at hr9
        subst hr9
        have e3 : decide (t ≤ 3) = true := decide_eq_true h3
        clear h3
        go_wp2_with (first | (go_at_call 63; (with_reducible refine (sacristanref01_May.calls 4 t n s _ w1 (Pure.rmay_f t n s 4 (by omega))).mono ?_); rintro e w2 ⟨rfl, hb2⟩; have HB2 := Aside0.mk (below_then HB1.out HB1.out.size hb2); clear hb2))
        go_ret
        exact ⟨rfl, HB2.out⟩
      · rw [if_neg h3] at hr9
        subst hr9
        have e3 : decide (t ≤ 3) = false := decide_eq_false h3
        clear h3
        go_wp2_with fail
        go_ret
        exact ⟨by first | rfl | exact congrArg (fun z => Ending.returned (.bool z)) HRES.out, HB1.out⟩
  · cases p with
    | false =>
      go_wp2_with fail
      go_ret
      exact ⟨by first | rfl | exact congrArg (fun z => Ending.returned (.bool z)) HRES.out, HB1.out⟩
    | true =>
      have hr9 : q = res := HRES.out
      subst hr9
      go_wp2_with fail
      go_ret
      exact ⟨by first | rfl | exact congrArg (fun z => Ending.returned (.bool z)) HRES.out, HB1.out⟩
  · cases p with
    | false =>
      go_wp2_with fail
      go_quiet (fail)
      go_wp2_with fail
      go_ret
      exact ⟨by first | rfl | exact congrArg (fun z => Ending.returned (.bool z)) HRES.out, pw_below_drewN HB1.out _⟩
    | true =>
      cases q with
      | false =>
        go_wp2_with fail
        go_quiet (fail)
        go_wp2_with fail
        go_ret
        exact ⟨by first | rfl | exact congrArg (fun z => Ending.returned (.bool z)) HRES.out, pw_below_drewN HB1.out _⟩
      | true =>
        have hr9 : pureB wd 1 = res := HRES.out
        subst hr9
        have S0 : w1.cell? ⟨gb + 1, 4, none⟩ = some (.string wd) := j4
        go_upto_region 10 with fail
        go_region_held3 (fun W' => W'.cell? ⟨gb + 1, 4, none⟩ = some (.string wd)) (first | exact S0 | exact S2 | exact S3 | fail)
          (first
          | (go_at_call 69; (with_reducible refine (HO1.out _).mono ?_); rintro e w2 ⟨A, c, rfl, k1, k2, hb2⟩; have K1 := Aside0.mk k1; have K2 := Aside0.mk k2; have HB2 := Aside0.mk ((below_drew (Below.refl w1.heap.size w1)).trans hb2); have S2 : w2.cell? ⟨gb + 1, 4, none⟩ = some (.string wd) := (HB2.out.cell (World.block_lt_of_cell? w1 _ S0)).trans S0; clear k1 k2 hb2)
          | (go_at_call 68; (with_reducible refine (HO2.out w2 A c K2.out K1.out).mono ?_); rintro e w3 ⟨rfl, hb3⟩; have HB3 := Aside0.mk (below_then HB2.out HB2.out.size hb3); have S3 : w3.cell? ⟨gb + 1, 4, none⟩ = some (.string wd) := (HB3.out.cell (World.block_lt_of_cell? w1 _ S0)).trans S0; clear hb3))
        all_goals
          go_wp2_with fail
          go_ret
          exact ⟨rfl, below_then HB1.out HB1.out.size HB3.out⟩
  · cases p with
    | false =>
      go_wp2_with fail
      go_quiet (fail)
      go_wp2_with fail
      go_ret
      exact ⟨by first | rfl | exact congrArg (fun z => Ending.returned (.bool z)) HRES.out, pw_below_drewN HB1.out _⟩
    | true =>
      cases q with
      | false =>
        go_wp2_with fail
        go_quiet (fail)
        go_wp2_with fail
        go_ret
        exact ⟨by first | rfl | exact congrArg (fun z => Ending.returned (.bool z)) HRES.out, pw_below_drewN HB1.out _⟩
      | true =>
        cases r with
        | false =>
          go_wp2_with fail
          go_quiet (fail)
          go_wp2_with fail
          go_ret
          exact ⟨by first | rfl | exact congrArg (fun z => Ending.returned (.bool z)) HRES.out, pw_below_drewN HB1.out _⟩
        | true =>
          have hr9 : pureB wd 2 = res := HRES.out
          subst hr9
          have S0 : w1.cell? ⟨gb + 1, 4, none⟩ = some (.string wd) := j4
          go_upto_region 12 with fail
          go_region_held3 (fun W' => W'.cell? ⟨gb + 1, 4, none⟩ = some (.string wd)) (first | exact S0 | exact S2 | exact S3 | fail)
            (first
            | (go_at_call 70; (with_reducible refine (HT1.out _).mono ?_); rintro e w2 ⟨A, c, rfl, k1, k2, hb2⟩; have K1 := Aside0.mk k1; have K2 := Aside0.mk k2; have HB2 := Aside0.mk ((below_drew (Below.refl w1.heap.size w1)).trans hb2); have S2 : w2.cell? ⟨gb + 1, 4, none⟩ = some (.string wd) := (HB2.out.cell (World.block_lt_of_cell? w1 _ S0)).trans S0; clear k1 k2 hb2)
            | (go_at_call 68; (with_reducible refine (HT2.out w2 A c K2.out K1.out).mono ?_); rintro e w3 ⟨rfl, hb3⟩; have HB3 := Aside0.mk (below_then HB2.out HB2.out.size hb3); have S3 : w3.cell? ⟨gb + 1, 4, none⟩ = some (.string wd) := (HB3.out.cell (World.block_lt_of_cell? w1 _ S0)).trans S0; clear hb3))
          all_goals
            go_wp2_with fail
            go_ret
            exact ⟨rfl, below_then HB1.out HB1.out.size HB3.out⟩
  · cases p with
    | false =>
      go_wp2_with fail
      go_ret
      exact ⟨by first | rfl | exact congrArg (fun z => Ending.returned (.bool z)) HRES.out, HB1.out⟩
    | true =>
      have hr9 : decide (0 ≤ a) = res := HRES.out
      subst hr9
      go_wp2_with fail
      go_ret
      exact ⟨by first | rfl | exact congrArg (fun z => Ending.returned (.bool z)) HRES.out, HB1.out⟩
  · go_wp2_with fail
    go_ret
    exact ⟨by first | rfl | exact congrArg (fun z => Ending.returned (.bool z)) HRES.out, HB1.out⟩
  · cases p with
    | false =>
      go_wp2_with fail
      go_ret
      exact ⟨by first | rfl | exact congrArg (fun z => Ending.returned (.bool z)) HRES.out, HB1.out⟩
    | true =>
      have hr9 : (if 0 ≤ a then (if 0 ≤ b then decide (b < g) else false) else false) = res := HRES.out
      by_cases ha : 0 ≤ a
      · rw [if_pos ha] at hr9
        have ea : decide (0 ≤ a) = true := decide_eq_true ha
        clear ha
        by_cases hb : 0 ≤ b
        · rw [if_pos hb] at hr9
          subst hr9
          have eb : decide (0 ≤ b) = true := decide_eq_true hb
          clear hb
          go_wp2_with fail
          go_ret
          exact ⟨by first | rfl | exact congrArg (fun z => Ending.returned (.bool z)) HRES.out, HB1.out⟩
        · rw [if_neg hb] at hr9
          subst hr9
          have eb : decide (0 ≤ b) = false := decide_eq_false hb
          clear hb
          go_wp2_with fail
          go_ret
          exact ⟨by first | rfl | exact congrArg (fun z => Ending.returned (.bool z)) HRES.out, HB1.out⟩
      · rw [if_neg ha] at hr9
        subst hr9
        have ea : decide (0 ≤ a) = false := decide_eq_false ha
        clear ha
        go_wp2_with fail
        go_ret
        exact ⟨by first | rfl | exact congrArg (fun z => Ending.returned (.bool z)) HRES.out, HB1.out⟩
  · have hr9 : q = res := HRES.out
    subst hr9
    go_wp2_with fail
    go_ret
    exact ⟨by first | rfl | exact congrArg (fun z => Ending.returned (.bool z)) HRES.out, HB1.out⟩
  · have hr9 := HRES.out
    unfold instT at hr9
    rw [if_neg h1, if_neg h2, if_neg h3, if_neg h4, if_neg h5, if_neg h6, if_neg h7, if_neg h8] at hr9
    subst hr9
    have e1 : (op == 1) = false := by simpa using h1
    have e2 : (op == 2) = false := by simpa using h2
    have e3 : (op == 3) = false := by simpa using h3
    have e4 : (op == 4) = false := by simpa using h4
    have e5 : (op == 5) = false := by simpa using h5
    have e6 : (op == 6) = false := by simpa using h6
    have e7 : (op == 7) = false := by simpa using h7
    have e8 : (op == 8) = false := by simpa using h8
    clear h1 h2 h3 h4 h5 h6 h7 h8
    go_wp2_with fail
    go_ret
    exact ⟨by first | rfl | exact congrArg (fun z => Ending.returned (.bool z)) HRES.out, HB1.out⟩
end Go.Proofs.Ytjkjbfhhfdbnoaa.NW
