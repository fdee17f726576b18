/- ir.inst: which instruction may be. -/
import Derived.Test.YtjkjbfhhfdbnoaaRb
namespace Go.Proofs.Ytjkjbfhhfdbnoaa.NW
open Go.RowKit Go.Proofs.YtjkjbfhhfdbnoaaW.PrintWords
set_option linter.unusedVariables false
set_option linter.unusedSimpArgs false

/-- ir.inst -/
def instB (R op d a b : Int) (wd : ByteArray) (t n : Int) (s : ByteArray) (g : Int) : Bool :=
  if op = 1 then (if regB R d = true then (if t ≤ 3 then mayB t n s else false) else false)
  else if op = 2 then (if regB R d = true then regB R a else false)
  else if op = 3 then (if regB R d = true then (if regB R a = true then pureB wd 1 else false) else false)
  else if op = 4 then (if regB R d = true then (if regB R a = true then (if regB R b = true then pureB wd 2 else false) else false) else false)
  else if op = 5 then (if regB R d = true then decide (0 ≤ a) else false)
  else if op = 6 then true
  else if op = 7 then (if regB R d = true then (if 0 ≤ a then (if 0 ≤ b then decide (b < g) else false) else false) else false)
  else if op = 8 then regB R a else false

abbrev Blk (z0 z1 z2 : Int) (v3 : Value) (z4 : Int) (v5 v6 : Value) (z7 z8 z9 : Int) : Value := .agg #[.int .i64 z0, .int .i64 z1, .int .i64 z2, v3, .int .i64 z4, v5, v6, .int .i64 z7, .int .i64 z8, .int .i64 z9]

set_option maxHeartbeats 1600000 in
set_option maxRecDepth 1000000 in
theorem inst_calls (z0 z1 z2 z4 z7 z8 z9 : Int) (A3 A5 A6 : Option Addr) (n3 c3 n5 c5 n6 c6 : Nat) (op d a b : Int) (wd : ByteArray) (t n : Int) (s : ByteArray) (g : Int) (w : World) (hs : wd.size ≤ 4294967000) (hM : MaxOk w) :
    Calls Try.prog 64 #[.agg #[.int .i64 z0, .int .i64 z1, .int .i64 z2, .slice A3 n3 c3, .int .i64 z4, .slice A5 n5 c5, .slice A6 n6 c6, .int .i64 z7, .int .i64 z8, .int .i64 z9], .agg #[.int .u8 op, .int .i64 d, .int .i64 a, .int .i64 b, .string wd, .int .u8 t, .int .i64 n, .string s], .int .i64 g] w fun e w' => e = .returned (.bool (instB z2 op d a b wd t n s g)) ∧ Below w.heap.size w w' := by
  have HM := Aside0.mk hM
  clear hM
  have hA : Below w.heap.size w ((w.alloc (.cells #[.int .i64 z0, .int .i64 z1, .int .i64 z2, .slice A3 n3 c3, .int .i64 z4, .slice A5 n5 c5, .slice A6 n6 c6, .int .i64 z7, .int .i64 z8, .int .i64 z9] 25)).alloc (.cells #[.int .u8 op, .int .i64 d, .int .i64 a, .int .i64 b, .string wd, .int .u8 t, .int .i64 n, .string s] 39)) := ((Below.refl _ w).alloc (Nat.le_refl _) _).alloc (by simp) _
  have HA := Aside0.mk hA
  have HM1 := Aside0.mk (HM.out.below hA)
  clear hA HM
  by_cases h1 : op = 1
  · subst h1
    cases r1 : regB z2 d with
    | true =>
      rw [show instB z2 1 d a b wd t n s g = (if t ≤ 3 then mayB t n s else false) by unfold instB; rw [if_pos rfl, if_pos r1]]
      have R1 := Aside0.mk r1
      clear r1
      by_cases ht : t ≤ 3
      · rw [if_pos ht]
        go_enter Try.func64, Try.ntmps64
        go_wp2_with fail
        refine Calls.mono (reg_calls _ z2 _ _ (by first | (go_simp; done) | (go_simp; rfl))) ?_
        rintro e w' ⟨rfl, rfl⟩
        rw [R1.out]
        go_wp2_with fail
        refine Calls.mono (vmay_calls _ _ _ _) ?_
        rintro e w1 ⟨rfl, hb⟩
        have hb2 := HA.out.trans (hb.mono HA.out.size)
        clear hb
        go_wp2_with fail
        go_ret
        exact ⟨rfl, hb2⟩
      · rw [if_neg ht]
        go_enter Try.func64, Try.ntmps64
        go_wp2_with fail
        refine Calls.mono (reg_calls _ z2 _ _ (by first | (go_simp; done) | (go_simp; rfl))) ?_
        rintro e w' ⟨rfl, rfl⟩
        rw [R1.out]
        go_wp2_with fail
        go_ret
        exact ⟨by first | rfl | (simp; done) | (simp; omega) | (simp [*]; done), HA.out⟩
    | false =>
      rw [show instB z2 1 d a b wd t n s g = false by unfold instB; rw [if_pos rfl, if_neg (by rw [r1]; decide)]]
      have R1 := Aside0.mk r1
      clear r1
      go_enter Try.func64, Try.ntmps64
      go_wp2_with fail
      refine Calls.mono (reg_calls _ z2 _ _ (by first | (go_simp; done) | (go_simp; rfl))) ?_
      rintro e w' ⟨rfl, rfl⟩
      rw [R1.out]
      go_wp2_with fail
      go_ret
      exact ⟨by first | rfl | (simp; done) | (simp; omega) | (simp [*]; done), HA.out⟩
  · by_cases h2 : op = 2
    · subst h2
      cases r1 : regB z2 d with
      | true =>
        rw [show instB z2 2 d a b wd t n s g = regB z2 a by unfold instB; rw [if_neg h1, if_pos rfl, if_pos r1]]
        have R1 := Aside0.mk r1
        clear r1
        go_enter Try.func64, Try.ntmps64
        go_wp2_with fail
        refine Calls.mono (reg_calls _ z2 _ _ (by first | (go_simp; done) | (go_simp; rfl))) ?_
        rintro e w' ⟨rfl, rfl⟩
        rw [R1.out]
        go_wp2_with fail
        refine Calls.mono (reg_calls _ z2 _ _ (by first | (go_simp; done) | (go_simp; rfl))) ?_
        rintro e w' ⟨rfl, rfl⟩
        go_wp2_with fail
        go_ret
        exact ⟨by first | rfl | (simp; done) | (simp; omega) | (simp [*]; done), HA.out⟩
      | false =>
        rw [show instB z2 2 d a b wd t n s g = false by unfold instB; rw [if_neg h1, if_pos rfl, if_neg (by rw [r1]; decide)]]
        have R1 := Aside0.mk r1
        clear r1
        go_enter Try.func64, Try.ntmps64
        go_wp2_with fail
        refine Calls.mono (reg_calls _ z2 _ _ (by first | (go_simp; done) | (go_simp; rfl))) ?_
        rintro e w' ⟨rfl, rfl⟩
        rw [R1.out]
        go_wp2_with fail
        go_ret
        exact ⟨by first | rfl | (simp; done) | (simp; omega) | (simp [*]; done), HA.out⟩
    · by_cases h3 : op = 3
      · subst h3
        cases r1 : regB z2 d with
        | true =>
          cases r2 : regB z2 a with
          | true =>
            rw [show instB z2 3 d a b wd t n s g = pureB wd 1 by unfold instB; rw [if_neg h1, if_neg h2, if_pos rfl, if_pos r1, if_pos r2]]
            have R1 := Aside0.mk r1
            clear r1
            have R2 := Aside0.mk r2
            clear r2
            go_enter Try.func64, Try.ntmps64
            go_wp2_with fail
            refine Calls.mono (reg_calls _ z2 _ _ (by first | (go_simp; done) | (go_simp; rfl))) ?_
            rintro e w' ⟨rfl, rfl⟩
            rw [R1.out]
            go_wp2_with fail
            refine Calls.mono (reg_calls _ z2 _ _ (by first | (go_simp; done) | (go_simp; rfl))) ?_
            rintro e w' ⟨rfl, rfl⟩
            rw [R2.out]
            go_wp2_with fail
            refine Calls.mono (pure_calls _ _ _ hs HM1.out) ?_
            rintro e w1 ⟨rfl, hb⟩
            have hb2 := HA.out.trans (hb.mono HA.out.size)
            clear hb
            go_wp2_with fail
            go_ret
            exact ⟨rfl, hb2⟩
          | false =>
            rw [show instB z2 3 d a b wd t n s g = false by unfold instB; rw [if_neg h1, if_neg h2, if_pos rfl, if_pos r1, if_neg (by rw [r2]; decide)]]
            have R1 := Aside0.mk r1
            clear r1
            have R2 := Aside0.mk r2
            clear r2
            go_enter Try.func64, Try.ntmps64
            go_wp2_with fail
            refine Calls.mono (reg_calls _ z2 _ _ (by first | (go_simp; done) | (go_simp; rfl))) ?_
            rintro e w' ⟨rfl, rfl⟩
            rw [R1.out]
            go_wp2_with fail
            refine Calls.mono (reg_calls _ z2 _ _ (by first | (go_simp; done) | (go_simp; rfl))) ?_
            rintro e w' ⟨rfl, rfl⟩
            rw [R2.out]
            go_wp2_with fail
            go_ret
            exact ⟨by first | rfl | (simp; done) | (simp; omega) | (simp [*]; done), HA.out⟩
        | false =>
          rw [show instB z2 3 d a b wd t n s g = false by unfold instB; rw [if_neg h1, if_neg h2, if_pos rfl, if_neg (by rw [r1]; decide)]]
          have R1 := Aside0.mk r1
          clear r1
          go_enter Try.func64, Try.ntmps64
          go_wp2_with fail
          refine Calls.mono (reg_calls _ z2 _ _ (by first | (go_simp; done) | (go_simp; rfl))) ?_
          rintro e w' ⟨rfl, rfl⟩
          rw [R1.out]
          go_wp2_with fail
          go_ret
          exact ⟨by first | rfl | (simp; done) | (simp; omega) | (simp [*]; done), HA.out⟩
      · by_cases h4 : op = 4
        · subst h4
          cases r1 : regB z2 d with
          | true =>
            cases r2 : regB z2 a with
            | true =>
              cases r3 : regB z2 b with
              | true =>
                rw [show instB z2 4 d a b wd t n s g = pureB wd 2 by unfold instB; rw [if_neg h1, if_neg h2, if_neg h3, if_pos rfl, if_pos r1, if_pos r2, if_pos r3]]
                have R1 := Aside0.mk r1
                clear r1
                have R2 := Aside0.mk r2
                clear r2
                have R3 := Aside0.mk r3
                clear r3
                go_enter Try.func64, Try.ntmps64
                go_wp2_with fail
                refine Calls.mono (reg_calls _ z2 _ _ (by first | (go_simp; done) | (go_simp; rfl))) ?_
                rintro e w' ⟨rfl, rfl⟩
                rw [R1.out]
                go_wp2_with fail
                refine Calls.mono (reg_calls _ z2 _ _ (by first | (go_simp; done) | (go_simp; rfl))) ?_
                rintro e w' ⟨rfl, rfl⟩
                rw [R2.out]
                go_wp2_with fail
                refine Calls.mono (reg_calls _ z2 _ _ (by first | (go_simp; done) | (go_simp; rfl))) ?_
                rintro e w' ⟨rfl, rfl⟩
                rw [R3.out]
                go_wp2_with fail
                refine Calls.mono (pure_calls _ _ _ hs HM1.out) ?_
                rintro e w1 ⟨rfl, hb⟩
                have hb2 := HA.out.trans (hb.mono HA.out.size)
                clear hb
                go_wp2_with fail
                go_ret
                exact ⟨rfl, hb2⟩
              | false =>
                rw [show instB z2 4 d a b wd t n s g = false by unfold instB; rw [if_neg h1, if_neg h2, if_neg h3, if_pos rfl, if_pos r1, if_pos r2, if_neg (by rw [r3]; decide)]]
                have R1 := Aside0.mk r1
                clear r1
                have R2 := Aside0.mk r2
                clear r2
                have R3 := Aside0.mk r3
                clear r3
                go_enter Try.func64, Try.ntmps64
                go_wp2_with fail
                refine Calls.mono (reg_calls _ z2 _ _ (by first | (go_simp; done) | (go_simp; rfl))) ?_
                rintro e w' ⟨rfl, rfl⟩
                rw [R1.out]
                go_wp2_with fail
                refine Calls.mono (reg_calls _ z2 _ _ (by first | (go_simp; done) | (go_simp; rfl))) ?_
                rintro e w' ⟨rfl, rfl⟩
                rw [R2.out]
                go_wp2_with fail
                refine Calls.mono (reg_calls _ z2 _ _ (by first | (go_simp; done) | (go_simp; rfl))) ?_
                rintro e w' ⟨rfl, rfl⟩
                rw [R3.out]
                go_wp2_with fail
                go_ret
                exact ⟨by first | rfl | (simp; done) | (simp; omega) | (simp [*]; done), HA.out⟩
            | false =>
              rw [show instB z2 4 d a b wd t n s g = false by unfold instB; rw [if_neg h1, if_neg h2, if_neg h3, if_pos rfl, if_pos r1, if_neg (by rw [r2]; decide)]]
              have R1 := Aside0.mk r1
              clear r1
              have R2 := Aside0.mk r2
              clear r2
              go_enter Try.func64, Try.ntmps64
              go_wp2_with fail
              refine Calls.mono (reg_calls _ z2 _ _ (by first | (go_simp; done) | (go_simp; rfl))) ?_
              rintro e w' ⟨rfl, rfl⟩
              rw [R1.out]
              go_wp2_with fail
              refine Calls.mono (reg_calls _ z2 _ _ (by first | (go_simp; done) | (go_simp; rfl))) ?_
              rintro e w' ⟨rfl, rfl⟩
              rw [R2.out]
              go_wp2_with fail
              go_ret
              exact ⟨by first | rfl | (simp; done) | (simp; omega) | (simp [*]; done), HA.out⟩
          | false =>
            rw [show instB z2 4 d a b wd t n s g = false by unfold instB; rw [if_neg h1, if_neg h2, if_neg h3, if_pos rfl, if_neg (by rw [r1]; decide)]]
            have R1 := Aside0.mk r1
            clear r1
            go_enter Try.func64, Try.ntmps64
            go_wp2_with fail
            refine Calls.mono (reg_calls _ z2 _ _ (by first | (go_simp; done) | (go_simp; rfl))) ?_
            rintro e w' ⟨rfl, rfl⟩
            rw [R1.out]
            go_wp2_with fail
            go_ret
            exact ⟨by first | rfl | (simp; done) | (simp; omega) | (simp [*]; done), HA.out⟩
        · by_cases h5 : op = 5
          · subst h5
            cases r1 : regB z2 d with
            | true =>
              rw [show instB z2 5 d a b wd t n s g = decide (0 ≤ a) by unfold instB; rw [if_neg h1, if_neg h2, if_neg h3, if_neg h4, if_pos rfl, if_pos r1]]
              have R1 := Aside0.mk r1
              clear r1
              go_enter Try.func64, Try.ntmps64
              go_wp2_with fail
              refine Calls.mono (reg_calls _ z2 _ _ (by first | (go_simp; done) | (go_simp; rfl))) ?_
              rintro e w' ⟨rfl, rfl⟩
              rw [R1.out]
              go_wp2_with fail
              go_ret
              exact ⟨by first | rfl | (simp; done) | (simp; omega) | (simp [*]; done), HA.out⟩
            | false =>
              rw [show instB z2 5 d a b wd t n s g = false by unfold instB; rw [if_neg h1, if_neg h2, if_neg h3, if_neg h4, if_pos rfl, if_neg (by rw [r1]; decide)]]
              have R1 := Aside0.mk r1
              clear r1
              go_enter Try.func64, Try.ntmps64
              go_wp2_with fail
              refine Calls.mono (reg_calls _ z2 _ _ (by first | (go_simp; done) | (go_simp; rfl))) ?_
              rintro e w' ⟨rfl, rfl⟩
              rw [R1.out]
              go_wp2_with fail
              go_ret
              exact ⟨by first | rfl | (simp; done) | (simp; omega) | (simp [*]; done), HA.out⟩
          · by_cases h6 : op = 6
            · subst h6
              rw [show instB z2 6 d a b wd t n s g = true by unfold instB; rw [if_neg h1, if_neg h2, if_neg h3, if_neg h4, if_neg h5, if_pos rfl]]
              go_enter Try.func64, Try.ntmps64
              go_wp2_with fail
              go_ret
              exact ⟨by first | rfl | (simp; done) | (simp; omega) | (simp [*]; done), HA.out⟩
            · by_cases h7 : op = 7
              · subst h7
                cases r1 : regB z2 d with
                | true =>
                  by_cases q1 : 0 ≤ a
                  · by_cases q2 : 0 ≤ b
                    · rw [show instB z2 7 d a b wd t n s g = decide (b < g) by unfold instB; rw [if_neg h1, if_neg h2, if_neg h3, if_neg h4, if_neg h5, if_neg h6, if_pos rfl, if_pos r1, if_pos q1, if_pos q2]]
                      have R1 := Aside0.mk r1
                      clear r1
                      go_enter Try.func64, Try.ntmps64
                      go_wp2_with fail
                      refine Calls.mono (reg_calls _ z2 _ _ (by first | (go_simp; done) | (go_simp; rfl))) ?_
                      rintro e w' ⟨rfl, rfl⟩
                      rw [R1.out]
                      go_wp2_with fail
                      go_ret
                      exact ⟨by first | rfl | (simp; done) | (simp; omega) | (simp [*]; done), HA.out⟩
                    · rw [show instB z2 7 d a b wd t n s g = false by unfold instB; rw [if_neg h1, if_neg h2, if_neg h3, if_neg h4, if_neg h5, if_neg h6, if_pos rfl, if_pos r1, if_pos q1, if_neg q2]]
                      have R1 := Aside0.mk r1
                      clear r1
                      go_enter Try.func64, Try.ntmps64
                      go_wp2_with fail
                      refine Calls.mono (reg_calls _ z2 _ _ (by first | (go_simp; done) | (go_simp; rfl))) ?_
                      rintro e w' ⟨rfl, rfl⟩
                      rw [R1.out]
                      go_wp2_with fail
                      go_ret
                      exact ⟨by first | rfl | (simp; done) | (simp; omega) | (simp [*]; done), HA.out⟩
                  · rw [show instB z2 7 d a b wd t n s g = false by unfold instB; rw [if_neg h1, if_neg h2, if_neg h3, if_neg h4, if_neg h5, if_neg h6, if_pos rfl, if_pos r1, if_neg q1]]
                    have R1 := Aside0.mk r1
                    clear r1
                    go_enter Try.func64, Try.ntmps64
                    go_wp2_with fail
                    refine Calls.mono (reg_calls _ z2 _ _ (by first | (go_simp; done) | (go_simp; rfl))) ?_
                    rintro e w' ⟨rfl, rfl⟩
                    rw [R1.out]
                    go_wp2_with fail
                    go_ret
                    exact ⟨by first | rfl | (simp; done) | (simp; omega) | (simp [*]; done), HA.out⟩
                | false =>
                  rw [show instB z2 7 d a b wd t n s g = false by unfold instB; rw [if_neg h1, if_neg h2, if_neg h3, if_neg h4, if_neg h5, if_neg h6, if_pos rfl, if_neg (by rw [r1]; decide)]]
                  have R1 := Aside0.mk r1
                  clear r1
                  go_enter Try.func64, Try.ntmps64
                  go_wp2_with fail
                  refine Calls.mono (reg_calls _ z2 _ _ (by first | (go_simp; done) | (go_simp; rfl))) ?_
                  rintro e w' ⟨rfl, rfl⟩
                  rw [R1.out]
                  go_wp2_with fail
                  go_ret
                  exact ⟨by first | rfl | (simp; done) | (simp; omega) | (simp [*]; done), HA.out⟩
              · by_cases h8 : op = 8
                · subst h8
                  rw [show instB z2 8 d a b wd t n s g = regB z2 a by unfold instB; rw [if_neg h1, if_neg h2, if_neg h3, if_neg h4, if_neg h5, if_neg h6, if_neg h7, if_pos rfl]]
                  go_enter Try.func64, Try.ntmps64
                  go_wp2_with fail
                  refine Calls.mono (reg_calls _ z2 _ _ (by first | (go_simp; done) | (go_simp; rfl))) ?_
                  rintro e w' ⟨rfl, rfl⟩
                  go_wp2_with fail
                  go_ret
                  exact ⟨by first | rfl | (simp; done) | (simp; omega) | (simp [*]; done), HA.out⟩
                · rw [show instB z2 op d a b wd t n s g = false by unfold instB; rw [if_neg h1, if_neg h2, if_neg h3, if_neg h4, if_neg h5, if_neg h6, if_neg h7, if_neg h8]]
                  go_enter Try.func64, Try.ntmps64
                  go_wp2_with fail
                  go_ret
                  exact ⟨by first | rfl | (simp; done) | (simp; omega) | (simp [*]; done), HA.out⟩
end Go.Proofs.Ytjkjbfhhfdbnoaa.NW
