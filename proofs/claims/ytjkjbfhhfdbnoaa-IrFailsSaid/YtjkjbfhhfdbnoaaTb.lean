/- put: what is reckoned is put, if it is right. -/
import Derived.Test.YtjkjbfhhfdbnoaaTa
namespace Go.Proofs.Ytjkjbfhhfdbnoaa.NW
open Go.RowKit Go.Proofs.YtjkjbfhhfdbnoaaW.PrintWords Go.Proofs.YtjkjbfhhfdbnoaaW.PrintMore Go.Proofs.Ytjkjbfhhfdbnoaa.PB
set_option linter.unusedVariables false
set_option linter.unusedSimpArgs false
section
variable {w0 W : World} {rb gr cr : Nat} {r : List S37} {vg : Value} {g : List S54} {A0 : Option Addr} {c0 : Nat} {ups : List S37} {A2 : Option Addr} {c2 : Nat} {ons : List S54}
set_option maxHeartbeats 1600000 in
set_option maxRecDepth 1000000 in
theorem put_ok (h : RunIs w0 W rb gr cr r vg g A0 c0 ups A2 c2 ons) {d : Int} (v : S37) (d0 : 0 ≤ d) (d1 : d < r.length) :
    Calls Try.prog 78 #[.pointer (some ⟨rb, 0, none⟩), .int .i64 d, .agg #[.int .u8 v.f0, .int .i64 v.f1, .string v.f2], .int .i64 0] W fun e w' => e = .returned (.tuple #[]) ∧ RunIs w0 w' rb gr cr (r.set d.toNat v) vg g A0 c0 ups A2 c2 ons := by
  have HB := Aside0.mk (below_alloc (Below.refl W.heap.size W) (.cells #[.int .u8 v.f0, .int .i64 v.f1, .string v.f2] 37))
  have HV := Aside0.mk (blk_new W (.cells #[.int .u8 v.f0, .int .i64 v.f1, .string v.f2] 37))
  have HR := Aside0.mk (h.below HB.out)
  have hm := Kd.C_max (Kd.R_reads' h.regs).2.2
  clear h
  go_enter Try.func78, Try.ntmps78
  go_upto_region 2 with (first | (go_at_call 58; (with_reducible refine (need_ok _).mono ?_); rintro e w2 ⟨rfl, rfl⟩))
  generalize W.alloc (.cells #[.int .u8 v.f0, .int .i64 v.f1, .string v.f2] 37) = wb at HB HV HR ⊢
  generalize W.heap.size = gv at HV ⊢
  obtain ⟨hp, hq⟩ := HR.out.put v d0 d1
  have HQ := Aside0.mk hq
  have k0 := HR.out.cells.1
  have v0 := (blk_cell HV.out 0).trans rfl
  have v1 := (blk_cell HV.out 1).trans rfl
  have v2 := (blk_cell HV.out 2).trans rfl
  obtain ⟨_, q0⟩ := hp.c0
  obtain ⟨_, q1⟩ := hp.c1
  obtain ⟨_, q2⟩ := hp.c2
  have q3 := hp.z0
  have q4 := hp.z1
  have q5 := hp.z2
  clear hp hq
  first
  | (go_region_law (go_simp))
  | fail
  all_goals
    go_end0
    exact ⟨rfl, HQ.out.below (below_drew (Below.refl _ _))⟩
set_option maxHeartbeats 1600000 in
set_option maxRecDepth 1000000 in
theorem put_no (h : RunIs w0 W rb gr cr r vg g A0 c0 ups A2 c2 ons) (d : Int) (v : S37) {er : Int} (he : er ≠ 0) :
    Calls Try.prog 78 #[.pointer (some ⟨rb, 0, none⟩), .int .i64 d, .agg #[.int .u8 v.f0, .int .i64 v.f1, .string v.f2], .int .i64 er] W fun e w' => e = .panicked stopE ∧ Below w0.heap.size w0 w' := by
  have HB := Aside0.mk (below_then h.old h.old.size (below_alloc (Below.refl W.heap.size W) (.cells #[.int .u8 v.f0, .int .i64 v.f1, .string v.f2] 37)))
  have he0 : (er == 0) = false := by simpa using he
  clear h he
  go_enter Try.func78, Try.ntmps78
  go_wp2_with (first | (go_at_call 58; (with_reducible refine (need_no _).mono ?_); rintro e w2 ⟨rfl, rfl⟩))
  exact ⟨rfl, rfl, HB.out⟩
end
end Go.Proofs.Ytjkjbfhhfdbnoaa.NW
