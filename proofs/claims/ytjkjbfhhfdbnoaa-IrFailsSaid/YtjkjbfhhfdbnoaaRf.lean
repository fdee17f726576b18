/- slices.Clone of instructions and of numbers. -/
import Derived.Test.YtjkjbfhhfdbnoaaRe
import Derived.Lib.SliceRun
namespace Go.Proofs.Ytjkjbfhhfdbnoaa.NW
open Go.RowKit Go.Proofs.YtjkjbfhhfdbnoaaW.PrintWords Go.Proofs.YtjkjbfhhfdbnoaaW.PrintMore Go.Proofs.Ytjkjbfhhfdbnoaa.PB
set_option linter.unusedVariables false
set_option linter.unusedSimpArgs false

theorem info39 : (Try.prog.info? 39).map (fun i => (i.zero, i.size, i.bytes)) = some (some (.agg #[.int .u8 0, .int .i64 0, .int .i64 0, .int .i64 0, .string ⟨#[]⟩, .int .u8 0, .int .i64 0, .string ⟨#[]⟩]), 8, 80) := by kernel_rfl

theorem k39_M_of_K {w0 w : World} {base : Nat} {ok : Nat → Prop} (x : S39) (cs : List Value) (h : k39.K w0 x cs) : k39.M w base ok x cs := by
  rw [k39_open h]
  exact k39_mkM w base ok x

set_option maxHeartbeats 1600000 in
set_option maxRecDepth 1000000 in
theorem cloneI_calls (A : Option Addr) (c : Nat) (l : List S39) (w : World) (hr : Kd.C k39 w A l.length l) (hl : l.length * 80 ≤ 140737488355328) :
    Calls Try.prog 40 #[.slice A l.length c] w fun e w' => ∃ v, e = .returned v ∧ Kd.R k39 39 w' w.heap.size (fun k => w.heap.size ≤ k) v l ∧ Below w.heap.size w w' := by
  have HR := Aside0.mk hr
  have HL := Aside0.mk hl
  clear hr hl
  have hn : ∀ (w : World) (a : Option Addr) (n c : Nat), (binOp .eql 22 (.slice a n c) (.slice none 0 0)).run Try.prog w = .ok (.bool a.isNone) w := fun w a n c => Lib.run_eql_slice_nil w 22 39 a n c 0 0 Try.underlying22
  rcases A with _ | ad
  · have h0 : l.length = 0 := by
      rcases Nat.eq_zero_or_pos l.length with h | h
      · exact h
      · obtain ⟨ad, e, _⟩ := HR.out.2.2 h
        cases e
    have hnil : l = [] := List.eq_nil_of_length_eq_zero h0
    subst hnil
    clear h0
    go_enter Try.func40, Try.ntmps40
    go_wp2
    go_ret
    exact ⟨_, rfl, Kd.R_nil _ _ _ _ _, Below.refl _ _⟩
  · have hR0 : Kd.R k39 39 (w.alloc (.cells #[] 39)) w.heap.size (fun k => w.heap.size ≤ k) (.slice (some ⟨w.heap.size, 0, none⟩) 0 0) [] :=
      ⟨fun k hk => by simp [Value.ownBlock] at hk; omega, [], World.ownsRow_made w #[] 0 (Nat.le_refl _) (by decide) (by simp), ⟨by simp, fun j p hj => by simp at hj⟩⟩
    have hb0 : Below w.heap.size w (w.alloc (.cells #[] 39)) := (Below.refl _ _).alloc (Nat.le_refl _) _
    have HR0 := Aside0.mk hR0
    have HRR := Aside0.mk (Kd.C_below HR.out hb0)
    have HB0 := Aside0.mk hb0
    clear hR0 hb0
    go_enter Try.func40, Try.ntmps40
    go_wp2_with (at_builtin; refine Kd.R_append_rows (w0 := w) k39 w.heap.size rfl (.tmp 5) (.tmp 6) 22 39 _ 80 rfl Try.underlying22 info39 rfl (by decide) (by decide) (.slice (some ⟨w.heap.size, 0, none⟩) 0 0) [] l (some ad) l.length c (fun k => w.heap.size ≤ k) (fun _ => False) rfl rfl HR0.out HRR.out (fun x cs h => k39_M_of_K x cs h) (fun k h => h.elim) (fun k h => by simp at h; omega) HB0.out (by simp) (by simpa using HL.out) ?_; intro v1 w1 h1 hb1 _ _; rw [List.nil_append] at h1; have H1 := Aside0.mk h1; have HB1 := Aside0.mk hb1; clear h1 hb1)
    go_ret
    exact ⟨_, rfl, H1.out, HB1.out⟩

set_option maxHeartbeats 1600000 in
set_option maxRecDepth 1000000 in
theorem cloneN_calls (A : Option Addr) (c : Nat) (l : List Int) (w : World) (hr : Kd.C (Kd.int .i64) w A l.length l) (hl : l.length * 8 ≤ 140737488355328) :
    Calls Try.prog 41 #[.slice A l.length c] w fun e w' => ∃ v, e = .returned v ∧ Kd.R (Kd.int .i64) 3 w' w.heap.size (fun k => w.heap.size ≤ k) v l ∧ Below w.heap.size w w' := by
  have HR := Aside0.mk hr
  have HL := Aside0.mk hl
  clear hr hl
  have hn : ∀ (w : World) (a : Option Addr) (n c : Nat), (binOp .eql 23 (.slice a n c) (.slice none 0 0)).run Try.prog w = .ok (.bool a.isNone) w := fun w a n c => Lib.run_eql_slice_nil w 23 3 a n c 0 0 Try.underlying23
  rcases A with _ | ad
  · have h0 : l.length = 0 := by
      rcases Nat.eq_zero_or_pos l.length with h | h
      · exact h
      · obtain ⟨ad, e, _⟩ := HR.out.2.2 h
        cases e
    have hnil : l = [] := List.eq_nil_of_length_eq_zero h0
    subst hnil
    clear h0
    go_enter Try.func41, Try.ntmps41
    go_wp2
    go_ret
    exact ⟨_, rfl, Kd.R_nil _ _ _ _ _, Below.refl _ _⟩
  · have hR0 : Kd.R (Kd.int .i64) 3 (w.alloc (.cells #[] 3)) w.heap.size (fun k => w.heap.size ≤ k) (.slice (some ⟨w.heap.size, 0, none⟩) 0 0) [] :=
      ⟨fun k hk => by simp [Value.ownBlock] at hk; omega, [], World.ownsRow_made w #[] 0 (Nat.le_refl _) (by decide) (by simp), ⟨by simp, fun j p hj => by simp at hj⟩⟩
    have hb0 : Below w.heap.size w (w.alloc (.cells #[] 3)) := (Below.refl _ _).alloc (Nat.le_refl _) _
    have HR0 := Aside0.mk hR0
    have HRR := Aside0.mk (Kd.C_below HR.out hb0)
    have HB0 := Aside0.mk hb0
    clear hR0 hb0
    go_enter Try.func41, Try.ntmps41
    go_wp2_with (at_builtin; refine Kd.R_append_rows (w0 := w) (Kd.int .i64) w.heap.size rfl (.tmp 5) (.tmp 6) 23 3 _ 8 rfl Try.underlying23 PB.info3 rfl (by decide) (by decide) (.slice (some ⟨w.heap.size, 0, none⟩) 0 0) [] l (some ad) l.length c (fun k => w.heap.size ≤ k) (fun _ => False) rfl rfl HR0.out HRR.out (fun x cs h => h) (fun k h => h.elim) (fun k h => by simp at h; omega) HB0.out (by simp) (by simpa using HL.out) ?_; intro v1 w1 h1 hb1 _ _; rw [List.nil_append] at h1; have H1 := Aside0.mk h1; have HB1 := Aside0.mk hb1; clear h1 hb1)
    go_ret
    exact ⟨_, rfl, H1.out, HB1.out⟩
end Go.Proofs.Ytjkjbfhhfdbnoaa.NW
