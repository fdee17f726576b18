/- sweep.reads: which registers an instruction marks; slices.Grow of an empty row; slices.Concat of two rows of numbers. -/
import Derived.Test.YtjkjbfhhfdbnoaaRj
import Derived.Lib.AppendZerosOnto
import Derived.Lib.SliceRun
namespace Go.Proofs.Ytjkjbfhhfdbnoaa.NW
open Go.RowKit Go.Proofs.YtjkjbfhhfdbnoaaW.PrintWords Go.Proofs.YtjkjbfhhfdbnoaaW.PrintMore Go.Proofs.Ytjkjbfhhfdbnoaa.PB
set_option linter.unusedVariables false
set_option linter.unusedSimpArgs false

/-- sweep.reads -/
def readsF (l : List Bool) (x0 x2 x3 : Int) : List Bool :=
  if x0 = 2 ∨ x0 = 3 ∨ x0 = 8 then l.set x2.toNat true
  else if x0 = 4 then (l.set x2.toNat true).set x3.toNat true
  else l

set_option maxHeartbeats 1600000 in
set_option maxRecDepth 1000000 in
theorem reads_calls (x0 x1 x2 x3 : Int) (x4 : ByteArray) (x50 x51 : Int) (x52 : ByteArray) (g c : Nat) (l : List Bool) (base : Nat) (ok : Nat → Prop) (w : World)
    (hr : Kd.R Kd.bool 4 w base ok (.slice (some ⟨g, 0, none⟩) l.length c) l) (hok : g < w.heap.size)
    (ha : x0 = 2 ∨ x0 = 3 ∨ x0 = 8 ∨ x0 = 4 → 0 ≤ x2 ∧ x2 < l.length) (hb : x0 = 4 → 0 ≤ x3 ∧ x3 < l.length) :
    Calls Try.prog 50 #[.slice (some ⟨g, 0, none⟩) l.length c, .agg #[.int .u8 x0, .int .i64 x1, .int .i64 x2, .int .i64 x3, .string x4, .int .u8 x50, .int .i64 x51, .string x52]] w fun e w' => e = .returned (.tuple #[]) ∧ Kd.R Kd.bool 4 w' base ok (.slice (some ⟨g, 0, none⟩) l.length c) (readsF l x0 x2 x3) ∧ w.grownBy w' (some g) := by
  have hA := blk_new w (.cells #[.int .u8 x0, .int .i64 x1, .int .i64 x2, .int .i64 x3, .string x4, .int .u8 x50, .int .i64 x51, .string x52] 39 (0, 0))
  have hg0 : w.grownBy (w.alloc (.cells #[.int .u8 x0, .int .i64 x1, .int .i64 x2, .int .i64 x3, .string x4, .int .u8 x50, .int .i64 x51, .string x52] 39 (0, 0))) (some g) := World.grownBy_alloc w _ (some g)
  have HG := Aside0.mk hg0
  have HR := Aside0.mk (Kd.R_alloc hr (.cells #[.int .u8 x0, .int .i64 x1, .int .i64 x2, .int .i64 x3, .string x4, .int .u8 x50, .int .i64 x51, .string x52] 39 (0, 0)))
  have HOK := Aside0.mk hok
  clear hr hok hg0
  have z0 := (blk_cell hA 0).trans rfl
  have z2 := (blk_cell hA 2).trans rfl
  have z3 := (blk_cell hA 3).trans rfl
  go_enter Try.func50, Try.ntmps50
  obtain ⟨w1, hw1⟩ : ∃ w1, (w.alloc (.cells #[.int .u8 x0, .int .i64 x1, .int .i64 x2, .int .i64 x3, .string x4, .int .u8 x50, .int .i64 x51, .string x52] 39 (0, 0))) = w1 := ⟨_, rfl⟩
  obtain ⟨gb, hgb⟩ : ∃ gb, w.heap.size = gb := ⟨_, rfl⟩
  rw [hw1] at z0 z2 z3 HG HR
  rw [hgb] at z0 z2 z3
  clear hA
  by_cases h1 : x0 = 2 ∨ x0 = 3 ∨ x0 = 8
  · obtain ⟨p1, p2⟩ := ha (by omega)
    obtain ⟨q1, q2⟩ := Kd.R_celln false HR.out x2 p1 p2
    have HP := Aside0.mk (Kd.R_putg HR.out x2 true)
    have he : readsF l x0 x2 x3 = l.set x2.toNat true := by rw [readsF, if_pos h1]
    rw [he]
    rcases h1 with rfl | rfl | rfl
    all_goals (
      go_wp2_with fail
      go_end0
      exact ⟨rfl, HP.out.1, HG.out.trans HP.out.2⟩)
  · have he : readsF l x0 x2 x3 = if x0 = 4 then (l.set x2.toNat true).set x3.toNat true else l := by rw [readsF, if_neg h1]
    rw [he]
    clear he
    have n2 : x0 ≠ 2 := by omega
    have n3 : x0 ≠ 3 := by omega
    have n8 : x0 ≠ 8 := by omega
    by_cases h4 : x0 = 4
    · subst h4
      obtain ⟨p1, p2⟩ := ha (by omega)
      obtain ⟨q1, q2⟩ := Kd.R_celln false HR.out x2 p1 p2
      obtain ⟨p3, p4⟩ := hb rfl
      have HP := Aside0.mk (Kd.R_putg HR.out x2 true)
      obtain ⟨q3, q4⟩ := Kd.R_celln false HP.out.1 x3 p3 (by simpa using p4)
      rw [if_pos rfl]
      go_wp2_with fail
      have hne : g ≠ gb := by have := HOK.out; omega
      have z3' : (w1.setCell ⟨g, x2.toNat, none⟩ (.bool true)).cell? ⟨gb, 3, none⟩ = some (.int .i64 x3) := (World.cell?_setCell_other _ _ _ _ (by intro h; simp only [Addr.mk.injEq] at h; omega)).trans z3
      have HPP := Aside0.mk (Kd.R_putg HP.out.1 x3 true)
      have HK := Aside0.mk ((HG.out.trans HP.out.2).trans HPP.out.2)
      go_region_law (go_simp)
      all_goals (
        go_wp2_with fail
        go_end0
        exact ⟨rfl, Kd.R_drew HPP.out.1, ⟨HK.out.os, HK.out.tape, HK.out.output, HK.out.size, HK.out.block⟩⟩)
    · rw [if_neg h4]
      go_wp2_with fail
      go_end0
      exact ⟨rfl, HR.out, HG.out⟩
end Go.Proofs.Ytjkjbfhhfdbnoaa.NW

namespace Go.Proofs.Ytjkjbfhhfdbnoaa.NW
open Go.RowKit Go.Lib Go.Proofs.YtjkjbfhhfdbnoaaW.PrintWords Go.Proofs.YtjkjbfhhfdbnoaaW.PrintMore Go.Proofs.Ytjkjbfhhfdbnoaa.PB
set_option linter.unusedVariables false
set_option linter.unusedSimpArgs false

set_option maxHeartbeats 1600000 in
set_option maxRecDepth 1000000 in
/-- slices.Grow, of no row -/
theorem grow_calls (n : Nat) (hn : n ≤ 1000000) (w : World) : Calls Try.prog 71 #[.slice none 0 0, .int .i64 n] w fun e w' => ∃ v, e = .returned v ∧ Kd.R (Kd.int .i64) 3 w' w.heap.size (fun k => w.heap.size ≤ k) v [] ∧ Below w.heap.size w w' := by
  by_cases h0 : n = 0
  · subst h0
    go_enter Try.func71, Try.ntmps71
    go_wp2
    go_ret
    exact ⟨_, rfl, Kd.R_nil _ _ _ _ _, Below.refl _ _⟩
  · obtain ⟨i0, hi, hz0, hz1, hz2⟩ := info_parts PB.info3
    have hrz : ∀ ty, (Builtin.append_ #[23, 3] ty #[.slice none 0 0, .int .i64 (n : Int)]).run Try.prog w = .ok (.slice (some ⟨w.heap.size, 0, none⟩) n (grownCap w n 0 3)) (w.drew.alloc (.cells (#[] ++ Builtin.zeroCells (Value.cells (.int .i64 0)) n ++ Builtin.zeroCells (Value.cells (.int .i64 0)) (grownCap w n 0 3 - n)) 3)) := fun ty => by
      have h := Lib.run_append_grow_zeros w 23 3 ty 3 i0 (.int .i64 0) .i64 .i64 Try.underlying23 Try.underlying3 hi hz0 none 0 0 [] (run_firstCells_none w.drew i0.size 0 0 0) n (by omega) (by omega) (by omega) (by omega) (by rw [hz2]; omega)
        (by rw [hz2]; exact growslice_fits (by omega) (by omega))
      rw [Nat.zero_add] at h
      exact h
    have hGn : n ≤ grownCap w n 0 3 := grownCap_ge w _ _ _
    have hGm := grownCap_le_maxLen w n 0 3 (by unfold maxLen; omega)
    generalize grownCap w n 0 3 = G at hrz hGn hGm
    have h1 : ¬ ((n : Int) < 0) := by omega
    have h2 : (0 : Int) < n := by omega
    have hG63 : G ≤ 9223372036854775807 := by unfold maxLen at hGm; omega
    obtain ⟨wd, hwd⟩ : ∃ wd, (w.drew.alloc (.cells (#[] ++ Builtin.zeroCells (Value.cells (.int .i64 0)) n ++ Builtin.zeroCells (Value.cells (.int .i64 0)) (G - n)) 3)) = wd := ⟨_, rfl⟩
    have hown : wd.ownsRow w.heap.size 3 1 (.slice (some ⟨w.heap.size, 0, none⟩) 0 G) 0 [] := by
      rw [← hwd]
      exact World.ownsRow_made w.drew _ G (Nat.le_refl _) hGm (by simp [Builtin.zeroCells, Value.cells]; omega)
    have hbw : Below w.heap.size w wd := by
      rw [← hwd]
      exact (below_drew (Below.refl _ _)).alloc (Nat.le_refl _) _
    rw [hwd] at hrz
    have HR := Aside0.mk (show Kd.R (Kd.int .i64) 3 wd w.heap.size (fun k => w.heap.size ≤ k) (.slice (some ⟨w.heap.size, 0, none⟩) 0 G) [] from Kd.R_of_own hown (fun k hk => by simp [Value.ownBlock] at hk; omega))
    have HB := Aside0.mk hbw
    clear hown hbw hwd hi hz0 hz1 hz2
    go_enter Try.func71, Try.ntmps71
    go_wp2_with (at_builtin; refine Lib.wpList_append_run _ rfl _ _ _ _ rfl _ _ rfl rfl _ _ (hrz _) ?_)
    all_goals (go_ret; exact ⟨_, rfl, HR.out, HB.out⟩)
theorem grow_callsI (n : Int) (h0 : 0 ≤ n) (hn : n ≤ 1000000) (w : World) : Calls Try.prog 71 #[.slice none 0 0, .int .i64 n] w fun e w' => ∃ v, e = .returned v ∧ Kd.R (Kd.int .i64) 3 w' w.heap.size (fun k => w.heap.size ≤ k) v [] ∧ Below w.heap.size w w' := by
  obtain ⟨m, rfl⟩ := Int.eq_ofNat_of_zero_le h0
  exact grow_calls m (by omega) w
end Go.Proofs.Ytjkjbfhhfdbnoaa.NW

namespace Go.Proofs.Ytjkjbfhhfdbnoaa.NW
open Go.RowKit Go.Proofs.YtjkjbfhhfdbnoaaW.PrintWords Go.Proofs.YtjkjbfhhfdbnoaaW.PrintMore Go.Proofs.Ytjkjbfhhfdbnoaa.PB
set_option linter.unusedVariables false
set_option linter.unusedSimpArgs false

/-- the rows that have come when so many are over -/
def preC (a b : List Int) : Nat → List Int
  | 0 => []
  | 1 => a
  | _ => a ++ b

set_option maxHeartbeats 1600000 in
set_option maxRecDepth 1000000 in
/-- slices.Concat, of two rows -/
theorem concat_calls (g : Nat) (A : Option Addr) (ca : Nat) (a : List Int) (B : Option Addr) (cb : Nat) (b : List Int) (w : World)
    (hG : w.heap[g]? = some (.cells #[.slice A a.length ca, .slice B b.length cb] 23 (0, 0)))
    (ha : Kd.C (Kd.int .i64) w A a.length a) (hb : Kd.C (Kd.int .i64) w B b.length b) (hla : a.length ≤ 10000) (hlb : b.length ≤ 10000) :
    Calls Try.prog 47 #[.slice (some ⟨g, 0, none⟩) 2 2] w fun e w' => ∃ v, e = .returned v ∧ Kd.R (Kd.int .i64) 3 w' w.heap.size (fun k => w.heap.size ≤ k) v (a ++ b) ∧ Below w.heap.size w w' := by
  have HA := Aside0.mk ha
  have HB := Aside0.mk hb
  have HG := Aside0.mk hG
  have g0 := (blk_cell hG 0).trans rfl
  have g1 := (blk_cell hG 1).trans rfl
  have HLA := Aside0.mk hla
  have HLB := Aside0.mk hlb
  clear ha hb hG hla hlb
  go_enter Try.func47, Try.ntmps47
  go_wp2_with fail
  go_loop [3, 11] (fun x3 x11 => ∃ i : Nat, i ≤ 2 ∧ x11 = .int .i64 i ∧ x3 = .int .i64 ((preC a b i).length : Nat)) (fun x3 x11 => 2 - (intOf x11).toNat)
  case atStart => exact ⟨0, by omega, rfl, rfl⟩
  case round =>
    obtain ⟨i, hi, rfl, rfl⟩ := hrel
    have hia := HLA.out
    have hib := HLB.out
    rcases (show i = 0 ∨ i = 1 ∨ i = 2 by omega) with rfl | rfl | rfl
    · have hn : ¬ ((a.length : Int) < 0) := by omega
      have hw : wrap64 (a.length : Int) = (a.length : Int) := by unfold wrap64; omega
      simp only [preC, List.length_nil]
      go_wp2_with fail
      go_round
      case rel => exact ⟨1, by omega, rfl, rfl⟩
      case measure => simp [intOf]
    · have hn : ¬ ((a.length : Int) + (b.length : Int) < 0) := by omega
      have hw : wrap64 ((a.length : Int) + (b.length : Int)) = (a.length : Int) + (b.length : Int) := by unfold wrap64; omega
      simp only [preC]
      go_wp2_with fail
      go_round
      case rel => exact ⟨2, by omega, rfl, by simp [preC]⟩
      case measure => simp [intOf]
    · simp only [preC]
      go_wp2_with (go_at_call 71; go_loud ((refine (grow_callsI _ ?s1 ?s2 w).mono ?_); (case s1 => omega); (case s2 => omega)); rintro e w1 ⟨v1, rfl, hr1, hb1⟩; have HR1 := Aside0.mk hr1; have HB1 := Aside0.mk hb1; clear hr1 hb1)
      go_loopw [6, 27] (fun x6 x27 w' => ∃ (i : Nat), i ≤ 2 ∧ x27 = .int .i64 i ∧ Aside0 (Kd.R (Kd.int .i64) 3 w' w.heap.size (fun k => w.heap.size ≤ k) x6 (preC a b i)) ∧ Aside0 (Below w.heap.size w w')) (fun x6 x27 w' => 2 - (intOf x27).toNat)
      case atStart => exact ⟨0, by omega, rfl, HR1, HB1⟩
      case round =>
        obtain ⟨i, hi, rfl, HR, HBW⟩ := hrel
        obtain ⟨Av, cv, ev⟩ := Kd.R_slice HR.out
        subst ev
        have hz := blk_below HG.out HBW.out
        have z0 := (blk_cell hz 0).trans rfl
        have z1 := (blk_cell hz 1).trans rfl
        clear hz g0 g1
        rcases (show i = 0 ∨ i = 1 ∨ i = 2 by omega) with rfl | rfl | rfl
        · have HRR := Aside0.mk (Kd.C_below HA.out HBW.out)
          go_wp2_with (at_builtin; (refine Kd.R_append_rows (w0 := w) (Kd.int .i64) w.heap.size rfl (.tmp 31) (.tmp 32) 23 3 _ 8 rfl Try.underlying23 PB.info3 rfl (by decide) (by decide) (.slice Av (preC a b 0).length cv) (preC a b 0) a A a.length ca (fun k => w.heap.size ≤ k) (fun _ => False) rfl rfl HR.out HRR.out (fun x cs h => h) (fun k h => h.elim) (fun k h => Nat.le_trans HBW.out.size h) HBW.out HBW.out.size (by simp [preC]; omega) ?_); intro v1 w1 h1 hb1 _ _; have H1 := Aside0.mk h1; have HB2 := Aside0.mk hb1; clear h1 hb1)
          go_roundw
          case rel => exact ⟨1, by omega, rfl, H1, HB2⟩
          case measure => simp [intOf]
        · have HRR := Aside0.mk (Kd.C_below HB.out HBW.out)
          go_wp2_with (at_builtin; (refine Kd.R_append_rows (w0 := w) (Kd.int .i64) w.heap.size rfl (.tmp 31) (.tmp 32) 23 3 _ 8 rfl Try.underlying23 PB.info3 rfl (by decide) (by decide) (.slice Av (preC a b 1).length cv) (preC a b 1) b B b.length cb (fun k => w.heap.size ≤ k) (fun _ => False) rfl rfl HR.out HRR.out (fun x cs h => h) (fun k h => h.elim) (fun k h => Nat.le_trans HBW.out.size h) HBW.out HBW.out.size (by simp [preC]; omega) ?_); intro v1 w1 h1 hb1 _ _; have H1 := Aside0.mk h1; have HB2 := Aside0.mk hb1; clear h1 hb1)
          go_roundw
          case rel => exact ⟨2, by omega, rfl, H1, HB2⟩
          case measure => simp [intOf]
        · go_wp2_with fail
          go_ret
          exact ⟨_, rfl, HR.out, HBW.out⟩
end Go.Proofs.Ytjkjbfhhfdbnoaa.NW
