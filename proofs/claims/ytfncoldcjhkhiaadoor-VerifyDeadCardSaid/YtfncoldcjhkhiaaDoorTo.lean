/- So many values as may be are on a stack, one more isn't right. -/
import Derived.Test.YtfncoldcjhkhiaaDoorGe

namespace Go.Proofs.YtfncoldcjhkhiaaDoor.NW
open Go.RowKit Go.Proofs.YtfncoldcjhkhiaaDoorW.PrintWords Go.Proofs.YtfncoldcjhkhiaaDoorW.PrintMore Go.Proofs.YtfncoldcjhkhiaaDoor.PC
set_option linter.unusedVariables false
set_option linter.unusedSimpArgs false
theorem u16_b {x : Int} (h : (Lit.int .u16 x).wf = true) : 0 ≤ x ∧ x ≤ 65535 := by
  have h1 : (decide (IntKind.u16.min ≤ x) && decide (x ≤ IntKind.u16.max)) = true := h
  rw [show IntKind.u16.min = 0 by decide, show IntKind.u16.max = 65535 by decide] at h1
  simp at h1
  omega
/-- a function that is made: its box, its code a row of the call's own -/
structure PIs (w0 w : World) (g : Nat) (a b c : Int) (l : List S32) (v : Value) : Prop where
  blk : w.heap[g]? = some (.cells #[.int .i64 a, .int .i64 b, .int .i64 c, v] 44 (0, 0))
  row : Kd.R k32 32 w w0.heap.size (fun k => k ≠ g) v l
  old : Below w0.heap.size w0 w
  gl : w0.heap.size ≤ g
theorem PIs.below {w0 w w1 : World} {g : Nat} {a b c : Int} {l : List S32} {v : Value} (h : PIs w0 w g a b c l v) (hb : Below w.heap.size w w1) : PIs w0 w1 g a b c l v :=
  ⟨blk_below h.blk hb, Kd.R_below h.row hb, below_then h.old h.old.size hb, h.gl⟩
theorem PIs.push {w0 w w1 : World} {g : Nat} {a b c : Int} {l l' : List S32} {v v1 : Value} (h : PIs w0 w g a b c l v) (hr : Kd.R k32 32 w1 w0.heap.size (fun k => k ≠ g) v1 l') (hb : Below w0.heap.size w0 w1) (hg : w.grownBy w1 v.ownBlock) :
    w1.cell? ⟨g, 3, none⟩ = some v ∧ w1.frozen? ⟨g, 3, none⟩ = false ∧ PIs w0 (w1.setCell ⟨g, 3, none⟩ v1) g a b c l' v1 ∧ ∃ (A : Option Addr) (m d : Nat), v1 = .slice A m d := by
  have hne : some g ≠ v.ownBlock := fun e => h.row.1 g e.symm rfl
  have BK := blk_grown h.blk hg hne
  exact ⟨(blk_cell BK 3).trans rfl, blk_frozen BK 3, ⟨blk_put BK 3 v1 rfl, Kd.R_far hr (p := ⟨g, 3, none⟩) (fun k hk => hk) v1, hb.setCell (p := ⟨g, 3, none⟩) h.gl v1, h.gl⟩, by obtain ⟨A, d, e⟩ := Kd.R_slice hr; exact ⟨A, _, d, e⟩⟩
/-- a row of one function -/
theorem one_row {w : World} {B : Nat} {p : S44} {A : Option Addr} {m d : Nat} (hm : m = p.f3.length) (hb : w.heap[B]? = some (.cells #[.int .i64 p.f0, .int .i64 p.f1, .int .i64 p.f2, .slice A m d] 44 (0, 0))) (hl : p.f3.length ≤ d) (hC : Kd.C k32 w A p.f3.length p.f3) : Kd.C k44 w (some ⟨B, 0, none⟩) [p].length [p] := by
  subst hm
  refine ⟨rfl, by simp, fun _ => ⟨_, rfl, fun j q hj => ?_⟩⟩
  rcases j with _ | j
  · simp only [List.getElem?_cons_zero, Option.some.injEq] at hj
    subst hj
    refine ⟨_, rfl, k44_mk w p hl hC, fun i u hi => ?_⟩
    rw [add_plain, blk_cell hb]
    rw [show (0 * k44.sz + i) = i by omega, ← Array.getElem?_toList]
    exact hi
  · simp at hj
theorem PIs.one {w0 w : World} {g : Nat} {p : S44} {A : Option Addr} {m d : Nat} (h : PIs w0 w g p.f0 p.f1 p.f2 p.f3 (.slice A m d)) (n0 n1 n3 : List Int) :
    ModIs (w.alloc (.cells #[.int .i64 p.f0, .int .i64 p.f1, .int .i64 p.f2, .slice A m d] 44 (0, 0))) none 0 [] none 0 [] (some ⟨w.heap.size, 0, none⟩) 1 [p] none 0 [] := by
  obtain ⟨hn, hle, hC⟩ := Kd.R_reads' h.row
  exact ⟨Kd.C_nil _ _, Nat.le_refl _, Kd.C_nil _ _, Nat.le_refl _, one_row hn (blk_new w _) (hn ▸ hle) (Kd.C_alloc hC _), Nat.le_refl _, Kd.C_nil _ _, Nat.le_refl _⟩
theorem high_call {w W : World} {g i B : Nat} {A : Option Addr} {m d : Nat} (hM : MaxOk w) (H : PIs w W g 0 1 0 (List.replicate i ⟨3, 0⟩ ++ [⟨12, 0⟩]) (.slice A m d)) (h1 : 1 ≤ i) (h2 : i ≤ 300) (hB : B = W.heap.size) :
    Calls Tryd.prog 30 #[.agg #[.slice none 0 0, .slice none 0 0, .slice (some ⟨B, 0, none⟩) 1 1, .slice none 0 0]] (W.alloc (.cells #[.int .i64 0, .int .i64 1, .int .i64 0, .slice A m d] 44 (0, 0))) fun e w' => e = .returned (.tuple #[.int .i64 0, .int .i64 (if i ≤ 256 then 0 else 18)]) ∧ Below w.heap.size w w' := by
  subst hB
  have hb : Below w.heap.size w (W.alloc (.cells #[.int .i64 0, .int .i64 1, .int .i64 0, .slice A m d] 44 (0, 0))) := H.old.alloc H.old.size _
  have hc := Pure.Check_calls _ (Pure.fit_one (Pure.pHigh i) (fun x hx => by
    have hx' : x ∈ List.replicate i (⟨3, 0⟩ : S32) ++ [⟨12, 0⟩] := hx
    rcases List.mem_append.1 hx' with h | h
    · obtain rfl := (List.mem_replicate.1 h).2; exact ⟨by decide, by decide⟩
    · rw [List.mem_singleton] at h; subst h; exact ⟨by decide, by decide⟩) (by rw [Pure.high_len]; omega)) (fun s hs => by simp at hs) (hM.below hb) (PIs.one (p := Pure.pHigh i) H [] [] [])
  rw [Pure.high_check h1 h2] at hc
  exact hc.mono fun e w' ⟨he, hw⟩ => ⟨he, below_then hb hb.size hw⟩
set_option maxHeartbeats 3200000 in
set_option maxRecDepth 1000000 in
theorem verifyHigh_calls (n : Int) (w : World) (hn : 0 ≤ n ∧ n ≤ 65535) (hM : MaxOk w) :
    Calls Tryd.prog 8 #[.int .u16 n] w fun e w' => e = .returned (.bool true) ∧ Below w.heap.size w w' := by
  have h0 := hn.1
  have h1 := hn.2
  obtain ⟨k, hk⟩ : ∃ k : Nat, (k : Int) = n % 300 + 1 := ⟨(n % 300 + 1).toNat, by omega⟩
  have hkb : 1 ≤ k ∧ k ≤ 300 := by omega
  have hw : wrap64 (n % 300 + 1) = (k : Int) := by unfold wrap64; omega
  have hw2 : wrap64 (Int.tmod n 300 + 1) = (k : Int) := by rw [Int.tmod_eq_emod_of_nonneg h0]; exact hw
  go_enter Tryd.func8, Tryd.ntmps8
  go_wp2_with fail
  rw [← hk]
  obtain ⟨hk1, hk2⟩ := hkb
  have HK := Aside0.mk hk
  have HMX := Aside0.mk hM
  clear hw hw2 hk hM
  go_loopw [5] (fun s5 wr => ∃ i : Nat, i ≤ k ∧ s5 = .int .i64 (i : Int) ∧ Aside0 (∃ v, PIs w wr w.heap.size 0 1 0 (List.replicate i ⟨3, 0⟩) v)) (fun s5 _ => k - (intOf s5).toNat)
  case atStart => exact ⟨0, by omega, rfl, ⟨_, blk_new w _, Kd.R_nil _ _ _ _ _, below_alloc (Below.refl _ _) _, Nat.le_refl _⟩⟩
  case round =>
    obtain ⟨i, hi, rfl, ⟨v, HP⟩⟩ := hrel
    have b3 : wr.cell? ⟨w.heap.size, 3, none⟩ = some v := (blk_cell HP.blk 3).trans rfl
    by_cases hlt : i < k
    · have HPP := Aside0.mk HP
      clear HP
      go_wp2_with ((with_reducible refine gate_builtin (b := .append) (xs := #[.tmp 19, .tmp 21]) rfl ?_); at_builtin; go_loud (refine Kd.R_append k32 (w0 := w) w.heap.size rfl (.tmp 19) (.tmp 21) 42 32 (.agg #[.int .u8 0, .int .i64 0]) 16 rfl Tryd.underlying42 info32 rfl (by decide) (by omega) v (List.replicate i ⟨3, 0⟩) ⟨3, 0⟩ [.int .u8 3, .int .i64 0] (fun q => q ≠ w.heap.size) (fun _ => False) rfl rfl ?aP (fun _ hk => hk.elim) ?aF ?aO ?aB ?aS ?aL ?_; (case aP => exact k32_mkM _ _ _ ⟨3, 0⟩); (case aF => exact fun q hq => by have := blk_lt HPP.out.blk; omega); (case aO => exact HPP.out.row); (case aB => exact HPP.out.old); (case aS => exact HPP.out.old.size); (case aL => simp only [List.length_replicate]; omega); intro v1 w1 hr hb hg hat); go_loud (obtain ⟨z3, zf, hQ, Av, mv, cv, ev⟩ := HPP.out.push hr hb hg; have HQ := Aside0.mk hQ; clear hr hb hg hat hQ; subst ev))
      go_roundw
      case rel => exact ⟨i + 1, by omega, by go_num, ⟨_, by rw [List.replicate_succ']; exact HQ.out⟩⟩
      case measure => simp [intOf]; omega
    · obtain rfl : i = k := by omega
      have HPP := Aside0.mk HP
      clear HP
      by_cases h256 : i ≤ 256
      · have d1 : decide ((i : Int) ≤ 256) = true := decide_eq_true (by omega)
        go_wp2_with (first | ((with_reducible refine gate_builtin (b := .append) (xs := #[.tmp 25, .tmp 27]) rfl ?_); at_builtin; go_loud (refine Kd.R_append k32 (w0 := w) w.heap.size rfl (.tmp 25) (.tmp 27) 42 32 (.agg #[.int .u8 0, .int .i64 0]) 16 rfl Tryd.underlying42 info32 rfl (by decide) (by omega) v (List.replicate i ⟨3, 0⟩) ⟨12, 0⟩ [.int .u8 12, .int .i64 0] (fun q => q ≠ w.heap.size) (fun _ => False) rfl rfl ?aP (fun _ hk => hk.elim) ?aF ?aO ?aB ?aS ?aL ?_; (case aP => exact k32_mkM _ _ _ ⟨12, 0⟩); (case aF => exact fun q hq => by have := blk_lt HPP.out.blk; omega); (case aO => exact HPP.out.row); (case aB => exact HPP.out.old); (case aS => exact HPP.out.old.size); (case aL => simp only [List.length_replicate]; omega); intro v1 w1 hr hb hg hat); go_loud (obtain ⟨z3, zf, hQ, Av, mv, cv, ev⟩ := HPP.out.push hr hb hg; have HQ := Aside0.mk hQ; subst ev; have y0 : (w1.setCell ⟨w.heap.size, 3, none⟩ (.slice Av mv cv)).cell? ⟨w.heap.size, 0, none⟩ = some (.int .i64 0) := (blk_cell hQ.blk 0).trans rfl; have y1 : (w1.setCell ⟨w.heap.size, 3, none⟩ (.slice Av mv cv)).cell? ⟨w.heap.size, 1, none⟩ = some (.int .i64 1) := (blk_cell hQ.blk 1).trans rfl; have y2 : (w1.setCell ⟨w.heap.size, 3, none⟩ (.slice Av mv cv)).cell? ⟨w.heap.size, 2, none⟩ = some (.int .i64 0) := (blk_cell hQ.blk 2).trans rfl; have y3 : (w1.setCell ⟨w.heap.size, 3, none⟩ (.slice Av mv cv)).cell? ⟨w.heap.size, 3, none⟩ = some (.slice Av mv cv) := (blk_cell hQ.blk 3).trans rfl; have HCK := Aside0.mk (high_call (B := w1.heap.size) HMX.out hQ hk1 hk2 (by simp [World.setCell])); clear hr hb hg hat hQ)) | (go_at_call 30; go_loud (refine HCK.out.mono ?_); rintro e w6 ⟨rfl, hb6⟩; rw [if_pos h256]; have HB6 := Aside0.mk hb6; clear hb6) | (go_at_call 29; go_loud (refine (sacristanlaw11_awake.calls true _ (HMX.out.below HB6.out) Pure.awake11).mono ?_); rintro e w7 ⟨rfl, hb7⟩))
        go_ret
        exact ⟨rfl, below_then HB6.out HB6.out.size hb7⟩
      · have d1 : decide ((i : Int) ≤ 256) = false := decide_eq_false (by omega)
        go_wp2_with (first | ((with_reducible refine gate_builtin (b := .append) (xs := #[.tmp 25, .tmp 27]) rfl ?_); at_builtin; go_loud (refine Kd.R_append k32 (w0 := w) w.heap.size rfl (.tmp 25) (.tmp 27) 42 32 (.agg #[.int .u8 0, .int .i64 0]) 16 rfl Tryd.underlying42 info32 rfl (by decide) (by omega) v (List.replicate i ⟨3, 0⟩) ⟨12, 0⟩ [.int .u8 12, .int .i64 0] (fun q => q ≠ w.heap.size) (fun _ => False) rfl rfl ?aP (fun _ hk => hk.elim) ?aF ?aO ?aB ?aS ?aL ?_; (case aP => exact k32_mkM _ _ _ ⟨12, 0⟩); (case aF => exact fun q hq => by have := blk_lt HPP.out.blk; omega); (case aO => exact HPP.out.row); (case aB => exact HPP.out.old); (case aS => exact HPP.out.old.size); (case aL => simp only [List.length_replicate]; omega); intro v1 w1 hr hb hg hat); go_loud (obtain ⟨z3, zf, hQ, Av, mv, cv, ev⟩ := HPP.out.push hr hb hg; have HQ := Aside0.mk hQ; subst ev; have y0 : (w1.setCell ⟨w.heap.size, 3, none⟩ (.slice Av mv cv)).cell? ⟨w.heap.size, 0, none⟩ = some (.int .i64 0) := (blk_cell hQ.blk 0).trans rfl; have y1 : (w1.setCell ⟨w.heap.size, 3, none⟩ (.slice Av mv cv)).cell? ⟨w.heap.size, 1, none⟩ = some (.int .i64 1) := (blk_cell hQ.blk 1).trans rfl; have y2 : (w1.setCell ⟨w.heap.size, 3, none⟩ (.slice Av mv cv)).cell? ⟨w.heap.size, 2, none⟩ = some (.int .i64 0) := (blk_cell hQ.blk 2).trans rfl; have y3 : (w1.setCell ⟨w.heap.size, 3, none⟩ (.slice Av mv cv)).cell? ⟨w.heap.size, 3, none⟩ = some (.slice Av mv cv) := (blk_cell hQ.blk 3).trans rfl; have HCK := Aside0.mk (high_call (B := w1.heap.size) HMX.out hQ hk1 hk2 (by simp [World.setCell])); clear hr hb hg hat hQ)) | (go_at_call 30; go_loud (refine HCK.out.mono ?_); rintro e w6 ⟨rfl, hb6⟩; rw [if_neg h256]; have HB6 := Aside0.mk hb6; clear hb6) | (go_at_call 29; go_loud (refine (sacristanlaw11_awake.calls true _ (HMX.out.below HB6.out) Pure.awake11).mono ?_); rintro e w7 ⟨rfl, hb7⟩))
        go_ret
        exact ⟨rfl, below_then HB6.out HB6.out.size hb7⟩
end Go.Proofs.YtfncoldcjhkhiaaDoor.NW
