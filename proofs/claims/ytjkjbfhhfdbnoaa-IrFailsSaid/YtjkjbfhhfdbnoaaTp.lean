/- IrFails, walked. -/
import Derived.Test.YtjkjbfhhfdbnoaaTn
namespace Go.Proofs.Ytjkjbfhhfdbnoaa.NW
open Go.RowKit Go.Proofs.YtjkjbfhhfdbnoaaW.PrintWords Go.Proofs.YtjkjbfhhfdbnoaaW.PrintMore Go.Proofs.Ytjkjbfhhfdbnoaa.PB
set_option linter.unusedVariables false
set_option linter.unusedSimpArgs false
section
variable {P : Program} {ops : Array Oper} {o : Oper} {a : Act} {Q : Exit → Act → World → Prop} {K : Act → World → Prop}
theorem step_append_cells {w0 W : World} (base : Nat) (hw : Region.wanted o (yielded ops a.tmps) = true) (s x : Operand) (t e : TypeId) (z : Value) (size bytes : Nat)
    (ho : o.op = .call { callee := .builtin .append, args := #[s, x], argTypes := #[t, t] })
    (ht : P.underlying t = some (.slice e)) (hinfo : (P.info? e).map (fun i => (i.zero, i.size, i.bytes)) = some (some z, size, bytes)) (hz : z.cells.size = size) (hs0 : 0 < size) (hb0 : 0 < bytes)
    (v : Value) (n : Nat) (xs ys : List Value) (hs : a.eval s = v) (hx : a.eval x = .slice (some ⟨W.heap.size, 0, none⟩) 1 1) (hys : ys.length = size) (h1 : ∀ u ∈ ys, u.oneCell' = true)
    (HO : W.ownsRow base e size v n xs) (HB : Below base w0 W) (hbase : base ≤ W.heap.size) (hl : (n + 1) * bytes ≤ 140737488355328)
    (h : ∀ v1 w1, w1.ownsRow base e size v1 (n + 1) (xs ++ ys) → Below base w0 w1 → W.grownBy w1 v.ownBlock → (v1.ownBlock = v.ownBlock ∨ ∃ b, v1.ownBlock = some b ∧ W.heap.size ≤ b) → K (a.put o.dst v1) w1) :
    if Region.wanted o (yielded ops a.tmps) = true then Oper.wp P o a (W.alloc (.cells ys.toArray e)) K Q else K (a.put o.dst undef) (W.alloc (.cells ys.toArray e)) := by
  obtain ⟨i0, hi, hzz⟩ := Option.map_eq_some_iff.1 hinfo
  simp only [Prod.mk.injEq] at hzz
  obtain ⟨hz0, hz1, hz2⟩ := hzz
  have hlen : n + 1 ≤ 140737488355328 := Nat.le_trans (Nat.le_mul_of_pos_right _ hb0) hl
  rw [if_pos hw]
  obtain ⟨v1, w1, hr, hown, hg, _, hat⟩ := run_append_own_at (P := P) (W.alloc (.cells ys.toArray e)) base t o.type e i0 z size bytes ht hi hz0 hz1 hz2 hz hs0 v n xs (HO.alloc _) ⟨W.heap.size, 0, none⟩ 1 1 ys (by rw [hys]; simp)
    (by simpa using World.news_of_block (cs := ys.toArray) (t := e) (fr := (0, 0)) (heap_alloc_new W (.cells ys.toArray e))) h1 (by simp only [maxLen]; omega) hl (by simp; omega)
  unfold Oper.wp execOp
  simp only [ho, resolve, invoke, builtin, Sem.run_bind, Sem.run_pure, Result.andThen_ok, List.map_toArray, List.map_cons, List.map_nil, hs, hx, hr]
  refine h v1 w1 hown ((HB.alloc hbase _).grown hg (by simp; omega) (own_base HO)) (World.grownBy.trans (World.grownBy_alloc W _ _) hg) ?_
  rcases hat with hat | hat
  · exact .inl hat
  · exact .inr ⟨_, hat, by simp⟩
end
section
variable {P : Program} {ops : Array Oper} {o : Oper} {a : Act} {Q : Exit → Act → World → Prop} {Kc : Act → World → Prop} {α : Type}
theorem R_append_step (d : Kd α) {w0 W : World} (base : Nat) (hw : Region.wanted o (yielded ops a.tmps) = true) (s x : Operand) (t e : TypeId) (z : Value) (bytes : Nat)
    (ho : o.op = .call { callee := .builtin .append, args := #[s, x], argTypes := #[t, t] })
    (ht : P.underlying t = some (.slice e)) (hinfo : (P.info? e).map (fun i => (i.zero, i.size, i.bytes)) = some (some z, d.sz, bytes)) (hz : z.cells.size = d.sz) (hs0 : 0 < d.sz) (hb0 : 0 < bytes)
    (v : Value) (xs : List α) (p : α) (cs : List Value) (ok okp : Nat → Prop) (hs : a.eval s = v) (hx : a.eval x = .slice (some ⟨W.heap.size, 0, none⟩) 1 1) (hp : d.M W base okp p cs) (hokp : ∀ k, okp k → ok k ∧ some k ≠ v.ownBlock) (hfresh : ∀ k, W.heap.size ≤ k → ok k)
    (HO : d.R e W base ok v xs) (HB : Below base w0 W) (hbase : base ≤ W.heap.size) (hl : (xs.length + 1) * bytes ≤ 140737488355328)
    (h : ∀ v1 w1, d.R e w1 base ok v1 (xs ++ [p]) → Below base w0 w1 → W.grownBy w1 v.ownBlock → (v1.ownBlock = v.ownBlock ∨ ∃ b, v1.ownBlock = some b ∧ W.heap.size ≤ b) → Kc (a.put o.dst v1) w1) :
    if Region.wanted o (yielded ops a.tmps) = true then Oper.wp P o a (W.alloc (.cells cs.toArray e)) Kc Q else Kc (a.put o.dst undef) (W.alloc (.cells cs.toArray e)) := by
  obtain ⟨h0, inner, hown, hr⟩ := HO
  refine step_append_cells base hw s x t e z d.sz bytes ho ht hinfo hz hs0 hb0 v xs.length inner cs hs hx (d.K_len (d.K_of_M hp)) (d.K_one (d.K_of_M hp)) hown HB hbase hl ?_
  intro v1 w1 hown1 hb1 hg1 hat1
  exact h v1 w1 (Kd.R_appended h0 hr hp hokp hfresh hown1 hg1 hat1) hb1 hg1 hat1
end
/-- an instruction that never keeps a block from going through -/
def meek (x : S39) : Bool := x.f0 == 1 || x.f0 == 2
theorem runK_meek (O : Ops) (u : List S37) (o : List S54) : ∀ (l : List S39) (r : List S37) (g : List S54), (∀ x ∈ l, meek x = true) → ∃ p, runK O u o l r g = some p
  | [], r, g, _ => ⟨(r, g), rfl⟩
  | x :: l, r, g, h => by
    have hx := h x (by simp)
    unfold meek at hx
    simp only [Bool.or_eq_true, beq_iff_eq] at hx
    unfold runK doesK valK
    rw [if_neg (show ¬ x.f0 = 6 by omega), if_neg (show ¬ x.f0 = 8 by omega)]
    rcases hx with hx | hx
    · rw [if_pos hx]
      exact runK_meek O u o l _ _ fun y hy => h y (by simp [hy])
    · rw [if_neg (by omega), if_pos hx]
      exact runK_meek O u o l _ _ fun y hy => h y (by simp [hy])
theorem evalK_meek (O : Ops) (u : List S37) (o : List S54) (z0 z1 z2 : Int) (l3 : List S39) (z4 : Int) (l5 l6 : List Int) (z8 z9 : Int) (s t : List S37) (hl : ∀ x ∈ l3, meek x = true) (hm : mayBlk z0 z1 z2 l3 z4 l5 l6 (-1) z8 z9 = true) (h0 : (s.length : Int) = z0) (h1 : (t.length : Int) = z1) :
    ∃ a b, evalK O u o z0 z1 z2 l3 z4 l5 l6 (-1) z8 z9 s t = some (a, b, z8) := by
  obtain ⟨p, hp⟩ := runK_meek O u o l3 (startK z2 s t) [] hl
  refine ⟨l5.map (rd_T37 p.1), l6.map (rd_T37 p.1), ?_⟩
  unfold evalK nextK
  rw [if_pos hm, if_pos h0, if_pos h1, hp, Option.bind_some, if_neg (by decide)]
  rfl
set_option maxHeartbeats 1600000 in
set_option maxRecDepth 1000000 in
theorem fails_calls (x : S39) (w : World) : Calls Try.prog 33 #[.agg #[.int .u8 x.f0, .int .i64 x.f1, .int .i64 x.f2, .int .i64 x.f3, .string x.f4, .int .u8 x.f5.f0, .int .i64 x.f5.f1, .string x.f5.f2]] w fun e w' => e = .returned (.bool (!meek x)) ∧ Below w.heap.size w w' := by
  go_enter Try.func33, Try.ntmps33
  go_wp2_with fail
  all_goals
    go_ret
    exact ⟨by first | rfl | simp_all [meek, bne], below_alloc (Below.refl _ _) _⟩
set_option maxHeartbeats 6400000 in
set_option maxRecDepth 1000000 in
theorem irFails_calls (z0 z1 z2 : Int) (A3 : Option Addr) (c3 : Nat) (l3 : List S39) (z4 : Int) (A5 : Option Addr) (c5 : Nat) (l5 : List Int) (A6 : Option Addr) (c6 : Nat) (l6 : List Int) (z7 z8 z9 : Int)
    (A7 : Option Addr) (c7 : Nat) (l7 : List S37) (A8 : Option Addr) (c8 : Nat) (l8 : List S37) (w : World)
    (hin : InIs w A3 c3 l3 A5 c5 l5 A6 c6 l6 A7 c7 l7 A8 c8 l8 none 0 [] none 0 []) (hM : MaxOk w) :
    Calls Try.prog 11 #[.agg #[.int .i64 z0, .int .i64 z1, .int .i64 z2, .slice A3 l3.length c3, .int .i64 z4, .slice A5 l5.length c5, .slice A6 l6.length c6, .int .i64 z7, .int .i64 z8, .int .i64 z9], .slice A7 l7.length c7, .slice A8 l8.length c8] w fun e w' => e = .returned (.bool true) ∧ Below w.heap.size w w' := by
  obtain ⟨gr, hgr, hsm⟩ := great_calls15 z0 z1 z2 A3 c3 l3 z4 A5 c5 l5 A6 c6 l6 z7 z8 z9 A7 c7 l7 A8 c8 l8 none 0 [] none 0 []
  obtain ⟨RK, rb, hrf, hri⟩ := Pure.right15_f l7 l8 [] [] (Kd.C_max hin.r7) (Kd.C_max hin.r8) (Kd.C_max hin.r0) (Kd.C_max hin.r2) hin.len
  have hgc := fun (W : World) (hi : InIs W A3 c3 l3 A5 c5 l5 A6 c6 l6 A7 c7 l7 A8 c8 l8 none 0 [] none 0 []) => hgr W hi.blk hi.r7 hi.k7 hi.r8 hi.k8 hi.r0 hi.k0 hi.r2 hi.k2
  have hrc := fun (W : World) (hi : InIs W A3 c3 l3 A5 c5 l5 A6 c6 l6 A7 c7 l7 A8 c8 l8 none 0 [] none 0 []) => sacristanlaw15_right.calls RK A7 c7 l7 A8 c8 l8 none 0 [] none 0 [] rb W hi.r7 hi.k7 hi.r8 hi.k8 hi.r0 hi.k0 hi.r2 hi.k2 hrf
  simp only [List.length_nil] at hgc hrc
  have HGR := Aside0.mk hgc
  have HSM1 := Aside0.mk hsm
  have HRC := Aside0.mk hrc
  have HRI := Aside0.mk hri
  have HIN := Aside0.mk hin
  have HMX := Aside0.mk hM
  have HB1 := Aside0.mk (below_alloc (Below.refl w.heap.size w) (.cells #[.int .i64 z0, .int .i64 z1, .int .i64 z2, .slice A3 l3.length c3, .int .i64 z4, .slice A5 l5.length c5, .slice A6 l6.length c6, .int .i64 z7, .int .i64 z8, .int .i64 z9] 25))
  have HI1 := Aside0.mk (blk_new w (.cells #[.int .i64 z0, .int .i64 z1, .int .i64 z2, .slice A3 l3.length c3, .int .i64 z4, .slice A5 l5.length c5, .slice A6 l6.length c6, .int .i64 z7, .int .i64 z8, .int .i64 z9] 25))
  clear hgr hgc hsm hrc hrf hri hin hM
  go_enter Try.func11, Try.ntmps11
  go_upto_region 1 with fail
  generalize w.alloc (.cells #[.int .i64 z0, .int .i64 z1, .int .i64 z2, .slice A3 l3.length c3, .int .i64 z4, .slice A5 l5.length c5, .slice A6 l6.length c6, .int .i64 z7, .int .i64 z8, .int .i64 z9] 25) = w1 at HB1 HI1 ⊢
  generalize hgb : w.heap.size = gb at HI1 ⊢
  have HGB := Aside0.mk hgb
  clear hgb
  have i1_0 := (blk_cell HI1.out 0).trans rfl
  have i1_1 := (blk_cell HI1.out 1).trans rfl
  have i1_2 := (blk_cell HI1.out 2).trans rfl
  have i1_3 := (blk_cell HI1.out 3).trans rfl
  have i1_4 := (blk_cell HI1.out 4).trans rfl
  have i1_5 := (blk_cell HI1.out 5).trans rfl
  have i1_6 := (blk_cell HI1.out 6).trans rfl
  have i1_7 := (blk_cell HI1.out 7).trans rfl
  have i1_8 := (blk_cell HI1.out 8).trans rfl
  have i1_9 := (blk_cell HI1.out 9).trans rfl
  cases gr with
  | true =>
    go_wp2_with (first
        | (go_at_call 14; (with_reducible refine (HGR.out w1 (HIN.out.below HB1.out)).mono ?_); rintro e w2 ⟨rfl, hb⟩; have HB2 := Aside0.mk (below_then HB1.out HB1.out.size hb); have HI2 := Aside0.mk (blk_below HI1.out hb); clear hb; have i2_0 := (blk_cell HI2.out 0).trans rfl; have i2_1 := (blk_cell HI2.out 1).trans rfl; have i2_2 := (blk_cell HI2.out 2).trans rfl; have i2_3 := (blk_cell HI2.out 3).trans rfl; have i2_4 := (blk_cell HI2.out 4).trans rfl; have i2_5 := (blk_cell HI2.out 5).trans rfl; have i2_6 := (blk_cell HI2.out 6).trans rfl; have i2_7 := (blk_cell HI2.out 7).trans rfl; have i2_8 := (blk_cell HI2.out 8).trans rfl; have i2_9 := (blk_cell HI2.out 9).trans rfl)
        | (go_at_call 30; (with_reducible refine (awake15_calls w2 (HMX.out.below HB2.out)).mono ?_); rintro e w3 ⟨rfl, hb⟩; have HB3 := Aside0.mk (below_then HB2.out HB2.out.size hb); clear hb))
    go_ret
    exact ⟨rfl, HB3.out⟩
  | false =>
  have HSM := Aside0.mk (HSM1.out rfl)
  cases rb with
  | false =>
    go_wp2_with (first
        | (go_at_call 14; (with_reducible refine (HGR.out w1 (HIN.out.below HB1.out)).mono ?_); rintro e w2 ⟨rfl, hb⟩; have HB2 := Aside0.mk (below_then HB1.out HB1.out.size hb); have HI2 := Aside0.mk (blk_below HI1.out hb); clear hb; have i2_0 := (blk_cell HI2.out 0).trans rfl; have i2_1 := (blk_cell HI2.out 1).trans rfl; have i2_2 := (blk_cell HI2.out 2).trans rfl; have i2_3 := (blk_cell HI2.out 3).trans rfl; have i2_4 := (blk_cell HI2.out 4).trans rfl; have i2_5 := (blk_cell HI2.out 5).trans rfl; have i2_6 := (blk_cell HI2.out 6).trans rfl; have i2_7 := (blk_cell HI2.out 7).trans rfl; have i2_8 := (blk_cell HI2.out 8).trans rfl; have i2_9 := (blk_cell HI2.out 9).trans rfl)
        | (go_at_call 29; (with_reducible refine (HRC.out w2 (HIN.out.below HB2.out)).mono ?_); rintro e w3 ⟨rfl, hb⟩; have HB3 := Aside0.mk (below_then HB2.out HB2.out.size hb); have HI3 := Aside0.mk (blk_below HI2.out hb); clear hb; have i3_0 := (blk_cell HI3.out 0).trans rfl; have i3_1 := (blk_cell HI3.out 1).trans rfl; have i3_2 := (blk_cell HI3.out 2).trans rfl; have i3_3 := (blk_cell HI3.out 3).trans rfl; have i3_4 := (blk_cell HI3.out 4).trans rfl; have i3_5 := (blk_cell HI3.out 5).trans rfl; have i3_6 := (blk_cell HI3.out 6).trans rfl; have i3_7 := (blk_cell HI3.out 7).trans rfl; have i3_8 := (blk_cell HI3.out 8).trans rfl; have i3_9 := (blk_cell HI3.out 9).trans rfl)
        | (go_at_call 30; (with_reducible refine (awake15_calls w3 (HMX.out.below HB3.out)).mono ?_); rintro e w4 ⟨rfl, hb⟩; have HB4 := Aside0.mk (below_then HB3.out HB3.out.size hb); clear hb))
    go_ret
    exact ⟨rfl, HB4.out⟩
  | true =>
  have HAL := Aside0.mk (allP_of HIN.out (HRI.out rfl))
  have HWS := Aside0.mk (fun x (hx : x ∈ l3) => (show x.f4.size ≤ 4294967000 by have := (HSM.out.words x hx).1; omega))
  go_upto_region 4 with (first
    | (go_at_call 14; (with_reducible refine (HGR.out w1 (HIN.out.below HB1.out)).mono ?_); rintro e w2 ⟨rfl, hb⟩; have HB2 := Aside0.mk (below_then HB1.out HB1.out.size hb); have HI2 := Aside0.mk (blk_below HI1.out hb); clear hb; have i2_0 := (blk_cell HI2.out 0).trans rfl; have i2_1 := (blk_cell HI2.out 1).trans rfl; have i2_2 := (blk_cell HI2.out 2).trans rfl; have i2_3 := (blk_cell HI2.out 3).trans rfl; have i2_4 := (blk_cell HI2.out 4).trans rfl; have i2_5 := (blk_cell HI2.out 5).trans rfl; have i2_6 := (blk_cell HI2.out 6).trans rfl; have i2_7 := (blk_cell HI2.out 7).trans rfl; have i2_8 := (blk_cell HI2.out 8).trans rfl; have i2_9 := (blk_cell HI2.out 9).trans rfl)
    | (go_at_call 29; (with_reducible refine (HRC.out w2 (HIN.out.below HB2.out)).mono ?_); rintro e w3 ⟨rfl, hb⟩; have HB3 := Aside0.mk (below_then HB2.out HB2.out.size hb); have HI3 := Aside0.mk (blk_below HI2.out hb); clear hb; have i3_0 := (blk_cell HI3.out 0).trans rfl; have i3_1 := (blk_cell HI3.out 1).trans rfl; have i3_2 := (blk_cell HI3.out 2).trans rfl; have i3_3 := (blk_cell HI3.out 3).trans rfl; have i3_4 := (blk_cell HI3.out 4).trans rfl; have i3_5 := (blk_cell HI3.out 5).trans rfl; have i3_6 := (blk_cell HI3.out 6).trans rfl; have i3_7 := (blk_cell HI3.out 7).trans rfl; have i3_8 := (blk_cell HI3.out 8).trans rfl; have i3_9 := (blk_cell HI3.out 9).trans rfl))
  have hX4 := blk_new w3 (.cells #[.int .i64 z0, .int .i64 z1, .int .i64 z2, .slice A3 l3.length c3, .int .i64 z4, .slice A5 l5.length c5, .slice A6 l6.length c6, .int .i64 z7, .int .i64 z8, .int .i64 z9] 25)
  have hB4 := below_alloc (Below.refl w3.heap.size w3) (.cells #[.int .i64 z0, .int .i64 z1, .int .i64 z2, .slice A3 l3.length c3, .int .i64 z4, .slice A5 l5.length c5, .slice A6 l6.length c6, .int .i64 z7, .int .i64 z8, .int .i64 z9] 25)
  have hz4 : (w3.alloc (.cells #[.int .i64 z0, .int .i64 z1, .int .i64 z2, .slice A3 l3.length c3, .int .i64 z4, .slice A5 l5.length c5, .slice A6 l6.length c6, .int .i64 z7, .int .i64 z8, .int .i64 z9] 25)).heap.size = w3.heap.size + 1 := by simp
  generalize w3.alloc (.cells #[.int .i64 z0, .int .i64 z1, .int .i64 z2, .slice A3 l3.length c3, .int .i64 z4, .slice A5 l5.length c5, .slice A6 l6.length c6, .int .i64 z7, .int .i64 z8, .int .i64 z9] 25) = w4 at hX4 hB4 hz4 ⊢
  generalize hgc : w3.heap.size = gc at hX4 hB4 hz4 ⊢
  have HGC := Aside0.mk hgc
  have HX4 := Aside0.mk hX4
  have HB4 := Aside0.mk hB4
  have HZ4 := Aside0.mk hz4
  have c4_3 := (blk_cell hX4 3).trans rfl
  have f4_3 := blk_frozen hX4 3
  clear hgc hX4 hB4 hz4
  go_upto_region 5 with ((with_reducible refine gate_dst (N := 27) rfl ?_); refine Kd.R_lit k39 (w0 := w4) gc 39 ?hg (N := 27) ?hd (xs := []) (inner := []) (ok := fun j => gc < j) (okp := fun _ => False) ?hr (Reps.none _ _) (fun _ h => h.elim) (by have := HZ4.out; omega) (Below.refl gc w4) (by have := HZ4.out; omega) (by simp) ?_; (case hd => rfl); (case hg => rfl); (case hr => first | (go_simp; done) | (go_simp; rfl)); intro v27 w5 h5 b5 g5 _; obtain ⟨A27, c27, rfl, _, _⟩ := Kd.R_reads h5; have hX5 := (g5.block gc (by have := HZ4.out; omega) (by simp)).trans HX4.out; have c5_3 := (blk_cell hX5 3).trans rfl; have f5_3 := blk_frozen hX5 3; have HX5 := Aside0.mk hX5; have HR5 := Aside0.mk h5; have HB5 := Aside0.mk (HB4.out.trans b5); clear h5 b5 g5 hX5)
  have HX6 := Aside0.mk (blk_put HX5.out 3 (.slice A27 ([] : List S39).length c27) rfl)
  have HR6 := Aside0.mk (Kd.R_far HR5.out (p := ⟨gc, 3, none⟩) (fun j hj => by show j ≠ gc; omega) (.slice A27 ([] : List S39).length c27))
  have HB6 := Aside0.mk (HB5.out.setCell (p := ⟨gc, 3, none⟩) (Nat.le_refl _) (.slice A27 ([] : List S39).length c27))
  simp only [List.length_nil] at HX6 HR6 HB6
  clear c4_3 f4_3 c5_3 f5_3 HX4 HB4 HZ4 HX5 HR5 HB5 i1_0 i1_1 i1_2 i1_3 i1_4 i1_5 i1_6 i1_7 i1_8 i1_9 i2_0 i2_1 i2_2 i2_3 i2_4 i2_5 i2_6 i2_7 i2_8 i2_9 HI1 HI2 HGR HRC HRI HSM1
  have hm3 := Kd.C_max HIN.out.blk.r3
  go_wp2_with fail
  go_loopw [8] (fun i wr => ∃ (k : Nat) (vo : Value), k ≤ l3.length ∧ i = .int .i64 k ∧ Aside0 (wr.heap[gc]? = some (.cells #[.int .i64 z0, .int .i64 z1, .int .i64 z2, vo, .int .i64 z4, .slice A5 l5.length c5, .slice A6 l6.length c6, .int .i64 z7, .int .i64 z8, .int .i64 z9] 25 (0, 0))) ∧ Aside0 (Kd.R k39 39 wr gc (fun j => gc < j) vo ((l3.take k).filter meek)) ∧ Aside0 (Below gc w3 wr)) (fun i _ => l3.length - (intOf i).toNat)
  case atStart => exact ⟨0, _, by omega, rfl, HX6, HR6, HB6⟩
  case round =>
    clear HX6 HR6 HB6
    obtain ⟨k, vo, hk, rfl, HP, HR, HB⟩ := hrel
    have hbw : Below w3.heap.size w3 wr := by rw [HGC.out]; exact HB.out
    have hib := below_then HB3.out HB3.out.size hbw
    have HIB := Aside0.mk hib
    have HI := Aside0.mk (blk_below HI3.out hbw)
    have hgr := blk_lt HP.out
    clear hbw hib
    generalize hq : (l3.take k).filter meek = q at HR
    obtain ⟨Ao, co, rfl, _, _⟩ := Kd.R_reads HR.out
    have n3 := (blk_cell HI.out 3).trans rfl
    have k3 := (blk_cell HP.out 3).trans rfl
    by_cases hlt : k < l3.length
    · obtain ⟨ad, e, e0, e1, e2, e3, e4, e5, e6, e7⟩ := at_T39 (HIN.out.below HIB.out).blk.r3 (k : Int) (by omega) (by omega)
      subst e
      have hx : rd_T39 l3 (k : Int) = l3[k] := Pure.rdT_nat hlt
      rw [show ((k : Int).toNat) = k by omega, hx] at e0 e1 e2 e3 e4 e5 e6 e7
      have HQ := Aside0.mk (show (l3.take (k + 1)).filter meek = q ++ (if meek l3[k] = true then [l3[k]] else []) by rw [List.take_add_one, List.getElem?_eq_getElem hlt, List.filter_append, hq]; cases hm : meek l3[k] <;> simp [hm])
      clear hx hq
      generalize hxx : l3[k] = x at e0 e1 e2 e3 e4 e5 e6 e7 HQ
      clear hxx
      cases hmk : meek x with
      | false =>
        have hF := fails_calls x wr
        rw [hmk] at hF HQ
        have HF := Aside0.mk hF
        clear hF hmk
        go_wp2_with (go_at_call 33; (with_reducible refine HF.out.mono ?_); rintro e w7 ⟨rfl, hb⟩; have HB7 := Aside0.mk hb; clear hb)
        go_roundw
        case rel => exact ⟨k + 1, _, by omega, by go_num, ⟨blk_below HP.out HB7.out⟩, ⟨by rw [HQ.out]; simpa using Kd.R_below HR.out HB7.out⟩, ⟨HB.out.trans (HB7.out.mono (by omega))⟩⟩
        case measure => simp [intOf]; omega
      | true =>
        have hF := fails_calls x wr
        rw [hmk] at hF HQ
        have HF := Aside0.mk hF
        clear hF hmk
        have hla := (HIN.out.below HIB.out).blk.r3
        have HAT := Aside0.mk hla
        clear hla
        have HLQ := Aside0.mk (show q.length + 1 ≤ 200 by have h1 := congrArg List.length HQ.out; have h2 := List.length_filter_le meek (l3.take (k + 1)); have h3 := HSM.out.insts; simp at h1 h2; omega)
        go_upto_region 9 with (go_at_call 33; (with_reducible refine HF.out.mono ?_); rintro e w7 ⟨rfl, hb⟩; have n7 := (blk_cell (blk_below HI.out hb) 3).trans rfl; have hP7 := blk_below HP.out hb; have k7 := (blk_cell hP7 3).trans rfl; have fk7 := blk_frozen hP7 3; have HP7 := Aside0.mk hP7; have HR7 := Aside0.mk (Kd.R_below HR.out hb); have HB7 := Aside0.mk (HB.out.trans (hb.mono (by omega))); have g0 := (hb.cell (World.block_lt_of_cell? _ _ e0)).trans e0; have g1 := (hb.cell (World.block_lt_of_cell? _ _ e1)).trans e1; have g2 := (hb.cell (World.block_lt_of_cell? _ _ e2)).trans e2; have g3 := (hb.cell (World.block_lt_of_cell? _ _ e3)).trans e3; have g4 := (hb.cell (World.block_lt_of_cell? _ _ e4)).trans e4; have g5 := (hb.cell (World.block_lt_of_cell? _ _ e5)).trans e5; have g6 := (hb.cell (World.block_lt_of_cell? _ _ e6)).trans e6; have g7 := (hb.cell (World.block_lt_of_cell? _ _ e7)).trans e7; have hg7 := blk_lt hP7; clear hb hP7)
        clear e0 e1 e2 e3 e4 e5 e6 e7 n3 k3
        have HPD := Aside0.mk (show w7.drew.heap[gc]? = _ from HP7.out)
        have HRD := Aside0.mk (Kd.R_below HR7.out (below_drew (Below.refl _ w7)))
        have HBD := Aside0.mk (below_drew HB7.out)
        have HSD := Aside0.mk (show gc < w7.drew.heap.size from hg7)
        go_region_law (go_loud (refine R_append_step k39 (w0 := w3) (W := w7.drew) gc (by simp [Region.wanted]) (.tmp 44) (.tmp 50) 22 39 _ 80 rfl Try.underlying22 info39 rfl (by decide) (by decide) (.slice Ao q.length co) q x [.int .u8 x.f0, .int .i64 x.f1, .int .i64 x.f2, .int .i64 x.f3, .string x.f4, .int .u8 x.f5.f0, .int .i64 x.f5.f1, .string x.f5.f2] (fun j => gc < j) (fun _ => False) (by simp [Act.eval, Act.put]) (by simp [Act.eval, Act.put]) (k39_mkM _ _ _ x) (fun _ hk => hk.elim) (fun j hj => Nat.lt_of_lt_of_le HSD.out hj) HRD.out HBD.out (Nat.le_of_lt HSD.out) (by have := HLQ.out; omega) ?_; intro v1 w8 h1 hb8 hg8 _; obtain ⟨A1, c1, rfl, _, _⟩ := Kd.R_reads h1; have hP8 := (hg8.block gc HSD.out (fun e => Nat.lt_irrefl _ (HRD.out.1 gc e.symm))).trans HPD.out; have f8 := blk_frozen hP8 3; have q8 := (blk_cell hP8 3).trans rfl; have HP8 := Aside0.mk hP8; have H1 := Aside0.mk h1; have HB8 := Aside0.mk hb8; clear hP8 h1 hb8 hg8))
        all_goals
          go_wp2_with fail
          go_roundw
          case rel =>
            refine ⟨k + 1, _, by omega, by go_num, ⟨blk_put HP8.out 3 _ rfl⟩, ⟨?_⟩, ⟨HB8.out.setCell (p := ⟨gc, 3, none⟩) (Nat.le_refl _) _⟩⟩
            rw [HQ.out, if_pos trivial]
            have H1' := H1.out
            rw [show (q ++ [x]).length = q.length + 1 by simp] at H1'
            exact Kd.R_far H1' (p := ⟨gc, 3, none⟩) (fun j hj => by show j ≠ gc; omega) _
          case measure => simp [intOf]; omega
    · obtain rfl : k = l3.length := by omega
      rw [List.take_of_length_le (Nat.le_refl _)] at hq
      have hall : ∀ y ∈ q, y ∈ l3 ∧ meek y = true := fun y hy => by rw [← hq] at hy; exact ⟨(List.mem_filter.1 hy).1, (List.mem_filter.1 hy).2⟩
      have HALL := Aside0.mk hall
      clear hall hq k3
      have k0 := (blk_cell HP.out 0).trans rfl
      have k7 := (blk_cell HP.out 7).trans rfl
      have fk7 := blk_frozen HP.out 7
      go_upto_region 11 with fail
      have HP9 : Aside0 ((wr.setCell ⟨gc, 7, none⟩ (.int .i64 (-1))).heap[gc]? = some (.cells #[.int .i64 z0, .int .i64 z1, .int .i64 z2, .slice Ao q.length co, .int .i64 z4, .slice A5 l5.length c5, .slice A6 l6.length c6, .int .i64 (-1), .int .i64 z8, .int .i64 z9] 25 (0, 0))) := ⟨blk_put HP.out 7 (.int .i64 (-1)) rfl⟩
      have HR9 := Aside0.mk (Kd.R_far HR.out (p := ⟨gc, 7, none⟩) (fun j hj => by show j ≠ gc; omega) (.int .i64 (-1)))
      have HB9 := Aside0.mk (HB.out.setCell (p := ⟨gc, 7, none⟩) (Nat.le_refl _) (.int .i64 (-1)))
      clear k0 k7 fk7 n3 HI HIB HP HR HB
      generalize wr.setCell ⟨gc, 7, none⟩ (.int .i64 (-1)) = w9 at HP9 HR9 HB9 ⊢
      obtain ⟨_, _, hv, hcq, hq9⟩ := Kd.R_reads HR9.out
      injection hv with hv1 hv2 hv3
      subst hv1 hv3
      clear hv2
      have hbx : Below w.heap.size w w9 := below_then HB3.out HB3.out.size (by rw [HGC.out]; exact HB9.out)
      have HBX := Aside0.mk hbx
      have HBK := Aside0.mk (show BlkIs w9 Ao co q A5 c5 l5 A6 c6 l6 from ⟨hq9, hcq, (HIN.out.below hbx).blk.r5, HIN.out.blk.c5, (HIN.out.below hbx).blk.r6, HIN.out.blk.c6⟩)
      clear hcq hq9 hbx HR9 HB9
      have p9_0 := (blk_cell HP9.out 0).trans rfl
      have p9_1 := (blk_cell HP9.out 1).trans rfl
      have p9_2 := (blk_cell HP9.out 2).trans rfl
      have p9_3 := (blk_cell HP9.out 3).trans rfl
      have p9_4 := (blk_cell HP9.out 4).trans rfl
      have p9_5 := (blk_cell HP9.out 5).trans rfl
      have p9_6 := (blk_cell HP9.out 6).trans rfl
      have p9_7 := (blk_cell HP9.out 7).trans rfl
      have p9_8 := (blk_cell HP9.out 8).trans rfl
      have p9_9 := (blk_cell HP9.out 9).trans rfl
      generalize hmb : mayBlk z0 z1 z2 q z4 l5 l6 (-1) z8 z9 = mb
      have HMAY := Aside0.mk (refMay_calls15 z0 z1 z2 Ao co q z4 A5 c5 l5 A6 c6 l6 (-1) z8 z9 w9 HBK.out HSM.out.save HSM.out.stack)
      rw [hmb] at HMAY
      have HMB := Aside0.mk hmb
      clear hmb
      cases mb with
      | false =>
        go_wp2_with (first
          | (go_at_call 19; (with_reducible refine HMAY.out.mono ?_); rintro e w10 ⟨rfl, hb⟩; have HE10 := Aside0.mk hb; have HB10 := Aside0.mk (below_then HBX.out HBX.out.size hb); have HP10 := Aside0.mk (blk_below HP9.out hb); clear hb; have p10_0 := (blk_cell HP10.out 0).trans rfl; have p10_1 := (blk_cell HP10.out 1).trans rfl; have p10_2 := (blk_cell HP10.out 2).trans rfl; have p10_3 := (blk_cell HP10.out 3).trans rfl; have p10_4 := (blk_cell HP10.out 4).trans rfl; have p10_5 := (blk_cell HP10.out 5).trans rfl; have p10_6 := (blk_cell HP10.out 6).trans rfl; have p10_7 := (blk_cell HP10.out 7).trans rfl; have p10_8 := (blk_cell HP10.out 8).trans rfl; have p10_9 := (blk_cell HP10.out 9).trans rfl)
          | (go_at_call 30; (with_reducible refine (awake15_calls w10 (HMX.out.below HB10.out)).mono ?_); rintro e w11 ⟨rfl, hb⟩; have HB11 := Aside0.mk (below_then HB10.out HB10.out.size hb); clear hb))
        go_ret
        exact ⟨rfl, HB11.out⟩
      | true =>
        by_cases h0 : (l7.length : Int) = z0
        · have d0 : decide ((l7.length : Int) ≠ z0) = false := decide_eq_false (fun h => h h0)
          have d0' : ((l7.length : Int) != z0) = false := by simp [bne, h0]
          by_cases h1 : (l8.length : Int) = z1
          · have d1 : decide ((l8.length : Int) ≠ z1) = false := decide_eq_false (fun h => h h1)
            have d1' : ((l8.length : Int) != z1) = false := by simp [bne, h1]
            have HEX := Aside0.mk (evalK_meek PW.theOps [] [] z0 z1 z2 q z4 l5 l6 z8 z9 l7 l8 (fun y hy => (HALL.out y hy).2) HMB.out h0 h1)
            have HEV := Aside0.mk (fun W (hb : Below w9.heap.size w9 W) (hM : MaxOk W) (hi : InIs W A3 c3 l3 A5 c5 l5 A6 c6 l6 A7 c7 l7 A8 c8 l8 none 0 [] none 0 []) => irEval_calls PW.theOps PW.FitV PW.opsVal z0 z1 z2 Ao co q z4 A5 c5 l5 A6 c6 l6 (-1) z8 z9 A7 c7 l7 A8 c8 l8 none 0 [] none 0 [] W (HBK.out.below hb) hi.r7 hi.r8 hi.r0 hi.r2 (fun y hy => HWS.out y (HALL.out y hy).1) hM (fun y hy => by have h := (HALL.out y hy).2; unfold meek at h; simp only [Bool.or_eq_true, beq_iff_eq] at h; omega) ⟨HAL.out.s, HAL.out.t, HAL.out.u, HAL.out.o, fun y hy => HAL.out.k y (HALL.out y hy).1, HAL.out.z⟩)
            simp only [List.length_nil] at HEV
            clear h0 h1
            have dn : (z8 == z8) = true := by simp
            go_wp2_with (first
              | (go_at_call 19; (with_reducible refine HMAY.out.mono ?_); rintro e w10 ⟨rfl, hb⟩; have HE10 := Aside0.mk hb; have HB10 := Aside0.mk (below_then HBX.out HBX.out.size hb); have HP10 := Aside0.mk (blk_below HP9.out hb); clear hb; have p10_0 := (blk_cell HP10.out 0).trans rfl; have p10_1 := (blk_cell HP10.out 1).trans rfl; have p10_2 := (blk_cell HP10.out 2).trans rfl; have p10_3 := (blk_cell HP10.out 3).trans rfl; have p10_4 := (blk_cell HP10.out 4).trans rfl; have p10_5 := (blk_cell HP10.out 5).trans rfl; have p10_6 := (blk_cell HP10.out 6).trans rfl; have p10_7 := (blk_cell HP10.out 7).trans rfl; have p10_8 := (blk_cell HP10.out 8).trans rfl; have p10_9 := (blk_cell HP10.out 9).trans rfl)
              | (go_at_call 31; (with_reducible refine (HEV.out w10 HE10.out (HMX.out.below HB10.out) (HIN.out.below HB10.out)).mono ?_); rintro e w11 ⟨s1, t1, n1, ok1, S1, cs1, T1, ct1, rfl, _, _, _, _, hb, ho, _⟩; obtain ⟨ea, eb, hee⟩ := HEX.out; rw [hee] at ho; obtain rfl : ok1 = true := (by cases ok1 <;> first | rfl | cases ho); obtain ⟨-, -, rfl⟩ := (by simpa using ho : _ ∧ _ ∧ _); have HB11 := Aside0.mk (below_then HB10.out HB10.out.size hb); have HP11 := Aside0.mk (blk_below HP10.out hb); clear hb ho hee; have p11_0 := (blk_cell HP11.out 0).trans rfl; have p11_1 := (blk_cell HP11.out 1).trans rfl; have p11_2 := (blk_cell HP11.out 2).trans rfl; have p11_3 := (blk_cell HP11.out 3).trans rfl; have p11_4 := (blk_cell HP11.out 4).trans rfl; have p11_5 := (blk_cell HP11.out 5).trans rfl; have p11_6 := (blk_cell HP11.out 6).trans rfl; have p11_7 := (blk_cell HP11.out 7).trans rfl; have p11_8 := (blk_cell HP11.out 8).trans rfl; have p11_9 := (blk_cell HP11.out 9).trans rfl)
              | (go_at_call 30; (with_reducible refine (awake15_calls w11 (HMX.out.below HB11.out)).mono ?_); rintro e w12 ⟨rfl, hb⟩; have HB12 := Aside0.mk (below_then HB11.out HB11.out.size hb); clear hb))
            go_ret
            exact ⟨rfl, HB12.out⟩
          · have d1 : decide ((l8.length : Int) ≠ z1) = true := decide_eq_true h1
            have d1' : ((l8.length : Int) != z1) = true := by simp [bne, h1]
            go_wp2_with (first
              | (go_at_call 19; (with_reducible refine HMAY.out.mono ?_); rintro e w10 ⟨rfl, hb⟩; have HE10 := Aside0.mk hb; have HB10 := Aside0.mk (below_then HBX.out HBX.out.size hb); have HP10 := Aside0.mk (blk_below HP9.out hb); clear hb; have p10_0 := (blk_cell HP10.out 0).trans rfl; have p10_1 := (blk_cell HP10.out 1).trans rfl; have p10_2 := (blk_cell HP10.out 2).trans rfl; have p10_3 := (blk_cell HP10.out 3).trans rfl; have p10_4 := (blk_cell HP10.out 4).trans rfl; have p10_5 := (blk_cell HP10.out 5).trans rfl; have p10_6 := (blk_cell HP10.out 6).trans rfl; have p10_7 := (blk_cell HP10.out 7).trans rfl; have p10_8 := (blk_cell HP10.out 8).trans rfl; have p10_9 := (blk_cell HP10.out 9).trans rfl)
              | (go_at_call 30; (with_reducible refine (awake15_calls w10 (HMX.out.below HB10.out)).mono ?_); rintro e w11 ⟨rfl, hb⟩; have HB11 := Aside0.mk (below_then HB10.out HB10.out.size hb); clear hb))
            go_ret
            exact ⟨rfl, HB11.out⟩
        · have d0 : decide ((l7.length : Int) ≠ z0) = true := decide_eq_true h0
          have d0' : ((l7.length : Int) != z0) = true := by simp [bne, h0]
          go_wp2_with (first
            | (go_at_call 19; (with_reducible refine HMAY.out.mono ?_); rintro e w10 ⟨rfl, hb⟩; have HE10 := Aside0.mk hb; have HB10 := Aside0.mk (below_then HBX.out HBX.out.size hb); have HP10 := Aside0.mk (blk_below HP9.out hb); clear hb; have p10_0 := (blk_cell HP10.out 0).trans rfl; have p10_1 := (blk_cell HP10.out 1).trans rfl; have p10_2 := (blk_cell HP10.out 2).trans rfl; have p10_3 := (blk_cell HP10.out 3).trans rfl; have p10_4 := (blk_cell HP10.out 4).trans rfl; have p10_5 := (blk_cell HP10.out 5).trans rfl; have p10_6 := (blk_cell HP10.out 6).trans rfl; have p10_7 := (blk_cell HP10.out 7).trans rfl; have p10_8 := (blk_cell HP10.out 8).trans rfl; have p10_9 := (blk_cell HP10.out 9).trans rfl)
            | (go_at_call 30; (with_reducible refine (awake15_calls w10 (HMX.out.below HB10.out)).mono ?_); rintro e w11 ⟨rfl, hb⟩; have HB11 := Aside0.mk (below_then HB10.out HB10.out.size hb); clear hb))
          go_ret
          exact ⟨rfl, HB11.out⟩
end Go.Proofs.Ytjkjbfhhfdbnoaa.NW
