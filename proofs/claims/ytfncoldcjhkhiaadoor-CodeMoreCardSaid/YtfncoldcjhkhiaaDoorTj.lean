/- Whether two modules are the same. -/
import Derived.Test.YtfncoldcjhkhiaaDoorTi
import Derived.Test.YtfncoldcjhkhiaaDoorPCx15
namespace Go.Proofs.YtfncoldcjhkhiaaDoor.NW
open Go.RowKit Go.Maps Go.WideMaps Go.Proofs.YtfncoldcjhkhiaaDoorW.PrintWords Go.Proofs.YtfncoldcjhkhiaaDoorW.PrintMore Go.Proofs.YtfncoldcjhkhiaaDoor.PC
set_option linter.unusedVariables false
set_option linter.unusedSimpArgs false
def eqF {α : Type} (p : α → α → Bool) (l m : List α) : Bool := if l.length = m.length then (l.zip m).all fun x => p x.1 x.2 else false
theorem eqF_len {α : Type} {p : α → α → Bool} {l m : List α} (h : ¬ l.length = m.length) : eqF p l m = false := if_neg h
theorem eqF_at {α : Type} {p : α → α → Bool} {l m : List α} (hl : l.length = m.length) {k : Nat} (hk : k < l.length) (hk2 : k < m.length) (h : p l[k] m[k] = false) : eqF p l m = false := by
  unfold eqF
  rw [if_pos hl]
  cases e : (l.zip m).all fun x => p x.1 x.2 with
  | false => rfl
  | true =>
    have := List.all_eq_true.1 e ((l.zip m)[k]'(by rw [List.length_zip]; omega)) (List.getElem_mem _)
    rw [List.getElem_zip] at this
    rw [h] at this
    exact this.symm
theorem eqF_all {α : Type} {p : α → α → Bool} {l m : List α} (hl : l.length = m.length) (h : ∀ (k : Nat) (hk : k < l.length) (hk2 : k < m.length), p l[k] m[k] = true) : eqF p l m = true := by
  unfold eqF
  rw [if_pos hl]
  refine List.all_eq_true.2 fun x hx => ?_
  obtain ⟨j, hj, rfl⟩ := List.mem_iff_getElem.1 hx
  rw [List.getElem_zip]
  exact h j _ _


set_option maxHeartbeats 3200000 in
set_option maxRecDepth 1000000 in
theorem eq41_calls (p : S41 → S41 → Bool) (A : Option Addr) (c : Nat) (l : List S41) (D : Option Addr) (d : Nat) (m : List S41) (w : World) (hr : Kd.C k41 w A l.length l) (hs : Kd.C k41 w D m.length m) (hp : ∀ (x y : S41) (W : World), x ∈ l → y ∈ m → Below w.heap.size w W → ∀ (B : Option Addr) (b : Nat) (hb : x.f0.length ≤ b) (hB : (Kd.int .i64).C W B x.f0.length x.f0) (E : Option Addr) (e : Nat) (he : y.f0.length ≤ e) (hE : (Kd.int .i64).C W E y.f0.length y.f0), Calls Tryd.prog 60 (#[.agg #[.slice B x.f0.length b, .bool x.f1, .bool x.f2], .agg #[.slice E y.f0.length e, .bool y.f1, .bool y.f2]] ++ #[]) W fun e W' => e = .returned (.bool (p x y)) ∧ Below W.heap.size W W') :
    Calls Tryd.prog 65 #[.slice A l.length c, .slice D m.length d, .func (.func 60) #[] #[]] w fun e w' => e = .returned (.bool (eqF p l m)) ∧ Below w.heap.size w w' := by
  have hm := Kd.C_max hr
  have hm2 := Kd.C_max hs
  by_cases hl : l.length = m.length
  case neg =>
    have e_ : eqF p l m = false := eqF_len hl
    rw [e_]
    have d1 : ((l.length : Int) != (m.length : Int)) = true := bne_iff_ne.2 (by omega)
    clear e_ hl hr hs hp
    go_enter Tryd.func65, Tryd.ntmps65
    go_wp2
    go_ret
    exact ⟨rfl, Below.refl _ _⟩
  have d1 : ((l.length : Int) != (m.length : Int)) = false := by rw [hl]; simp
  have HL := Aside0.mk hl
  have HR := Aside0.mk hr
  have HS := Aside0.mk hs
  have HP := Aside0.mk hp
  obtain ⟨r, hr_⟩ : ∃ r, eqF p l m = r := ⟨_, rfl⟩
  rw [hr_]
  have HRR := Aside0.mk hr_
  clear hr hs hp hl hr_
  go_enter Tryd.func65, Tryd.ntmps65
  go_wp2
  go_loopw [17] (fun i wr => ∃ k : Nat, k ≤ l.length ∧ i = .int .i64 (k : Int) ∧ Aside0 (∀ (j : Nat) (h : j < l.length) (h2 : j < m.length), j < k → p l[j] m[j] = true) ∧ Aside0 (Below w.heap.size w wr)) (fun i _ => l.length - (intOf i).toNat)
  case atStart => exact ⟨0, by omega, rfl, ⟨fun j h h2 hj => absurd hj (by omega)⟩, ⟨Below.refl _ _⟩⟩
  case round =>
    obtain ⟨k, hk, rfl, hno, hb1⟩ := hrel
    by_cases hlt : k < l.length
    · have hlt2 : k < m.length := by rw [← HL.out]; exact hlt
      have hat := at_T41 HR.out (k : Int) (by omega) (by omega)
      have hx : rd_T41 l (k : Int) = l[k] := by
        rw [rd_T41, List.getD_eq_getElem?_getD, show ((k : Int).toNat) = k by omega, List.getElem?_eq_getElem hlt]; rfl
      rw [hx, show ((k : Int).toNat) = k by omega] at hat
      have hbt := at_T41 HS.out (k : Int) (by omega) (by omega)
      have hy : rd_T41 m (k : Int) = m[k] := by
        rw [rd_T41, List.getD_eq_getElem?_getD, show ((k : Int).toNat) = k by omega, List.getElem?_eq_getElem hlt2]; rfl
      rw [hy, show ((k : Int).toNat) = k by omega] at hbt
      have HMX := Aside0.mk (List.getElem_mem hlt)
      have HMY := Aside0.mk (List.getElem_mem hlt2)
      have HN1 := Aside0.mk (fun hy => eqF_at (p := p) HL.out hlt hlt2 hy)
      have HY1 := Aside0.mk (fun (hy : p l[k] m[k] = true) (j : Nat) (h : j < l.length) (h2 : j < m.length) (hj : j < k + 1) => if e : j = k then (by subst e; exact hy) else hno.out j h h2 (by omega))
      generalize hxx : l[k] = x at hat HMX HY1 HN1
      generalize hyy : m[k] = y at hbt HMY HY1 HN1
      clear hxx hx hyy hy
      obtain ⟨ad, B, b, rfl, q0, q1, q2, hl1, hC1⟩ := hat
      obtain ⟨ae, E, e, rfl, z0, z1, z2, hl2, hC2⟩ := hbt
      replace q0 := (hb1.out.cell (World.block_lt_of_cell? w _ q0)).trans q0; replace q1 := (hb1.out.cell (World.block_lt_of_cell? w _ q1)).trans q1; replace q2 := (hb1.out.cell (World.block_lt_of_cell? w _ q2)).trans q2
      replace z0 := (hb1.out.cell (World.block_lt_of_cell? w _ z0)).trans z0; replace z1 := (hb1.out.cell (World.block_lt_of_cell? w _ z1)).trans z1; replace z2 := (hb1.out.cell (World.block_lt_of_cell? w _ z2)).trans z2
      have HB0 := Aside0.mk ((Below.refl wr.heap.size wr).alloc (Nat.le_refl _) (.cells #[.slice B x.f0.length b, .bool x.f1, .bool x.f2] 41 (0, 0)))
      have y0 := (HB0.out.cell (World.block_lt_of_cell? wr _ z0)).trans z0; have y1 := (HB0.out.cell (World.block_lt_of_cell? wr _ z1)).trans z1; have y2 := (HB0.out.cell (World.block_lt_of_cell? wr _ z2)).trans z2
      cases hpx : p x y with
      | false =>
        have HX := Aside0.mk (HRR.out.symm.trans (HN1.out hpx))
        have HPX := Aside0.mk hpx
        clear hpx
        go_wp2_with fail
        have hbA := ((Below.refl wr.heap.size wr).alloc (Nat.le_refl _) (.cells #[.slice B x.f0.length b, .bool x.f1, .bool x.f2] 41 (0, 0))).alloc (by simp) (.cells #[.slice E y.f0.length e, .bool y.f1, .bool y.f2] 41 (0, 0))
        have HBA := Aside0.mk (hb1.out.trans (hbA.mono hb1.out.size))
        clear hbA
        refine Calls.mono (show Calls Tryd.prog 60 _ _ _ from HP.out x y _ HMX.out HMY.out HBA.out B b hl1 (Kd.C_below hC1 HBA.out) E e hl2 (Kd.C_below hC2 HBA.out)) ?_
        rintro e w' ⟨rfl, hb2⟩
        rw [HPX.out]
        have HB2 := Aside0.mk (HBA.out.trans (hb2.mono HBA.out.size))
        clear hb2
        go_wp2_with fail
        go_ret
        exact ⟨by rw [HX.out]; rfl, HB2.out⟩
      | true =>
        have HX := Aside0.mk (HY1.out hpx)
        have HPX := Aside0.mk hpx
        clear hpx
        go_wp2_with fail
        have hbA := ((Below.refl wr.heap.size wr).alloc (Nat.le_refl _) (.cells #[.slice B x.f0.length b, .bool x.f1, .bool x.f2] 41 (0, 0))).alloc (by simp) (.cells #[.slice E y.f0.length e, .bool y.f1, .bool y.f2] 41 (0, 0))
        have HBA := Aside0.mk (hb1.out.trans (hbA.mono hb1.out.size))
        clear hbA
        refine Calls.mono (show Calls Tryd.prog 60 _ _ _ from HP.out x y _ HMX.out HMY.out HBA.out B b hl1 (Kd.C_below hC1 HBA.out) E e hl2 (Kd.C_below hC2 HBA.out)) ?_
        rintro e w' ⟨rfl, hb2⟩
        rw [HPX.out]
        have HB2 := Aside0.mk (HBA.out.trans (hb2.mono HBA.out.size))
        clear hb2
        go_wp2_with fail
        go_roundw
        case rel => exact ⟨k + 1, by omega, by go_num, HX, HB2⟩
        case measure => simp [intOf]; omega
    · obtain rfl : k = l.length := by omega
      have HE := Aside0.mk (HRR.out.symm.trans (eqF_all HL.out fun j h h2 => hno.out j h h2 h))
      go_wp2
      go_ret
      exact ⟨by rw [HE.out]; rfl, hb1.out⟩


set_option maxHeartbeats 3200000 in
set_option maxRecDepth 1000000 in
theorem eq44_calls (p : S44 → S44 → Bool) (A : Option Addr) (c : Nat) (l : List S44) (D : Option Addr) (d : Nat) (m : List S44) (w : World) (hr : Kd.C k44 w A l.length l) (hs : Kd.C k44 w D m.length m) (hp : ∀ (x y : S44) (W : World), x ∈ l → y ∈ m → Below w.heap.size w W → ∀ (B : Option Addr) (b : Nat) (hb : x.f3.length ≤ b) (hB : Kd.C k32 W B x.f3.length x.f3) (E : Option Addr) (e : Nat) (he : y.f3.length ≤ e) (hE : Kd.C k32 W E y.f3.length y.f3), Calls Tryd.prog 58 (#[.agg #[.int .i64 x.f0, .int .i64 x.f1, .int .i64 x.f2, .slice B x.f3.length b], .agg #[.int .i64 y.f0, .int .i64 y.f1, .int .i64 y.f2, .slice E y.f3.length e]] ++ #[]) W fun e W' => e = .returned (.bool (p x y)) ∧ Below W.heap.size W W') :
    Calls Tryd.prog 64 #[.slice A l.length c, .slice D m.length d, .func (.func 58) #[] #[]] w fun e w' => e = .returned (.bool (eqF p l m)) ∧ Below w.heap.size w w' := by
  have hm := Kd.C_max hr
  have hm2 := Kd.C_max hs
  by_cases hl : l.length = m.length
  case neg =>
    have e_ : eqF p l m = false := eqF_len hl
    rw [e_]
    have d1 : ((l.length : Int) != (m.length : Int)) = true := bne_iff_ne.2 (by omega)
    clear e_ hl hr hs hp
    go_enter Tryd.func64, Tryd.ntmps64
    go_wp2
    go_ret
    exact ⟨rfl, Below.refl _ _⟩
  have d1 : ((l.length : Int) != (m.length : Int)) = false := by rw [hl]; simp
  have HL := Aside0.mk hl
  have HR := Aside0.mk hr
  have HS := Aside0.mk hs
  have HP := Aside0.mk hp
  obtain ⟨r, hr_⟩ : ∃ r, eqF p l m = r := ⟨_, rfl⟩
  rw [hr_]
  have HRR := Aside0.mk hr_
  clear hr hs hp hl hr_
  go_enter Tryd.func64, Tryd.ntmps64
  go_wp2
  go_loopw [17] (fun i wr => ∃ k : Nat, k ≤ l.length ∧ i = .int .i64 (k : Int) ∧ Aside0 (∀ (j : Nat) (h : j < l.length) (h2 : j < m.length), j < k → p l[j] m[j] = true) ∧ Aside0 (Below w.heap.size w wr)) (fun i _ => l.length - (intOf i).toNat)
  case atStart => exact ⟨0, by omega, rfl, ⟨fun j h h2 hj => absurd hj (by omega)⟩, ⟨Below.refl _ _⟩⟩
  case round =>
    obtain ⟨k, hk, rfl, hno, hb1⟩ := hrel
    by_cases hlt : k < l.length
    · have hlt2 : k < m.length := by rw [← HL.out]; exact hlt
      have hat := at_T44 HR.out (k : Int) (by omega) (by omega)
      have hx : rd_T44 l (k : Int) = l[k] := by
        rw [rd_T44, List.getD_eq_getElem?_getD, show ((k : Int).toNat) = k by omega, List.getElem?_eq_getElem hlt]; rfl
      rw [hx, show ((k : Int).toNat) = k by omega] at hat
      have hbt := at_T44 HS.out (k : Int) (by omega) (by omega)
      have hy : rd_T44 m (k : Int) = m[k] := by
        rw [rd_T44, List.getD_eq_getElem?_getD, show ((k : Int).toNat) = k by omega, List.getElem?_eq_getElem hlt2]; rfl
      rw [hy, show ((k : Int).toNat) = k by omega] at hbt
      have HMX := Aside0.mk (List.getElem_mem hlt)
      have HMY := Aside0.mk (List.getElem_mem hlt2)
      have HN1 := Aside0.mk (fun hy => eqF_at (p := p) HL.out hlt hlt2 hy)
      have HY1 := Aside0.mk (fun (hy : p l[k] m[k] = true) (j : Nat) (h : j < l.length) (h2 : j < m.length) (hj : j < k + 1) => if e : j = k then (by subst e; exact hy) else hno.out j h h2 (by omega))
      generalize hxx : l[k] = x at hat HMX HY1 HN1
      generalize hyy : m[k] = y at hbt HMY HY1 HN1
      clear hxx hx hyy hy
      obtain ⟨ad, B, b, rfl, q0, q1, q2, q3, hl1, hC1⟩ := hat
      obtain ⟨ae, E, e, rfl, z0, z1, z2, z3, hl2, hC2⟩ := hbt
      replace q0 := (hb1.out.cell (World.block_lt_of_cell? w _ q0)).trans q0; replace q1 := (hb1.out.cell (World.block_lt_of_cell? w _ q1)).trans q1; replace q2 := (hb1.out.cell (World.block_lt_of_cell? w _ q2)).trans q2; replace q3 := (hb1.out.cell (World.block_lt_of_cell? w _ q3)).trans q3
      replace z0 := (hb1.out.cell (World.block_lt_of_cell? w _ z0)).trans z0; replace z1 := (hb1.out.cell (World.block_lt_of_cell? w _ z1)).trans z1; replace z2 := (hb1.out.cell (World.block_lt_of_cell? w _ z2)).trans z2; replace z3 := (hb1.out.cell (World.block_lt_of_cell? w _ z3)).trans z3
      have HB0 := Aside0.mk ((Below.refl wr.heap.size wr).alloc (Nat.le_refl _) (.cells #[.int .i64 x.f0, .int .i64 x.f1, .int .i64 x.f2, .slice B x.f3.length b] 44 (0, 0)))
      have y0 := (HB0.out.cell (World.block_lt_of_cell? wr _ z0)).trans z0; have y1 := (HB0.out.cell (World.block_lt_of_cell? wr _ z1)).trans z1; have y2 := (HB0.out.cell (World.block_lt_of_cell? wr _ z2)).trans z2; have y3 := (HB0.out.cell (World.block_lt_of_cell? wr _ z3)).trans z3
      cases hpx : p x y with
      | false =>
        have HX := Aside0.mk (HRR.out.symm.trans (HN1.out hpx))
        have HPX := Aside0.mk hpx
        clear hpx
        go_wp2_with fail
        have hbA := ((Below.refl wr.heap.size wr).alloc (Nat.le_refl _) (.cells #[.int .i64 x.f0, .int .i64 x.f1, .int .i64 x.f2, .slice B x.f3.length b] 44 (0, 0))).alloc (by simp) (.cells #[.int .i64 y.f0, .int .i64 y.f1, .int .i64 y.f2, .slice E y.f3.length e] 44 (0, 0))
        have HBA := Aside0.mk (hb1.out.trans (hbA.mono hb1.out.size))
        clear hbA
        refine Calls.mono (show Calls Tryd.prog 58 _ _ _ from HP.out x y _ HMX.out HMY.out HBA.out B b hl1 (Kd.C_below hC1 HBA.out) E e hl2 (Kd.C_below hC2 HBA.out)) ?_
        rintro e w' ⟨rfl, hb2⟩
        rw [HPX.out]
        have HB2 := Aside0.mk (HBA.out.trans (hb2.mono HBA.out.size))
        clear hb2
        go_wp2_with fail
        go_ret
        exact ⟨by rw [HX.out]; rfl, HB2.out⟩
      | true =>
        have HX := Aside0.mk (HY1.out hpx)
        have HPX := Aside0.mk hpx
        clear hpx
        go_wp2_with fail
        have hbA := ((Below.refl wr.heap.size wr).alloc (Nat.le_refl _) (.cells #[.int .i64 x.f0, .int .i64 x.f1, .int .i64 x.f2, .slice B x.f3.length b] 44 (0, 0))).alloc (by simp) (.cells #[.int .i64 y.f0, .int .i64 y.f1, .int .i64 y.f2, .slice E y.f3.length e] 44 (0, 0))
        have HBA := Aside0.mk (hb1.out.trans (hbA.mono hb1.out.size))
        clear hbA
        refine Calls.mono (show Calls Tryd.prog 58 _ _ _ from HP.out x y _ HMX.out HMY.out HBA.out B b hl1 (Kd.C_below hC1 HBA.out) E e hl2 (Kd.C_below hC2 HBA.out)) ?_
        rintro e w' ⟨rfl, hb2⟩
        rw [HPX.out]
        have HB2 := Aside0.mk (HBA.out.trans (hb2.mono HBA.out.size))
        clear hb2
        go_wp2_with fail
        go_roundw
        case rel => exact ⟨k + 1, by omega, by go_num, HX, HB2⟩
        case measure => simp [intOf]; omega
    · obtain rfl : k = l.length := by omega
      have HE := Aside0.mk (HRR.out.symm.trans (eqF_all HL.out fun j h h2 => hno.out j h h2 h))
      go_wp2
      go_ret
      exact ⟨by rw [HE.out]; rfl, hb1.out⟩


set_option maxHeartbeats 6400000 in
set_option maxRecDepth 1000000 in
theorem same_calls {A0 : Option Addr} {c0 : Nat} {l0 : List Int} {A1 : Option Addr} {c1 : Nat} {l1 : List ByteArray} {A2 : Option Addr} {c2 : Nat} {l2 : List S44} {A3 : Option Addr} {c3 : Nat} {l3 : List S41} {A0' : Option Addr} {c0' : Nat} {l0' : List Int} {A1' : Option Addr} {c1' : Nat} {l1' : List ByteArray} {A2' : Option Addr} {c2' : Nat} {l2' : List S44} {A3' : Option Addr} {c3' : Nat} {l3' : List S41} (ei et : Bool) (p : S44 → S44 → Bool) (q : S41 → S41 → Bool) (w : World) (hmd : ModIs w A0 c0 l0 A1 c1 l1 A2 c2 l2 A3 c3 l3) (hme : ModIs w A0' c0' l0' A1' c1' l1' A2' c2' l2' A3' c3' l3')
    (hi : ∃ k, slices_Equal_int64_int64.f k l0 l0' = some ei) (ht : ∃ k, slices_Equal_string_string.f k l1 l1' = some et)
    (hp : ∀ x ∈ l2, ∀ y ∈ l2', ∃ k, code_Same_1.f k x.f0 x.f1 x.f2 x.f3 y.f0 y.f1 y.f2 y.f3 = some (p x y)) (hq : ∀ x ∈ l3, ∀ y ∈ l3', ∃ k, code_Same_2.f k x.f0 x.f1 x.f2 y.f0 y.f1 y.f2 = some (q x y)) :
    Calls Tryd.prog 26 #[.agg #[.slice A0 l0.length c0, .slice A1 l1.length c1, .slice A2 l2.length c2, .slice A3 l3.length c3], .agg #[.slice A0' l0'.length c0', .slice A1' l1'.length c1', .slice A2' l2'.length c2', .slice A3' l3'.length c3']] w fun e w' => e = .returned (.bool (ei && et && eqF p l2 l2' && eqF q l3 l3')) ∧ Below w.heap.size w w' := by
  obtain ⟨ki, hi⟩ := hi
  obtain ⟨kt, ht⟩ := ht
  have hA := ((Below.refl w.heap.size w).alloc (Nat.le_refl _) (.cells #[.slice A0 l0.length c0, .slice A1 l1.length c1, .slice A2 l2.length c2, .slice A3 l3.length c3] 30 (0, 0))).alloc (by simp) (.cells #[.slice A0' l0'.length c0', .slice A1' l1'.length c1', .slice A2' l2'.length c2', .slice A3' l3'.length c3'] 30 (0, 0))
  have hG := blk_alloc (blk_new w (.cells #[.slice A0 l0.length c0, .slice A1 l1.length c1, .slice A2 l2.length c2, .slice A3 l3.length c3] 30 (0, 0))) (.cells #[.slice A0' l0'.length c0', .slice A1' l1'.length c1', .slice A2' l2'.length c2', .slice A3' l3'.length c3'] 30 (0, 0))
  have hQ := blk_new2 w (.cells #[.slice A0 l0.length c0, .slice A1 l1.length c1, .slice A2 l2.length c2, .slice A3 l3.length c3] 30 (0, 0)) (.cells #[.slice A0' l0'.length c0', .slice A1' l1'.length c1', .slice A2' l2'.length c2', .slice A3' l3'.length c3'] 30 (0, 0))
  have HMD := Aside0.mk (hmd.below hA)
  have HME := Aside0.mk (hme.below hA)
  have HA := Aside0.mk hA
  have HG := Aside0.mk hG
  have HQ := Aside0.mk hQ
  have HI := Aside0.mk (slices_Equal_int64_int64.calls ki A0 c0 l0 A0' c0' l0' ei ((w.alloc (.cells #[.slice A0 l0.length c0, .slice A1 l1.length c1, .slice A2 l2.length c2, .slice A3 l3.length c3] 30 (0, 0))).alloc (.cells #[.slice A0' l0'.length c0', .slice A1' l1'.length c1', .slice A2' l2'.length c2', .slice A3' l3'.length c3'] 30 (0, 0))) HMD.out.r0 HMD.out.h0 HME.out.r0 HME.out.h0 hi)
  have HT := Aside0.mk (fun (v : World) (hv : Below (((w.alloc (.cells #[.slice A0 l0.length c0, .slice A1 l1.length c1, .slice A2 l2.length c2, .slice A3 l3.length c3] 30 (0, 0))).alloc (.cells #[.slice A0' l0'.length c0', .slice A1' l1'.length c1', .slice A2' l2'.length c2', .slice A3' l3'.length c3'] 30 (0, 0)))).heap.size (((w.alloc (.cells #[.slice A0 l0.length c0, .slice A1 l1.length c1, .slice A2 l2.length c2, .slice A3 l3.length c3] 30 (0, 0))).alloc (.cells #[.slice A0' l0'.length c0', .slice A1' l1'.length c1', .slice A2' l2'.length c2', .slice A3' l3'.length c3'] 30 (0, 0)))) v) => slices_Equal_string_string.calls kt A1 c1 l1 A1' c1' l1' et v (HMD.out.below hv).r1 HMD.out.h1 (HME.out.below hv).r1 HME.out.h1 ht)
  have HP := Aside0.mk (fun (v : World) (hv : Below (((w.alloc (.cells #[.slice A0 l0.length c0, .slice A1 l1.length c1, .slice A2 l2.length c2, .slice A3 l3.length c3] 30 (0, 0))).alloc (.cells #[.slice A0' l0'.length c0', .slice A1' l1'.length c1', .slice A2' l2'.length c2', .slice A3' l3'.length c3'] 30 (0, 0)))).heap.size (((w.alloc (.cells #[.slice A0 l0.length c0, .slice A1 l1.length c1, .slice A2 l2.length c2, .slice A3 l3.length c3] 30 (0, 0))).alloc (.cells #[.slice A0' l0'.length c0', .slice A1' l1'.length c1', .slice A2' l2'.length c2', .slice A3' l3'.length c3'] 30 (0, 0)))) v) => eq44_calls p A2 c2 l2 A2' c2' l2' v (HMD.out.below hv).r2 (HME.out.below hv).r2 (fun x y W hx hy hb B b hb1 hB E e he hE => by
    obtain ⟨k, hk⟩ := hp x hx y hy
    exact code_Same_1.calls k x.f0 x.f1 x.f2 B b x.f3 y.f0 y.f1 y.f2 E e y.f3 (p x y) W hB hb1 hE he hk))
  have HX := Aside0.mk (fun (v : World) (hv : Below (((w.alloc (.cells #[.slice A0 l0.length c0, .slice A1 l1.length c1, .slice A2 l2.length c2, .slice A3 l3.length c3] 30 (0, 0))).alloc (.cells #[.slice A0' l0'.length c0', .slice A1' l1'.length c1', .slice A2' l2'.length c2', .slice A3' l3'.length c3'] 30 (0, 0)))).heap.size (((w.alloc (.cells #[.slice A0 l0.length c0, .slice A1 l1.length c1, .slice A2 l2.length c2, .slice A3 l3.length c3] 30 (0, 0))).alloc (.cells #[.slice A0' l0'.length c0', .slice A1' l1'.length c1', .slice A2' l2'.length c2', .slice A3' l3'.length c3'] 30 (0, 0)))) v) => eq41_calls q A3 c3 l3 A3' c3' l3' v (HMD.out.below hv).r3 (HME.out.below hv).r3 (fun x y W hx hy hb B b hb1 hB E e he hE => by
    obtain ⟨k, hk⟩ := hq x hx y hy
    exact code_Same_2.calls k B b x.f0 x.f1 x.f2 E e y.f0 y.f1 y.f2 (q x y) W hB hb1 hE he hk))
  have g0 := (blk_cell hG 0).trans rfl
  have g1 := (blk_cell hG 1).trans rfl
  have g2 := (blk_cell hG 2).trans rfl
  have g3 := (blk_cell hG 3).trans rfl
  have q0 := (blk_cell hQ 0).trans rfl
  have q1 := (blk_cell hQ 1).trans rfl
  have q2 := (blk_cell hQ 2).trans rfl
  have q3 := (blk_cell hQ 3).trans rfl
  generalize eqF p l2 l2' = ep at HP ⊢
  generalize eqF q l3 l3' = eq at HX ⊢
  clear hA hG hQ hmd hme hi ht hp hq
  cases ei with
  | false =>
    go_enter Tryd.func26, Tryd.ntmps26
    go_wp2_with (first | (go_at_call 62; refine HI.out.mono ?_; rintro e w1 ⟨rfl, hd1⟩; have HB1 := Aside0.mk (hd1.below); clear hd1; have g1b := (blk_cell (blk_below HG.out HB1.out) 1).trans rfl; have q1b := (blk_cell (blk_below HQ.out HB1.out) 1).trans rfl))
    go_ret
    exact ⟨by simp, HA.out.trans (HB1.out.mono HA.out.size)⟩
  | true =>
  cases et with
  | false =>
    go_enter Tryd.func26, Tryd.ntmps26
    go_wp2_with (first | (go_at_call 62; refine HI.out.mono ?_; rintro e w1 ⟨rfl, hd1⟩; have HB1 := Aside0.mk (hd1.below); clear hd1; have g1b := (blk_cell (blk_below HG.out HB1.out) 1).trans rfl; have q1b := (blk_cell (blk_below HQ.out HB1.out) 1).trans rfl) | (go_at_call 63; refine (HT.out _ HB1.out).mono ?_; rintro e w2 ⟨rfl, hd2⟩; have HB2 := Aside0.mk (HB1.out.trans (hd2.below.mono HB1.out.size)); clear hd2; have g2c := (blk_cell (blk_below HG.out HB2.out) 2).trans rfl; have q2c := (blk_cell (blk_below HQ.out HB2.out) 2).trans rfl))
    go_ret
    exact ⟨by simp, HA.out.trans (HB2.out.mono HA.out.size)⟩
  | true =>
  cases ep with
  | false =>
    go_enter Tryd.func26, Tryd.ntmps26
    go_wp2_with (first | (go_at_call 62; refine HI.out.mono ?_; rintro e w1 ⟨rfl, hd1⟩; have HB1 := Aside0.mk (hd1.below); clear hd1; have g1b := (blk_cell (blk_below HG.out HB1.out) 1).trans rfl; have q1b := (blk_cell (blk_below HQ.out HB1.out) 1).trans rfl) | (go_at_call 63; refine (HT.out _ HB1.out).mono ?_; rintro e w2 ⟨rfl, hd2⟩; have HB2 := Aside0.mk (HB1.out.trans (hd2.below.mono HB1.out.size)); clear hd2; have g2c := (blk_cell (blk_below HG.out HB2.out) 2).trans rfl; have q2c := (blk_cell (blk_below HQ.out HB2.out) 2).trans rfl) | (go_at_call 64; refine (HP.out _ HB2.out).mono ?_; rintro e w3 ⟨rfl, hd3⟩; have HB3 := Aside0.mk (HB2.out.trans (hd3.mono HB2.out.size)); clear hd3; have g3d := (blk_cell (blk_below HG.out HB3.out) 3).trans rfl; have q3d := (blk_cell (blk_below HQ.out HB3.out) 3).trans rfl))
    go_ret
    exact ⟨by simp, HA.out.trans (HB3.out.mono HA.out.size)⟩
  | true =>
    go_enter Tryd.func26, Tryd.ntmps26
    go_wp2_with (first | (go_at_call 62; refine HI.out.mono ?_; rintro e w1 ⟨rfl, hd1⟩; have HB1 := Aside0.mk (hd1.below); clear hd1; have g1b := (blk_cell (blk_below HG.out HB1.out) 1).trans rfl; have q1b := (blk_cell (blk_below HQ.out HB1.out) 1).trans rfl) | (go_at_call 63; refine (HT.out _ HB1.out).mono ?_; rintro e w2 ⟨rfl, hd2⟩; have HB2 := Aside0.mk (HB1.out.trans (hd2.below.mono HB1.out.size)); clear hd2; have g2c := (blk_cell (blk_below HG.out HB2.out) 2).trans rfl; have q2c := (blk_cell (blk_below HQ.out HB2.out) 2).trans rfl) | (go_at_call 64; refine (HP.out _ HB2.out).mono ?_; rintro e w3 ⟨rfl, hd3⟩; have HB3 := Aside0.mk (HB2.out.trans (hd3.mono HB2.out.size)); clear hd3; have g3d := (blk_cell (blk_below HG.out HB3.out) 3).trans rfl; have q3d := (blk_cell (blk_below HQ.out HB3.out) 3).trans rfl) | (go_at_call 65; refine (HX.out _ HB3.out).mono ?_; rintro e w4 ⟨rfl, hd4⟩; have HB4 := Aside0.mk (HB3.out.trans (hd4.mono HB3.out.size)); clear hd4))
    go_ret
    exact ⟨by simp, HA.out.trans (HB4.out.mono HA.out.size)⟩

end Go.Proofs.YtfncoldcjhkhiaaDoor.NW
