/- slices.IndexFunc and slices.ContainsFunc at instructions, tables, functions. -/
import Derived.Test.YtfncoldcjhkhiaaDoorProg
import Derived.Test.YtfncoldcjhkhiaaDoorPCx0
import Derived.Handy
namespace Go.Proofs.YtfncoldcjhkhiaaDoor.NW
open Go.RowKit Go.Proofs.YtfncoldcjhkhiaaDoorW.PrintWords Go.Proofs.YtfncoldcjhkhiaaDoorW.PrintMore Go.Proofs.YtfncoldcjhkhiaaDoor.PC
set_option linter.unusedVariables false
set_option linter.unusedSimpArgs false
def idxP {α : Type} (p : α → Bool) (l : List α) : Int := if l.any p = true then (l.findIdx p : Int) else -1
theorem idxP_at {α : Type} {p : α → Bool} {l : List α} {k : Nat} (hk : k < l.length) (hno : ∀ (j : Nat) (h : j < l.length), j < k → p l[j] = false) (hy : p l[k] = true) : idxP p l = k := by
  have ha : l.any p = true := List.any_eq_true.2 ⟨l[k], List.getElem_mem _, hy⟩
  unfold idxP
  rw [if_pos ha]
  congr 1
  rw [List.findIdx_eq hk]
  exact ⟨hy, fun j hj => hno j (by omega) hj⟩
theorem idxP_not {α : Type} {p : α → Bool} {l : List α} (hno : ∀ (j : Nat) (h : j < l.length), p l[j] = false) : idxP p l = -1 := by
  unfold idxP
  rw [if_neg]
  intro ha
  obtain ⟨x, hx, hp⟩ := List.any_eq_true.1 ha
  obtain ⟨j, hj, rfl⟩ := List.getElem_of_mem hx
  rw [hno j hj] at hp
  cases hp
theorem idxP_ge {α : Type} (p : α → Bool) (l : List α) : decide (0 ≤ idxP p l) = l.any p := by
  unfold idxP
  cases h : l.any p <;> simp
theorem elem_at {α : Type} {d : Kd α} {w : World} {A : Option Addr} {n : Nat} {xs : List α} (h : d.C w A n xs) (z : α) (k : Nat) (hk : k < xs.length) (hn : k < n) : ∃ ad c, A = some ad ∧ d.K w xs[k] c ∧ ∀ j u, c[j]? = some u → w.cell? (ad.add (k * d.sz + j)) = some u := by
  obtain ⟨ad, c, rfl, hl, hK, hc⟩ := Kd.C_get h z (k : Int) (by omega) (by omega)
  rw [show ((k : Int).toNat) = k by omega] at hK hc
  rw [List.getD_eq_getElem?_getD, List.getElem?_eq_getElem hk] at hK
  exact ⟨ad, c, rfl, hK, hc⟩

set_option maxHeartbeats 1600000 in
set_option maxRecDepth 1000000 in
theorem idx32_calls (g q : Nat) (p : S32 → Bool) (A : Option Addr) (c : Nat) (l : List S32) (w : World) (hr : Kd.C k32 w A l.length l) (hp : ∀ (x : S32) (W : World), x ∈ l → Below w.heap.size w W → Calls Tryd.prog 80 (#[.agg #[.int .u8 x.f0, .int .i64 x.f1]] ++ #[.pointer (some ⟨g, 0, none⟩), .pointer (some ⟨q, 0, none⟩)]) W fun e W' => e = .returned (.bool (p x)) ∧ Below W.heap.size W W') :
    Calls Tryd.prog 91 #[.slice A l.length c, .func (.func 80) #[] #[.pointer (some ⟨g, 0, none⟩), .pointer (some ⟨q, 0, none⟩)]] w fun e w' => e = .returned (.int .i64 (idxP p l)) ∧ Below w.heap.size w w' := by
  have hm := Kd.C_max hr
  have HR := Aside0.mk hr
  have HP := Aside0.mk hp
  clear hr hp
  go_enter Tryd.func91, Tryd.ntmps91
  go_wp2
  go_loopw [8] (fun i wr => ∃ k : Nat, k ≤ l.length ∧ i = .int .i64 (k : Int) ∧ Aside0 (∀ (j : Nat) (h : j < l.length), j < k → p l[j] = false) ∧ Aside0 (Below w.heap.size w wr)) (fun i _ => l.length - (intOf i).toNat)
  case atStart => exact ⟨0, by omega, rfl, ⟨fun j h hj => absurd hj (by omega)⟩, ⟨Below.refl _ _⟩⟩
  case round =>
    obtain ⟨k, hk, rfl, hno, hb1⟩ := hrel
    by_cases hlt : k < l.length
    · have hat := at_T32 HR.out (k : Int) (by omega) (by omega)
      have hx : rd_T32 l (k : Int) = l[k] := by
        rw [rd_T32, List.getD_eq_getElem?_getD, show ((k : Int).toNat) = k by omega, List.getElem?_eq_getElem hlt]; rfl
      rw [hx, show ((k : Int).toNat) = k by omega] at hat
      have HMEM := Aside0.mk (List.getElem_mem hlt)
      have HY1 := Aside0.mk (fun hy => idxP_at (p := p) hlt hno.out hy)
      have HN1 := Aside0.mk (fun (hy : p l[k] = false) (j : Nat) (h : j < l.length) (hj : j < k + 1) => if e : j = k then (by subst e; exact hy) else hno.out j h (by omega))
      generalize hxx : l[k] = x at hat HMEM HY1 HN1
      clear hxx hx
      obtain ⟨ad, rfl, q0, q1⟩ := hat
      replace q0 := (hb1.out.cell (World.block_lt_of_cell? w _ q0)).trans q0; replace q1 := (hb1.out.cell (World.block_lt_of_cell? w _ q1)).trans q1
      cases hpx : p x with
      | true =>
        have HX := Aside0.mk (HY1.out hpx)
        have HPX := Aside0.mk hpx
        clear hpx
        go_wp2_with fail
        refine Calls.mono (show Calls Tryd.prog 80 _ _ _ from HP.out x _ HMEM.out hb1.out) ?_
        rintro e w' ⟨rfl, hb2⟩
        rw [HPX.out]
        have HB2 := Aside0.mk (hb1.out.trans (hb2.mono hb1.out.size))
        clear hb2
        go_wp2_with fail
        go_ret
        exact ⟨by rw [HX.out]; rfl, HB2.out⟩
      | false =>
        have HX := Aside0.mk (HN1.out hpx)
        have HPX := Aside0.mk hpx
        clear hpx
        go_wp2_with fail
        refine Calls.mono (show Calls Tryd.prog 80 _ _ _ from HP.out x _ HMEM.out hb1.out) ?_
        rintro e w' ⟨rfl, hb2⟩
        rw [HPX.out]
        have HB2 := Aside0.mk (hb1.out.trans (hb2.mono hb1.out.size))
        clear hb2
        go_wp2_with fail
        go_roundw
        case rel => exact ⟨k + 1, by omega, by go_num, HX, HB2⟩
        case measure => simp [intOf]; omega
    · obtain rfl : k = l.length := by omega
      go_wp2
      go_ret
      exact ⟨by rw [idxP_not (fun j h => hno.out j h h)]; rfl, hb1.out⟩

set_option maxHeartbeats 1600000 in
set_option maxRecDepth 1000000 in
theorem con32_calls (g q : Nat) (p : S32 → Bool) (A : Option Addr) (c : Nat) (l : List S32) (w : World) (hr : Kd.C k32 w A l.length l) (hp : ∀ (x : S32) (W : World), x ∈ l → Below w.heap.size w W → Calls Tryd.prog 80 (#[.agg #[.int .u8 x.f0, .int .i64 x.f1]] ++ #[.pointer (some ⟨g, 0, none⟩), .pointer (some ⟨q, 0, none⟩)]) W fun e W' => e = .returned (.bool (p x)) ∧ Below W.heap.size W W') :
    Calls Tryd.prog 79 #[.slice A l.length c, .func (.func 80) #[] #[.pointer (some ⟨g, 0, none⟩), .pointer (some ⟨q, 0, none⟩)]] w fun e w' => e = .returned (.bool (l.any p)) ∧ Below w.heap.size w w' := by
  have HI := Aside0.mk (idx32_calls g q p A c l w hr hp)
  clear hr hp
  have HG := Aside0.mk (idxP_ge p l)
  generalize hi : idxP p l = i at HG HI
  clear hi
  go_enter Tryd.func79, Tryd.ntmps79
  go_wp2_with (go_at_call 91; refine HI.out.mono ?_; rintro e w' ⟨rfl, hb⟩)
  go_ret
  exact ⟨by rw [← HG.out]; rfl, hb⟩


set_option maxHeartbeats 1600000 in
set_option maxRecDepth 1000000 in
theorem idx41_calls (g : Nat) (p : S41 → Bool) (A : Option Addr) (c : Nat) (l : List S41) (w : World) (hr : Kd.C k41 w A l.length l) (hp : ∀ (x : S41) (W : World), x ∈ l → Below w.heap.size w W → ∀ (B : Option Addr) (b : Nat) (hb : x.f0.length ≤ b) (hB : (Kd.int .i64).C W B x.f0.length x.f0), Calls Tryd.prog 49 (#[.agg #[.slice B x.f0.length b, .bool x.f1, .bool x.f2]] ++ #[.pointer (some ⟨g, 0, none⟩)]) W fun e W' => e = .returned (.bool (p x)) ∧ Below W.heap.size W W') :
    Calls Tryd.prog 83 #[.slice A l.length c, .func (.func 49) #[] #[.pointer (some ⟨g, 0, none⟩)]] w fun e w' => e = .returned (.int .i64 (idxP p l)) ∧ Below w.heap.size w w' := by
  have hm := Kd.C_max hr
  have HR := Aside0.mk hr
  have HP := Aside0.mk hp
  clear hr hp
  go_enter Tryd.func83, Tryd.ntmps83
  go_wp2
  go_loopw [8] (fun i wr => ∃ k : Nat, k ≤ l.length ∧ i = .int .i64 (k : Int) ∧ Aside0 (∀ (j : Nat) (h : j < l.length), j < k → p l[j] = false) ∧ Aside0 (Below w.heap.size w wr)) (fun i _ => l.length - (intOf i).toNat)
  case atStart => exact ⟨0, by omega, rfl, ⟨fun j h hj => absurd hj (by omega)⟩, ⟨Below.refl _ _⟩⟩
  case round =>
    obtain ⟨k, hk, rfl, hno, hb1⟩ := hrel
    by_cases hlt : k < l.length
    · have hat := at_T41 HR.out (k : Int) (by omega) (by omega)
      have hx : rd_T41 l (k : Int) = l[k] := by
        rw [rd_T41, List.getD_eq_getElem?_getD, show ((k : Int).toNat) = k by omega, List.getElem?_eq_getElem hlt]; rfl
      rw [hx, show ((k : Int).toNat) = k by omega] at hat
      have HMEM := Aside0.mk (List.getElem_mem hlt)
      have HY1 := Aside0.mk (fun hy => idxP_at (p := p) hlt hno.out hy)
      have HN1 := Aside0.mk (fun (hy : p l[k] = false) (j : Nat) (h : j < l.length) (hj : j < k + 1) => if e : j = k then (by subst e; exact hy) else hno.out j h (by omega))
      generalize hxx : l[k] = x at hat HMEM HY1 HN1
      clear hxx hx
      obtain ⟨ad, B, b, rfl, q0, q1, q2, hl1, hC1⟩ := hat
      replace q0 := (hb1.out.cell (World.block_lt_of_cell? w _ q0)).trans q0; replace q1 := (hb1.out.cell (World.block_lt_of_cell? w _ q1)).trans q1; replace q2 := (hb1.out.cell (World.block_lt_of_cell? w _ q2)).trans q2
      cases hpx : p x with
      | true =>
        have HX := Aside0.mk (HY1.out hpx)
        have HPX := Aside0.mk hpx
        clear hpx
        go_wp2_with fail
        refine Calls.mono (show Calls Tryd.prog 49 _ _ _ from HP.out x _ HMEM.out hb1.out B b hl1 (Kd.C_below hC1 hb1.out)) ?_
        rintro e w' ⟨rfl, hb2⟩
        rw [HPX.out]
        have HB2 := Aside0.mk (hb1.out.trans (hb2.mono hb1.out.size))
        clear hb2
        go_wp2_with fail
        go_ret
        exact ⟨by rw [HX.out]; rfl, HB2.out⟩
      | false =>
        have HX := Aside0.mk (HN1.out hpx)
        have HPX := Aside0.mk hpx
        clear hpx
        go_wp2_with fail
        refine Calls.mono (show Calls Tryd.prog 49 _ _ _ from HP.out x _ HMEM.out hb1.out B b hl1 (Kd.C_below hC1 hb1.out)) ?_
        rintro e w' ⟨rfl, hb2⟩
        rw [HPX.out]
        have HB2 := Aside0.mk (hb1.out.trans (hb2.mono hb1.out.size))
        clear hb2
        go_wp2_with fail
        go_roundw
        case rel => exact ⟨k + 1, by omega, by go_num, HX, HB2⟩
        case measure => simp [intOf]; omega
    · obtain rfl : k = l.length := by omega
      go_wp2
      go_ret
      exact ⟨by rw [idxP_not (fun j h => hno.out j h h)]; rfl, hb1.out⟩

set_option maxHeartbeats 1600000 in
set_option maxRecDepth 1000000 in
theorem con41_calls (g : Nat) (p : S41 → Bool) (A : Option Addr) (c : Nat) (l : List S41) (w : World) (hr : Kd.C k41 w A l.length l) (hp : ∀ (x : S41) (W : World), x ∈ l → Below w.heap.size w W → ∀ (B : Option Addr) (b : Nat) (hb : x.f0.length ≤ b) (hB : (Kd.int .i64).C W B x.f0.length x.f0), Calls Tryd.prog 49 (#[.agg #[.slice B x.f0.length b, .bool x.f1, .bool x.f2]] ++ #[.pointer (some ⟨g, 0, none⟩)]) W fun e W' => e = .returned (.bool (p x)) ∧ Below W.heap.size W W') :
    Calls Tryd.prog 54 #[.slice A l.length c, .func (.func 49) #[] #[.pointer (some ⟨g, 0, none⟩)]] w fun e w' => e = .returned (.bool (l.any p)) ∧ Below w.heap.size w w' := by
  have HI := Aside0.mk (idx41_calls g p A c l w hr hp)
  clear hr hp
  have HG := Aside0.mk (idxP_ge p l)
  generalize hi : idxP p l = i at HG HI
  clear hi
  go_enter Tryd.func54, Tryd.ntmps54
  go_wp2_with (go_at_call 83; refine HI.out.mono ?_; rintro e w' ⟨rfl, hb⟩)
  go_ret
  exact ⟨by rw [← HG.out]; rfl, hb⟩


set_option maxHeartbeats 1600000 in
set_option maxRecDepth 1000000 in
theorem idx44_calls (g : Nat) (p : S44 → Bool) (A : Option Addr) (c : Nat) (l : List S44) (w : World) (hr : Kd.C k44 w A l.length l) (hp : ∀ (x : S44) (W : World), x ∈ l → Below w.heap.size w W → ∀ (B : Option Addr) (b : Nat) (hb : x.f3.length ≤ b) (hB : Kd.C k32 W B x.f3.length x.f3), Calls Tryd.prog 51 (#[.agg #[.int .i64 x.f0, .int .i64 x.f1, .int .i64 x.f2, .slice B x.f3.length b]] ++ #[.pointer (some ⟨g, 0, none⟩)]) W fun e W' => e = .returned (.bool (p x)) ∧ Below W.heap.size W W') :
    Calls Tryd.prog 84 #[.slice A l.length c, .func (.func 51) #[] #[.pointer (some ⟨g, 0, none⟩)]] w fun e w' => e = .returned (.int .i64 (idxP p l)) ∧ Below w.heap.size w w' := by
  have hm := Kd.C_max hr
  have HR := Aside0.mk hr
  have HP := Aside0.mk hp
  clear hr hp
  go_enter Tryd.func84, Tryd.ntmps84
  go_wp2
  go_loopw [8] (fun i wr => ∃ k : Nat, k ≤ l.length ∧ i = .int .i64 (k : Int) ∧ Aside0 (∀ (j : Nat) (h : j < l.length), j < k → p l[j] = false) ∧ Aside0 (Below w.heap.size w wr)) (fun i _ => l.length - (intOf i).toNat)
  case atStart => exact ⟨0, by omega, rfl, ⟨fun j h hj => absurd hj (by omega)⟩, ⟨Below.refl _ _⟩⟩
  case round =>
    obtain ⟨k, hk, rfl, hno, hb1⟩ := hrel
    by_cases hlt : k < l.length
    · have hat := at_T44 HR.out (k : Int) (by omega) (by omega)
      have hx : rd_T44 l (k : Int) = l[k] := by
        rw [rd_T44, List.getD_eq_getElem?_getD, show ((k : Int).toNat) = k by omega, List.getElem?_eq_getElem hlt]; rfl
      rw [hx, show ((k : Int).toNat) = k by omega] at hat
      have HMEM := Aside0.mk (List.getElem_mem hlt)
      have HY1 := Aside0.mk (fun hy => idxP_at (p := p) hlt hno.out hy)
      have HN1 := Aside0.mk (fun (hy : p l[k] = false) (j : Nat) (h : j < l.length) (hj : j < k + 1) => if e : j = k then (by subst e; exact hy) else hno.out j h (by omega))
      generalize hxx : l[k] = x at hat HMEM HY1 HN1
      clear hxx hx
      obtain ⟨ad, B, b, rfl, q0, q1, q2, q3, hl1, hC1⟩ := hat
      replace q0 := (hb1.out.cell (World.block_lt_of_cell? w _ q0)).trans q0; replace q1 := (hb1.out.cell (World.block_lt_of_cell? w _ q1)).trans q1; replace q2 := (hb1.out.cell (World.block_lt_of_cell? w _ q2)).trans q2; replace q3 := (hb1.out.cell (World.block_lt_of_cell? w _ q3)).trans q3
      cases hpx : p x with
      | true =>
        have HX := Aside0.mk (HY1.out hpx)
        have HPX := Aside0.mk hpx
        clear hpx
        go_wp2_with fail
        refine Calls.mono (show Calls Tryd.prog 51 _ _ _ from HP.out x _ HMEM.out hb1.out B b hl1 (Kd.C_below hC1 hb1.out)) ?_
        rintro e w' ⟨rfl, hb2⟩
        rw [HPX.out]
        have HB2 := Aside0.mk (hb1.out.trans (hb2.mono hb1.out.size))
        clear hb2
        go_wp2_with fail
        go_ret
        exact ⟨by rw [HX.out]; rfl, HB2.out⟩
      | false =>
        have HX := Aside0.mk (HN1.out hpx)
        have HPX := Aside0.mk hpx
        clear hpx
        go_wp2_with fail
        refine Calls.mono (show Calls Tryd.prog 51 _ _ _ from HP.out x _ HMEM.out hb1.out B b hl1 (Kd.C_below hC1 hb1.out)) ?_
        rintro e w' ⟨rfl, hb2⟩
        rw [HPX.out]
        have HB2 := Aside0.mk (hb1.out.trans (hb2.mono hb1.out.size))
        clear hb2
        go_wp2_with fail
        go_roundw
        case rel => exact ⟨k + 1, by omega, by go_num, HX, HB2⟩
        case measure => simp [intOf]; omega
    · obtain rfl : k = l.length := by omega
      go_wp2
      go_ret
      exact ⟨by rw [idxP_not (fun j h => hno.out j h h)]; rfl, hb1.out⟩

set_option maxHeartbeats 1600000 in
set_option maxRecDepth 1000000 in
theorem con44_calls (g : Nat) (p : S44 → Bool) (A : Option Addr) (c : Nat) (l : List S44) (w : World) (hr : Kd.C k44 w A l.length l) (hp : ∀ (x : S44) (W : World), x ∈ l → Below w.heap.size w W → ∀ (B : Option Addr) (b : Nat) (hb : x.f3.length ≤ b) (hB : Kd.C k32 W B x.f3.length x.f3), Calls Tryd.prog 51 (#[.agg #[.int .i64 x.f0, .int .i64 x.f1, .int .i64 x.f2, .slice B x.f3.length b]] ++ #[.pointer (some ⟨g, 0, none⟩)]) W fun e W' => e = .returned (.bool (p x)) ∧ Below W.heap.size W W') :
    Calls Tryd.prog 55 #[.slice A l.length c, .func (.func 51) #[] #[.pointer (some ⟨g, 0, none⟩)]] w fun e w' => e = .returned (.bool (l.any p)) ∧ Below w.heap.size w w' := by
  have HI := Aside0.mk (idx44_calls g p A c l w hr hp)
  clear hr hp
  have HG := Aside0.mk (idxP_ge p l)
  generalize hi : idxP p l = i at HG HI
  clear hi
  go_enter Tryd.func55, Tryd.ntmps55
  go_wp2_with (go_at_call 84; refine HI.out.mono ?_; rintro e w' ⟨rfl, hb⟩)
  go_ret
  exact ⟨by rw [← HG.out]; rfl, hb⟩

end Go.Proofs.YtfncoldcjhkhiaaDoor.NW
