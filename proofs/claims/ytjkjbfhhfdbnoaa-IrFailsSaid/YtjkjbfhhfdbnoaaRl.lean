/- sacristanref15.on: which function is around. -/
import Derived.Test.YtjkjbfhhfdbnoaaRj
namespace Go.Proofs.Ytjkjbfhhfdbnoaa.NW
open Go.RowKit Go.Proofs.YtjkjbfhhfdbnoaaW.PrintWords Go.Proofs.YtjkjbfhhfdbnoaaW.PrintMore Go.Proofs.Ytjkjbfhhfdbnoaa.PB
set_option linter.unusedVariables false
set_option linter.unusedSimpArgs false

/-- sacristanref15.on -/
def onF (l : List S54) (s : ByteArray) : S54 × Bool := match l.find? (fun o => o.f0.toList == s.toList) with
  | some o => (o, true)
  | none => (z54, false)
theorem onF_at {l : List S54} {s : ByteArray} {k : Nat} (hk : k < l.length) (hno : ∀ (j : Nat) (h : j < l.length), j < k → (l[j].f0.toList == s.toList) = false) (hy : (l[k].f0.toList == s.toList) = true) : onF l s = (l[k], true) := by
  have h : l.find? (fun o => o.f0.toList == s.toList) = some l[k] := by
    rw [List.find?_eq_some_iff_append]
    refine ⟨hy, l.take k, l.drop (k + 1), by rw [← List.drop_eq_getElem_cons hk, List.take_append_drop], fun a ha => ?_⟩
    obtain ⟨j, hj, rfl⟩ := List.getElem_of_mem ha
    rw [List.getElem_take]
    simp at hj
    rw [hno j (by omega) (by omega)]
    rfl
  unfold onF
  rw [h]
theorem onF_not {l : List S54} {s : ByteArray} (hno : ∀ (j : Nat) (h : j < l.length), (l[j].f0.toList == s.toList) = false) : onF l s = (z54, false) := by
  have h : l.find? (fun o => o.f0.toList == s.toList) = none := by
    rw [List.find?_eq_none]
    intro a ha
    obtain ⟨j, hj, rfl⟩ := List.getElem_of_mem ha
    simpa using hno j hj
  unfold onF
  rw [h]
def OnIs (w : World) (r : S54) (A : Option Addr) (c : Nat) : Prop := r.f3.length ≤ c ∧ k37.C w A r.f3.length r.f3

set_option maxHeartbeats 1600000 in
set_option maxRecDepth 1000000 in
theorem on_calls (A0 : Option Addr) (n0 c0 : Nat) (A1 : Option Addr) (c1 : Nat) (l1 : List S54) (s : ByteArray) (w : World) (hr : Kd.C k54 w A1 l1.length l1) :
    Calls Try.prog 76 #[.agg #[.slice A0 n0 c0, .slice A1 l1.length c1], .string s] w fun e w' => ∃ A c, e = .returned (.tuple #[.agg #[.string (onF l1 s).1.f0, .int .i64 (onF l1 s).1.f1, .int .i64 (onF l1 s).1.f2, .slice A (onF l1 s).1.f3.length c], .bool (onF l1 s).2]) ∧ OnIs w' (onF l1 s).1 A c ∧ Below w.heap.size w w' := by
  have hm := Kd.C_max hr
  have HR := Aside0.mk hr
  clear hr
  have hA : Below w.heap.size w ((w.alloc (.cells #[.slice A0 n0 c0, .slice A1 l1.length c1] 29)).alloc (.cells #[.string ⟨#[]⟩, .int .i64 0, .int .i64 0, .slice none 0 0] 54)) := ((Below.refl _ w).alloc (Nat.le_refl _) _).alloc (by simp) _
  have HA := Aside0.mk hA
  have HR1 := Aside0.mk (Kd.C_below HR.out hA)
  clear hA
  generalize hon : onF l1 s = on
  have HON := Aside0.mk hon
  clear hon
  have hP : ((w.alloc (.cells #[.slice A0 n0 c0, .slice A1 l1.length c1] 29)).alloc (.cells #[.string ⟨#[]⟩, .int .i64 0, .int .i64 0, .slice none 0 0] 54)).heap[w.heap.size]? = some (.cells #[.slice A0 n0 c0, .slice A1 l1.length c1] 29 (0, 0)) := blk_alloc (blk_new w _) _
  have hZ : ((w.alloc (.cells #[.slice A0 n0 c0, .slice A1 l1.length c1] 29)).alloc (.cells #[.string ⟨#[]⟩, .int .i64 0, .int .i64 0, .slice none 0 0] 54)).heap[w.heap.size + 1]? = some (.cells #[.string ⟨#[]⟩, .int .i64 0, .int .i64 0, .slice none 0 0] 54 (0, 0)) := blk_new2 w _ _
  go_enter Try.func76, Try.ntmps76
  go_wp2_with fail
  obtain ⟨w1, hw1⟩ : ∃ w1, ((w.alloc (.cells #[.slice A0 n0 c0, .slice A1 l1.length c1] 29)).alloc (.cells #[.string ⟨#[]⟩, .int .i64 0, .int .i64 0, .slice none 0 0] 54)) = w1 := ⟨_, rfl⟩
  rw [hw1] at HA HR1 hP hZ ⊢
  obtain ⟨gb, hgb⟩ : ∃ gb, w.heap.size = gb := ⟨_, rfl⟩
  rw [hgb] at hP hZ ⊢
  have p1 := (blk_cell hP 1).trans rfl
  have z0 := (blk_cell hZ 0).trans rfl
  have z1 := (blk_cell hZ 1).trans rfl
  have z2 := (blk_cell hZ 2).trans rfl
  have z3 := (blk_cell hZ 3).trans rfl
  have f0 := blk_frozen hZ 0
  have f1 := blk_frozen hZ 1
  have f2 := blk_frozen hZ 2
  have f3 := blk_frozen hZ 3
  have HZ := Aside0.mk hZ
  have HGB := Aside0.mk hgb
  clear hw1 hP hZ hgb
  go_loop [10] (fun i => ∃ k : Nat, k ≤ l1.length ∧ i = .int .i64 k ∧ Aside0 (∀ (j : Nat) (h : j < l1.length), j < k → (l1[j].f0.toList == s.toList) = false)) (fun i => l1.length - (intOf i).toNat)
  case atStart => exact ⟨0, by omega, rfl, ⟨fun j h hj => absurd hj (by omega)⟩⟩
  case round =>
    obtain ⟨k, hk, rfl, hno⟩ := hrel
    by_cases hlt : k < l1.length
    · obtain ⟨ad, A3, c3, rfl, e0, e1, e2, e3, e4, e5⟩ := at_T54 HR.out (k : Int) (by omega) (by omega)
      replace e0 := (HA.out.cell (World.block_lt_of_cell? w _ e0)).trans e0
      replace e1 := (HA.out.cell (World.block_lt_of_cell? w _ e1)).trans e1
      replace e2 := (HA.out.cell (World.block_lt_of_cell? w _ e2)).trans e2
      replace e3 := (HA.out.cell (World.block_lt_of_cell? w _ e3)).trans e3
      have hx : rd_T54 l1 (k : Int) = l1[k] := by
        rw [rd_T54, List.getD_eq_getElem?_getD, show ((k : Int).toNat) = k by omega, List.getElem?_eq_getElem hlt]; rfl
      rw [show ((k : Int).toNat) = k by omega, hx] at e0 e1 e2 e3
      rw [hx] at e4 e5
      have HE4 := Aside0.mk e4
      have HE5 := Aside0.mk e5
      have HX := Aside0.mk (show l1[k]? = some l1[k] from List.getElem?_eq_getElem hlt)
      have HAT := Aside0.mk (fun hy => onF_at (s := s) hlt hno.out hy)
      have HNO := Aside0.mk (fun (hy : (l1[k].f0.toList == s.toList) = false) (j : Nat) (h : j < l1.length) (hj : j < k + 1) => if e : j = k then (by subst e; exact hy) else hno.out j h (by omega))
      clear e4 e5 hx
      generalize hxx : l1[k] = x at e0 e1 e2 e3 HE4 HE5 HAT HNO
      clear hxx
      cases hy : (x.f0.toList == s.toList) with
      | true =>
        have hon : on = (x, true) := HON.out.symm.trans (HAT.out hy)
        subst hon
        go_wp2_with fail
        refine bodyPost_ret (results_ct rfl _ _ (gb + 1) 54 #[.string x.f0, .int .i64 x.f1, .int .i64 x.f2, .slice A3 x.f3.length c3] (0, 0) _ rfl (blk_put (blk_put (blk_put (blk_put HZ.out 0 _ rfl) 1 _ rfl) 2 _ rfl) 3 _ rfl) Try.underlying54 rfl (by kernel_rfl)) rfl ?_
        have hgb := HGB.out
        have hfin := ((((HA.out).setCell (p := ⟨gb + 1, 0, none⟩) (by show w.heap.size ≤ gb + 1; omega) (.string x.f0)).setCell (p := ⟨gb + 1, 1, none⟩) (by show w.heap.size ≤ gb + 1; omega) (.int .i64 x.f1)).setCell (p := ⟨gb + 1, 2, none⟩) (by show w.heap.size ≤ gb + 1; omega) (.int .i64 x.f2)).setCell (p := ⟨gb + 1, 3, none⟩) (by show w.heap.size ≤ gb + 1; omega) (.slice A3 x.f3.length c3)
        exact ⟨A3, c3, rfl, ⟨HE4.out, Kd.C_below HE5.out hfin⟩, hfin⟩
      | false =>
        have HN := Aside0.mk (HNO.out hy)
        go_wp2_with fail
        go_round
        case rel => exact ⟨k + 1, by omega, by go_num, HN⟩
        case measure => simp [intOf]; omega
    · obtain rfl : k = l1.length := by omega
      have hon : on = (z54, false) := HON.out.symm.trans (onF_not fun j h => hno.out j h h)
      subst hon
      go_wp2_with fail
      refine bodyPost_ret (results_ct rfl _ _ (gb + 1) 54 #[.string ⟨#[]⟩, .int .i64 0, .int .i64 0, .slice none 0 0] (0, 0) _ rfl (blk_put (blk_put (blk_put (blk_put HZ.out 0 _ rfl) 1 _ rfl) 2 _ rfl) 3 _ rfl) Try.underlying54 rfl (by kernel_rfl)) rfl ?_
      have hgb := HGB.out
      have hfin := ((((HA.out).setCell (p := ⟨gb + 1, 0, none⟩) (by show w.heap.size ≤ gb + 1; omega) (.string ⟨#[]⟩)).setCell (p := ⟨gb + 1, 1, none⟩) (by show w.heap.size ≤ gb + 1; omega) (.int .i64 0)).setCell (p := ⟨gb + 1, 2, none⟩) (by show w.heap.size ≤ gb + 1; omega) (.int .i64 0)).setCell (p := ⟨gb + 1, 3, none⟩) (by show w.heap.size ≤ gb + 1; omega) (.slice none 0 0)
      exact ⟨none, 0, rfl, ⟨Nat.le_refl _, Kd.C_nil _ _⟩, hfin⟩
end Go.Proofs.Ytjkjbfhhfdbnoaa.NW
