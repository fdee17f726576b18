/- The first function around that a word names. -/
import Derived.Test.YtjkjbfhhfdbnoaaTb
namespace Go.Proofs.Ytjkjbfhhfdbnoaa.NW
open Go.RowKit Go.Proofs.YtjkjbfhhfdbnoaaW.PrintWords Go.Proofs.YtjkjbfhhfdbnoaaW.PrintMore Go.Proofs.Ytjkjbfhhfdbnoaa.PB
set_option linter.unusedVariables false
set_option linter.unusedSimpArgs false
set_option maxHeartbeats 1600000 in
set_option maxRecDepth 1000000 in
theorem isOn_calls (o : S54) (A : Option Addr) (c n : Nat) (wd : ByteArray) (g : Nat) (w : World) (hc : w.cell? ⟨g, 4, none⟩ = some (.string wd)) :
    Calls Try.prog 82 #[.agg #[.string o.f0, .int .i64 o.f1, .int .i64 o.f2, .slice A n c], .pointer (some ⟨g, 0, none⟩)] w fun e w' => e = .returned (.bool (o.f0.toList == wd.toList)) ∧ Below w.heap.size w w' := by
  have HB := Aside0.mk (below_alloc (Below.refl w.heap.size w) (.cells #[.string o.f0, .int .i64 o.f1, .int .i64 o.f2, .slice A n c] 54))
  have c4 := (HB.out.cell (World.block_lt_of_cell? w _ hc)).trans hc
  go_enter Try.func82, Try.ntmps82
  go_wp2_with fail
  go_ret
  exact ⟨rfl, HB.out⟩
set_option maxHeartbeats 1600000 in
set_option maxRecDepth 1000000 in
theorem indexOn_calls (wd : ByteArray) (g : Nat) (A : Option Addr) (c : Nat) (l : List S54) (w : World) (hr : k54.C w A l.length l) (hc : w.cell? ⟨g, 4, none⟩ = some (.string wd)) :
    Calls Try.prog 81 #[.slice A l.length c, .func (.func 82) #[] #[.pointer (some ⟨g, 0, none⟩)]] w fun e w' => ((∃ (k : Nat) (h : k < l.length), e = .returned (.int .i64 k) ∧ (∀ (j : Nat) (hj : j < l.length), j < k → (l[j].f0.toList == wd.toList) = false) ∧ (l[k].f0.toList == wd.toList) = true) ∨ (e = .returned (.int .i64 (-1)) ∧ ∀ (j : Nat) (hj : j < l.length), (l[j].f0.toList == wd.toList) = false)) ∧ Below w.heap.size w w' := by
  have hm := Kd.C_max hr
  have HR := Aside0.mk hr
  have HC := Aside0.mk hc
  clear hr hc
  go_enter Try.func81, Try.ntmps81
  go_upto_region 2 with fail
  go_loopw [8] (fun i wr => ∃ k : Nat, k ≤ l.length ∧ i = .int .i64 k ∧ Aside0 (∀ (j : Nat) (h : j < l.length), j < k → (l[j].f0.toList == wd.toList) = false) ∧ Aside0 (Below w.heap.size w wr)) (fun i _ => l.length - (intOf i).toNat)
  case atStart => exact ⟨0, by omega, rfl, ⟨fun j _ hj => absurd hj (by omega)⟩, ⟨Below.refl _ _⟩⟩
  case round =>
    obtain ⟨k, hk, rfl, hno, hb⟩ := hrel
    by_cases hlt : k < l.length
    · obtain ⟨ad, A3, c3, e, e0, e1, e2, e3, _, _⟩ := at_T54 (Kd.C_below HR.out hb.out) (k : Int) (by omega) (by omega)
      subst e
      have hxx : rd_T54 l (k : Int) = l[k] := by
        rw [rd_T54, List.getD_eq_getElem?_getD, show ((k : Int).toNat) = k by omega, List.getElem?_eq_getElem hlt]; rfl
      rw [show ((k : Int).toNat) = k by omega, hxx] at e0 e1 e2 e3
      clear hxx
      have HAT := Aside0.mk (fun hy => onF_at (s := wd) hlt hno.out hy)
      have HNO := Aside0.mk (fun (hy : (l[k].f0.toList == wd.toList) = false) (j : Nat) (h : j < l.length) (hj : j < k + 1) => if e : j = k then (by subst e; exact hy) else hno.out j h (by omega))
      have HCL := Aside0.mk (isOn_calls l[k] A3 c3 l[k].f3.length wd g wr ((hb.out.cell (World.block_lt_of_cell? w _ HC.out)).trans HC.out))
      generalize hlo : l[k] = o at e0 e1 e2 e3 HAT HNO HCL
      have HLO := Aside0.mk hlo
      clear hlo
      have d0 : decide ((k : Int) < l.length) = true := decide_eq_true (by omega)
      have HLT := Aside0.mk hlt
      cases hy : (o.f0.toList == wd.toList) with
      | true =>
        have HY := Aside0.mk hy
        rw [hy] at HCL
        clear hy
        go_wp2_with (first | (go_at_call 82; (with_reducible refine HCL.out.mono ?_); rintro e w2 ⟨rfl, hb2⟩; have HB2 := Aside0.mk hb2; clear hb2) | ((with_reducible refine Calls.mono HCL.out ?_); rintro e w2 ⟨rfl, hb2⟩; have HB2 := Aside0.mk hb2; clear hb2))
        go_ret
        exact ⟨.inl ⟨k, HLT.out, rfl, hno.out, by rw [HLO.out]; exact HY.out⟩, below_then hb.out hb.out.size HB2.out⟩
      | false =>
        have HY := Aside0.mk (HNO.out hy)
        rw [hy] at HCL
        clear hy
        go_wp2_with (first | (go_at_call 82; (with_reducible refine HCL.out.mono ?_); rintro e w2 ⟨rfl, hb2⟩; have HB2 := Aside0.mk hb2; clear hb2) | ((with_reducible refine Calls.mono HCL.out ?_); rintro e w2 ⟨rfl, hb2⟩; have HB2 := Aside0.mk hb2; clear hb2))
        go_roundw
        case rel => exact ⟨k + 1, by omega, by go_num, HY, ⟨below_then hb.out hb.out.size HB2.out⟩⟩
        case measure => simp [intOf]; omega
    · obtain rfl : k = l.length := by omega
      have d0 : decide ((l.length : Int) < l.length) = false := decide_eq_false (by omega)
      go_wp2_with fail
      go_ret
      exact ⟨.inr ⟨rfl, fun j h => hno.out j h h⟩, hb.out⟩
theorem on_first (l : List S54) (wd : ByteArray) : (∃ (k : Nat) (h : k < l.length), (∀ (j : Nat) (hj : j < l.length), j < k → (l[j].f0.toList == wd.toList) = false) ∧ (l[k].f0.toList == wd.toList) = true) ∨ ∀ (j : Nat) (hj : j < l.length), (l[j].f0.toList == wd.toList) = false := by
  have key : ∀ m, m ≤ l.length → (∃ (k : Nat) (h : k < l.length), (∀ (j : Nat) (hj : j < l.length), j < k → (l[j].f0.toList == wd.toList) = false) ∧ (l[k].f0.toList == wd.toList) = true) ∨ ∀ (j : Nat) (hj : j < l.length), j < m → (l[j].f0.toList == wd.toList) = false := by
    intro m
    induction m with
    | zero => exact fun _ => .inr fun j _ hj => absurd hj (by omega)
    | succ m ih =>
      intro hm
      rcases ih (by omega) with h | h
      · exact .inl h
      · cases e : (l[m].f0.toList == wd.toList) with
        | true => exact .inl ⟨m, by omega, h, e⟩
        | false =>
          refine .inr fun j hj hlt => ?_
          by_cases e2 : j = m
          · subst e2; exact e
          · exact h j hj (by omega)
  rcases key l.length (Nat.le_refl _) with h | h
  · exact .inl h
  · exact .inr fun j hj => h j hj hj
theorem indexOn_first (wd : ByteArray) (g : Nat) (A : Option Addr) (c : Nat) (l : List S54) (w : World) (hr : k54.C w A l.length l) (hc : w.cell? ⟨g, 4, none⟩ = some (.string wd)) {k : Nat} (hk : k < l.length) (hno : ∀ (j : Nat) (hj : j < l.length), j < k → (l[j].f0.toList == wd.toList) = false) (hy : (l[k].f0.toList == wd.toList) = true) :
    Calls Try.prog 81 #[.slice A l.length c, .func (.func 82) #[] #[.pointer (some ⟨g, 0, none⟩)]] w fun e w' => e = .returned (.int .i64 k) ∧ Below w.heap.size w w' :=
  (indexOn_calls wd g A c l w hr hc).mono fun e w' h => by
    obtain ⟨h | h, hb⟩ := h
    · obtain ⟨k', hk', he, hno', hy'⟩ := h
      have : k' = k := by
        rcases Nat.lt_trichotomy k' k with hlt | heq | hgt
        · rw [hno k' hk' hlt] at hy'; cases hy'
        · exact heq
        · rw [hno' k hk hgt] at hy; cases hy
      subst this
      exact ⟨he, hb⟩
    · rw [h.2 k hk] at hy; cases hy
theorem indexOn_none (wd : ByteArray) (g : Nat) (A : Option Addr) (c : Nat) (l : List S54) (w : World) (hr : k54.C w A l.length l) (hc : w.cell? ⟨g, 4, none⟩ = some (.string wd)) (hno : ∀ (j : Nat) (hj : j < l.length), (l[j].f0.toList == wd.toList) = false) :
    Calls Try.prog 81 #[.slice A l.length c, .func (.func 82) #[] #[.pointer (some ⟨g, 0, none⟩)]] w fun e w' => e = .returned (.int .i64 (-1)) ∧ Below w.heap.size w w' :=
  (indexOn_calls wd g A c l w hr hc).mono fun e w' h => by
    obtain ⟨h | h, hb⟩ := h
    · obtain ⟨k', hk', he, hno', hy'⟩ := h
      rw [hno k' hk'] at hy'; cases hy'
    · exact ⟨h.1, hb⟩
end Go.Proofs.Ytjkjbfhhfdbnoaa.NW
