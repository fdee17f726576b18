/- copies.of and copies.put, over the map's own entries. -/
import Derived.Test.YtjkjbfhhfdbnoaaRf
import Derived.Maps.RangeWalk
import Derived.Maps.OwnSet
import Derived.Maps.OwnOps
import Derived.Maps.Ext
namespace Go.Proofs.Ytjkjbfhhfdbnoaa.NW
open Go.RowKit Go.Maps Go.Proofs.YtjkjbfhhfdbnoaaW.PrintWords Go.Proofs.YtjkjbfhhfdbnoaaW.PrintMore Go.Proofs.Ytjkjbfhhfdbnoaa.PB
set_option linter.unusedVariables false
set_option linter.unusedSimpArgs false

theorem law3 : Keyed Try.prog 3 := int_keyed Try.underlying3
theorem zero3 (w : World) : (zeroValue 3).run Try.prog w = .ok (.int .i64 0) w := by kernel_rfl

abbrev kI (x : Int) : Lit := .int .i64 x
abbrev wfI (x : Int) : Prop := (Lit.int .i64 x).wf = true
/-- what a map of numbers reads as, number by number -/
def Sees (D : DataW Unit) (f : Int → Option Int) : Prop :=
  ∀ x, wfI x → (f x = none → has D (kI x) = false) ∧ (∀ c, f x = some c → has D (kI x) = true ∧ ∀ z, D.atKey (kI x) z = .lit (kI c))
def CopyIs (w : World) (b n : Nat) (f : Int → Option Int) : Prop := ∃ D : DataW Unit, w.ownsMap Try.prog 3 (plainElem Try.prog 3) b n D ∧ Sees D f

theorem CopyIs.kept {w w' : World} {b n : Nat} {f : Int → Option Int} {row : Option Nat} (h : CopyIs w b n f) (hg : w.grownBy w' row) (hne : some b ≠ row) : CopyIs w' b n f := by
  obtain ⟨D, h1, h2⟩ := h
  exact ⟨D, h1.kept hg hne, h2⟩
theorem CopyIs.alloc {w : World} {b n : Nat} {f : Int → Option Int} (h : CopyIs w b n f) (o : Obj) : CopyIs (w.alloc o) b n f := by
  obtain ⟨D, h1, h2⟩ := h
  exact ⟨D, h1.alloc o, h2⟩
theorem CopyIs.drew {w : World} {b n : Nat} {f : Int → Option Int} (h : CopyIs w b n f) : CopyIs w.drew b n f := by
  obtain ⟨D, h1, h2⟩ := h
  exact ⟨D, h1.drew, h2⟩
theorem CopyIs.lt {w : World} {b n : Nat} {f : Int → Option Int} (h : CopyIs w b n f) : b < w.heap.size := by
  obtain ⟨D, h1, h2⟩ := h
  exact h1.lt
theorem CopyIs.mono {w : World} {b n n' : Nat} {f : Int → Option Int} (h : CopyIs w b n f) (hn : n ≤ n') : CopyIs w b n' f := by
  obtain ⟨D, h1, h2⟩ := h
  exact ⟨D, h1.mono hn, h2⟩
theorem Sees.ext {D : DataW Unit} {f g : Int → Option Int} (h : Sees D f) (he : ∀ x, wfI x → f x = g x) : Sees D g := by
  intro x hx
  rw [← he x hx]
  exact h x hx

def ofF (f : Int → Option Int) (x : Int) : Int := (f x).getD x

set_option maxHeartbeats 1600000 in
set_option maxRecDepth 1000000 in
theorem of_calls (b n : Nat) (f : Int → Option Int) (x : Int) (w : World) (hx : wfI x) (h : CopyIs w b n f) :
    Calls Try.prog 44 #[.map (some b), .int .i64 x] w fun e w' => e = .returned (.int .i64 (ofF f x)) ∧ w = w' := by
  obtain ⟨D, hown, hs⟩ := h
  obtain ⟨h1, h2⟩ := hs x hx
  have HO := Aside0.mk hown
  have HX := Aside0.mk hx
  clear hown hs hx
  cases hf : f x with
  | none =>
    have hh := h1 hf
    have HH := Aside0.mk hh
    have HF := Aside0.mk hf
    clear h1 h2 hh hf
    go_enter Try.func44, Try.ntmps44
    go_wp2_with (at_lookup; refine wpList_lookup_own_ok_int _ rfl _ _ 58 rfl 3 3 .i64 law3 Try.underlying58 Try.underlying3 (zero3 _) b n D rfl HO.out _ _ rfl (keyOf_int_mk Try.underlying3 HX.out) ?_; intro c hat hwc; rw [HH.out])
    go_ret
    exact ⟨by rw [ofF, HF.out]; rfl, rfl⟩
  | some c =>
    obtain ⟨hh, ha⟩ := h2 c hf
    have HH := Aside0.mk hh
    have HF := Aside0.mk hf
    have HAT := Aside0.mk ha
    clear h1 h2 hh hf ha
    go_enter Try.func44, Try.ntmps44
    go_wp2_with (at_lookup; refine wpList_lookup_own_ok_int _ rfl _ _ 58 rfl 3 3 .i64 law3 Try.underlying58 Try.underlying3 (zero3 _) b n D rfl HO.out _ _ rfl (keyOf_int_mk Try.underlying3 HX.out) ?_; intro c' hat hwc; rw [HH.out]; rw [HAT.out] at hat; cases hat; clear hwc)
    go_ret
    exact ⟨by rw [ofF, HF.out]; rfl, rfl⟩

theorem kI_ne {x y : Int} (h : y ≠ x) : kI y ≠ kI x := fun e => h (by injection e)
theorem same_kI (x y : Int) : (kI y).sameKey (kI x) = decide (y = x) := by simp [Lit.sameKey]
theorem Sees.del {D : DataW Unit} {f : Int → Option Int} (h : Sees D f) (k : Int) : Sees (D.del (kI k)) (fun y => if y = k then none else f y) := by
  intro y hy
  dsimp only
  by_cases e : y = k
  · subst e
    exact ⟨fun _ => has_del_same, fun c hc => by rw [if_pos rfl] at hc; cases hc⟩
  · rw [if_neg e, has_del_other (kI_ne e)]
    obtain ⟨h1, h2⟩ := h y hy
    exact ⟨h1, fun c hc => ⟨(h2 c hc).1, fun z => by rw [atKey_del_other (kI_ne e)]; exact (h2 c hc).2 z⟩⟩
theorem Sees.put {D : DataW Unit} {f : Int → Option Int} (h : Sees D f) (hD : IsMap D) (k c : Int) : Sees (D.put (kI k) (.lit (kI c))) (fun y => if y = k then some c else f y) := by
  intro y hy
  dsimp only
  by_cases e : y = k
  · subst e
    refine And.intro (fun hc => ?_) (fun c' hc => ?_)
    · rw [if_pos rfl] at hc; cases hc
    · rw [if_pos rfl] at hc
      cases hc
      exact ⟨has_put_same (k := kI y) hD trivial _, fun z => atKey_put_same (k := kI y) hD trivial _ z⟩
  · rw [if_neg e, has_put_other (kI_ne e)]
    obtain ⟨h1, h2⟩ := h y hy
    exact ⟨h1, fun c hc => ⟨(h2 c hc).1, fun z => by rw [atKey_put_other (kI_ne e)]; exact (h2 c hc).2 z⟩⟩

/-- what a map is in the midst of the strike: those entries that lead to x and have come are gone -/
def midF (f : Int → Option Int) (x : Int) (left : Lit → Bool) (y : Int) : Option Int := if f y = some x then (if left (kI y) = true then f y else none) else f y
def delF (f : Int → Option Int) (x y : Int) : Option Int := if y = x then none else f y
/-- what is left of a map behind something was put into a register -/
def putF (f : Int → Option Int) (x : Int) (y : Int) : Option Int := if y = x then none else if f y = some x then none else f y

theorem mid_start {D : DataW Unit} {f : Int → Option Int} {x : Int} (h : Sees D f) : Sees D (midF f x (has D)) := h.ext fun y hy => by
  unfold midF
  by_cases e : f y = some x
  · rw [if_pos e, if_pos ((h y hy).2 x e).1]
  · rw [if_neg e]
theorem mid_end {D : DataW Unit} {f : Int → Option Int} {x : Int} {left : Lit → Bool} (hl : ∀ kl, left kl = false) (h : Sees D (midF (delF f x) x left)) : Sees D (putF f x) := h.ext fun y hy => by
  unfold midF delF putF
  rw [hl]
  by_cases e : y = x
  · simp [e]
  · simp only [if_neg e]
    by_cases e2 : f y = some x <;> simp [e2]
theorem mid_here {D : DataW Unit} {f : Int → Option Int} {x : Int} {left : Lit → Bool} {q c : Int} (h : Sees D (midF f x left)) (hq : wfI q) (hl : left (kI q) = true) (hat : ∀ zd, D.atKey (kI q) zd = .lit (kI c)) : f q = some c := by
  have hh := has_true_of_atKey hat
  obtain ⟨h1, h2⟩ := h q hq
  have hm : midF f x left q = f q := by
    unfold midF
    by_cases e : f q = some x
    · rw [if_pos e, if_pos hl]
    · rw [if_neg e]
  rw [hm] at h1 h2
  cases hf : f q with
  | none => rw [h1 hf] at hh; cases hh
  | some c' =>
    have h3 := (h2 c' hf).2 .nil
    rw [hat] at h3
    injection h3 with h3
    injection h3 with _ h3
    rw [h3]
theorem mid_struck {D : DataW Unit} {f : Int → Option Int} {x : Int} {left : Lit → Bool} {q : Int} (h : Sees D (midF f x left)) (hf : f q = some x) : Sees (D.del (kI q)) (midF f x (fun z => left z && !z.sameKey (kI q))) := (h.del q).ext fun y hy => by
  unfold midF
  simp only [same_kI]
  by_cases e : y = q
  · subst e
    simp [hf]
  · simp [e]
theorem mid_stays {D : DataW Unit} {f : Int → Option Int} {x : Int} {left : Lit → Bool} {q : Int} (h : Sees D (midF f x left)) (hf : f q ≠ some x) : Sees D (midF f x (fun z => left z && !z.sameKey (kI q))) := h.ext fun y hy => by
  unfold midF
  simp only [same_kI]
  by_cases e : y = q
  · subst e
    simp [hf]
  · simp [e]

set_option maxHeartbeats 1600000 in
set_option maxRecDepth 1000000 in
theorem put_calls (b n : Nat) (f : Int → Option Int) (x : Int) (w : World) (hx : wfI x) (h : CopyIs w b n f) :
    Calls Try.prog 67 #[.map (some b), .int .i64 x] w fun e w' => e = .returned (.tuple #[]) ∧ CopyIs w' b n (putF f x) ∧ w.grownBy w' (some b) := by
  obtain ⟨D, hown, hs⟩ := h
  have HO := Aside0.mk hown
  have HX := Aside0.mk hx
  have HS := Aside0.mk hs
  clear hown hs hx
  go_enter Try.func67, Try.ntmps67
  go_wp2_with (first | (at_delete; refine wpList_delete_own _ rfl _ _ 58 3 rfl 3 law3 Try.underlying58 _ b n D rfl HO.out _ _ rfl (keyOf_int_mk Try.underlying3 HX.out) ?_; intro w1 hown1 hturn1; have HO1 := Aside0.mk hown1; have HT1 := Aside0.mk hturn1; clear hown1 hturn1) | (at_range; refine wpList_range_own _ rfl _ 58 rfl 3 3 law3 Try.underlying58 _ b n _ rfl HO1.out ?_; intro w0 hrg0 hg0 hs0; have HRG0 := Aside0.mk hrg0; have HG0 := Aside0.mk hg0; clear hrg0 hg0))
  go_frame
  have hlt1 : b < w1.heap.size := HO1.out.lt
  have HLT := Aside0.mk hlt1
  clear hlt1 hs0
  go_loopw [4] (fun _ wr => ∃ (left : Lit → Bool) (cnt : Nat) (D' : DataW Unit), Aside0 (wr.ranges Try.prog 3 (plainElem Try.prog 3) b w1.heap.size n D' left cnt) ∧ Aside0 (Sees D' (midF (delF f x) x left)) ∧ Aside0 (w1.grownBy wr (some b)))
    (fun _ wr => wr.rangeLeft b w1.heap.size)
  case atStart => exact ⟨_, _, _, HRG0, ⟨mid_start (HS.out.del x)⟩, ⟨HG0.out.but _⟩⟩
  case round =>
    obtain ⟨left, cnt, D', hrg, hsee, hgw⟩ := hrel
    go_wp2_with (at_next; refine wpList_next_ranges_ii _ rfl _ rfl 3 3 .i64 .i64 law3 Try.underlying3 Try.underlying3 b w1.heap.size n _ _ _ rfl hrg.out ?_ ?_)
    · intro _ hl0
      have HL := Aside0.mk hl0
      clear hl0
      go_wp2
      go_end0
      exact ⟨rfl, ⟨D', hrg.out.owns, mid_end HL.out hsee.out⟩, HT1.out.grown.andThen hgw.out (fun j hj => .inr hj)⟩
    · intro q c w2 cnt2 hwq hwc hlx hat hrg1 hlt hg1 hs1 hen
      have hgw1 := hgw.out.andThen hg1 (fun j hj => by cases hj; exact Or.inl (Nat.le_refl _))
      have hq := mid_here hsee.out hwq hlx hat
      have HQ := Aside0.mk hq
      have HRG1 := Aside0.mk hrg1
      have HGW1 := Aside0.mk hgw1
      have HLT2 := Aside0.mk hlt
      have HWQ := Aside0.mk hwq
      clear hq hrg1 hgw1 hlt hwq hwc hlx hat hg1 hs1
      by_cases hcx : c = x
      · subst hcx
        go_wp2_with (at_delete; refine wpList_delete_ranges _ rfl _ _ 58 3 rfl 3 law3 Try.underlying58 _ b w1.heap.size n _ _ _ rfl HRG1.out _ _ rfl (keyOf_int_mk Try.underlying3 HWQ.out) ?_; intro w3 cnt3 hrg2 hle hturn; go_frame)
        rw [strike_twice] at hrg2
        go_roundw
        case rel => exact ⟨_, cnt3, _, ⟨hrg2⟩, ⟨mid_struck hsee.out HQ.out⟩, ⟨HGW1.out.andThen hturn.grown (fun j hj => by cases hj; exact Or.inr rfl)⟩⟩
        case measure => rw [hrg2.left_eq, hrg.out.left_eq]; have := HLT2.out; omega
      · go_wp2
        go_roundw
        case rel => exact ⟨_, cnt2, _, HRG1, ⟨mid_stays hsee.out (by rw [HQ.out]; intro e; injection e with e; exact hcx e)⟩, HGW1⟩
        case measure => rw [HRG1.out.left_eq, hrg.out.left_eq]; exact HLT2.out
end Go.Proofs.Ytjkjbfhhfdbnoaa.NW
