/- What the laws of layer 15 share. -/
import Derived.Test.YtjkjbfhhfdbnoaaTm
import Derived.Test.YtjkjbfhhfdbnoaaTk
import Derived.Test.YtjkjbfhhfdbnoaaSj
import Derived.Test.YtjkjbfhhfdbnoaaPBy13
import Derived.Test.YtjkjbfhhfdbnoaaSi
namespace Go.Proofs.Ytjkjbfhhfdbnoaa.NW
open Go.RowKit Go.Proofs.YtjkjbfhhfdbnoaaW.PrintWords Go.Proofs.YtjkjbfhhfdbnoaaW.PrintMore Go.Proofs.Ytjkjbfhhfdbnoaa.PB
set_option linter.unusedVariables false
set_option linter.unusedSimpArgs false
/-- Great -/
theorem great_calls15 (z0 z1 z2 : Int) (A3 : Option Addr) (c3 : Nat) (l3 : List S39) (z4 : Int) (A5 : Option Addr) (c5 : Nat) (l5 : List Int) (A6 : Option Addr) (c6 : Nat) (l6 : List Int) (z7 z8 z9 : Int)
    (A7 : Option Addr) (c7 : Nat) (l7 : List S37) (A8 : Option Addr) (c8 : Nat) (l8 : List S37) (A0 : Option Addr) (c0 : Nat) (ups : List S37) (A2 : Option Addr) (c2 : Nat) (ons : List S54) :
    ∃ b, (∀ w : World, BlkIs w A3 c3 l3 A5 c5 l5 A6 c6 l6 → k37.C w A7 l7.length l7 → l7.length ≤ c7 → k37.C w A8 l8.length l8 → l8.length ≤ c8 → k37.C w A0 ups.length ups → ups.length ≤ c0 → k54.C w A2 ons.length ons → ons.length ≤ c2 →
      Calls Try.prog 14 #[.agg #[.int .i64 z0, .int .i64 z1, .int .i64 z2, .slice A3 l3.length c3, .int .i64 z4, .slice A5 l5.length c5, .slice A6 l6.length c6, .int .i64 z7, .int .i64 z8, .int .i64 z9], .slice A7 l7.length c7, .slice A8 l8.length c8, .agg #[.slice A0 ups.length c0, .slice A2 ons.length c2]] w fun e w' => e = .returned (.bool b) ∧ Below w.heap.size w w') ∧ (b = false → Pure.Small z2 l3 l5 l6 l7 l8 ups ons) := by
  obtain ⟨b, hb, hs⟩ := Pure.great_f z0 z1 z2 l3 z4 l5 l6 z7 z8 z9 l7 l8 ups ons
  refine ⟨b, fun w hr h7 k7 h8 k8 hu k0 ho k2 => ?_, hs⟩
  exact (sacristanref15_Great.calls 200 z0 z1 z2 A3 c3 l3 z4 A5 c5 l5 A6 c6 l6 z7 z8 z9 A7 c7 l7 A8 c8 l8 A0 c0 ups A2 c2 ons b w hr.r3 hr.c3 hr.r5 hr.c5 hr.r6 hr.c6 h7 k7 h8 k8 hu k0 ho k2 (hb 200 (by omega))).mono fun e w' h => ⟨h.1, by first | exact h.2 | exact h.2.below⟩
/-- what came in: of values that are numbers of their widths -/
structure InIs (w : World) (A3 : Option Addr) (c3 : Nat) (l3 : List S39) (A5 : Option Addr) (c5 : Nat) (l5 : List Int) (A6 : Option Addr) (c6 : Nat) (l6 : List Int) (A7 : Option Addr) (c7 : Nat) (l7 : List S37) (A8 : Option Addr) (c8 : Nat) (l8 : List S37) (A0 : Option Addr) (c0 : Nat) (ups : List S37) (A2 : Option Addr) (c2 : Nat) (ons : List S54) : Prop where
  blk : BlkIs w A3 c3 l3 A5 c5 l5 A6 c6 l6
  r7 : k37.C w A7 l7.length l7
  k7 : l7.length ≤ c7
  r8 : k37.C w A8 l8.length l8
  k8 : l8.length ≤ c8
  r0 : k37.C w A0 ups.length ups
  k0 : ups.length ≤ c0
  r2 : k54.C w A2 ons.length ons
  k2 : ons.length ≤ c2
  w3 : ∀ x ∈ l3, PW.I64 x.f5.f1
  w7 : ∀ v ∈ l7, PW.I64 v.f1
  w8 : ∀ v ∈ l8, PW.I64 v.f1
  w0 : ∀ v ∈ ups, PW.I64 v.f1
  w2 : ∀ x ∈ ons, ∀ v ∈ x.f3, PW.I64 v.f1
  len : ∀ x ∈ ons, x.f3.length ≤ 9223372036854775807
theorem InIs.below {w w1 : World} {A3 : Option Addr} {c3 : Nat} {l3 : List S39} {A5 : Option Addr} {c5 : Nat} {l5 : List Int} {A6 : Option Addr} {c6 : Nat} {l6 : List Int} {A7 : Option Addr} {c7 : Nat} {l7 : List S37} {A8 : Option Addr} {c8 : Nat} {l8 : List S37} {A0 : Option Addr} {c0 : Nat} {ups : List S37} {A2 : Option Addr} {c2 : Nat} {ons : List S54}
    (h : InIs w A3 c3 l3 A5 c5 l5 A6 c6 l6 A7 c7 l7 A8 c8 l8 A0 c0 ups A2 c2 ons) (hb : Below w.heap.size w w1) : InIs w1 A3 c3 l3 A5 c5 l5 A6 c6 l6 A7 c7 l7 A8 c8 l8 A0 c0 ups A2 c2 ons :=
  ⟨⟨Kd.C_below h.blk.r3 hb, h.blk.c3, Kd.C_below h.blk.r5 hb, h.blk.c5, Kd.C_below h.blk.r6 hb, h.blk.c6⟩, Kd.C_below h.r7 hb, h.k7, Kd.C_below h.r8 hb, h.k8, Kd.C_below h.r0 hb, h.k0, Kd.C_below h.r2 hb, h.k2, h.w3, h.w7, h.w8, h.w0, h.w2, h.len⟩
theorem fit_z : PW.FitV z37 := PW.fits_may0
theorem allP_of {w : World} {A3 : Option Addr} {c3 : Nat} {l3 : List S39} {A5 : Option Addr} {c5 : Nat} {l5 : List Int} {A6 : Option Addr} {c6 : Nat} {l6 : List Int} {A7 : Option Addr} {c7 : Nat} {l7 : List S37} {A8 : Option Addr} {c8 : Nat} {l8 : List S37} {A0 : Option Addr} {c0 : Nat} {ups : List S37} {A2 : Option Addr} {c2 : Nat} {ons : List S54}
    (h : InIs w A3 c3 l3 A5 c5 l5 A6 c6 l6 A7 c7 l7 A8 c8 l8 A0 c0 ups A2 c2 ons) (hr : Pure.RightIs l7 l8 ups ons) : AllP PW.FitV l7 l8 ups ons l3 :=
  ⟨fun v hv => PW.fit_may (h.w7 v hv) (hr.1 v hv), fun v hv => PW.fit_may (h.w8 v hv) (hr.2.1 v hv), fun v hv => PW.fit_may (h.w0 v hv) (hr.2.2.1 v hv), fun x hx v hv => PW.fit_may (h.w2 x hx v hv) (hr.2.2.2 x hx v hv), fun x hx _ hm => PW.fit_may (h.w3 x hx) hm, fit_z⟩
theorem BlkIs.below {w w1 : World} {A3 : Option Addr} {c3 : Nat} {l3 : List S39} {A5 : Option Addr} {c5 : Nat} {l5 : List Int} {A6 : Option Addr} {c6 : Nat} {l6 : List Int} (h : BlkIs w A3 c3 l3 A5 c5 l5 A6 c6 l6) (hb : Below w.heap.size w w1) : BlkIs w1 A3 c3 l3 A5 c5 l5 A6 c6 l6 :=
  ⟨Kd.C_below h.r3 hb, h.c3, Kd.C_below h.r5 hb, h.c5, Kd.C_below h.r6 hb, h.c6⟩
theorem sameValues_l0 (l : List S37) (hn : l.length ≤ 9223372036854775000) : ∀ (d k i : Nat), l.length - i = d → i ≤ l.length → d < k → sacristanref15_SameValues.l0 k l l (l.length : Int) (i : Int) = some true := by
  intro d
  induction d with
  | zero =>
    intro k i hd hi hk
    obtain ⟨k, rfl⟩ : ∃ m, k = m + 1 := ⟨k - 1, by omega⟩
    simp only [sacristanref15_SameValues.l0]
    rw [if_neg (by omega)]
  | succ d ih =>
    intro k i hd hi hk
    obtain ⟨k, rfl⟩ : ∃ m, k = m + 1 := ⟨k - 1, by omega⟩
    simp only [sacristanref15_SameValues.l0]
    rw [if_pos (by omega), if_pos (by omega), if_pos (by omega), if_pos (by omega), if_neg (by simp), show wrap64 ((i : Int) + 1) = ((i + 1 : Nat) : Int) by unfold wrap64; omega]
    exact ih k (i + 1) (by omega) (by omega) (by omega)
theorem sameValues_calls (A : Option Addr) (c : Nat) (B : Option Addr) (b : Nat) (l : List S37) (w : World) (h1 : k37.C w A l.length l) (h2 : k37.C w B l.length l) (hc : l.length ≤ c) (hb : l.length ≤ b) (hn : l.length ≤ 9223372036854775000) :
    Calls Try.prog 32 #[.slice A l.length c, .slice B l.length b] w fun e w' => e = .returned (.bool true) ∧ Below w.heap.size w w' :=
  (sacristanref15_SameValues.calls (l.length + 1) A c l B b l true w h1 hc h2 hb (by unfold sacristanref15_SameValues.f; rw [if_pos rfl]; exact sameValues_l0 l hn l.length _ 0 rfl (Nat.zero_le _) (by omega))).mono fun e w' h => ⟨h.1, h.2.below⟩
theorem evald_eq {o1 o2 : Option (List S37 × List S37 × Int)} (h : o1 = o2) {s t u v : List S37} {n m : Int} {a b : Bool} (h1 : o1 = if a = true then some (s, t, n) else none) (h2 : a = false → s = [] ∧ t = [] ∧ n = 0) (h3 : o2 = if b = true then some (u, v, m) else none) (h4 : b = false → u = [] ∧ v = [] ∧ m = 0) : b = a ∧ m = n ∧ u = s ∧ v = t := by
  subst h
  cases a <;> cases b
  · obtain ⟨rfl, rfl, rfl⟩ := h2 rfl
    obtain ⟨rfl, rfl, rfl⟩ := h4 rfl
    exact ⟨rfl, rfl, rfl, rfl⟩
  · rw [h1] at h3; simp at h3
  · rw [h1] at h3; simp at h3
  · rw [h1] at h3
    simp only [if_true, Option.some.injEq, Prod.mk.injEq] at h3
    obtain ⟨rfl, rfl, rfl⟩ := h3
    exact ⟨rfl, rfl, rfl, rfl⟩

/-- an instruction that asks nothing of what is around -/
def Free (x : S39) : Prop := ¬ (5 ≤ x.f0 ∧ x.f0 ≤ 7)
theorem doesK_free (O : Ops) (u1 u2 : List S37) (o1 o2 : List S54) (x : S39) (r : List S37) (g : List S54) (h : Free x) : doesK O u1 o1 x r g = doesK O u2 o2 x r g := by
  unfold doesK valK
  unfold Free at h
  rw [if_neg (show ¬ x.f0 = 6 by omega), if_neg (show ¬ x.f0 = 6 by omega), if_neg (show ¬ x.f0 = 5 by omega), if_neg (show ¬ x.f0 = 5 by omega), if_neg (show ¬ x.f0 = 7 by omega)]
theorem runK_free (O : Ops) (u1 u2 : List S37) (o1 o2 : List S54) : ∀ (l : List S39) (r : List S37) (g : List S54), (∀ x ∈ l, Free x) → runK O u1 o1 l r g = runK O u2 o2 l r g
  | [], _, _, _ => rfl
  | x :: l, r, g, h => by
    unfold runK
    rw [doesK_free O u1 u2 o1 o2 x r g (h x (by simp))]
    congr 1
    funext p
    exact runK_free O u1 u2 o1 o2 l p.1 p.2 fun y hy => h y (by simp [hy])
theorem evalK_free (O : Ops) (u1 u2 : List S37) (o1 o2 : List S54) (z0 z1 z2 : Int) (l3 : List S39) (z4 : Int) (l5 l6 : List Int) (z7 z8 z9 : Int) (s t : List S37) (h : ∀ x ∈ l3, Free x) : evalK O u1 o1 z0 z1 z2 l3 z4 l5 l6 z7 z8 z9 s t = evalK O u2 o2 z0 z1 z2 l3 z4 l5 l6 z7 z8 z9 s t := by
  unfold evalK
  rw [runK_free O u1 u2 o1 o2 l3 _ _ h]
/-- how long what is told is -/
theorem evald_short {O : Ops} {u : List S37} {o : List S54} {z0 z1 z2 : Int} {l3 : List S39} {z4 : Int} {l5 l6 : List Int} {z7 z8 z9 : Int} {a b s t : List S37} {n : Int} {ok : Bool} (h5 : l5.length ≤ 400) (h6 : l6.length ≤ 400) (h : evalK O u o z0 z1 z2 l3 z4 l5 l6 z7 z8 z9 a b = if ok = true then some (s, t, n) else none) (hf : ok = false → s = [] ∧ t = [] ∧ n = 0) : s.length ≤ 9223372036854775000 ∧ t.length ≤ 9223372036854775000 := by
  cases ok with
  | false => obtain ⟨rfl, rfl, _⟩ := hf rfl; exact ⟨by simp, by simp⟩
  | true =>
    have := evalK_len O u o z0 z1 z2 l3 z4 l5 l6 z7 z8 z9 a b h5 h6 s t n (by rw [h]; rfl)
    omega
end Go.Proofs.Ytjkjbfhhfdbnoaa.NW
