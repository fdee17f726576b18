/- In a block that was swept each InstConst and InstMove is read behind it: for every block. -/
import Derived.Test.YtjkjbfhhfdbnoaaSf
import Derived.Test.YtjkjbfhhfdbnoaaPBx17
import Derived.Test.YtjkjbfhhfdbnoaaPBx18
namespace Go.Proofs.Ytjkjbfhhfdbnoaa.Pure
open Go.RowKit Go.Maps Go.Proofs.Ytjkjbfhhfdbnoaa.PB Go.Proofs.Ytjkjbfhhfdbnoaa.NW Go.Proofs.YtjkjbfhhfdbnoaaW.PrintWords Go.Proofs.YtjkjbfhhfdbnoaaW.PrintLast Go.Proofs.YtjkjbfhhfdbnoaaW.PrintMore Go.Proofs.YtjkjbfhhfdbnoaaW.Own
set_option linter.unusedVariables false
set_option linter.unusedSimpArgs false

/-- does an instruction read a register? -/
def readsB (y : S39) (n : Int) : Bool := decide (((y.f0 = 2 ∨ y.f0 = 3 ∨ y.f0 = 4 ∨ y.f0 = 8) ∧ y.f2 = n) ∨ (y.f0 = 4 ∧ y.f3 = n))
/-- does it put something into it? -/
def putsB (y : S39) (n : Int) : Bool := decide (y.f0 ≠ 6 ∧ y.f0 ≠ 8 ∧ y.f1 = n)
/-- is a register read by instructions, or at the end? -/
def readB (fin : Int → Bool) : List S39 → Int → Bool
  | [], n => fin n
  | y :: l, n => if readsB y n = true then true else if putsB y n = true then false else readB fin l n
theorem readB_cons (fin : Int → Bool) (y : S39) (l : List S39) (n : Int) : readB fin (y :: l) n = if readsB y n = true then true else if putsB y n = true then false else readB fin l n := rfl
def finB (cond : Int) (save stack : List Int) (n : Int) : Bool := decide (cond = n ∨ n ∈ save ∨ n ∈ stack)
theorem reads_f (y : S39) (n : Int) : sacristanref18_reads.f y.f0 y.f1 y.f2 y.f3 y.f4 y.f5.f0 y.f5.f1 y.f5.f2 n = some (readsB y n) := by
  unfold sacristanref18_reads.f
  have hcase : ∀ b : Bool, (b = true ↔ (((y.f0 = 2 ∨ y.f0 = 3 ∨ y.f0 = 4 ∨ y.f0 = 8) ∧ y.f2 = n) ∨ (y.f0 = 4 ∧ y.f3 = n))) → some b = some (readsB y n) := by
    intro b hb
    congr 1
    unfold readsB
    rw [Bool.eq_iff_iff, hb, decide_eq_true_iff]
  by_cases h2 : y.f0 = 2
  · rw [if_pos h2]
    by_cases hA : y.f2 = n
    · rw [if_pos hA]; exact hcase _ (by simp; omega)
    · rw [if_neg hA, if_neg (by omega)]; exact hcase _ (by simp; omega)
  rw [if_neg h2]
  by_cases h3 : y.f0 = 3
  · rw [if_pos h3]
    by_cases hA : y.f2 = n
    · rw [if_pos hA]; exact hcase _ (by simp; omega)
    · rw [if_neg hA, if_neg (by omega)]; exact hcase _ (by simp; omega)
  rw [if_neg h3]
  by_cases h4 : y.f0 = 4
  · rw [if_pos h4]
    by_cases hA : y.f2 = n
    · rw [if_pos hA]; exact hcase _ (by simp; omega)
    · rw [if_neg hA]; exact hcase _ (by simp; omega)
  rw [if_neg h4]
  by_cases h8 : y.f0 = 8
  · rw [if_pos h8]
    by_cases hA : y.f2 = n
    · rw [if_pos hA]; exact hcase _ (by simp; omega)
    · rw [if_neg hA]; exact hcase _ (by simp; omega)
  rw [if_neg h8]
  exact hcase _ (by simp; omega)
theorem among_l0 (n : Int) (l : List Int) (hn : l.length ≤ 1000) : ∀ (d k i : Nat), l.length - i = d → i ≤ l.length → d < k → sacristanref18_among.l0 k n l (l.length : Int) (i : Int) = some (decide (n ∈ l.drop i)) := by
  intro d
  induction d with
  | zero =>
    intro k i hd hi hk
    obtain ⟨k, rfl⟩ : ∃ m, k = m + 1 := ⟨k - 1, by omega⟩
    simp only [sacristanref18_among.l0]
    rw [if_neg (by omega), List.drop_of_length_le (by omega)]
    simp
  | succ d ih =>
    intro k i hd hi hk
    obtain ⟨k, rfl⟩ : ∃ m, k = m + 1 := ⟨k - 1, by omega⟩
    have hlt : i < l.length := by omega
    have hw : wrap64 ((i : Int) + 1) = ((i + 1 : Nat) : Int) := by rw [w64s (by omega) (by omega)]; omega
    simp only [sacristanref18_among.l0]
    rw [if_pos (by omega), if_pos (by omega), if_pos (by omega), rd_nat hlt, hw, List.drop_eq_getElem_cons hlt]
    by_cases he : l[i] = n
    · rw [if_pos he]; simp [he]
    · rw [if_neg he, ih k (i + 1) (by omega) (by omega) (by omega)]
      congr 1
      simp only [List.mem_cons]
      congr 1
      simp [Ne.symm he]
section
variable (z0 z1 z2 : Int) (l3 : List S39) (z4 : Int) (l5 l6 : List Int) (z7 z8 z9 : Int)
theorem read_l0 (h5 : l5.length ≤ 400) (h6 : l6.length ≤ 400) (l : List S39) (n : Int) (hn : l.length ≤ 100) : ∀ (d k i : Nat), l.length - i = d → i ≤ l.length → 2 * d + 500 < k →
    sacristanref18_Read.l0 k l n (l.length : Int) (i : Int) z0 z1 z2 l3 z4 l5 l6 z7 z8 z9 = some (readB (finB z7 l5 l6) (l.drop i) n) := by
  intro d
  induction d with
  | zero =>
    intro k i hd hi hk
    obtain ⟨k, rfl⟩ : ∃ m, k = m + 1 := ⟨k - 1, by omega⟩
    simp only [sacristanref18_Read.l0]
    have a5 : sacristanref18_among.f k n l5 = some (decide (n ∈ l5)) := by
      have := among_l0 n l5 (by omega) l5.length k 0 (by omega) (by omega) (by omega)
      simpa [sacristanref18_among.f] using this
    have a6 : sacristanref18_among.f k n l6 = some (decide (n ∈ l6)) := by
      have := among_l0 n l6 (by omega) l6.length k 0 (by omega) (by omega) (by omega)
      simpa [sacristanref18_among.f] using this
    rw [if_neg (by omega), List.drop_of_length_le (by omega), a5, a6]
    simp only [Option.bind_some, readB, finB]
    by_cases h7 : z7 = n
    · rw [if_pos h7]; simp [h7]
    · rw [if_neg h7]
      by_cases m5 : n ∈ l5
      · simp [m5]
      · simp [m5, h7]
  | succ d ih =>
    intro k i hd hi hk
    obtain ⟨k, rfl⟩ : ∃ m, k = m + 2 := ⟨k - 2, by omega⟩
    have hlt : i < l.length := by omega
    have hw : wrap64 ((i : Int) + 1) = ((i + 1 : Nat) : Int) := by rw [w64s (by omega) (by omega)]; omega
    have hj : ∀ q, sacristanref18_Read.j1 (k + 1) l n (l.length : Int) (i : Int) q z0 z1 z2 l3 z4 l5 l6 z7 z8 z9 = if q = true then some false else some (readB (finB z7 l5 l6) (l.drop (i + 1)) n) := by
      intro q
      simp only [sacristanref18_Read.j1]
      rw [hw, ih k (i + 1) (by omega) (by omega) (by omega)]
    simp only [sacristanref18_Read.l0]
    rw [if_pos (by omega), if_pos (by omega), if_pos (by omega), rdT_nat hlt, reads_f, Option.bind_some, List.drop_eq_getElem_cons hlt, hj, hj, readB_cons]
    cases hr : readsB l[i] n with
    | true => rfl
    | false =>
      simp only [Bool.false_eq_true, if_false]
      by_cases p6 : l[i].f0 = 6
      · rw [if_pos p6, show putsB l[i] n = false from decide_eq_false (by omega)]; simp
      rw [if_neg p6]
      by_cases p8 : l[i].f0 = 8
      · rw [if_pos p8, show putsB l[i] n = false from decide_eq_false (by omega)]; simp
      rw [if_neg p8]
      by_cases p1 : l[i].f1 = n
      · rw [if_pos (beq_iff_eq.2 p1), show putsB l[i] n = true from decide_eq_true (by omega)]; simp
      · rw [if_neg (by rw [beq_iff_eq]; exact p1), show putsB l[i] n = false from decide_eq_false (by omega)]; simp
end
/-! ### What Sweep knows -/
theorem rdOf_set (l : List Bool) (i r : Int) (b : Bool) (h0 : 0 ≤ i) (h1 : i < l.length) (hr : 0 ≤ r) : rdOf false (l.set i.toNat b) r = if i = r then b else rdOf false l r := by
  unfold rdOf
  rw [List.getD_eq_getElem?_getD, List.getD_eq_getElem?_getD, List.getElem?_set]
  by_cases h : i = r
  · subst h; rw [if_pos rfl, if_pos rfl, if_pos (by omega)]; rfl
  · rw [if_neg (by omega), if_neg h]
theorem readsF_len (l : List Bool) (a b c : Int) : (readsF l a b c).length = l.length := by unfold readsF; split <;> (try split) <;> simp
theorem readsF_at (l : List Bool) (x : S39) (R : Int) (hx : RegsOk R x) (hl : (l.length : Int) = R) (r : Int) (hr : 0 ≤ r) : rdOf false (readsF l x.f0 x.f2 x.f3) r = (readsB x r || rdOf false l r) := by
  unfold readsF
  by_cases h1 : x.f0 = 2 ∨ x.f0 = 3 ∨ x.f0 = 8
  · have := hx.a (by omega)
    rw [if_pos h1, rdOf_set _ _ _ _ (by omega) (by omega) hr]
    by_cases h : x.f2 = r
    · rw [if_pos h, show readsB x r = true from decide_eq_true (by omega)]; rfl
    · rw [if_neg h, show readsB x r = false from decide_eq_false (by omega)]; rfl
  rw [if_neg h1]
  by_cases h4 : x.f0 = 4
  · have := hx.a (by omega)
    have := hx.b h4
    rw [if_pos h4, rdOf_set _ _ _ _ (by omega) (by rw [List.length_set]; omega) hr, rdOf_set _ _ _ _ (by omega) (by omega) hr]
    by_cases h : x.f3 = r
    · rw [if_pos h, show readsB x r = true from decide_eq_true (by omega)]; rfl
    · rw [if_neg h]
      by_cases h' : x.f2 = r
      · rw [if_pos h', show readsB x r = true from decide_eq_true (by omega)]; rfl
      · rw [if_neg h', show readsB x r = false from decide_eq_false (by omega)]; rfl
  · rw [if_neg h4, show readsB x r = false from decide_eq_false (by omega)]; rfl
/-- each InstConst and InstMove is read behind it -/
def LastOk (fin : Int → Bool) : List S39 → Prop
  | [] => True
  | y :: l => (y.f0 ≤ 2 → readB fin l y.f1 = true) ∧ LastOk fin l
structure InvS (R : Int) (fin : Int → Bool) (s : List Bool × List S39) : Prop where
  len : (s.1.length : Int) = R
  read : ∀ r, 0 ≤ r → r < R → rdOf false s.1 r = readB fin s.2.reverse r
  last : LastOk fin s.2.reverse
theorem invS_step {R : Int} {fin : Int → Bool} {s : List Bool × List S39} {x : S39} (h : InvS R fin s) (hx : RegsOk R x) : InvS R fin (stepW s x) := by
  unfold stepW
  by_cases hc : (x.f0 = 1 ∨ x.f0 = 2) ∧ rdOf false s.1 x.f1 = false
  · rw [if_pos hc]; exact h
  rw [if_neg hc]
  have hop := hx.op
  by_cases hp : x.f0 ≠ 6 ∧ x.f0 ≠ 8
  · have hd := hx.dst hp.1 hp.2
    have hl := h.len
    rw [if_pos hp]
    refine ⟨by rw [readsF_len, List.length_set]; exact hl, fun r h0 h1 => ?_, ?_⟩
    · rw [readsF_at _ x R hx (by rw [List.length_set]; exact hl) r h0, rdOf_set _ _ _ _ hd.1 (by omega) h0, List.reverse_append]
      show _ = readB fin (x :: s.2.reverse) r
      rw [readB_cons]
      cases hr : readsB x r with
      | true => rfl
      | false =>
        simp only [Bool.false_or, Bool.false_eq_true, if_false]
        by_cases e : x.f1 = r
        · rw [if_pos e, show putsB x r = true from decide_eq_true (by omega)]; rfl
        · rw [if_neg e, show putsB x r = false from decide_eq_false (by omega), h.read r h0 h1]; rfl
    · rw [List.reverse_append]
      refine ⟨fun h2 => ?_, h.last⟩
      show readB fin s.2.reverse x.f1 = true
      rw [← h.read x.f1 hd.1 hd.2]
      cases hr : rdOf false s.1 x.f1 with
      | true => rfl
      | false => exact absurd ⟨by omega, hr⟩ hc
  · rw [if_neg hp]
    refine ⟨by rw [readsF_len]; exact h.len, fun r h0 h1 => ?_, ?_⟩
    · rw [readsF_at _ x R hx h.len r h0, List.reverse_append]
      show _ = readB fin (x :: s.2.reverse) r
      rw [readB_cons]
      cases hr : readsB x r with
      | true => rfl
      | false => rw [show putsB x r = false from decide_eq_false (by omega), h.read r h0 h1]; rfl
    · rw [List.reverse_append]
      exact ⟨fun h2 => by omega, h.last⟩
theorem invS_fold {R : Int} {fin : Int → Bool} : ∀ (l : List S39) (s : List Bool × List S39), InvS R fin s → (∀ x ∈ l, RegsOk R x) → InvS R fin (l.foldl stepW s)
  | [], s, h, _ => h
  | x :: l, s, h, hx => invS_fold l (stepW s x) (invS_step h (hx x (by simp))) (fun y hy => hx y (by simp [hy]))
theorem markF_at (R : Int) : ∀ (rs : List Int) (l : List Bool), (l.length : Int) = R → (∀ r ∈ rs, 0 ≤ r ∧ r < R) → (markF l rs).length = l.length ∧ ∀ r, 0 ≤ r → rdOf false (markF l rs) r = (decide (r ∈ rs) || rdOf false l r)
  | [], l, hl, _ => ⟨rfl, fun r _ => by simp [markF]⟩
  | x :: rs, l, hl, h => by
    obtain ⟨a, b⟩ := h x (by simp)
    have ih := markF_at R rs (l.set x.toNat true) (by rw [List.length_set]; exact hl) (fun r hr => h r (by simp [hr]))
    have he : markF l (x :: rs) = markF (l.set x.toNat true) rs := rfl
    rw [he]
    refine ⟨by rw [ih.1, List.length_set], fun r hr => ?_⟩
    rw [ih.2 r hr, rdOf_set _ _ _ _ a (by omega) hr]
    by_cases e : x = r
    · subst e; simp
    · rw [if_neg e]
      by_cases m : r ∈ rs
      · simp [m]
      · simp [m, Ne.symm e]
theorem startW_inv {z0 z1 z2 : Int} {l3 : List S39} {z4 : Int} {l5 l6 : List Int} {z7 z8 z9 : Int} (h : MayIs z0 z1 z2 l3 z4 l5 l6 z7 z8 z9) : InvS z2 (finB z7 l5 l6) (startW z2 l5 l6 z7, []) := by
  have hz : 0 ≤ z2 := by have := h.pos; have := h.regs; omega
  have hin : ∀ r ∈ l5 ++ l6, 0 ≤ r ∧ r < z2 := by
    intro r hr
    rcases List.mem_append.1 hr with hr | hr
    · exact any_bad h.r5 r hr
    · exact any_bad h.r6 r hr
  have hlen : ((List.replicate z2.toNat false).length : Int) = z2 := by simp; omega
  obtain ⟨m1, m2⟩ := markF_at z2 (l5 ++ l6) (List.replicate z2.toNat false) hlen hin
  have h0 : ∀ r, 0 ≤ r → rdOf false (List.replicate z2.toNat false) r = false := by
    intro r hr
    unfold rdOf
    rw [List.getD_eq_getElem?_getD, List.getElem?_replicate]
    split <;> rfl
  have hc := h.cond
  unfold startW
  dsimp only
  by_cases h7 : 0 ≤ z7
  · rw [if_pos h7]
    refine ⟨by rw [List.length_set, m1]; exact hlen, fun r hr1 hr2 => ?_, trivial⟩
    show rdOf false (List.set (markF (List.replicate z2.toNat false) (l5 ++ l6)) z7.toNat true) r = finB z7 l5 l6 r
    rw [rdOf_set _ _ _ _ h7 (by rw [m1]; omega) hr1]
    by_cases e : z7 = r
    · rw [if_pos e]; simp [finB, e]
    · rw [if_neg e, m2 r hr1, h0 r hr1]; simp [finB, e]
  · rw [if_neg h7]
    refine ⟨by rw [m1]; exact hlen, fun r hr1 hr2 => ?_, trivial⟩
    show rdOf false (markF (List.replicate z2.toNat false) (l5 ++ l6)) r = finB z7 l5 l6 r
    rw [m2 r hr1, h0 r hr1]
    have e : z7 ≠ r := by omega
    simp [finB, e]
theorem lastOk_drop {fin : Int → Bool} : ∀ {l : List S39} (h : LastOk fin l) (i : Nat) (hi : i < l.length), l[i].f0 ≤ 2 → readB fin (l.drop (i + 1)) l[i].f1 = true
  | y :: l, h, 0, _, h2 => h.1 h2
  | y :: l, h, i + 1, hi, h2 => lastOk_drop h.2 i (by simpa using hi) h2
section
variable (z0 z1 z2 : Int) (l3 : List S39) (z4 : Int) (l5 l6 : List Int) (z7 z8 z9 : Int) (y0 y1 y2 : Int) (c : List S39) (y4 : Int) (y8 y9 : Int)
theorem last_l0 (h5 : l5.length ≤ 400) (h6 : l6.length ≤ 400) (hn : l3.length ≤ 100) (hc : c.length ≤ l3.length) (hL : LastOk (finB z7 l5 l6) c) : ∀ (d i : Nat), c.length - i = d → i ≤ c.length →
    EvT fun n => sacristanlaw18_SweepLast.l0 n (i : Int) z0 z1 z2 l3 z4 l5 l6 z7 z8 z9 y0 y1 y2 c y4 l5 l6 z7 y8 y9 := by
  intro d
  induction d with
  | zero =>
    intro i hd hi
    refine ⟨1, fun n hn => ?_⟩
    obtain ⟨n, rfl⟩ : ∃ m, n = m + 1 := ⟨n - 1, by omega⟩
    simp only [sacristanlaw18_SweepLast.l0]
    rw [if_neg (by omega), if_pos (by omega), awake18_f]
    rfl
  | succ d ih =>
    intro i hd hi
    have hlt : i < c.length := by omega
    have hw : wrap64 ((i : Int) + 1) = ((i + 1 : Nat) : Int) := by rw [w64s (by omega) (by omega)]; omega
    obtain ⟨K, hK⟩ := ih (i + 1) (by omega) (by omega)
    refine ⟨K + 2000, fun n hn => ?_⟩
    obtain ⟨n, rfl⟩ : ∃ m, n = m + 1 := ⟨n - 1, by omega⟩
    simp only [sacristanlaw18_SweepLast.l0]
    rw [if_pos (by omega), if_pos (by omega), rdT_nat hlt, hw]
    by_cases h2 : c[i].f0 ≤ 2
    · rw [if_pos h2, if_pos (by omega), if_pos (by omega), show (((i + 1 : Nat) : Int)).toNat = i + 1 by omega]
      have hr : sacristanref18_Read.f n y0 y1 y2 c y4 l5 l6 z7 y8 y9 (c.drop (i + 1)) c[i].f1 = some true := by
        have := read_l0 y0 y1 y2 c y4 l5 l6 z7 y8 y9 h5 h6 (c.drop (i + 1)) c[i].f1 (by simp; omega) (c.drop (i + 1)).length n 0 (by omega) (by omega) (by simp; omega)
        rw [List.drop_zero, lastOk_drop hL i hlt h2] at this
        exact this
      rw [hr, Option.bind_some, if_pos rfl]
      exact hK n (by omega)
    · rw [if_neg h2]
      exact hK n (by omega)
end
/-- THE LAW, plainly -/
theorem SweepLast (z0 z1 z2 : Int) (l3 : List S39) (z4 : Int) (l5 l6 : List Int) (z7 z8 z9 : Int) : ∃ k, sacristanlaw18_SweepLast.f k z0 z1 z2 l3 z4 l5 l6 z7 z8 z9 = some true := by
  have ht : ∀ k, sacristanlaw18_SweepLast.j0 (k + 1) true z0 z1 z2 l3 z4 l5 l6 z7 z8 z9 = some true := by
    intro k
    simp only [sacristanlaw18_SweepLast.j0, if_true]
    rw [awake18_f]; rfl
  obtain ⟨b, hb, hsm⟩ := great_f z0 z1 z2 l3 z4 l5 l6 z7 z8 z9 [] [] [] []
  cases b with
  | true =>
    refine ⟨6000, ?_⟩
    unfold sacristanlaw18_SweepLast.f
    rw [hb _ (by omega), Option.bind_some, if_pos rfl]
    exact ht 5999
  | false =>
    have hs := hsm rfl
    cases hm : mayBlk z0 z1 z2 l3 z4 l5 l6 z7 z8 z9 with
    | false =>
      refine ⟨6000, ?_⟩
      unfold sacristanlaw18_SweepLast.f
      rw [hb _ (by omega), Option.bind_some, if_neg (by decide), may_f _ _ _ _ _ _ _ _ _ _ hs.save hs.stack _ (by omega), Option.bind_some, hm]
      exact ht 5999
    | true =>
      have hM := mayBlk_iff.1 hm
      have hsw : sweepF z0 z1 z2 l3 z4 l5 l6 z7 z8 z9 = sweepL z2 l5 l6 z7 l3 := by unfold sweepF; rw [if_pos hm]
      have hI := invS_fold l3.reverse _ (startW_inv hM) (fun x hx => gsOk_regs hM.gs x (by simpa using hx))
      have hL : LastOk (finB z7 l5 l6) (sweepF z0 z1 z2 l3 z4 l5 l6 z7 z8 z9) := by rw [hsw]; exact hI.last
      have h3 := hs.insts
      obtain ⟨K, hK⟩ := last_l0 z0 z1 z2 l3 z4 l5 l6 z7 z8 z9 z0 z1 z2 (sweepF z0 z1 z2 l3 z4 l5 l6 z7 z8 z9) z4 z8 z9 hs.save hs.stack h3 (sweepF_subs z0 z1 z2 l3 z4 l5 l6 z7 z8 z9).2.length_le hL _ 0 rfl (Nat.zero_le _)
      refine ⟨K + 6000, ?_⟩
      unfold sacristanlaw18_SweepLast.f
      rw [hb _ (by omega), Option.bind_some, if_neg (by decide), may_f _ _ _ _ _ _ _ _ _ _ hs.save hs.stack _ (by omega), Option.bind_some, hm]
      show sacristanlaw18_SweepLast.j0 (K + 5999 + 1) false z0 z1 z2 l3 z4 l5 l6 z7 z8 z9 = some true
      simp only [sacristanlaw18_SweepLast.j0, Bool.false_eq_true, if_false]
      rw [sweep_f hs.insts hs.save hs.stack (fun x hx => (hs.words x hx).1), Option.bind_some]
      exact hK (K + 5999) (by omega)
end Go.Proofs.Ytjkjbfhhfdbnoaa.Pure
