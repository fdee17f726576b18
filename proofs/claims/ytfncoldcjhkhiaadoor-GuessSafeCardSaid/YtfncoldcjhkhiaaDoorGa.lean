/- The reference's depths: one pass, and passes until nothing is new. -/
import Derived.Test.YtfncoldcjhkhiaaDoorPCd1
import Derived.Test.YtfncoldcjhkhiaaDoorTn
namespace Go.Proofs.YtfncoldcjhkhiaaDoor.Pure
open Go.RowKit Go.Proofs.YtfncoldcjhkhiaaDoor.PC Go.Proofs.YtfncoldcjhkhiaaDoor.NW Go.Proofs.YtfncoldcjhkhiaaDoorW.PrintWords Go.Proofs.YtfncoldcjhkhiaaDoorW.PrintLast Go.Proofs.YtfncoldcjhkhiaaDoorW.PrintMore
set_option linter.unusedVariables false
set_option linter.unusedSimpArgs false
section
variable {l0 : List Int} {l1 : List ByteArray} {l2 : List S44} {l3 : List S41}
abbrev refL2 (l0 : List Int) (l1 : List ByteArray) (l2 : List S44) (l3 : List S41) (p : S44) (D : List Int) (m : Bool) (a : Int) : Nat → Option (List Int × Bool) := fun k => sacristanref11_Depths.l2 k D m (p.f3.length : Int) a l0 l1 l2 l3 p.f0 p.f1 p.f2 p.f3
theorem rdL {l : List Int} {i : Nat} (h : i < l.length) : rd l (i : Int) = l[i] := by
  rw [rdI, List.getD_eq_getElem?_getD, List.getElem?_eq_getElem h]; rfl
theorem rdL_at {D : List Int} (a : Int) : rd D a = Flow.at_ D a := rfl
theorem at_rd {D : List Int} (a : Int) : rd D a = Flow.at_ D a := rfl
/-- the loop over where it goes on -/
theorem dep_l3 (p : S44) (e a : Int) (tos : List Int) (r : List Int × Bool) : ∀ (d j : Nat) (D : List Int) (m : Bool), tos.length - j = d → j ≤ tos.length → D.length = p.f3.length → tos.length ≤ 1000 → (∀ s ∈ tos, 0 ≤ s) →
    (∀ D' m', Flow.toS p.f3.length e (tos.drop j) D m = some (D', m') → D'.length = p.f3.length → Ev (refL2 l0 l1 l2 l3 p D' m' (wrap64 (a + 1))) r) → (Flow.toS p.f3.length e (tos.drop j) D m = none → r = ([], false)) →
    Ev (fun k => sacristanref11_Depths.l3 k D m e tos (p.f3.length : Int) a (tos.length : Int) (j : Int) l0 l1 l2 l3 p.f0 p.f1 p.f2 p.f3) r := by
  intro d
  induction d with
  | zero =>
    intro j D m hd hj hl ht hpos hok _
    rw [List.drop_of_length_le (by omega)] at hok
    refine (hok D m rfl hl).succ fun k hk => ?_
    unfold sacristanref11_Depths.l3
    rw [if_neg (by omega)]
    exact hk
  | succ d ih =>
    intro j D m hd hj hl ht hpos hok hbad
    have hlt : j < tos.length := by omega
    rw [List.drop_eq_getElem_cons hlt] at hok hbad
    have hs := hpos _ (List.getElem_mem hlt)
    have hrd : rd tos (j : Int) = tos[j] := rdL hlt
    generalize tos[j] = s at hok hbad hs hrd
    have hw : wrap64 ((j : Int) + 1) = ((j + 1 : Nat) : Int) := w64s (by omega) (by omega)
    have hfail : r = ([], false) → ∀ (x : Int), Ev (fun k => sacristanref11_Depths.j8 k D m e tos x (p.f3.length : Int) a (tos.length : Int) (j : Int) true l0 l1 l2 l3 p.f0 p.f1 p.f2 p.f3) r := fun hr x => by
      rw [hr]
      exact Ev.now fun k => by simp only [sacristanref11_Depths.j8, if_true]
    by_cases c1 : s ≥ p.f3.length
    · have hr := hbad (by unfold Flow.toS; rw [if_pos (.inl c1)])
      refine (hfail hr (j : Int)).succ fun k hk => ?_
      unfold sacristanref11_Depths.l3
      rw [if_pos (by omega), if_pos (by omega), if_pos (by omega), hrd, if_pos (by omega)]
      exact hk
    have hgo : ∀ (D1 : List Int) (m1 : Bool), D1.length = p.f3.length → Flow.toS p.f3.length e (s :: tos.drop (j + 1)) D m = Flow.toS p.f3.length e (tos.drop (j + 1)) D1 m1 →
        Ev (fun k => sacristanref11_Depths.l3 k D1 m1 e tos (p.f3.length : Int) a (tos.length : Int) ((j + 1 : Nat) : Int) l0 l1 l2 l3 p.f0 p.f1 p.f2 p.f3) r := fun D1 m1 h1 h2 => ih (j + 1) D1 m1 (by omega) (by omega) h1 ht hpos (fun D' m' h => hok D' m' (by rw [h2]; exact h)) (fun h => hbad (by rw [h2]; exact h))
    by_cases c2 : Flow.at_ D s ≥ 0
    · by_cases c3 : Flow.at_ D s = e
      · -- known, and the same
        have := hgo D m hl (by rw [Flow.toS, if_neg (by omega), if_neg (by omega)])
        have h8 : Ev (fun k => sacristanref11_Depths.j8 k D m e tos (j : Int) (p.f3.length : Int) a (tos.length : Int) (j : Int) false l0 l1 l2 l3 p.f0 p.f1 p.f2 p.f3) r := this.succ fun k hk => by
          simp only [sacristanref11_Depths.j8, Bool.false_eq_true, if_false]
          rw [if_pos (by omega), if_pos (by omega), hrd, if_pos hs, if_pos (by omega), at_rd, if_neg (by omega), hw]
          exact hk
        refine h8.succ fun k hk => ?_
        unfold sacristanref11_Depths.l3
        rw [if_pos (by omega), if_pos (by omega), if_pos (by omega), hrd, if_neg (by omega), if_pos hs, if_pos (by omega), at_rd, if_pos c2, show (Flow.at_ D s != e) = false by rw [c3]; simp]
        exact hk
      · have hr := hbad (by rw [Flow.toS, if_pos (.inr ⟨c2, c3⟩)])
        refine (hfail hr (j : Int)).succ fun k hk => ?_
        unfold sacristanref11_Depths.l3
        rw [if_pos (by omega), if_pos (by omega), if_pos (by omega), hrd, if_neg (by omega), if_pos hs, if_pos (by omega), at_rd, if_pos c2, bne_iff_ne.2 c3]
        exact hk
    · have := hgo (D.set s.toNat e) true (by rw [List.length_set]; exact hl) (by rw [Flow.toS, if_neg (by omega), if_pos (by omega)])
      have h8 : Ev (fun k => sacristanref11_Depths.j8 k D m e tos (j : Int) (p.f3.length : Int) a (tos.length : Int) (j : Int) false l0 l1 l2 l3 p.f0 p.f1 p.f2 p.f3) r := this.succ fun k hk => by
        simp only [sacristanref11_Depths.j8, Bool.false_eq_true, if_false]
        rw [if_pos (by omega), if_pos (by omega), hrd, if_pos hs, if_pos (by omega), at_rd, if_pos (by omega), hw]
        exact hk
      refine h8.succ fun k hk => ?_
      unfold sacristanref11_Depths.l3
      rw [if_pos (by omega), if_pos (by omega), if_pos (by omega), hrd, if_neg (by omega), if_pos hs, if_pos (by omega), at_rd, if_neg c2]
      exact hk
theorem succ_rev (op A a : Int) (e : Bool) : (succS op A a e).reverse = (if e = true then [] else [a + 1]) ++ (if op = 13 ∨ op = 14 then [A] else []) := by
  unfold succS
  rw [List.reverse_append]
  congr 1
  · cases e <;> rfl
  · split <;> rfl
/-- one place -/
theorem dep_at (p : S44) (hf : FitM l0 l1 l2 l3) (hp : p ∈ l2) (hm : mayS (insM l0 l1 l2 l3) l0 l1 l2 l3 = true) (a : Nat) (ha : a < p.f3.length) (D : List Int) (m : Bool) (hK : Flow.Known (grf l0 l1 l2 l3 p) D) (hd : ¬ Flow.at_ D a < 0) (r : List Int × Bool)
    (hok : ∀ e D' m', (grf l0 l1 l2 l3 p).step a (Flow.at_ D a) = some e → Flow.toS p.f3.length e ((grf l0 l1 l2 l3 p).succ a).reverse D m = some (D', m') → D'.length = p.f3.length → Ev (refL2 l0 l1 l2 l3 p D' m' (((a + 1 : Nat) : Int))) r)
    (hb1 : (grf l0 l1 l2 l3 p).step a (Flow.at_ D a) = none → r = ([], false)) (hb2 : ∀ e, (grf l0 l1 l2 l3 p).step a (Flow.at_ D a) = some e → Flow.toS p.f3.length e ((grf l0 l1 l2 l3 p).succ a).reverse D m = none → r = ([], false)) :
    Ev (refL2 l0 l1 l2 l3 p D m (a : Int)) r := by
  have hg := good_of ((may_good hm).1 p hp)
  have F := grf_fine hg
  have hx : rd_T32 p.f3 (a : Int) ∈ p.f3 := rd32_in (by omega)
  have hins := hg.ins _ hx
  have hok2 : (effS (rd_T32 p.f3 a).f0 (rd_T32 p.f3 a).f1 l0.length l1.length l2 l3).2.2 = true := by
    unfold insM insS at hins
    rw [Bool.and_eq_true] at hins
    exact hins.1
  have ht := takes_b hm (rd_T32 p.f3 a).f0 (rd_T32 p.f3 a).f1 hok2
  have hl := leaves_b (rd_T32 p.f3 a).f0 (rd_T32 p.f3 a).f1 l0.length l1.length l2 l3
  have hr : Flow.Reach (grf l0 l1 l2 l3 p) a (Flow.at_ D a) := (hK.sound a (by omega) (by show (a : Int) < (p.f3.length : Int); omega)).resolve_left (by omega)
  have hd1 := reach_le F hr
  have hfew := hg.few
  have hE : Ev (fun k => sacristanref09_Effect.f k l0 l1 l2 l3 (rd_T32 p.f3 a).f0 (rd_T32 p.f3 a).f1) (effS (rd_T32 p.f3 a).f0 (rd_T32 p.f3 a).f1 l0.length l1.length l2 l3) := ⟨100, fun k hk => by
    obtain ⟨k', rfl⟩ : ∃ k', k = k' + 100 := ⟨k - 100, by omega⟩
    exact refEff l0 l1 l2 l3 _ _ k' hf.f (hf.a p hp _ hx)⟩
  have hstep : (grf l0 l1 l2 l3 p).step a (Flow.at_ D a) = stepS (effS (rd_T32 p.f3 a).f0 (rd_T32 p.f3 a).f1 l0.length l1.length l2 l3).1 (effS (rd_T32 p.f3 a).f0 (rd_T32 p.f3 a).f1 l0.length l1.length l2 l3).2.1 (Flow.at_ D a) := rfl
  have hsuc : ((grf l0 l1 l2 l3 p).succ a).reverse = (if endsB (rd_T32 p.f3 a).f0 = true then [] else [(a : Int) + 1]) ++ (if (rd_T32 p.f3 a).f0 = 13 ∨ (rd_T32 p.f3 a).f0 = 14 then [(rd_T32 p.f3 a).f1] else []) := succ_rev _ _ _ _
  have hA := jump_in hg (a := (a : Int)) (by omega) (by omega)
  have hDl := hK.len
  have hDl : D.length = p.f3.length := hDl
  rw [hstep] at hok hb1 hb2
  rw [hsuc] at hok hb2
  clear hstep hsuc hins hx hr hok2
  generalize hxx : rd_T32 p.f3 (a : Int) = x at *
  generalize effS x.f0 x.f1 l0.length l1.length l2 l3 = E at *
  obtain ⟨t, l, ok⟩ := E
  dsimp only at *
  have hlen : rd D (a : Int) = Flow.at_ D a := rfl
  -- where all is well there: the rest
  have hrest : t ≤ Flow.at_ D a → Flow.at_ D a + (l - t) ≤ 256 → Ev (fun k => sacristanref11_Depths.j3 k D m (a : Int) (Flow.at_ D a + (l - t)) (p.f3.length : Int) (a : Int) false l0 l1 l2 l3 p.f0 p.f1 p.f2 p.f3 x.f0 x.f1) r := by
    intro h1 h2
    have hst : stepS t l (Flow.at_ D a) = some (Flow.at_ D a + (l - t)) := by unfold stepS; rw [if_pos ⟨h1, h2⟩]
    have hl3 : ∀ tos : List Int, tos = (if endsB x.f0 = true then [] else [(a : Int) + 1]) ++ (if x.f0 = 13 ∨ x.f0 = 14 then [x.f1] else []) →
        Ev (fun k => sacristanref11_Depths.l3 k D m (Flow.at_ D a + (l - t)) tos (p.f3.length : Int) (a : Int) (tos.length : Int) 0 l0 l1 l2 l3 p.f0 p.f1 p.f2 p.f3) r := by
      intro tos he
      have hlt : tos.length ≤ 2 := by rw [he]; split <;> split <;> simp
      have hpos : ∀ s ∈ tos, 0 ≤ s := by
        intro s hs
        rw [he] at hs
        rcases List.mem_append.1 hs with hs | hs
        · split at hs
          · simp at hs
          · rw [List.mem_singleton] at hs; omega
        · split at hs
          · rename_i hc
            rw [List.mem_singleton] at hs; rw [hs]; exact hA hc
          · simp at hs
      have hw : wrap64 ((a : Int) + 1) = ((a + 1 : Nat) : Int) := by rw [w64s (by omega) (by omega)]; omega
      refine dep_l3 p _ (a : Int) tos r tos.length 0 D m (by omega) (by omega) hDl (by omega) hpos (fun D' m' h hl' => ?_) (fun h => ?_)
      · rw [List.drop_zero, he] at h
        rw [hw]
        exact hok _ D' m' hst h hl'
      · rw [List.drop_zero, he] at h
        exact hb2 _ hst h
    have hj6 : ∀ tos : List Int, tos = (if endsB x.f0 = true then [] else [(a : Int) + 1]) ++ (if x.f0 = 13 ∨ x.f0 = 14 then [x.f1] else []) →
        Ev (fun k => sacristanref11_Depths.j6 k D m (Flow.at_ D a + (l - t)) tos (p.f3.length : Int) (a : Int) l0 l1 l2 l3 p.f0 p.f1 p.f2 p.f3) r := fun tos he => (hl3 tos he).succ fun k hk => by
      simp only [sacristanref11_Depths.j6]
      exact hk
    have hj4 : ∀ tos : List Int, tos = (if endsB x.f0 = true then [] else [(a : Int) + 1]) → Ev (fun k => sacristanref11_Depths.j4 k D m (Flow.at_ D a + (l - t)) tos (p.f3.length : Int) (a : Int) l0 l1 l2 l3 p.f0 p.f1 p.f2 p.f3 x.f0 x.f1) r := by
      intro tos he
      have hlt : tos.length ≤ 1 := by rw [he]; split <;> simp
      by_cases hc : x.f0 = 13 ∨ x.f0 = 14
      · have h6 := hj6 (tos ++ [x.f1]) (by rw [he, if_pos hc])
        have h5 : Ev (fun k => sacristanref11_Depths.j5 k D m (Flow.at_ D a + (l - t)) tos (p.f3.length : Int) (a : Int) true l0 l1 l2 l3 p.f0 p.f1 p.f2 p.f3 x.f0 x.f1) r := h6.succ fun k hk => by
          simp only [sacristanref11_Depths.j5, if_true]
          rw [if_pos (by omega)]
          exact hk
        refine h5.succ fun k hk => ?_
        unfold sacristanref11_Depths.j4
        by_cases h13 : x.f0 = 13
        · rw [if_pos h13]; exact hk
        · rw [if_neg h13, show (x.f0 == 14) = true by simp; omega]; exact hk
      · have h6 := hj6 tos (by rw [he, if_neg hc, List.append_nil])
        have h5 : Ev (fun k => sacristanref11_Depths.j5 k D m (Flow.at_ D a + (l - t)) tos (p.f3.length : Int) (a : Int) false l0 l1 l2 l3 p.f0 p.f1 p.f2 p.f3 x.f0 x.f1) r := h6.succ fun k hk => by
          simp only [sacristanref11_Depths.j5, Bool.false_eq_true, if_false]
          exact hk
        refine h5.succ fun k hk => ?_
        unfold sacristanref11_Depths.j4
        rw [if_neg (by omega), show (x.f0 == 14) = false by simp; omega]; exact hk
    have hw : wrap64 ((a : Int) + 1) = (a : Int) + 1 := w64s (by omega) (by omega)
    cases hen : endsB x.f0 with
    | true =>
      refine (hj4 [] (by rw [hen]; rfl)).succ fun k hk => ?_
      simp only [sacristanref11_Depths.j3, Bool.false_eq_true, if_false, Option.bind_some, endsR, hen, if_true]
      exact hk
    | false =>
      refine (hj4 [(a : Int) + 1] (by rw [hen]; rfl)).succ fun k hk => ?_
      simp only [sacristanref11_Depths.j3, Bool.false_eq_true, if_false, Option.bind_some, endsR, hen, List.length_nil, List.nil_append, hw]
      rw [if_pos (by omega)]
      exact hk
  have hfail : ∀ (y : Int), r = ([], false) → Ev (fun k => sacristanref11_Depths.j3 k D m (a : Int) y (p.f3.length : Int) (a : Int) true l0 l1 l2 l3 p.f0 p.f1 p.f2 p.f3 x.f0 x.f1) r := fun y hr => by
    rw [hr]
    exact Ev.now fun k => by simp only [sacristanref11_Depths.j3, if_true]
  have hw1 : wrap64 (wrap64 (Flow.at_ D a - t) + l) = Flow.at_ D a + (l - t) := by rw [w64s (i := Flow.at_ D a - t) (by omega) (by omega), w64s (by omega) (by omega)]; omega
  by_cases c1 : t ≤ Flow.at_ D a
  · by_cases c2 : Flow.at_ D a + (l - t) ≤ 256
    · refine Ev.use hE (hrest c1 c2) fun k hk hk2 => ?_
      show sacristanref11_Depths.l2 (k + 1) D m (p.f3.length : Int) (a : Int) l0 l1 l2 l3 p.f0 p.f1 p.f2 p.f3 = some r
      unfold sacristanref11_Depths.l2
      rw [if_pos (by omega), if_pos (by omega), if_pos (by omega), hlen, if_neg hd, if_pos (by omega), hxx, hk, Option.bind_some]
      dsimp only
      rw [if_neg (by omega), hw1, decide_eq_false (by omega)]
      exact hk2
    · have hst : stepS t l (Flow.at_ D a) = none := by unfold stepS; rw [if_neg (fun h => c2 h.2)]
      refine Ev.use hE (hfail (Flow.at_ D a + (l - t)) (hb1 hst)) fun k hk hk2 => ?_
      show sacristanref11_Depths.l2 (k + 1) D m (p.f3.length : Int) (a : Int) l0 l1 l2 l3 p.f0 p.f1 p.f2 p.f3 = some r
      unfold sacristanref11_Depths.l2
      rw [if_pos (by omega), if_pos (by omega), if_pos (by omega), hlen, if_neg hd, if_pos (by omega), hxx, hk, Option.bind_some]
      dsimp only
      rw [if_neg (by omega), hw1, decide_eq_true (by omega)]
      exact hk2
  · have hst : stepS t l (Flow.at_ D a) = none := by unfold stepS; rw [if_neg (fun h => c1 h.1)]
    refine Ev.use hE (hfail (Flow.at_ D a + (l - t)) (hb1 hst)) fun k hk hk2 => ?_
    show sacristanref11_Depths.l2 (k + 1) D m (p.f3.length : Int) (a : Int) l0 l1 l2 l3 p.f0 p.f1 p.f2 p.f3 = some r
    unfold sacristanref11_Depths.l2
    rw [if_pos (by omega), if_pos (by omega), if_pos (by omega), hlen, if_neg hd, if_pos (by omega), hxx, hk, Option.bind_some]
    dsimp only
    rw [if_pos (by omega), hw1]
    exact hk2
/-- one pass -/
theorem dep_pass (p : S44) (hf : FitM l0 l1 l2 l3) (hp : p ∈ l2) (hm : mayS (insM l0 l1 l2 l3) l0 l1 l2 l3 = true) (r : List Int × Bool) : ∀ (d a : Nat) (D : List Int) (m : Bool), a + d = p.f3.length → Flow.Known (grf l0 l1 l2 l3 p) D →
    (∀ D' m', Flow.passS (grf l0 l1 l2 l3 p) d a D m = some (D', m') → Ev (refL2 l0 l1 l2 l3 p D' m' (p.f3.length : Int)) r) → (Flow.passS (grf l0 l1 l2 l3 p) d a D m = none → r = ([], false)) → Ev (refL2 l0 l1 l2 l3 p D m (a : Int)) r := by
  have hg := good_of ((may_good hm).1 p hp)
  have F := grf_fine hg
  have hfew := hg.few
  intro d
  induction d with
  | zero =>
    intro a D m hd hK hok _
    have := hok D m rfl
    rw [show (a : Int) = (p.f3.length : Int) by omega]
    exact this
  | succ d ih =>
    intro a D m hd hK hok hbad
    have ha : a < p.f3.length := by omega
    have hl : D.length = p.f3.length := hK.len
    by_cases hn : Flow.at_ D a < 0
    · have e : Flow.passS (grf l0 l1 l2 l3 p) (d + 1) a D m = Flow.passS (grf l0 l1 l2 l3 p) d ((a : Int) + 1) D m := by rw [Flow.passS, if_pos hn]
      rw [e, show (a : Int) + 1 = ((a + 1 : Nat) : Int) by omega] at hok hbad
      refine (ih (a + 1) D m (by omega) hK hok hbad).succ fun k hk => ?_
      show sacristanref11_Depths.l2 (k + 1) D m (p.f3.length : Int) (a : Int) l0 l1 l2 l3 p.f0 p.f1 p.f2 p.f3 = some r
      unfold sacristanref11_Depths.l2
      rw [if_pos (by omega), if_pos (by omega), if_pos (by omega), rdL_at, if_pos hn, w64s (by omega) (by omega)]
      exact hk
    · have hr : Flow.Reach (grf l0 l1 l2 l3 p) a (Flow.at_ D a) := (hK.sound a (by omega) (by show (a : Int) < (p.f3.length : Int); omega)).resolve_left (by omega)
      refine dep_at p hf hp hm a ha D m hK hn r (fun e D' m' hs ht hl' => ?_) (fun hs => hbad ?_) (fun e hs ht => hbad ?_)
      · have e1 : Flow.passS (grf l0 l1 l2 l3 p) (d + 1) a D m = Flow.passS (grf l0 l1 l2 l3 p) d ((a : Int) + 1) D' m' := by
          rw [Flow.passS, if_neg hn, hs, Option.bind_some]
          show (Flow.toS p.f3.length e _ D m).bind _ = _
          rw [ht, Option.bind_some]
        rw [e1, show (a : Int) + 1 = ((a + 1 : Nat) : Int) by omega] at hok hbad
        have hq := (Flow.to_inv F (F.pos _ _ _ hs) ((grf l0 l1 l2 l3 p).succ a).reverse m hK (fun s hs' => ⟨F.low _ _ (by omega) (List.mem_reverse.1 hs'), .next hr (by show (a : Int) < (p.f3.length : Int); omega) hs (List.mem_reverse.1 hs')⟩)).2 D' m' ht
        exact ih (a + 1) D' m' (by omega) hq.1 hok hbad
      · rw [Flow.passS, if_neg hn, hs]; rfl
      · rw [Flow.passS, if_neg hn, hs, Option.bind_some]
        show (Flow.toS p.f3.length e _ D m).bind _ = _
        rw [ht]; rfl
theorem dep_l1_step (p : S44) (hf : FitM l0 l1 l2 l3) (hp : p ∈ l2) (hm : mayS (insM l0 l1 l2 l3) l0 l1 l2 l3 = true) (D : List Int) (hK : Flow.Known (grf l0 l1 l2 l3 p) D)
    (ih : ∀ D', Flow.open_ D' < Flow.open_ D → Flow.Known (grf l0 l1 l2 l3 p) D' → ∃ r : List Int × Bool, Flow.Ans (grf l0 l1 l2 l3 p) r.1 r.2 ∧ Ev (fun k => sacristanref11_Depths.l1 k D' l0 l1 l2 l3 p.f0 p.f1 p.f2 p.f3) r) :
    ∃ r : List Int × Bool, Flow.Ans (grf l0 l1 l2 l3 p) r.1 r.2 ∧ Ev (fun k => sacristanref11_Depths.l1 k D l0 l1 l2 l3 p.f0 p.f1 p.f2 p.f3) r := by
  have hg := good_of ((may_good hm).1 p hp)
  have F := grf_fine hg
  have inv := Flow.pass_inv F p.f3.length (a := 0) (D := D) false hK (by omega) (by show (0 : Int) + (p.f3.length : Int) = (p.f3.length : Int); omega) (fun _ b h0 h1 => by omega)
  have key : ∀ r : List Int × Bool, Flow.Ans (grf l0 l1 l2 l3 p) r.1 r.2 → (∀ D' m', Flow.passS (grf l0 l1 l2 l3 p) p.f3.length (0 : Nat) D false = some (D', m') → Ev (refL2 l0 l1 l2 l3 p D' m' (p.f3.length : Int)) r) → (Flow.passS (grf l0 l1 l2 l3 p) p.f3.length (0 : Nat) D false = none → r = ([], false)) →
      ∃ r : List Int × Bool, Flow.Ans (grf l0 l1 l2 l3 p) r.1 r.2 ∧ Ev (fun k => sacristanref11_Depths.l1 k D l0 l1 l2 l3 p.f0 p.f1 p.f2 p.f3) r := fun r hA h1 h2 =>
    ⟨r, hA, (dep_pass p hf hp hm r p.f3.length 0 D false (by omega) hK h1 h2).succ fun k hk => by simp only [sacristanref11_Depths.l1]; exact hk⟩
  have e0 : ((0 : Nat) : Int) = 0 := rfl
  cases hps : Flow.passS (grf l0 l1 l2 l3 p) p.f3.length 0 D false with
  | none => exact key ([], false) (.inr ⟨rfl, rfl, inv.1 hps⟩) (fun D' m' h => by rw [e0, hps] at h; cases h) (fun _ => rfl)
  | some x =>
    obtain ⟨D', m'⟩ := x
    obtain ⟨k1, k2, k3, k4⟩ := inv.2 D' m' hps
    cases m' with
    | false =>
      refine key (D', true) (.inl ⟨rfl, k4 rfl⟩) (fun D1 m1 h => ?_) (fun h => by rw [e0, hps] at h; cases h)
      rw [e0, hps] at h
      simp only [Option.some.injEq, Prod.mk.injEq] at h
      obtain ⟨rfl, rfl⟩ := h
      exact Ev.now fun k => by
        show sacristanref11_Depths.l2 (k + 1) D' false (p.f3.length : Int) (p.f3.length : Int) l0 l1 l2 l3 p.f0 p.f1 p.f2 p.f3 = some (D', true)
        unfold sacristanref11_Depths.l2
        rw [if_neg (by omega), if_neg (by decide)]
    | true =>
      obtain ⟨r, hA, hE⟩ := ih D' ((k3 rfl).resolve_left (by decide)) k1
      refine key r hA (fun D1 m1 h => ?_) (fun h => by rw [e0, hps] at h; cases h)
      rw [e0, hps] at h
      simp only [Option.some.injEq, Prod.mk.injEq] at h
      obtain ⟨rfl, rfl⟩ := h
      refine hE.succ fun k hk => ?_
      show sacristanref11_Depths.l2 (k + 1) D' true (p.f3.length : Int) (p.f3.length : Int) l0 l1 l2 l3 p.f0 p.f1 p.f2 p.f3 = some r
      unfold sacristanref11_Depths.l2
      rw [if_neg (by omega), if_pos rfl]
      exact hk
/-- passes, until nothing is new -/
theorem dep_l1 (p : S44) (hf : FitM l0 l1 l2 l3) (hp : p ∈ l2) (hm : mayS (insM l0 l1 l2 l3) l0 l1 l2 l3 = true) : ∀ (N : Nat) (D : List Int), Flow.open_ D ≤ N → Flow.Known (grf l0 l1 l2 l3 p) D →
    ∃ r : List Int × Bool, Flow.Ans (grf l0 l1 l2 l3 p) r.1 r.2 ∧ Ev (fun k => sacristanref11_Depths.l1 k D l0 l1 l2 l3 p.f0 p.f1 p.f2 p.f3) r := by
  have hg := good_of ((may_good hm).1 p hp)
  have F := grf_fine hg
  intro N
  induction N with
  | zero =>
    intro D hN hK
    exact dep_l1_step p hf hp hm D hK (fun D' h => by omega)
  | succ N ih =>
    intro D hN hK
    exact dep_l1_step p hf hp hm D hK (fun D' h hK' => ih D' (by omega) hK')
end
end Go.Proofs.YtfncoldcjhkhiaaDoor.Pure
