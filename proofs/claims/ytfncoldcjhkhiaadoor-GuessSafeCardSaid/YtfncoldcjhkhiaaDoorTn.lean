/- verify.Depths and verify.Check: what they answer. -/
import Derived.Test.YtfncoldcjhkhiaaDoorTm
open Go
namespace Go.Proofs.YtfncoldcjhkhiaaDoor.NW
theorem nil_ne1 (d : Nat) (W : World) (a : Addr) (n c : Nat) : (Op.equalIn (d + 1) 39 (.slice (some a) n c) (.slice none 0 0)).run Tryd.prog W = .ok false W := by
  simp only [Op.equalIn, Sem.run_bind, run_underlying Tryd.underlying39, Result.andThen_ok]
  rfl
theorem nil_eq1 (d : Nat) (W : World) : (Op.equalIn (d + 1) 39 (.slice none 0 0) (.slice none 0 0)).run Tryd.prog W = .ok true W := by
  simp only [Op.equalIn, Sem.run_bind, run_underlying Tryd.underlying39, Result.andThen_ok]
  rfl
theorem nil_ne0 (W : World) (a : Addr) (n c : Nat) : (Op.equal 39 (.slice (some a) n c) (.slice none 0 0)).run Tryd.prog W = .ok false W := nil_ne1 9999 W a n c
theorem nil_eq0 (W : World) : (Op.equal 39 (.slice none 0 0) (.slice none 0 0)).run Tryd.prog W = .ok true W := nil_eq1 9999 W
theorem nil_ne (W : World) (a : Addr) (n c : Nat) : (binOp .eql 39 (.slice (some a) n c) (.slice none 0 0)).run Tryd.prog W = .ok (.bool false) W := by
  simp [binOp, go_sem, nil_ne0]
theorem nil_eq (W : World) : (binOp .eql 39 (.slice none 0 0) (.slice none 0 0)).run Tryd.prog W = .ok (.bool true) W := by
  simp [binOp, go_sem, nil_eq0]
end Go.Proofs.YtfncoldcjhkhiaaDoor.NW
namespace Go.Proofs.YtfncoldcjhkhiaaDoor.Pure
open Go.RowKit Go.Proofs.YtfncoldcjhkhiaaDoor.PC Go.Proofs.YtfncoldcjhkhiaaDoor.NW Go.Proofs.YtfncoldcjhkhiaaDoorW.PrintWords Go.Proofs.YtfncoldcjhkhiaaDoorW.PrintLast Go.Proofs.YtfncoldcjhkhiaaDoorW.PrintMore
set_option linter.unusedVariables false
set_option linter.unusedSimpArgs false
section
variable (l0 : List Int) (l1 : List ByteArray) (l2 : List S44) (l3 : List S41)
/-- may the module be, and is there such a function, and is it right? then its depths -/
def hasD (a : Int) (D : List Int) : Prop := (0 ≤ a ∧ a < l2.length) ∧ mayS (insM l0 l1 l2 l3) l0 l1 l2 l3 = true ∧ Flow.Right (grf l0 l1 l2 l3 (rd_T44 l2 a)) ∧ Flow.Tab (grf l0 l1 l2 l3 (rd_T44 l2 a)) D
noncomputable def depthsS (a : Int) : List Int := @dite _ (∃ D, hasD l0 l1 l2 l3 a D) (Classical.propDecidable _) (fun h => Classical.choose h) (fun _ => [])
noncomputable def rightB (p : S44) : Bool := @decide (Flow.Right (grf l0 l1 l2 l3 p)) (Classical.propDecidable _)
noncomputable def checkS : Int × Int := if mayS (insM l0 l1 l2 l3) l0 l1 l2 l3 = true then (match l2.findIdx? (fun p => !rightB l0 l1 l2 l3 p) with | some i => ((i : Int), 18) | none => (0, 0)) else (-1, 18)
variable {l0 l1 l2 l3}
theorem rightB_iff {p : S44} : rightB l0 l1 l2 l3 p = true ↔ Flow.Right (grf l0 l1 l2 l3 p) := by unfold rightB; exact @decide_eq_true_iff _ (Classical.propDecidable _)
theorem has_fine {a : Int} (h0 : 0 ≤ a ∧ a < l2.length) (hm : mayS (insM l0 l1 l2 l3) l0 l1 l2 l3 = true) : Flow.Fine (grf l0 l1 l2 l3 (rd_T44 l2 a)) := grf_fine (good_of ((may_good hm).1 _ (rd44_in h0.1 h0.2)))
theorem depths_of {a : Int} {D : List Int} (h : hasD l0 l1 l2 l3 a D) : depthsS l0 l1 l2 l3 a = D := by
  have hx : ∃ D, hasD l0 l1 l2 l3 a D := ⟨D, h⟩
  have e : depthsS l0 l1 l2 l3 a = Classical.choose hx := by unfold depthsS; exact dif_pos hx
  rw [e]
  have hc := Classical.choose_spec hx
  exact hc.2.2.2.one (has_fine h.1 h.2.1) h.2.2.1 h.2.2.2
theorem depths_no {a : Int} (h : ∀ D, ¬ hasD l0 l1 l2 l3 a D) : depthsS l0 l1 l2 l3 a = [] := by unfold depthsS; exact dif_neg fun ⟨D, hD⟩ => h D hD
theorem depths_right {a : Int} (h0 : 0 ≤ a ∧ a < l2.length) (hm : mayS (insM l0 l1 l2 l3) l0 l1 l2 l3 = true) (hr : Flow.Right (grf l0 l1 l2 l3 (rd_T44 l2 a))) : hasD l0 l1 l2 l3 a (depthsS l0 l1 l2 l3 a) := by
  obtain ⟨D, hD⟩ := Flow.Tab.made (grf l0 l1 l2 l3 (rd_T44 l2 a))
  have h : hasD l0 l1 l2 l3 a D := ⟨h0, hm, hr, hD⟩
  rw [depths_of h]; exact h
theorem fi_some {α : Type} {p : α → Bool} : ∀ {l : List α} {k : Nat} (hk : k < l.length), p l[k] = true → (∀ (j : Nat) (h : j < l.length), j < k → p l[j] = false) → l.findIdx? p = some k
  | x :: l, 0, _, h, _ => by rw [List.findIdx?_cons, if_pos (by simpa using h)]
  | x :: l, k + 1, hk, h, hb => by
    have h0 := hb 0 (by simp) (by omega)
    rw [List.findIdx?_cons, if_neg (by simpa using h0), fi_some (l := l) (k := k) (by simpa using hk) (by simpa using h) (fun j hj hjk => by have := hb (j + 1) (by simpa using hj) (by omega); rw [List.getElem_cons_succ] at this; exact this)]; rfl
theorem fi_none {α : Type} {p : α → Bool} {l : List α} (h : ∀ (j : Nat) (hj : j < l.length), p l[j] = false) : l.findIdx? p = none := by
  rw [List.findIdx?_eq_none_iff]
  intro x hx
  obtain ⟨j, hj, rfl⟩ := List.mem_iff_getElem.1 hx
  exact h j hj
theorem has_len {a : Int} {D : List Int} (h : hasD l0 l1 l2 l3 a D) : D.length = (rd_T44 l2 a).f3.length ∧ 0 < D.length := by
  have e : D.length = (rd_T44 l2 a).f3.length := h.2.2.2.len
  exact ⟨e, by rw [e]; exact (has_fine h.1 h.2.1).ne⟩
end
section
variable {A0 : Option Addr} {c0 : Nat} {l0 : List Int} {A1 : Option Addr} {c1 : Nat} {l1 : List ByteArray} {A2 : Option Addr} {c2 : Nat} {l2 : List S44} {A3 : Option Addr} {c3 : Nat} {l3 : List S41}
/-- verify.Depths -/
theorem Depths_nil (w : World) (h : FitM l0 l1 l2 l3) (hsz : ∀ s ∈ l1, s.size ≤ reachBytes) (hM : MaxOk w) (hmd : ModIs w A0 c0 l0 A1 c1 l1 A2 c2 l2 A3 c3 l3) (a : Int) :
    Calls Tryd.prog 32 #[.agg #[.slice A0 l0.length c0, .slice A1 l1.length c1, .slice A2 l2.length c2, .slice A3 l3.length c3], .int .i64 a] w fun e w' => ∃ v, e = .returned v ∧ (Kd.int .i64).R 3 w' w.heap.size (fun _ => True) v (depthsS l0 l1 l2 l3 a) ∧ (depthsS l0 l1 l2 l3 a = [] → v = .slice none 0 0) ∧ Below w.heap.size w w' := by
  by_cases hok : (0 ≤ a ∧ a < l2.length) ∧ mayS (insM l0 l1 l2 l3) l0 l1 l2 l3 = true
  · refine (depths_calls a w h hsz hM hmd hok.1 hok.2).mono fun e w' ⟨hb, hh⟩ => ?_
    rcases hh with ⟨rfl, hn⟩ | ⟨v, D, rfl, hr, hR, hT⟩
    · have e0 : depthsS l0 l1 l2 l3 a = [] := depths_no fun D hD => hn hD.2.2.1
      rw [e0]
      exact ⟨_, rfl, Kd.R_nil _ _ _ _ _, fun _ => rfl, hb⟩
    · have hD : hasD l0 l1 l2 l3 a D := ⟨hok.1, hok.2, hR, hT⟩
      rw [depths_of hD]
      exact ⟨v, rfl, hr, fun e => by have := (has_len hD).2; rw [e] at this; simp at this, hb⟩
  · have e0 : depthsS l0 l1 l2 l3 a = [] := depths_no fun D hD => hok ⟨hD.1, hD.2.1⟩
    rw [e0]
    refine (depths_bad a w h hsz hM hmd ?_).mono fun e w' ⟨he, hb⟩ => ⟨_, he, Kd.R_nil _ _ _ _ _, fun _ => rfl, hb⟩
    by_cases k1 : a < 0
    · exact .inl k1
    by_cases k2 : a ≥ l2.length
    · exact .inr (.inl k2)
    · refine .inr (.inr ?_)
      cases hm : mayS (insM l0 l1 l2 l3) l0 l1 l2 l3 with
      | false => rfl
      | true => exact absurd ⟨⟨by omega, by omega⟩, hm⟩ hok
theorem Depths_calls (w : World) (h : FitM l0 l1 l2 l3) (hsz : ∀ s ∈ l1, s.size ≤ reachBytes) (hM : MaxOk w) (hmd : ModIs w A0 c0 l0 A1 c1 l1 A2 c2 l2 A3 c3 l3) (a : Int) :
    Calls Tryd.prog 32 #[.agg #[.slice A0 l0.length c0, .slice A1 l1.length c1, .slice A2 l2.length c2, .slice A3 l3.length c3], .int .i64 a] w fun e w' => ∃ v, e = .returned v ∧ (Kd.int .i64).R 3 w' w.heap.size (fun _ => True) v (depthsS l0 l1 l2 l3 a) ∧ Below w.heap.size w w' :=
  (Depths_nil w h hsz hM hmd a).mono fun e w' ⟨v, he, hr, _, hb⟩ => ⟨v, he, hr, hb⟩
set_option maxHeartbeats 3200000 in
set_option maxRecDepth 1000000 in
/-- verify.Check -/
theorem Check_calls (w : World) (h : FitM l0 l1 l2 l3) (hsz : ∀ s ∈ l1, s.size ≤ reachBytes) (hM : MaxOk w) (hmd : ModIs w A0 c0 l0 A1 c1 l1 A2 c2 l2 A3 c3 l3) :
    Calls Tryd.prog 30 #[.agg #[.slice A0 l0.length c0, .slice A1 l1.length c1, .slice A2 l2.length c2, .slice A3 l3.length c3]] w fun e w' => e = .returned (.tuple #[.int .i64 (checkS l0 l1 l2 l3).1, .int .i64 (checkS l0 l1 l2 l3).2]) ∧ Below w.heap.size w w' := by
  have hA := (Below.refl w.heap.size w).alloc (Nat.le_refl _) (.cells #[.slice A0 l0.length c0, .slice A1 l1.length c1, .slice A2 l2.length c2, .slice A3 l3.length c3] 30 (0, 0))
  have hG := blk_new w (.cells #[.slice A0 l0.length c0, .slice A1 l1.length c1, .slice A2 l2.length c2, .slice A3 l3.length c3] 30 (0, 0))
  have g0 := (blk_cell hG 0).trans rfl
  have g1 := (blk_cell hG 1).trans rfl
  have g2 := (blk_cell hG 2).trans rfl
  have g3 := (blk_cell hG 3).trans rfl
  have m2 := Kd.C_max hmd.r2
  have HA := Aside0.mk hA
  have HG := Aside0.mk hG
  have HC := Aside0.mk (may_calls1 _ h hsz (hM.below hA) (hmd.below hA))
  have HH := Aside0.mk h
  have HZ := Aside0.mk hsz
  have HMX := Aside0.mk hM
  have HMD := Aside0.mk hmd
  clear hG hA h hsz hM hmd
  obtain ⟨r, hr⟩ : ∃ r, checkS l0 l1 l2 l3 = r := ⟨_, rfl⟩
  rw [hr]
  have HRR := Aside0.mk hr
  clear hr
  cases hmay : mayS (insM l0 l1 l2 l3) l0 l1 l2 l3 with
  | false =>
    have HE := Aside0.mk (HRR.out.symm.trans (show checkS l0 l1 l2 l3 = (-1, 18) by unfold checkS; rw [hmay]; rfl))
    have HF := Aside0.mk hmay
    clear hmay
    go_enter Tryd.func30, Tryd.ntmps30
    go_wp2_with (go_at_call 24; refine HC.out.mono ?_; rintro e w1 ⟨rfl, hb1⟩; rw [HF.out])
    go_ret2
    exact ⟨by rw [HE.out]; rfl, HA.out.trans (hb1.mono (by simp))⟩
  | true =>
    have HF := Aside0.mk hmay
    clear hmay
    go_enter Tryd.func30, Tryd.ntmps30
    go_wp2_with (go_at_call 24; refine HC.out.mono ?_; rintro e w1 ⟨rfl, hb1⟩; rw [HF.out]; have HB1 := Aside0.mk hb1; have G1 := blk_below HG.out hb1; have z2 := (blk_cell G1 2).trans rfl; clear G1 hb1)
    go_loopw [11] (fun i wr => ∃ k : Nat, k ≤ l2.length ∧ i = .int .i64 (k : Int) ∧ Aside0 (∀ (j : Nat) (h : j < l2.length), j < k → rightB l0 l1 l2 l3 l2[j] = true) ∧ Aside0 (Below w1.heap.size w1 wr)) (fun i _ => l2.length - (intOf i).toNat)
    case atStart => exact ⟨0, by omega, rfl, ⟨fun j h hj => absurd hj (by omega)⟩, ⟨Below.refl _ _⟩⟩
    case round =>
      obtain ⟨k, hk, rfl, hno, hb2⟩ := hrel
      have HW := Aside0.mk (below_then (below_then HA.out HA.out.size HB1.out) (Nat.le_trans HA.out.size HB1.out.size) hb2.out)
      by_cases hlt : k < l2.length
      · have G2 := blk_below (blk_below HG.out HB1.out) hb2.out
        have y0 := (blk_cell G2 0).trans rfl
        have y1 := (blk_cell G2 1).trans rfl
        have y2 := (blk_cell G2 2).trans rfl
        have y3 := (blk_cell G2 3).trans rfl
        have hd := Depths_nil wr HH.out HZ.out (HMX.out.below HW.out) (HMD.out.below HW.out) (k : Int)
        have hx : rd_T44 l2 (k : Int) = l2[k] := rd44 hlt
        by_cases hR : rightB l0 l1 l2 l3 l2[k] = true
        · have hD := depths_right (a := (k : Int)) ⟨by omega, by omega⟩ HF.out (by rw [hx]; exact rightB_iff.1 hR)
          have hpos := (has_len hD).2
          have HD := Aside0.mk hd
          have HP := Aside0.mk hpos
          have HN := Aside0.mk (fun (j : Nat) (h : j < l2.length) (hj : j < k + 1) => if e : j = k then (by subst e; exact hR) else hno.out j h (by omega))
          have hq := nil_ne
          clear hd hR hx hD hpos G2
          go_wp2_with (go_at_call 32; refine HD.out.mono ?_; rintro e w3 ⟨v, rfl, hr, hnil, hb3⟩; obtain ⟨vg, vc, rfl, _⟩ := Kd.R_form hr HP.out; have HB3 := Aside0.mk hb3; clear hr hnil hb3)
          go_roundw
          case rel => exact ⟨k + 1, by omega, by go_num, HN, ⟨below_then hb2.out hb2.out.size HB3.out⟩⟩
          case measure => simp [intOf]; omega
        · have hE : depthsS l0 l1 l2 l3 (k : Int) = [] := depths_no fun D hD => hR (rightB_iff.2 (by rw [← hx]; exact hD.2.2.1))
          have HE := Aside0.mk (HRR.out.symm.trans (show checkS l0 l1 l2 l3 = ((k : Int), 18) by
            unfold checkS
            rw [HF.out, if_pos rfl, fi_some (p := fun p => !rightB l0 l1 l2 l3 p) hlt (by simpa using hR) (fun j h hj => by simpa using hno.out j h hj)]))
          have HD := Aside0.mk hd
          have HP := Aside0.mk hE
          have hq := nil_eq
          clear hd hR hx hE G2
          go_wp2_with (go_at_call 32; refine HD.out.mono ?_; rintro e w3 ⟨v, rfl, hr, hnil, hb3⟩; obtain rfl := hnil HP.out; have HB3 := Aside0.mk hb3; clear hr hnil hb3)
          go_ret2
          exact ⟨by rw [HE.out]; rfl, below_then HW.out HW.out.size HB3.out⟩
      · obtain rfl : k = l2.length := by omega
        have HE := Aside0.mk (HRR.out.symm.trans (show checkS l0 l1 l2 l3 = (0, 0) by
          unfold checkS
          rw [HF.out, if_pos rfl, fi_none (p := fun p => !rightB l0 l1 l2 l3 p) (fun j h => by simpa using hno.out j h h)]))
        go_wp2_with fail
        go_ret2
        exact ⟨by rw [HE.out]; rfl, HW.out⟩
end
end Go.Proofs.YtfncoldcjhkhiaaDoor.Pure
