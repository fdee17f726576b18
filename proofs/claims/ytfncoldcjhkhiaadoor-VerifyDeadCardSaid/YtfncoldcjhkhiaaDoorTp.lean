/- What isn't reached isn't looked at. -/
import Derived.Test.YtfncoldcjhkhiaaDoorTo
import Derived.Test.YtfncoldcjhkhiaaDoorGf
import Derived.Test.YtfncoldcjhkhiaaDoorTb
namespace Go.Proofs.YtfncoldcjhkhiaaDoor.NW
open Go.RowKit Go.Proofs.YtfncoldcjhkhiaaDoorW.PrintWords Go.Proofs.YtfncoldcjhkhiaaDoorW.PrintMore Go.Proofs.YtfncoldcjhkhiaaDoor.PC
set_option linter.unusedVariables false
set_option linter.unusedSimpArgs false
theorem lit_R (W : World) (xs : List S32) (cs : Array Value) (hcs : cs.toList = xs.flatMap fun x => [.int .u8 x.f0, .int .i64 x.f1]) (hn : xs.length ≤ 1000) (base : Nat) (hb : base ≤ W.heap.size) (ok : Nat → Prop) (hok : ok W.heap.size) :
    Kd.R k32 32 (W.alloc (.cells cs 32)) base ok (.slice (some ⟨W.heap.size, 0, none⟩) xs.length xs.length) xs := by
  have hlen : ∀ l : List S32, (l.flatMap fun x => [Value.int .u8 x.f0, Value.int .i64 x.f1]).length = l.length * 2 := fun l => by
    induction l with
    | nil => rfl
    | cons x l ih => rw [List.flatMap_cons, List.length_append, ih]; simp; omega
  have hat : ∀ (l : List S32) (j : Nat) (p : S32), l[j]? = some p → ((l.flatMap fun x => [Value.int .u8 x.f0, Value.int .i64 x.f1]).drop (j * 2)).take 2 = [.int .u8 p.f0, .int .i64 p.f1] := fun l => by
    induction l with
    | nil => intro j p h; simp at h
    | cons x l ih =>
      intro j p h
      rcases j with _ | j
      · simp only [List.getElem?_cons_zero, Option.some.injEq] at h
        subst h; rfl
      · rw [List.getElem?_cons_succ] at h
        rw [List.flatMap_cons, show (j + 1) * 2 = j * 2 + 1 + 1 by omega]
        exact ih j p h
  have hsz : cs.size = xs.length * 2 := by rw [← Array.length_toList, hcs, hlen]
  have h2 := World.ownsRow_lit (base := base) (e := 32) (size := 2) W cs xs.length hb (by unfold maxLen; omega) hsz
  refine ⟨fun k hk => by simp [Value.ownBlock] at hk; rw [← hk]; exact hok, cs.toList, h2, ?_, fun j p hj => ?_⟩
  · show cs.toList.length = xs.length * 2
    rw [hcs, hlen]
  · have := hat xs j p hj
    rw [hcs]
    show k32.M _ _ _ p (((xs.flatMap fun x => [Value.int .u8 x.f0, Value.int .i64 x.f1]).drop (j * 2)).take 2)
    rw [this]; exact k32_mkM _ _ _ p
theorem k32_KM {W w : World} {base : Nat} {okp : Nat → Prop} (x : S32) (cs : List Value) (h : k32.K W x cs) : k32.M w base okp x cs := by
  rw [k32_open h]; exact k32_mkM _ _ _ x
/-- the reference's May answers as the document says -/
theorem refMay_calls {A0 : Option Addr} {c0 : Nat} {l0 : List Int} {A1 : Option Addr} {c1 : Nat} {l1 : List ByteArray} {A2 : Option Addr} {c2 : Nat} {l2 : List S44} {A3 : Option Addr} {c3 : Nat} {l3 : List S41} (w : World) (h : Pure.FitM l0 l1 l2 l3) (hmd : ModIs w A0 c0 l0 A1 c1 l1 A2 c2 l2 A3 c3 l3) :
    Calls Tryd.prog 25 #[.agg #[.slice A0 l0.length c0, .slice A1 l1.length c1, .slice A2 l2.length c2, .slice A3 l3.length c3]] w fun e w' => e = .returned (.bool (mayS (Pure.insM l0 l1 l2 l3) l0 l1 l2 l3)) ∧ Below w.heap.size w w' := by
  obtain ⟨N, hN⟩ := Pure.may_ref l0 l1 l2 l3 h
  exact sacristanref09_May.calls N A0 c0 l0 A1 c1 l1 A2 c2 l2 A3 c3 l3 _ w hmd.r0 hmd.h0 hmd.r1 hmd.h1 hmd.r2 hmd.h2 hmd.r3 hmd.h3 (hN N (Nat.le_refl _))
/-- a module of one function, made -/
structure Made (w W : World) (b : Nat) (p : S44) (v : Value) : Prop where
  old : Below w.heap.size w W
  mod : ModIs W none 0 [] none 0 [] (some ⟨b + 1, 0, none⟩) 1 [p] none 0 []
  pb : W.heap[b]? = some (.cells #[.int .i64 p.f0, .int .i64 p.f1, .int .i64 p.f2, v] 44 (0, 0))
  mb : W.heap[b + 1 + 1]? = some (.cells #[.slice none 0 0, .slice none 0 0, .slice (some ⟨b + 1, 0, none⟩) 1 1, .slice none 0 0] 30 (0, 0))
theorem Made.below {w W W1 : World} {b : Nat} {p : S44} {v : Value} (h : Made w W b p v) (hb : Below W.heap.size W W1) : Made w W1 b p v :=
  ⟨below_then h.old h.old.size hb, h.mod.below hb, blk_below h.pb hb, blk_below h.mb hb⟩
theorem made_mod {w w1 : World} {p : S44} {A : Option Addr} {m d : Nat} {ok : Nat → Prop} (hr : Kd.R k32 32 w1 w.heap.size ok (.slice A m d) p.f3) (hb : Below w.heap.size w w1) :
    Made w (((w1.alloc (.cells #[.int .i64 p.f0, .int .i64 p.f1, .int .i64 p.f2, .slice A m d] 44 (0, 0))).alloc (.cells #[.int .i64 p.f0, .int .i64 p.f1, .int .i64 p.f2, .slice A m d] 44 (0, 0))).alloc
      (.cells #[.slice none 0 0, .slice none 0 0, .slice (some ⟨w1.heap.size + 1, 0, none⟩) 1 1, .slice none 0 0] 30 (0, 0))) w1.heap.size p (.slice A m d) := by
  obtain ⟨hn, hle, hC⟩ := Kd.R_reads' hr
  have b1 := below_alloc (Below.refl w1.heap.size w1) (.cells #[.int .i64 p.f0, .int .i64 p.f1, .int .i64 p.f2, .slice A m d] 44 (0, 0))
  have b2 := below_alloc b1 (.cells #[.int .i64 p.f0, .int .i64 p.f1, .int .i64 p.f2, .slice A m d] 44 (0, 0))
  have b3 := below_alloc b2 (.cells #[.slice none 0 0, .slice none 0 0, .slice (some ⟨w1.heap.size + 1, 0, none⟩) 1 1, .slice none 0 0] 30 (0, 0))
  have hrow := blk_alloc (blk_new2 w1 (.cells #[.int .i64 p.f0, .int .i64 p.f1, .int .i64 p.f2, .slice A m d] 44 (0, 0)) (.cells #[.int .i64 p.f0, .int .i64 p.f1, .int .i64 p.f2, .slice A m d] 44 (0, 0))) (.cells #[.slice none 0 0, .slice none 0 0, .slice (some ⟨w1.heap.size + 1, 0, none⟩) 1 1, .slice none 0 0] 30 (0, 0))
  refine ⟨below_then hb hb.size b3, ⟨Kd.C_nil _ _, Nat.le_refl _, Kd.C_nil _ _, Nat.le_refl _, one_row hn hrow (hn ▸ hle) (Kd.C_below hC b3), Nat.le_refl _, Kd.C_nil _ _, Nat.le_refl _⟩, blk_alloc (blk_alloc (blk_new w1 _) _) _, ?_⟩
  have h := blk_new ((w1.alloc (.cells #[.int .i64 p.f0, .int .i64 p.f1, .int .i64 p.f2, .slice A m d] 44 (0, 0))).alloc (.cells #[.int .i64 p.f0, .int .i64 p.f1, .int .i64 p.f2, .slice A m d] 44 (0, 0))) (.cells #[.slice none 0 0, .slice none 0 0, .slice (some ⟨w1.heap.size + 1, 0, none⟩) 1 1, .slice none 0 0] 30 (0, 0))
  rwa [World.size_alloc, World.size_alloc] at h
set_option maxHeartbeats 3200000 in
set_option maxRecDepth 1000000 in
theorem verifyDead_calls (A : Option Addr) (c : Nat) (l : List S32) (w : World) (hM : MaxOk w) (hC : Kd.C k32 w A l.length l) (hc : l.length ≤ c) (hw : ∀ x ∈ l, W32 x) (hb : l.length * 16 ≤ reachBytes) :
    Calls Tryd.prog 9 #[.slice A l.length c] w fun e w' => e = .returned (.bool true) ∧ Below w.heap.size w w' := by
  have hm := Kd.C_max hC
  have HMX := Aside0.mk hM
  have HC := Aside0.mk hC
  clear hM hC
  have hfit : Pure.FitM [] [] [Pure.pDead l] [] := Pure.fit_one (Pure.pDead l) (fun x hx => by
    have hx' : x ∈ [⟨3, 0⟩, ⟨12, 0⟩] ++ l := hx
    rcases List.mem_append.1 hx' with h | h
    · simp only [List.mem_cons, List.not_mem_nil, or_false] at h
      rcases h with rfl | rfl <;> exact ⟨by decide, by decide⟩
    · exact i64_b (hw x h).2) (by
    show ([⟨3, 0⟩, ⟨12, 0⟩] ++ l : List S32).length ≤ _
    unfold reachBytes at hb
    simp; omega)
  have HFIT := Aside0.mk hfit
  clear hfit hw
  have hR0 := lit_R w [⟨3, 0⟩, ⟨12, 0⟩] #[.int .u8 3, .int .i64 0, .int .u8 12, .int .i64 0] rfl (by decide) w.heap.size (Nat.le_refl _) (fun _ => True) trivial
  have HR0 := Aside0.mk hR0
  have HB0 := Aside0.mk (below_alloc (Below.refl w.heap.size w) (.cells #[.int .u8 3, .int .i64 0, .int .u8 12, .int .i64 0] 32 (0, 0)))
  have hlim : (2 + l.length) * 16 ≤ 140737488355328 := by unfold reachBytes at hb; omega
  have HLIM := Aside0.mk hlim
  clear hR0 hlim hb
  go_enter Tryd.func9, Tryd.ntmps9
  by_cases h50 : 50 < l.length
  · have d50 : decide ((50 : Int) < (l.length : Int)) = true := decide_eq_true (by omega)
    clear h50
    go_wp2_with (first | ((with_reducible refine gate_builtin (b := .append) (xs := #[.tmp 10, .tmp 11]) rfl ?_); at_builtin; go_loud (refine Kd.R_append_rows k32 (Rr := k32.K (w.alloc (.cells #[.int .u8 3, .int .i64 0, .int .u8 12, .int .i64 0] 32 (0, 0)))) (w0 := w) w.heap.size rfl (.tmp 10) (.tmp 11) 42 32 (.agg #[.int .u8 0, .int .i64 0]) 16 rfl Tryd.underlying42 info32 rfl (by decide) (by omega) (.slice (some ⟨w.heap.size, 0, none⟩) 2 2) [⟨3, 0⟩, ⟨12, 0⟩] l A l.length c (fun _ => True) (fun _ => False) rfl rfl ?aO ?aR k32_KM (fun _ hk => hk.elim) (fun _ _ => trivial) ?aB ?aS ?aL ?_; (case aO => exact HR0.out); (case aR => exact Kd.C_alloc HC.out _); (case aB => exact HB0.out); (case aS => exact HB0.out.size); (case aL => exact HLIM.out); intro v1 w1 hr hb hg hat); go_loud (obtain ⟨Av, cv, ev⟩ := Kd.R_slice hr; rw [show ([(⟨3, 0⟩ : S32), ⟨12, 0⟩] ++ l).length = l.length + 2 by simp] at ev; have HR1 := Aside0.mk hr; have HB1 := Aside0.mk hb; subst ev; have HMD := Aside0.mk (made_mod (p := Pure.pDead l) hr hb); clear hr hb hg hat)) | (go_at_call 29; go_loud (refine (sacristanlaw11_awake.calls true _ (HMX.out.below HMD.out.old) Pure.awake11).mono ?_); rintro e w7 ⟨rfl, hb7⟩))
    go_ret
    exact ⟨rfl, below_then HMD.out.old HMD.out.old.size hb7⟩
  have d50 : decide ((50 : Int) < (l.length : Int)) = false := decide_eq_false (by omega)
  cases hmay : mayS (Pure.insM [] [] [Pure.pDead l] []) [] [] [Pure.pDead l] [] with
  | false =>
    have HMAY := Aside0.mk hmay
    clear hmay h50
    go_wp2_with (first | ((with_reducible refine gate_builtin (b := .append) (xs := #[.tmp 10, .tmp 11]) rfl ?_); at_builtin; go_loud (refine Kd.R_append_rows k32 (Rr := k32.K (w.alloc (.cells #[.int .u8 3, .int .i64 0, .int .u8 12, .int .i64 0] 32 (0, 0)))) (w0 := w) w.heap.size rfl (.tmp 10) (.tmp 11) 42 32 (.agg #[.int .u8 0, .int .i64 0]) 16 rfl Tryd.underlying42 info32 rfl (by decide) (by omega) (.slice (some ⟨w.heap.size, 0, none⟩) 2 2) [⟨3, 0⟩, ⟨12, 0⟩] l A l.length c (fun _ => True) (fun _ => False) rfl rfl ?aO ?aR k32_KM (fun _ hk => hk.elim) (fun _ _ => trivial) ?aB ?aS ?aL ?_; (case aO => exact HR0.out); (case aR => exact Kd.C_alloc HC.out _); (case aB => exact HB0.out); (case aS => exact HB0.out.size); (case aL => exact HLIM.out); intro v1 w1 hr hb hg hat); go_loud (obtain ⟨Av, cv, ev⟩ := Kd.R_slice hr; rw [show ([(⟨3, 0⟩ : S32), ⟨12, 0⟩] ++ l).length = l.length + 2 by simp] at ev; have HR1 := Aside0.mk hr; have HB1 := Aside0.mk hb; subst ev; have HMD := Aside0.mk (made_mod (p := Pure.pDead l) hr hb); clear hr hb hg hat)) | (go_at_call 25; go_loud (refine (refMay_calls _ HFIT.out HMD.out.mod).mono ?_); rintro e w4 ⟨rfl, hb4⟩; rw [HMAY.out]; have HM4 := Aside0.mk (HMD.out.below hb4); clear hb4) | (go_at_call 29; go_loud (refine (sacristanlaw11_awake.calls true _ (HMX.out.below HM4.out.old) Pure.awake11).mono ?_); rintro e w7 ⟨rfl, hb7⟩))
    go_ret
    exact ⟨rfl, below_then HM4.out.old HM4.out.old.size hb7⟩
  | true =>
    have HMAY := Aside0.mk hmay
    have HCK := Aside0.mk (Pure.dead_check hmay)
    obtain ⟨hdl, hd0, hd1, hd2⟩ := Pure.dead_depths hmay
    have HDL := Aside0.mk hdl
    have HD0 := Aside0.mk hd0
    have HD1 := Aside0.mk hd1
    have HD2 := Aside0.mk hd2
    clear hmay hdl hd0 hd1 hd2
    by_cases hne : l = []
    · have d0 : ((l.length : Int) == 0) = true := by rw [hne]; rfl
      clear hne
      go_wp2_with (first | ((with_reducible refine gate_builtin (b := .append) (xs := #[.tmp 10, .tmp 11]) rfl ?_); at_builtin; go_loud (refine Kd.R_append_rows k32 (Rr := k32.K (w.alloc (.cells #[.int .u8 3, .int .i64 0, .int .u8 12, .int .i64 0] 32 (0, 0)))) (w0 := w) w.heap.size rfl (.tmp 10) (.tmp 11) 42 32 (.agg #[.int .u8 0, .int .i64 0]) 16 rfl Tryd.underlying42 info32 rfl (by decide) (by omega) (.slice (some ⟨w.heap.size, 0, none⟩) 2 2) [⟨3, 0⟩, ⟨12, 0⟩] l A l.length c (fun _ => True) (fun _ => False) rfl rfl ?aO ?aR k32_KM (fun _ hk => hk.elim) (fun _ _ => trivial) ?aB ?aS ?aL ?_; (case aO => exact HR0.out); (case aR => exact Kd.C_alloc HC.out _); (case aB => exact HB0.out); (case aS => exact HB0.out.size); (case aL => exact HLIM.out); intro v1 w1 hr hb hg hat); go_loud (obtain ⟨Av, cv, ev⟩ := Kd.R_slice hr; rw [show ([(⟨3, 0⟩ : S32), ⟨12, 0⟩] ++ l).length = l.length + 2 by simp] at ev; have HR1 := Aside0.mk hr; have HB1 := Aside0.mk hb; subst ev; have HMD := Aside0.mk (made_mod (p := Pure.pDead l) hr hb); clear hr hb hg hat)) | (go_at_call 25; go_loud (refine (refMay_calls _ HFIT.out HMD.out.mod).mono ?_); rintro e w4 ⟨rfl, hb4⟩; rw [HMAY.out]; have HM4 := Aside0.mk (HMD.out.below hb4); have m0 := (blk_cell (blk_below HMD.out.mb hb4) 0).trans rfl; have m1 := (blk_cell (blk_below HMD.out.mb hb4) 1).trans rfl; have m2 := (blk_cell (blk_below HMD.out.mb hb4) 2).trans rfl; have m3 := (blk_cell (blk_below HMD.out.mb hb4) 3).trans rfl; clear hb4) | (go_at_call 30; go_loud (refine (Pure.Check_calls _ HFIT.out (fun s hs => absurd hs (by simp)) (HMX.out.below HM4.out.old) HM4.out.mod).mono ?_); rintro e w5 ⟨rfl, hb5⟩; rw [HCK.out]; have HM5 := Aside0.mk (HM4.out.below hb5); have n0 := (blk_cell (blk_below HM4.out.mb hb5) 0).trans rfl; have n1 := (blk_cell (blk_below HM4.out.mb hb5) 1).trans rfl; have n2 := (blk_cell (blk_below HM4.out.mb hb5) 2).trans rfl; have n3 := (blk_cell (blk_below HM4.out.mb hb5) 3).trans rfl; clear hb5) | (go_at_call 32; go_loud (refine (Pure.Depths_calls _ HFIT.out (fun s hs => absurd hs (by simp)) (HMX.out.below HM5.out.old) HM5.out.mod 0).mono ?_); rintro e w6 ⟨v6, rfl, hr6, hb6⟩; go_loud (obtain ⟨vg, vc, rfl, _⟩ := Kd.R_form hr6 (by rw [HDL.out]; omega); have HM6 := Aside0.mk (HM5.out.below hb6); have x0 : w6.cell? ⟨vg, 0, none⟩ = some (.int .i64 0) := (by have h := (Kd.R_cell 0 hr6 0 (by omega) (by rw [HDL.out]; omega)).1; rw [show rdOf 0 (Pure.depthsS [] [] [Pure.pDead l] [] 0) 0 = 0 from HD0.out] at h; exact h); have x1 : w6.cell? ⟨vg, 1, none⟩ = some (.int .i64 1) := (by have h := (Kd.R_cell 0 hr6 1 (by omega) (by rw [HDL.out]; omega)).1; rw [show rdOf 0 (Pure.depthsS [] [] [Pure.pDead l] [] 0) 1 = 1 from HD1.out] at h; exact h); have p3 := (blk_cell (blk_below HM5.out.pb hb6) 3).trans rfl; have HR6 := Aside0.mk hr6; rw [HDL.out]; clear hr6 hb6)) | (go_at_call 29; go_loud (refine (sacristanlaw11_awake.calls true _ (HMX.out.below HM6.out.old) Pure.awake11).mono ?_); rintro e w7 ⟨rfl, hb7⟩))
      go_ret
      exact ⟨rfl, below_then HM6.out.old HM6.out.old.size hb7⟩
    · have hpos : 0 < l.length := List.length_pos_iff.2 hne
      have d0 : ((l.length : Int) == 0) = false := beq_eq_false_iff_ne.2 (by omega)
      have HPOS := Aside0.mk hpos
      have HNE := Aside0.mk hne
      clear hne
      go_wp2_with (first | ((with_reducible refine gate_builtin (b := .append) (xs := #[.tmp 10, .tmp 11]) rfl ?_); at_builtin; go_loud (refine Kd.R_append_rows k32 (Rr := k32.K (w.alloc (.cells #[.int .u8 3, .int .i64 0, .int .u8 12, .int .i64 0] 32 (0, 0)))) (w0 := w) w.heap.size rfl (.tmp 10) (.tmp 11) 42 32 (.agg #[.int .u8 0, .int .i64 0]) 16 rfl Tryd.underlying42 info32 rfl (by decide) (by omega) (.slice (some ⟨w.heap.size, 0, none⟩) 2 2) [⟨3, 0⟩, ⟨12, 0⟩] l A l.length c (fun _ => True) (fun _ => False) rfl rfl ?aO ?aR k32_KM (fun _ hk => hk.elim) (fun _ _ => trivial) ?aB ?aS ?aL ?_; (case aO => exact HR0.out); (case aR => exact Kd.C_alloc HC.out _); (case aB => exact HB0.out); (case aS => exact HB0.out.size); (case aL => exact HLIM.out); intro v1 w1 hr hb hg hat); go_loud (obtain ⟨Av, cv, ev⟩ := Kd.R_slice hr; rw [show ([(⟨3, 0⟩ : S32), ⟨12, 0⟩] ++ l).length = l.length + 2 by simp] at ev; have HR1 := Aside0.mk hr; have HB1 := Aside0.mk hb; subst ev; have HMD := Aside0.mk (made_mod (p := Pure.pDead l) hr hb); clear hr hb hg hat)) | (go_at_call 25; go_loud (refine (refMay_calls _ HFIT.out HMD.out.mod).mono ?_); rintro e w4 ⟨rfl, hb4⟩; rw [HMAY.out]; have HM4 := Aside0.mk (HMD.out.below hb4); have m0 := (blk_cell (blk_below HMD.out.mb hb4) 0).trans rfl; have m1 := (blk_cell (blk_below HMD.out.mb hb4) 1).trans rfl; have m2 := (blk_cell (blk_below HMD.out.mb hb4) 2).trans rfl; have m3 := (blk_cell (blk_below HMD.out.mb hb4) 3).trans rfl; clear hb4) | (go_at_call 30; go_loud (refine (Pure.Check_calls _ HFIT.out (fun s hs => absurd hs (by simp)) (HMX.out.below HM4.out.old) HM4.out.mod).mono ?_); rintro e w5 ⟨rfl, hb5⟩; rw [HCK.out]; have HM5 := Aside0.mk (HM4.out.below hb5); have n0 := (blk_cell (blk_below HM4.out.mb hb5) 0).trans rfl; have n1 := (blk_cell (blk_below HM4.out.mb hb5) 1).trans rfl; have n2 := (blk_cell (blk_below HM4.out.mb hb5) 2).trans rfl; have n3 := (blk_cell (blk_below HM4.out.mb hb5) 3).trans rfl; clear hb5) | (go_at_call 32; go_loud (refine (Pure.Depths_calls _ HFIT.out (fun s hs => absurd hs (by simp)) (HMX.out.below HM5.out.old) HM5.out.mod 0).mono ?_); rintro e w6 ⟨v6, rfl, hr6, hb6⟩; go_loud (obtain ⟨vg, vc, rfl, _⟩ := Kd.R_form hr6 (by rw [HDL.out]; omega); have HM6 := Aside0.mk (HM5.out.below hb6); have x0 : w6.cell? ⟨vg, 0, none⟩ = some (.int .i64 0) := (by have h := (Kd.R_cell 0 hr6 0 (by omega) (by rw [HDL.out]; omega)).1; rw [show rdOf 0 (Pure.depthsS [] [] [Pure.pDead l] [] 0) 0 = 0 from HD0.out] at h; exact h); have x1 : w6.cell? ⟨vg, 1, none⟩ = some (.int .i64 1) := (by have h := (Kd.R_cell 0 hr6 1 (by omega) (by rw [HDL.out]; omega)).1; rw [show rdOf 0 (Pure.depthsS [] [] [Pure.pDead l] [] 0) 1 = 1 from HD1.out] at h; exact h); have x2 : w6.cell? ⟨vg, 2, none⟩ = some (.int .i64 (-1)) := (by have h := (Kd.R_cell 0 hr6 2 (by omega) (by rw [HDL.out]; have := HPOS.out; omega)).1; rw [show rdOf 0 (Pure.depthsS [] [] [Pure.pDead l] [] 0) 2 = -1 from HD2.out HNE.out] at h; exact h); have p3 := (blk_cell (blk_below HM5.out.pb hb6) 3).trans rfl; have HR6 := Aside0.mk hr6; rw [HDL.out]; clear hr6 hb6)) | (go_at_call 29; go_loud (refine (sacristanlaw11_awake.calls true _ (HMX.out.below HM6.out.old) Pure.awake11).mono ?_); rintro e w7 ⟨rfl, hb7⟩))
      go_ret
      exact ⟨rfl, below_then HM6.out.old HM6.out.old.size hb7⟩
end Go.Proofs.YtfncoldcjhkhiaaDoor.NW
