/- sacristanref15.Eval: how a block goes. -/
import Derived.Test.YtjkjbfhhfdbnoaaRv
namespace Go.Proofs.Ytjkjbfhhfdbnoaa.NW
open Go.RowKit Go.Proofs.YtjkjbfhhfdbnoaaW.PrintWords Go.Proofs.YtjkjbfhhfdbnoaaW.PrintMore Go.Proofs.Ytjkjbfhhfdbnoaa.PB
set_option linter.unusedVariables false
set_option linter.unusedSimpArgs false

set_option maxHeartbeats 3200000 in
set_option maxRecDepth 1000000 in
theorem eval_calls (O : Ops) (P : S37 → Prop) (hO : OpsAre O P) (z0 z1 z2 : Int) (A3 : Option Addr) (c3 : Nat) (l3 : List S39) (z4 : Int) (A5 : Option Addr) (c5 : Nat) (l5 : List Int) (A6 : Option Addr) (c6 : Nat) (l6 : List Int) (z7 z8 z9 : Int)
    (A7 : Option Addr) (c7 : Nat) (l7 : List S37) (A8 : Option Addr) (c8 : Nat) (l8 : List S37) (A0 : Option Addr) (c0 : Nat) (ups : List S37) (A2 : Option Addr) (c2 : Nat) (ons : List S54) (w : World)
    (hr : BlkIs w A3 c3 l3 A5 c5 l5 A6 c6 l6) (h7 : k37.C w A7 l7.length l7) (h8 : k37.C w A8 l8.length l8) (hu : k37.C w A0 ups.length ups) (ho : k54.C w A2 ons.length ons) (hs5 : l5.length ≤ 400) (hs6 : l6.length ≤ 400) (hP : AllP P l7 l8 ups ons l3) :
    Calls Try.prog 28 #[.agg #[.int .i64 z0, .int .i64 z1, .int .i64 z2, .slice A3 l3.length c3, .int .i64 z4, .slice A5 l5.length c5, .slice A6 l6.length c6, .int .i64 z7, .int .i64 z8, .int .i64 z9], .slice A7 l7.length c7, .slice A8 l8.length c8, .agg #[.slice A0 ups.length c0, .slice A2 ons.length c2]] w
      fun e w' => Evald (evalK O ups ons z0 z1 z2 l3 z4 l5 l6 z7 z8 z9 l7 l8) w e w' := by
  generalize hev : evalK O ups ons z0 z1 z2 l3 z4 l5 l6 z7 z8 z9 l7 l8 = ev
  have HEV := Aside0.mk hev
  clear hev
  have HR := Aside0.mk hr
  have H7 := Aside0.mk h7
  have H8 := Aside0.mk h8
  have HU := Aside0.mk hu
  have HON := Aside0.mk ho
  have HP := Aside0.mk hP
  have HS5 := Aside0.mk hs5
  have HS6 := Aside0.mk hs6
  have hm7 := Kd.C_max h7
  have hm8 := Kd.C_max h8
  clear hr h7 h8 hu ho hP hs5 hs6
  have hA : Below w.heap.size w (((w.alloc (.cells #[.int .i64 z0, .int .i64 z1, .int .i64 z2, .slice A3 l3.length c3, .int .i64 z4, .slice A5 l5.length c5, .slice A6 l6.length c6, .int .i64 z7, .int .i64 z8, .int .i64 z9] 25)).alloc (.cells #[.slice A0 ups.length c0, .slice A2 ons.length c2] 29)).alloc (.cells #[] 37)) := below_alloc (below_alloc (below_alloc (Below.refl _ w) _) _) _
  have hI : (((w.alloc (.cells #[.int .i64 z0, .int .i64 z1, .int .i64 z2, .slice A3 l3.length c3, .int .i64 z4, .slice A5 l5.length c5, .slice A6 l6.length c6, .int .i64 z7, .int .i64 z8, .int .i64 z9] 25)).alloc (.cells #[.slice A0 ups.length c0, .slice A2 ons.length c2] 29)).alloc (.cells #[] 37)).heap[w.heap.size]? = some (.cells #[.int .i64 z0, .int .i64 z1, .int .i64 z2, .slice A3 l3.length c3, .int .i64 z4, .slice A5 l5.length c5, .slice A6 l6.length c6, .int .i64 z7, .int .i64 z8, .int .i64 z9] 25 (0, 0)) := blk_alloc (blk_alloc (blk_new w _) _) _
  have hV : (((w.alloc (.cells #[.int .i64 z0, .int .i64 z1, .int .i64 z2, .slice A3 l3.length c3, .int .i64 z4, .slice A5 l5.length c5, .slice A6 l6.length c6, .int .i64 z7, .int .i64 z8, .int .i64 z9] 25)).alloc (.cells #[.slice A0 ups.length c0, .slice A2 ons.length c2] 29)).alloc (.cells #[] 37)).heap[w.heap.size + 1]? = some (.cells #[.slice A0 ups.length c0, .slice A2 ons.length c2] 29 (0, 0)) := blk_alloc (blk_new2 w _ _) _
  have HA := Aside0.mk hA
  have HI := Aside0.mk hI
  have HV := Aside0.mk hV
  clear hA hI hV
  go_enter Try.func28, Try.ntmps28
  go_upto_region 2 with fail
  generalize hw1 : (((w.alloc (.cells #[.int .i64 z0, .int .i64 z1, .int .i64 z2, .slice A3 l3.length c3, .int .i64 z4, .slice A5 l5.length c5, .slice A6 l6.length c6, .int .i64 z7, .int .i64 z8, .int .i64 z9] 25)).alloc (.cells #[.slice A0 ups.length c0, .slice A2 ons.length c2] 29)).alloc (.cells #[] 37)) = w1 at HA HI HV ⊢
  clear hw1
  generalize hgb : w.heap.size = gb at HI HV ⊢
  have HGB := Aside0.mk hgb
  clear hgb
  have i0 := (blk_cell HI.out 0).trans rfl
  have i1 := (blk_cell HI.out 1).trans rfl
  have i2 := (blk_cell HI.out 2).trans rfl
  have i3 := (blk_cell HI.out 3).trans rfl
  have i4 := (blk_cell HI.out 4).trans rfl
  have i5 := (blk_cell HI.out 5).trans rfl
  have i6 := (blk_cell HI.out 6).trans rfl
  have i7 := (blk_cell HI.out 7).trans rfl
  have i8 := (blk_cell HI.out 8).trans rfl
  have i9 := (blk_cell HI.out 9).trans rfl
  have HMC := Aside0.mk (refMay_calls15 z0 z1 z2 A3 c3 l3 z4 A5 c5 l5 A6 c6 l6 z7 z8 z9 w1 ⟨Kd.C_below HR.out.r3 HA.out, HR.out.c3, Kd.C_below HR.out.r5 HA.out, HR.out.c5, Kd.C_below HR.out.r6 HA.out, HR.out.c6⟩ HS5.out HS6.out)
  cases hm : mayBlk z0 z1 z2 l3 z4 l5 l6 z7 z8 z9 with
  | false =>
    rw [hm] at HMC
    have HN := Aside0.mk (show ev = none by rw [← HEV.out]; unfold evalK; rw [if_neg (by rw [hm]; decide)])
    clear hm
    go_wp2_with (first | (go_at_call 19; (refine HMC.out.mono ?_); rintro e w2 ⟨rfl, hb2⟩; have HB2 := Aside0.mk hb2; clear hb2))
    refine bodyPost_ret (results_list (rs := [.tmp 8, .tmp 9, .tmp 10, .tmp 11]) rfl (by simp) (.tmp (.tmp (.tmp (.tmp .nil))))) rfl ?_
    exact evald_none _ HN.out (below_then HA.out HA.out.size HB2.out)
  | true =>
    rw [hm] at HMC
    have HM := Aside0.mk (mayBlk_iff.1 hm)
    have HMT := Aside0.mk hm
    clear hm
    by_cases h0 : (l7.length : Int) = z0
    case neg =>
      have HN := Aside0.mk (show ev = none by rw [← HEV.out]; unfold evalK; rw [if_pos HMT.out, if_neg h0])
      have h0b : ((l7.length : Int) != z0) = true := by simpa using h0
      go_wp2_with (first | (go_at_call 19; (refine HMC.out.mono ?_); rintro e w2 ⟨rfl, hb2⟩; have HB2 := Aside0.mk hb2; have i0 := (blk_cell (blk_below HI.out hb2) 0).trans rfl; have i1 := (blk_cell (blk_below HI.out hb2) 1).trans rfl; clear hb2))
      refine bodyPost_ret (results_list (rs := [.tmp 8, .tmp 9, .tmp 10, .tmp 11]) rfl (by simp) (.tmp (.tmp (.tmp (.tmp .nil))))) rfl ?_
      exact evald_none _ HN.out (below_then HA.out HA.out.size HB2.out)
    have h0b : ((l7.length : Int) != z0) = false := by simpa using h0
    by_cases h1 : (l8.length : Int) = z1
    case neg =>
      have HN := Aside0.mk (show ev = none by rw [← HEV.out]; unfold evalK; rw [if_pos HMT.out, if_pos h0, if_neg h1])
      have h1b : ((l8.length : Int) != z1) = true := by simpa using h1
      have H0 := Aside0.mk h0
      clear h0
      go_wp2_with (first | (go_at_call 19; (refine HMC.out.mono ?_); rintro e w2 ⟨rfl, hb2⟩; have HB2 := Aside0.mk hb2; have i0 := (blk_cell (blk_below HI.out hb2) 0).trans rfl; have i1 := (blk_cell (blk_below HI.out hb2) 1).trans rfl; clear hb2))
      refine bodyPost_ret (results_list (rs := [.tmp 8, .tmp 9, .tmp 10, .tmp 11]) rfl (by simp) (.tmp (.tmp (.tmp (.tmp .nil))))) rfl ?_
      exact evald_none _ HN.out (below_then HA.out HA.out.size HB2.out)
    have h1b : ((l8.length : Int) != z1) = false := by simpa using h1
    have HE := Aside0.mk (show ev = (runK O ups ons l3 (startK z2 l7 l8) []).bind fun p => (nextK p.1 z7 z8 z9).map fun n => (l5.map (rd_T37 p.1), l6.map (rd_T37 p.1), n) by rw [← HEV.out]; unfold evalK; rw [if_pos HMT.out, if_pos h0, if_pos h1])
    have hf0 := HM.out.few
    have hf1 := HM.out.regs
    have hf2 := HM.out.pos
    have HL0 := Aside0.mk (show l7.length ≤ 4096 ∧ l8.length ≤ 4096 ∧ z2 ≤ 4096 ∧ (l7.length : Int) + l8.length ≤ z2 by omega)
    clear h0 h1 HEV hf0 hf1 hf2
    go_upto_region 4 with (first | (go_at_call 19; (refine HMC.out.mono ?_); rintro e w2 ⟨rfl, hb2⟩; have HB2 := Aside0.mk (below_then HA.out HA.out.size hb2); have HI2 := Aside0.mk (blk_below HI.out hb2); have HV2 := Aside0.mk (blk_below HV.out hb2); have i0 := (blk_cell HI2.out 0).trans rfl; have i1 := (blk_cell HI2.out 1).trans rfl; clear hb2))
    clear i0 i1 i2 i3 i4 i5 i6 i7 i8 i9 h0b h1b HMC HI HV
    have hl0 := HL0.out
    go_upto_region 5 with (first
      | ((with_reducible refine gate_dst (N := 42) rfl ?_); refine Kd.R_lit k37 (w0 := w2) w2.heap.size 37 ?hg (N := 42) ?hd (xs := ([] : List S37)) (inner := []) (ok := fun _ => True) (okp := fun _ => True) ?hr ?hp (fun _ hk => hk) trivial (Below.refl _ _) (Nat.le_refl _) (by simp) ?_; (case hd => rfl); (case hg => rfl); (case hr => first | (go_simp; done) | (go_simp; rfl)); (case hp => exact Reps.none _ _); intro v3 w3 ho3 hb3 hg3 hn3; have HO3 := Aside0.mk ho3; have HB3 := Aside0.mk hb3; clear ho3 hb3 hg3 hn3)
      | ((with_reducible refine gate_builtin (b := .append) (xs := #[.tmp 42, .tmp 43]) rfl ?_); at_builtin; go_loud (refine Kd.R_append_rows k37 (w0 := w2) w2.heap.size rfl (.tmp 42) (.tmp 43) 26 37 (.agg #[(.int .u8 0), (.int .i64 0), (.string ⟨#[]⟩)]) 32 rfl Try.underlying26 info37 rfl (by decide) (by omega) v3 [] l7 _ _ _ (fun _ => True) (fun _ => False) rfl rfl ?aO ?aR (fun _ _ h => h) (fun _ h => h.elim) ?aF ?aB ?aS ?aL ?_; (case aO => exact HO3.out); (case aR => exact Kd.C_below H7.out (below_then HB2.out HB2.out.size HB3.out)); (case aF => exact fun _ _ => trivial); (case aB => exact HB3.out); (case aS => exact HB3.out.size); (case aL => rw [List.length_nil]; omega); intro v4 w4 hr4 hb4 hg4 ha4; rw [List.nil_append] at hr4; have HO4 := Aside0.mk hr4; have HB4 := Aside0.mk hb4; clear hr4 hb4 hg4 ha4))
      | ((with_reducible refine gate_builtin (b := .append) (xs := #[.tmp 44, .tmp 45]) rfl ?_); at_builtin; go_loud (refine Kd.R_append_rows k37 (w0 := w2) w2.heap.size rfl (.tmp 44) (.tmp 45) 26 37 (.agg #[(.int .u8 0), (.int .i64 0), (.string ⟨#[]⟩)]) 32 rfl Try.underlying26 info37 rfl (by decide) (by omega) v4 l7 l8 _ _ _ (fun _ => True) (fun _ => False) rfl rfl ?bO ?bR (fun _ _ h => h) (fun _ h => h.elim) ?bF ?bB ?bS ?bL ?_; (case bO => exact HO4.out); (case bR => exact Kd.C_below H8.out (below_then HB2.out HB2.out.size HB4.out)); (case bF => exact fun _ _ => trivial); (case bB => exact HB4.out); (case bS => exact HB4.out.size); (case bL => omega); intro v5 w5 hr5 hb5 hg5 ha5; have HO5 := Aside0.mk hr5; have HB5 := Aside0.mk hb5; clear hr5 hb5 hg5 ha5)))
    clear HO3 HB3 HO4 HB4
    go_loopw [13] (fun v wr => ∃ m : Nat, (l7.length : Int) + l8.length + m ≤ z2 ∧ Aside0 (Kd.R k37 37 wr w2.heap.size (fun _ => True) v (l7 ++ l8 ++ List.replicate m z37)) ∧ Aside0 (Below w2.heap.size w2 wr)) (fun v _ => z2.toNat - lenOf v)
    case atStart => exact ⟨0, by omega, ⟨by rw [List.replicate_zero, List.append_nil]; exact HO5.out⟩, HB5⟩
    case round =>
      obtain ⟨m, hm, hR, hB⟩ := hrel
      have hln : (l7 ++ l8 ++ List.replicate m z37).length = l7.length + l8.length + m := by simp; omega
      obtain ⟨A, c, rfl, hle, hC⟩ := Kd.R_reads hR.out
      have i2 := (blk_cell (blk_below HI2.out hB.out) 2).trans rfl
      have HC := Aside0.mk hC
      have HLE := Aside0.mk hle
      clear hC hle
      by_cases hlt : (l7.length : Int) + l8.length + m < z2
      · have hd : decide (((l7 ++ l8 ++ List.replicate m z37).length : Int) < z2) = true := decide_eq_true (by rw [hln]; omega)
        have HLN := Aside0.mk hln
        clear hln HC
        generalize hll : l7 ++ l8 ++ List.replicate m z37 = ll at hR HLE hd HLN ⊢
        have HLL := Aside0.mk hll
        clear hll
        go_wp2_with ((with_reducible refine gate_builtin (b := .append) (xs := #[.tmp 52, .tmp 54]) rfl ?_); at_builtin; go_loud (refine Kd.R_append (w0 := w2) k37 w2.heap.size rfl (.tmp 52) (.tmp 54) 26 37 (.agg #[(.int .u8 0), (.int .i64 0), (.string ⟨#[]⟩)]) 32 rfl Try.underlying26 info37 rfl (by decide) (by decide) (.slice A ll.length c) ll z37 [.int .u8 0, .int .i64 0, .string ⟨#[]⟩] (fun _ => True) (fun _ => False) rfl rfl ?cP (fun _ h => h.elim) ?cF ?cO ?cB ?cS ?cL ?_; (case cP => exact k37_mkM _ _ _ z37); (case cF => exact fun _ _ => trivial); (case cO => exact hR.out); (case cB => exact hB.out); (case cS => exact hB.out.size); (case cL => have := HLN.out; have := HL0.out; omega); intro v1 w6 hr6 hb6 hg6 ha6; have HR6 := Aside0.mk hr6; have HB6 := Aside0.mk hb6; clear hr6 hb6 hg6 ha6))
        go_roundw
        case rel => exact ⟨m + 1, by omega, ⟨by rw [List.replicate_succ', ← List.append_assoc, HLL.out]; exact HR6.out⟩, HB6⟩
        case measure =>
          obtain ⟨A9, c9, rfl, _, _⟩ := Kd.R_reads HR6.out
          have := HLN.out
          simp [lenOf]
          omega
      · have hd : decide (((l7 ++ l8 ++ List.replicate m z37).length : Int) < z2) = false := decide_eq_false (by rw [hln]; omega)
        have hst : l7 ++ l8 ++ List.replicate m z37 = startK z2 l7 l8 := by
          unfold startK
          rw [show m = z2.toNat - (l7.length + l8.length) by omega]
        have HLN := Aside0.mk hln
        have HZL := Aside0.mk (show ((l7 ++ l8 ++ List.replicate m z37).length : Int) = z2 by rw [hln]; omega)
        rw [hst] at hd HLE HC hR HZL ⊢
        have hPst : ∀ v ∈ startK z2 l7 l8, P v := fun v hv => by
          unfold startK at hv
          rcases List.mem_append.1 hv with hv | hv
          · rcases List.mem_append.1 hv with hv | hv
            · exact HP.out.s v hv
            · exact HP.out.t v hv
          · rw [(List.mem_replicate.1 hv).2]; exact HP.out.z
        have HPS := Aside0.mk hPst
        clear hst hln hR hlt hm HLN hPst
        generalize startK z2 l7 l8 = st at HE hd HLE HC HZL HPS ⊢
        go_upto_region 8 with fail
        have HB6 := Aside0.mk (below_then hB.out hB.out.size (below_alloc (Below.refl wr.heap.size wr) (.cells #[] 54)))
        have HC6 := Aside0.mk (Kd.C_alloc HC.out (.cells #[] 54))
        clear hB HC hd i2
        generalize wr.alloc (.cells #[] 54) = w6 at HB6 HC6 ⊢
        have i3 := (blk_cell (blk_below HI2.out HB6.out) 3).trans rfl
        have HIN := Aside0.mk HM.out.insts
        go_upto_region 9 with fail
        go_loopw [13, 14, 60] (fun v13 v14 i wr => ∃ (k : Nat) (r : List S37) (g : List S54) (A : Option Addr) (c : Nat) (B : Option Addr) (b : Nat), k ≤ l3.length ∧ v13 = .slice A r.length c ∧ v14 = .slice B g.length b ∧ i = .int .i64 k ∧ Aside0 (r.length ≤ c ∧ g.length ≤ b ∧ g.length ≤ k) ∧ Aside0 (k37.C wr A r.length r) ∧ Aside0 (k54.C wr B g.length g) ∧ Aside0 (Below w2.heap.size w2 wr) ∧ Aside0 (runK O ups ons l3 st [] = runK O ups ons (l3.drop k) r g) ∧ Aside0 (Left P st.length r g) ∧ Aside0 (gsOk z2 (l3.drop k) g.length = true)) (fun _ _ i _ => l3.length - (intOf i).toNat)
        case atStart => exact ⟨0, st, [], A, c, _, 0, by omega, rfl, rfl, rfl, ⟨HLE.out, Nat.le_refl _, Nat.le_refl _⟩, HC6, ⟨nil_C54 _⟩, HB6, ⟨rfl⟩, ⟨rfl, HPS.out, fun o ho => absurd ho (by simp)⟩, ⟨HM.out.gs⟩⟩
        case round =>
          obtain ⟨k, r, g, A, c, B, b, hk, rfl, rfl, rfl, HLs, HCr, HCg, HBr, HRK, HLF, HGS⟩ := hrel
          clear i3
          have HRr := Aside0.mk (below_then HB2.out HB2.out.size HBr.out)
          have HI9 := Aside0.mk (blk_below HI2.out HBr.out)
          by_cases hlt : k < l3.length
          · obtain ⟨ad, e, e0, e1, e2, e3, e4, e5, e6, e7⟩ := at_T39 (Kd.C_below HR.out.r3 HRr.out) (k : Int) (by omega) (by omega)
            subst e
            rw [show ((k : Int).toNat) = k by omega] at e0 e1 e2 e3 e4 e5 e6 e7
            have hxx : rd_T39 l3 (k : Int) = l3[k] := by
              rw [rd_T39, List.getD_eq_getElem?_getD, show ((k : Int).toNat) = k by omega, List.getElem?_eq_getElem hlt]; rfl
            have hgs := HGS.out
            have hrk := HRK.out
            rw [List.drop_eq_getElem_cons hlt] at hgs hrk
            rw [gsOk_cons, ifT] at hgs
            rw [runK] at hrk
            rw [hxx] at e0 e1 e2 e3 e4 e5 e6 e7
            have hxm := List.getElem_mem hlt
            generalize l3[k] = x at hxm e0 e1 e2 e3 e4 e5 e6 e7 hgs hrk
            have HXM := Aside0.mk hxm
            clear hxx hxm
            have hins := HIN.out
            have hls := HLs.out
            have hzl := HZL.out
            have hfew := HM.out.few
            have hlen := HLF.out.len
            have HX := Aside0.mk hgs
            have HRK2 := Aside0.mk hrk
            have HDC := Aside0.mk (does_calls O P hO x A c r A0 c0 ups A2 c2 ons B b g wr.drew (regsOk_of hgs.1).op (Kd.C_drew HCr.out) hls.1 (Kd.C_drew (Kd.C_below HU.out HRr.out)) (Kd.C_drew (Kd.C_below HON.out HRr.out)) (Kd.C_drew HCg.out) hls.2.1 (instOk_of (by rw [hlen]; exact hzl) hgs.1) (by omega) HLF.out.r)
            clear hgs hrk hls hzl hfew hlen
            have i3 : wr.cell? ⟨gb, 3, none⟩ = some (.slice (some ad) l3.length c3) := (blk_cell HI9.out 3).trans rfl
            have p0 : wr.cell? ⟨gb + 1, 0, none⟩ = some (.slice A0 ups.length c0) := (blk_cell (blk_below HV2.out HBr.out) 0).trans rfl
            have p1 : wr.cell? ⟨gb + 1, 1, none⟩ = some (.slice A2 ons.length c2) := (blk_cell (blk_below HV2.out HBr.out) 1).trans rfl
            have S0 : wr.cell? ⟨gb, 3, none⟩ = some (.slice (some ad) l3.length c3) ∧ wr.cell? ⟨gb + 1, 0, none⟩ = some (.slice A0 ups.length c0) ∧ wr.cell? ⟨gb + 1, 1, none⟩ = some (.slice A2 ons.length c2) ∧ wr.cell? (ad.add (k * 8)) = some (.int .u8 x.f0) ∧ wr.cell? ⟨(ad.add (k * 8)).block, (ad.add (k * 8)).off + 1, none⟩ = some (.int .i64 x.f1) ∧ wr.cell? ⟨(ad.add (k * 8)).block, (ad.add (k * 8)).off + 2, none⟩ = some (.int .i64 x.f2) ∧ wr.cell? ⟨(ad.add (k * 8)).block, (ad.add (k * 8)).off + 3, none⟩ = some (.int .i64 x.f3) ∧ wr.cell? ⟨(ad.add (k * 8)).block, (ad.add (k * 8)).off + 4, none⟩ = some (.string x.f4) ∧ wr.cell? ⟨(ad.add (k * 8)).block, (ad.add (k * 8)).off + 5, none⟩ = some (.int .u8 x.f5.f0) ∧ wr.cell? ⟨(ad.add (k * 8)).block, (ad.add (k * 8)).off + 6, none⟩ = some (.int .i64 x.f5.f1) ∧ wr.cell? ⟨(ad.add (k * 8)).block, (ad.add (k * 8)).off + 7, none⟩ = some (.string x.f5.f2) := ⟨i3, p0, p1, e0, e1, e2, e3, e4, e5, e6, e7⟩
            have d0 : decide ((k : Int) < l3.length) = true := decide_eq_true (by omega)
            go_upto_region 12 with fail
            go_region_held3 (fun W' => W'.cell? ⟨gb, 3, none⟩ = some (.slice (some ad) l3.length c3) ∧ W'.cell? ⟨gb + 1, 0, none⟩ = some (.slice A0 ups.length c0) ∧ W'.cell? ⟨gb + 1, 1, none⟩ = some (.slice A2 ons.length c2) ∧ W'.cell? (ad.add (k * 8)) = some (.int .u8 x.f0) ∧ W'.cell? ⟨(ad.add (k * 8)).block, (ad.add (k * 8)).off + 1, none⟩ = some (.int .i64 x.f1) ∧ W'.cell? ⟨(ad.add (k * 8)).block, (ad.add (k * 8)).off + 2, none⟩ = some (.int .i64 x.f2) ∧ W'.cell? ⟨(ad.add (k * 8)).block, (ad.add (k * 8)).off + 3, none⟩ = some (.int .i64 x.f3) ∧ W'.cell? ⟨(ad.add (k * 8)).block, (ad.add (k * 8)).off + 4, none⟩ = some (.string x.f4) ∧ W'.cell? ⟨(ad.add (k * 8)).block, (ad.add (k * 8)).off + 5, none⟩ = some (.int .u8 x.f5.f0) ∧ W'.cell? ⟨(ad.add (k * 8)).block, (ad.add (k * 8)).off + 6, none⟩ = some (.int .i64 x.f5.f1) ∧ W'.cell? ⟨(ad.add (k * 8)).block, (ad.add (k * 8)).off + 7, none⟩ = some (.string x.f5.f2)) (first | exact S0 | exact S2 | fail)
              ((go_at_call 55; (refine HDC.out.mono ?_); rintro e w9 ⟨ok, r9, g9, A9, c9, B9, b9, rfl, k1, k2, k3, k4, hb9, k5⟩; have S2 : w9.cell? ⟨gb, 3, none⟩ = some (.slice (some ad) l3.length c3) ∧ w9.cell? ⟨gb + 1, 0, none⟩ = some (.slice A0 ups.length c0) ∧ w9.cell? ⟨gb + 1, 1, none⟩ = some (.slice A2 ons.length c2) ∧ w9.cell? (ad.add (k * 8)) = some (.int .u8 x.f0) ∧ w9.cell? ⟨(ad.add (k * 8)).block, (ad.add (k * 8)).off + 1, none⟩ = some (.int .i64 x.f1) ∧ w9.cell? ⟨(ad.add (k * 8)).block, (ad.add (k * 8)).off + 2, none⟩ = some (.int .i64 x.f2) ∧ w9.cell? ⟨(ad.add (k * 8)).block, (ad.add (k * 8)).off + 3, none⟩ = some (.int .i64 x.f3) ∧ w9.cell? ⟨(ad.add (k * 8)).block, (ad.add (k * 8)).off + 4, none⟩ = some (.string x.f4) ∧ w9.cell? ⟨(ad.add (k * 8)).block, (ad.add (k * 8)).off + 5, none⟩ = some (.int .u8 x.f5.f0) ∧ w9.cell? ⟨(ad.add (k * 8)).block, (ad.add (k * 8)).off + 6, none⟩ = some (.int .i64 x.f5.f1) ∧ w9.cell? ⟨(ad.add (k * 8)).block, (ad.add (k * 8)).off + 7, none⟩ = some (.string x.f5.f2) := (by exact ⟨(hb9.cell (World.block_lt_of_cell? wr.drew _ i3)).trans i3, (hb9.cell (World.block_lt_of_cell? wr.drew _ p0)).trans p0, (hb9.cell (World.block_lt_of_cell? wr.drew _ p1)).trans p1, (hb9.cell (World.block_lt_of_cell? wr.drew _ e0)).trans e0, (hb9.cell (World.block_lt_of_cell? wr.drew _ e1)).trans e1, (hb9.cell (World.block_lt_of_cell? wr.drew _ e2)).trans e2, (hb9.cell (World.block_lt_of_cell? wr.drew _ e3)).trans e3, (hb9.cell (World.block_lt_of_cell? wr.drew _ e4)).trans e4, (hb9.cell (World.block_lt_of_cell? wr.drew _ e5)).trans e5, (hb9.cell (World.block_lt_of_cell? wr.drew _ e6)).trans e6, (hb9.cell (World.block_lt_of_cell? wr.drew _ e7)).trans e7⟩); have K1 := Aside0.mk k1; have K2 := Aside0.mk k2; have K3 := Aside0.mk k3; have K4 := Aside0.mk k4; have K5 := Aside0.mk k5; have HB9 := Aside0.mk hb9; clear k1 k2 k3 k4 k5 hb9))
            all_goals
              have HB99 := Aside0.mk (below_then HBr.out HBr.out.size (below_then (below_drew (Below.refl wr.heap.size wr)) (Nat.le_refl _) HB9.out))
              clear S0 i3 p0 p1 e0 e1 e2 e3 e4 e5 e6 e7 S2
              cases ok with
              | false =>
                have HN := Aside0.mk (show ev = none by
                  have h1 := K5.out
                  rw [if_neg (by decide)] at h1
                  rw [HE.out, HRK2.out, h1]; rfl)
                go_wp2_with fail
                refine bodyPost_ret (results_list (rs := [.tmp 8, .tmp 9, .tmp 10, .tmp 11]) rfl (by simp) (.tmp (.tmp (.tmp (.tmp .nil))))) rfl ?_
                exact evald_none _ HN.out (below_then HB2.out HB2.out.size HB99.out)
              | true =>
                have h1 := K5.out
                rw [if_pos rfl] at h1
                obtain ⟨hl1, hl2⟩ := does_keeps hO HP.out HLF.out HXM.out (by rw [HZL.out]; exact HX.out.1) h1
                have HLF9 := Aside0.mk hl1
                have HRK9 := Aside0.mk (show runK O ups ons l3 st [] = runK O ups ons (l3.drop (k + 1)) r9 g9 by rw [HRK2.out, h1]; rfl)
                have hgs9 := HX.out.2
                have HGS9 := Aside0.mk (show gsOk z2 (l3.drop (k + 1)) g9.length = true by rw [hl2]; by_cases c6 : x.f0 = 6 <;> simp only [c6, if_true, if_false] at hgs9 ⊢ <;> exact_mod_cast hgs9)
                have HLS9 := Aside0.mk (show r9.length ≤ c9 ∧ g9.length ≤ b9 ∧ g9.length ≤ k + 1 from ⟨K1.out, K2.out, by have := HLs.out.2.2; rw [hl2]; split <;> omega⟩)
                clear h1 hl1 hl2 hgs9
                have hkk : k + 1 ≤ l3.length := hlt
                have hins := HIN.out
                go_wp2_with fail
                go_roundw
                case rel => exact ⟨k + 1, r9, g9, A9, c9, B9, b9, hkk, rfl, rfl, by go_num, HLS9, K3, K4, HB99, HRK9, HLF9, HGS9⟩
                case measure => simp [intOf]; omega
          · obtain rfl : k = l3.length := by omega
            have d0 : decide ((l3.length : Int) < l3.length) = false := decide_eq_false (by omega)
            have HE2 := Aside0.mk (show ev = (nextK r z7 z8 z9).map fun n => (l5.map (rd_T37 r), l6.map (rd_T37 r), n) by
              rw [HE.out, HRK.out, List.drop_length]; rfl)
            have i7 := (blk_cell HI9.out 7).trans rfl
            have i8 := (blk_cell HI9.out 8).trans rfl
            have i9 := (blk_cell HI9.out 9).trans rfl
            clear hlt HE HRK HGS HCg
            go_upto_if 85 with (fail)
            go_cut [17] from 83 to 144 (fun v wc => ∃ n, v = .int .i64 n ∧ Aside0 (nextK r z7 z8 z9 = some n) ∧ Aside0 (Below wr.heap.size wr wc))
            case first =>
              by_cases h7 : 0 ≤ z7
              · have d7 : decide (0 ≤ z7) = true := decide_eq_true h7
                rw [d7]
                have hrl := HLF.out.len
                have hzl := HZL.out
                have hcd := HM.out.cond
                have hz7 : z7 < (r.length : Int) := by omega
                obtain ⟨ar, e, g0, g1, g2⟩ := at_T37 HCr.out z7 h7 hz7
                subst e
                have hnx : nextK r z7 z8 z9 = if (rd_T37 r z7).f0 = 2 then (if (rd_T37 r z7).f1 = 0 then some z9 else some z8) else none := by unfold nextK; rw [if_pos h7]
                generalize rd_T37 r z7 = u at g0 g1 g2 hnx
                have HNX := Aside0.mk hnx
                clear hrl hzl hcd hnx g2
                by_cases ht : u.f0 = 2
                · have d1 : (u.f0 != 2) = false := by rw [ht]; rfl
                  have hn1 := HNX.out
                  rw [if_pos ht] at hn1
                  replace HNX := Aside0.mk hn1
                  clear hn1 ht
                  by_cases hf : u.f1 = 0
                  · have d2 : (u.f1 == 0) = true := by rw [hf]; rfl
                    have hn1 := HNX.out
                    rw [if_pos hf] at hn1
                    replace HNX := Aside0.mk hn1
                    clear hn1 hf
                    go_wp2_with fail
                    go_meet
                    case rel => exact ⟨z9, rfl, HNX, ⟨Below.refl _ _⟩⟩
                  · have d2 : (u.f1 == 0) = false := by simpa using hf
                    have hn1 := HNX.out
                    rw [if_neg hf] at hn1
                    replace HNX := Aside0.mk hn1
                    clear hn1 hf
                    go_wp2_with fail
                    go_meet
                    case rel => exact ⟨z8, rfl, HNX, ⟨Below.refl _ _⟩⟩
                · have d1 : (u.f0 != 2) = true := by simpa using ht
                  have HN := Aside0.mk (show ev = none by rw [HE2.out, HNX.out, if_neg ht]; rfl)
                  clear ht
                  go_wp2_with fail
                  refine bodyPost_ret (results_list (rs := [.tmp 8, .tmp 9, .tmp 10, .tmp 11]) rfl (by simp) (.tmp (.tmp (.tmp (.tmp .nil))))) rfl ?_
                  exact evald_none _ HN.out HRr.out
              · have d7 : decide (0 ≤ z7) = false := decide_eq_false h7
                rw [d7]
                have HNX := Aside0.mk (show nextK r z7 z8 z9 = some z8 by unfold nextK; rw [if_neg h7])
                clear h7
                go_wp2_with fail
                go_meet
                case rel => exact ⟨z8, rfl, HNX, ⟨Below.refl _ _⟩⟩
            case rest =>
              obtain ⟨nx, rfl, HNX, HBc⟩ := hcut
              have HE3 := Aside0.mk (show ev = some (l5.map (rd_T37 r), l6.map (rd_T37 r), nx) by rw [HE2.out, HNX.out]; rfl)
              clear i7 i8 i9 HE2 HNX d0
              go_upto_region 23 with (first | ((with_reducible refine gate_dst (N := 104) rfl ?_); refine Kd.R_lit k37 (w0 := wc) wc.heap.size 37 ?hg (N := 104) ?hd (xs := ([] : List S37)) (inner := []) (ok := fun _ => True) (okp := fun _ => True) ?hr ?hp (fun _ hk => hk) trivial (Below.refl _ _) (Nat.le_refl _) (by simp) ?_; (case hd => rfl); (case hg => rfl); (case hr => first | (go_simp; done) | (go_simp; rfl)); (case hp => exact Reps.none _ _); intro v18 w18 ho3 hb3 hg3 hn3; have HO18 := Aside0.mk ho3; have HO18b := Aside0.mk hb3; clear ho3 hb3 hg3 hn3))
              have i5 := (blk_cell (blk_below HI9.out (below_then HBc.out HBc.out.size HO18b.out)) 5).trans rfl
              go_upto_region 24 with fail
              go_loopw [18, 108] (fun v i wx => ∃ k : Nat, k ≤ l5.length ∧ i = .int .i64 k ∧ Aside0 (Kd.R k37 37 wx wc.heap.size (fun _ => True) v ((l5.take k).map (rd_T37 r))) ∧ Aside0 (Below wc.heap.size wc wx)) (fun _ i _ => l5.length - (intOf i).toNat)
              case atStart => exact ⟨0, by omega, rfl, ⟨by rw [List.take_zero, List.map_nil]; exact HO18.out⟩, HO18b⟩
              case round =>
                clear i5
                obtain ⟨k, hk, rfl, hR, hB⟩ := hrel
                have hBw := Aside0.mk (below_then HBc.out (Below.size HBc.out) hB.out)
                have i5 := (blk_cell (blk_below HI9.out hBw.out) 5).trans rfl
                obtain ⟨A, c, rfl, hle, hC⟩ := Kd.R_reads hR.out
                have HLE := Aside0.mk hle
                have HCS := Aside0.mk hC
                clear hle hC
                have hls := HS5.out
                have hln : ((l5.take k).map (rd_T37 r)).length = k := by rw [List.length_map, List.length_take]; omega
                by_cases hlt : k < l5.length
                · obtain ⟨ad, e, e0⟩ := Kd.at_int (Kd.C_below (HR.out.r5) (below_then HRr.out HRr.out.size hBw.out)) (k : Int) (by omega) (by omega)
                  subst e
                  have hq : rd l5 (k : Int) = l5[k] := by
                    rw [rd, List.getD_eq_getElem?_getD, show ((k : Int).toNat) = k by omega, List.getElem?_eq_getElem hlt]; rfl
                  rw [show ((k : Int).toNat) = k by omega, hq] at e0
                  have hin := any_bad HM.out.r5 l5[k] (List.getElem_mem hlt)
                  have htk : (l5.take (k + 1)).map (rd_T37 r) = (l5.take k).map (rd_T37 r) ++ [rd_T37 r l5[k]] := by
                    rw [List.take_add_one, List.getElem?_eq_getElem hlt, List.map_append]; rfl
                  generalize l5[k] = n at e0 hin htk
                  clear hq
                  have hrl := HLF.out.len
                  have hzl := HZL.out
                  obtain ⟨ar, e, g0, g1, g2⟩ := at_T37 (Kd.C_below HCr.out hBw.out) n hin.1 (by omega)
                  subst e
                  generalize rd_T37 r n = u at g0 g1 g2 htk
                  have HTK := Aside0.mk htk
                  have d0 : decide ((k : Int) < l5.length) = true := decide_eq_true (by omega)
                  clear hrl hzl htk
                  have hrn0 := hin.1
                  have hrn1 : n < (r.length : Int) := by have := hin.2; have := HLF.out.len; have := HZL.out; omega
                  generalize hll : (l5.take k).map (rd_T37 r) = ll at hR HLE HCS hln HTK ⊢
                  clear hll
                  go_wp2_with ((with_reducible refine gate_builtin (b := .append) (xs := #[.tmp 111, .tmp 120]) rfl ?_); at_builtin; go_loud (refine Kd.R_append (w0 := wc) k37 wc.heap.size rfl (.tmp 111) (.tmp 120) 26 37 (.agg #[(.int .u8 0), (.int .i64 0), (.string ⟨#[]⟩)]) 32 rfl Try.underlying26 info37 rfl (by decide) (by decide) (.slice A ll.length c) ll u [.int .u8 u.f0, .int .i64 u.f1, .string u.f2] (fun _ => True) (fun _ => False) rfl rfl ?dP (fun _ h => h.elim) ?dF ?dO ?dB ?dS ?dL ?_; (case dP => exact k37_mkM _ _ _ u); (case dF => exact fun _ _ => trivial); (case dO => exact hR.out); (case dB => exact hB.out); (case dS => exact hB.out.size); (case dL => omega); intro v1 w16 hr6 hb6 hg6 ha6; have HR6 := Aside0.mk hr6; have HB6 := Aside0.mk hb6; clear hr6 hb6 hg6 ha6))
                  go_roundw
                  case rel => exact ⟨k + 1, by omega, by go_num, ⟨by rw [HTK.out]; exact HR6.out⟩, HB6⟩
                  case measure => simp [intOf]; omega
                · obtain rfl : k = l5.length := by omega
                  rw [List.take_length] at HLE HCS hln ⊢
                  have d0 : decide ((l5.length : Int) < l5.length) = false := decide_eq_false (by omega)
                  clear hR hlt
                  have HB11 := hBw
                  have HCS11 := HCS
                  have HLE11 := HLE
                  have HLN11 := Aside0.mk hln
                  clear HCS HLE hln hls hB hBw i5 d0 hk
                  obtain ⟨wk, rfl⟩ : ∃ wk, wk = wr := ⟨_, rfl⟩
                  go_upto_region 29 with (first | ((with_reducible refine gate_dst (N := 123) rfl ?_); refine Kd.R_lit k37 (w0 := wk) wk.heap.size 37 ?hg (N := 123) ?hd (xs := ([] : List S37)) (inner := []) (ok := fun _ => True) (okp := fun _ => True) ?hr ?hp (fun _ hk => hk) trivial (Below.refl _ _) (Nat.le_refl _) (by simp) ?_; (case hd => rfl); (case hg => rfl); (case hr => first | (go_simp; done) | (go_simp; rfl)); (case hp => exact Reps.none _ _); intro v20 w20 ho3 hb3 hg3 hn3; have HO20 := Aside0.mk ho3; have HO20b := Aside0.mk hb3; clear ho3 hb3 hg3 hn3))
                  have i6 := (blk_cell (blk_below HI9.out (below_then HB11.out (Below.size HB11.out) HO20b.out)) 6).trans rfl
                  go_upto_region 30 with fail
                  go_loopw [20, 127] (fun v i wx => ∃ k : Nat, k ≤ l6.length ∧ i = .int .i64 k ∧ Aside0 (Kd.R k37 37 wx wk.heap.size (fun _ => True) v ((l6.take k).map (rd_T37 r))) ∧ Aside0 (Below wk.heap.size wk wx)) (fun _ i _ => l6.length - (intOf i).toNat)
                  case atStart => exact ⟨0, by omega, rfl, ⟨by rw [List.take_zero, List.map_nil]; exact HO20.out⟩, HO20b⟩
                  case round =>
                    clear i6
                    obtain ⟨k, hk, rfl, hR, hB⟩ := hrel
                    have hBw := Aside0.mk (below_then HB11.out (Below.size HB11.out) hB.out)
                    have i6 := (blk_cell (blk_below HI9.out hBw.out) 6).trans rfl
                    obtain ⟨A, c, rfl, hle, hC⟩ := Kd.R_reads hR.out
                    have HLE := Aside0.mk hle
                    have HCS := Aside0.mk hC
                    clear hle hC
                    have hls := HS6.out
                    have hln : ((l6.take k).map (rd_T37 r)).length = k := by rw [List.length_map, List.length_take]; omega
                    by_cases hlt : k < l6.length
                    · obtain ⟨ad, e, e0⟩ := Kd.at_int (Kd.C_below (HR.out.r6) (below_then HRr.out HRr.out.size hBw.out)) (k : Int) (by omega) (by omega)
                      subst e
                      have hq : rd l6 (k : Int) = l6[k] := by
                        rw [rd, List.getD_eq_getElem?_getD, show ((k : Int).toNat) = k by omega, List.getElem?_eq_getElem hlt]; rfl
                      rw [show ((k : Int).toNat) = k by omega, hq] at e0
                      have hin := any_bad HM.out.r6 l6[k] (List.getElem_mem hlt)
                      have htk : (l6.take (k + 1)).map (rd_T37 r) = (l6.take k).map (rd_T37 r) ++ [rd_T37 r l6[k]] := by
                        rw [List.take_add_one, List.getElem?_eq_getElem hlt, List.map_append]; rfl
                      generalize l6[k] = n at e0 hin htk
                      clear hq
                      have hrl := HLF.out.len
                      have hzl := HZL.out
                      obtain ⟨ar, e, g0, g1, g2⟩ := at_T37 (Kd.C_below HCr.out hBw.out) n hin.1 (by omega)
                      subst e
                      generalize rd_T37 r n = u at g0 g1 g2 htk
                      have HTK := Aside0.mk htk
                      have d0 : decide ((k : Int) < l6.length) = true := decide_eq_true (by omega)
                      clear hrl hzl htk
                      have hrn0 := hin.1
                      have hrn1 : n < (r.length : Int) := by have := hin.2; have := HLF.out.len; have := HZL.out; omega
                      generalize hll : (l6.take k).map (rd_T37 r) = ll at hR HLE HCS hln HTK ⊢
                      clear hll
                      go_wp2_with ((with_reducible refine gate_builtin (b := .append) (xs := #[.tmp 130, .tmp 139]) rfl ?_); at_builtin; go_loud (refine Kd.R_append (w0 := wk) k37 wk.heap.size rfl (.tmp 130) (.tmp 139) 26 37 (.agg #[(.int .u8 0), (.int .i64 0), (.string ⟨#[]⟩)]) 32 rfl Try.underlying26 info37 rfl (by decide) (by decide) (.slice A ll.length c) ll u [.int .u8 u.f0, .int .i64 u.f1, .string u.f2] (fun _ => True) (fun _ => False) rfl rfl ?eP (fun _ h => h.elim) ?eF ?eO ?eB ?eS ?eL ?_; (case eP => exact k37_mkM _ _ _ u); (case eF => exact fun _ _ => trivial); (case eO => exact hR.out); (case eB => exact hB.out); (case eS => exact hB.out.size); (case eL => omega); intro v1 w16 hr6 hb6 hg6 ha6; have HR6 := Aside0.mk hr6; have HB6 := Aside0.mk hb6; clear hr6 hb6 hg6 ha6))
                      go_roundw
                      case rel => exact ⟨k + 1, by omega, by go_num, ⟨by rw [HTK.out]; exact HR6.out⟩, HB6⟩
                      case measure => simp [intOf]; omega
                    · obtain rfl : k = l6.length := by omega
                      rw [List.take_length] at HLE HCS hln ⊢
                      have d0 : decide ((l6.length : Int) < l6.length) = false := decide_eq_false (by omega)
                      clear hR hlt
                      go_wp2_with fail
                      refine bodyPost_ret (results_list (rs := [.tmp 8, .tmp 9, .tmp 10, .tmp 11]) rfl (by simp) (.tmp (.tmp (.tmp (.tmp .nil))))) rfl ?_
                      exact evald_some HE3.out (by rw [List.length_map]) (by rw [List.length_map]) (by first | exact HLE11.out | (have := HLE11.out; rwa [List.length_map] at this)) (by first | exact HLE.out | (have := HLE.out; rwa [List.length_map] at this)) (Kd.C_below HCS11.out hB.out) HCS.out (below_then HRr.out HRr.out.size hBw.out)
end Go.Proofs.Ytjkjbfhhfdbnoaa.NW
