/- runner.out: what is in registers. -/
import Derived.Test.YtjkjbfhhfdbnoaaTa
namespace Go.Proofs.Ytjkjbfhhfdbnoaa.NW
open Go.RowKit Go.Proofs.YtjkjbfhhfdbnoaaW.PrintWords Go.Proofs.YtjkjbfhhfdbnoaaW.PrintMore Go.Proofs.Ytjkjbfhhfdbnoaa.PB
set_option linter.unusedVariables false
set_option linter.unusedSimpArgs false
set_option maxHeartbeats 1600000 in
set_option maxRecDepth 1000000 in
theorem out_calls {gr rb cr : Nat} {r : List S37} {W : World} {u1 u2 u3 : Value} (hb : W.heap[rb]? = some (.cells #[.slice (some ⟨gr, 0, none⟩) r.length cr, u1, u2, u3] 84 (0, 0))) (hr : k37.C W (some ⟨gr, 0, none⟩) r.length r) (A : Option Addr) (c : Nat) (l : List Int) (hC : (Kd.int .i64).C W A l.length l) (hl : l.length ≤ 4096) (hin : ∀ n ∈ l, 0 ≤ n ∧ n < (r.length : Int)) :
    Calls Try.prog 59 #[.pointer (some ⟨rb, 0, none⟩), .slice A l.length c] W fun e w' => ∃ v, e = .returned v ∧ Kd.R k37 37 w' W.heap.size (fun _ => True) v (l.map (rd_T37 r)) ∧ Below W.heap.size W w' := by
  have HBK := Aside0.mk hb
  have HRR := Aside0.mk hr
  have HC := Aside0.mk hC
  have HIN := Aside0.mk hin
  have hm := Kd.C_max hr
  obtain ⟨i0, hi0, hzz⟩ := Option.map_eq_some_iff.1 info37
  simp only [Prod.mk.injEq] at hzz
  obtain ⟨wm, hrun, hown, hgm⟩ := run_make_own (P := Try.prog) W W.heap.size 26 37 i0 _ 3 Try.underlying26 hi0 hzz.1 hzz.2.1 .i64 .i64 l.length (by rw [hzz.2.2]; omega) (by unfold maxLen; omega) (Nat.le_refl _)
  have HBm := Aside0.mk (show Below W.heap.size W wm from ⟨hgm.os, hgm.tape, hgm.output, hgm.size, fun k hk => hgm.block k hk (by simp)⟩)
  have HOm := Aside0.mk (show Kd.R k37 37 wm W.heap.size (fun _ => True) (.slice (some ⟨W.heap.size, 0, none⟩) 0 l.length) [] from ⟨fun _ _ => trivial, [], hown, Reps.none _ _⟩)
  clear hb hr hC hin hown hgm hi0 hzz
  go_enter Try.func59, Try.ntmps59
  go_upto_region 3 with fail
  clear hrun
  go_loopw [5, 13] (fun v i wx => ∃ k : Nat, k ≤ l.length ∧ i = .int .i64 k ∧ Aside0 (Kd.R k37 37 wx W.heap.size (fun _ => True) v ((l.take k).map (rd_T37 r))) ∧ Aside0 (Below W.heap.size W wx)) (fun _ i _ => l.length - (intOf i).toNat)
  case atStart => exact ⟨0, by omega, rfl, ⟨by rw [List.take_zero, List.map_nil]; exact HOm.out⟩, HBm⟩
  case round =>
    obtain ⟨k, hk, rfl, hR, hB⟩ := hrel
    obtain ⟨B, b, rfl, hle, hCr⟩ := Kd.R_reads hR.out
    have HLE := Aside0.mk hle
    have HCS := Aside0.mk hCr
    clear hle hCr
    have k0 := (blk_cell (blk_below HBK.out hB.out) 0).trans rfl
    have hln : ((l.take k).map (rd_T37 r)).length = k := by rw [List.length_map, List.length_take]; omega
    by_cases hlt : k < l.length
    · obtain ⟨ad, e, e0⟩ := Kd.at_int (Kd.C_below HC.out hB.out) (k : Int) (by omega) (by omega)
      subst e
      have hq : rd l (k : Int) = l[k] := by
        rw [rd, List.getD_eq_getElem?_getD, show ((k : Int).toNat) = k by omega, List.getElem?_eq_getElem hlt]; rfl
      rw [show ((k : Int).toNat) = k by omega, hq] at e0
      obtain ⟨n0, n1⟩ := HIN.out l[k] (List.getElem_mem hlt)
      have htk : (l.take (k + 1)).map (rd_T37 r) = (l.take k).map (rd_T37 r) ++ [rd_T37 r l[k]] := by
        rw [List.take_add_one, List.getElem?_eq_getElem hlt, List.map_append]; rfl
      generalize l[k] = n at e0 n0 n1 htk
      clear hq
      obtain ⟨ag, eg, g0, g1, g2⟩ := at_T37 (Kd.C_below HRR.out hB.out) n n0 n1
      injection eg with eg
      subst eg
      rw [add_plain] at g0 g1 g2
      generalize rd_T37 r n = u at g0 g1 g2 htk
      have HTK := Aside0.mk htk
      have d0 : decide ((k : Int) < l.length) = true := decide_eq_true (by omega)
      clear htk
      generalize hll : (l.take k).map (rd_T37 r) = ll at hR HLE HCS hln HTK ⊢
      clear hll
      go_wp2_with ((with_reducible refine gate_builtin (b := .append) (xs := #[.tmp 17, .tmp 25]) rfl ?_); at_builtin; go_loud (refine Kd.R_append (w0 := W) k37 W.heap.size rfl (.tmp 17) (.tmp 25) 26 37 (.agg #[(.int .u8 0), (.int .i64 0), (.string ⟨#[]⟩)]) 32 rfl Try.underlying26 info37 rfl (by decide) (by decide) (.slice B ll.length b) ll u [.int .u8 u.f0, .int .i64 u.f1, .string u.f2] (fun _ => True) (fun _ => False) rfl rfl ?dP (fun _ h => h.elim) ?dF ?dO ?dB ?dS ?dL ?_; (case dP => exact k37_mkM _ _ _ u); (case dF => exact fun _ _ => trivial); (case dO => exact hR.out); (case dB => exact hB.out); (case dS => exact hB.out.size); (case dL => omega); intro v1 w16 hr6 hb6 hg6 ha6; have HR6 := Aside0.mk hr6; have HB6 := Aside0.mk hb6; clear hr6 hb6 hg6 ha6))
      go_roundw
      case rel => exact ⟨k + 1, by omega, by go_num, ⟨by rw [HTK.out]; exact HR6.out⟩, HB6⟩
      case measure => simp [intOf]; omega
    · obtain rfl : k = l.length := by omega
      rw [List.take_length] at HLE HCS hln ⊢
      have d0 : decide ((l.length : Int) < l.length) = false := decide_eq_false (by omega)
      have hro := hR.out
      rw [List.take_length] at hro
      have HRO := Aside0.mk hro
      clear hR hlt hln hro
      go_wp2_with fail
      go_ret
      exact ⟨_, rfl, HRO.out, hB.out⟩
end Go.Proofs.Ytjkjbfhhfdbnoaa.NW
