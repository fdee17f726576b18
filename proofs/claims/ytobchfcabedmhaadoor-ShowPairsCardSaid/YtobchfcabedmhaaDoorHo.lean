/- ShowPairs, walked. -/
import Derived.Test.YtobchfcabedmhaaDoorHn
namespace Go.Proofs.YtobchfcabedmhaaDoor.NW
open Go.RowKit Go.Proofs.YtobchfcabedmhaaDoorW.PrintWords Go.Proofs.YtobchfcabedmhaaDoorW.PrintMore Go.Proofs.YtobchfcabedmhaaDoor.PS
set_option linter.unusedVariables false
set_option linter.unusedSimpArgs false
theorem show_atom {ps : List (S24 × S24)} {f : Nat} {v : S24} (h : v.f0 ≠ 4) : showF ps f v = atomB v [] := by
  rw [showF_eq]; unfold atomB; simp [h]
theorem shown_pair {a b : S24} (ha : a.f0 ≠ 4) (hb : b.f0 ≠ 4) : (⟨(showF [(a, b)] 6 ⟨4, 0, ⟨#[]⟩⟩).toArray⟩ : ByteArray) = ((((⟨#[40]⟩ : ByteArray) ++ ⟨(showF [(a, b)] 6 a).toArray⟩) ++ ⟨#[32, 46, 32]⟩) ++ ⟨(showF [] 6 b).toArray⟩) ++ ⟨#[41]⟩ := by
  rw [show (⟨#[40]⟩ : ByteArray) = ⟨[40].toArray⟩ from rfl, show (⟨#[32, 46, 32]⟩ : ByteArray) = ⟨[32, 46, 32].toArray⟩ from rfl, show (⟨#[41]⟩ : ByteArray) = ⟨[41].toArray⟩ from rfl, bytes_app, bytes_app, bytes_app, bytes_app]
  rw [showF_eq, show_atom ha, show_atom hb]
  have hp : pairAt [(a, b)] 0 = some (a, b) := by simp [pairAt]
  show (⟨(prB [(a, b)] 6 0).toArray⟩ : ByteArray) = _
  rw [prB_succ, hp]
  dsimp only
  rw [show_atom ha, show_atom hb]
set_option maxHeartbeats 3200000 in
set_option maxRecDepth 1000000 in
theorem showPairs_calls (a b : S24) (w : World) (hP : PowOk w) (ha0 : 0 ≤ a.f0) (ha1 : -9223372036854775808 ≤ a.f1 ∧ a.f1 ≤ 9223372036854775807) (hb0 : 0 ≤ b.f0) (hb1 : -9223372036854775808 ≤ b.f1 ∧ b.f1 ≤ 9223372036854775807) :
    Calls Tryd.prog 5 #[.agg #[.int .u8 a.f0, .int .i64 a.f1, .string a.f2], .agg #[.int .u8 b.f0, .int .i64 b.f1, .string b.f2]] w fun e w' => e = .returned (.bool true) ∧ Below w.heap.size w w' := by
  have HP := Aside0.mk hP
  have HGA := Aside0.mk (fun h : May a => h.good ha0 ha1)
  have HGB := Aside0.mk (fun h : May b => h.good hb0 hb1)
  have hba := below_alloc (below_alloc (Below.refl w.heap.size w) (.cells #[.int .u8 a.f0, .int .i64 a.f1, .string a.f2] 24)) (.cells #[.int .u8 b.f0, .int .i64 b.f1, .string b.f2] 24)
  have HI := Aside0.mk (blk_alloc (blk_new w (.cells #[.int .u8 a.f0, .int .i64 a.f1, .string a.f2] 24)) (.cells #[.int .u8 b.f0, .int .i64 b.f1, .string b.f2] 24))
  have HJ := Aside0.mk (blk_new2 w (.cells #[.int .u8 a.f0, .int .i64 a.f1, .string a.f2] 24) (.cells #[.int .u8 b.f0, .int .i64 b.f1, .string b.f2] 24))
  have HB := Aside0.mk hba
  clear hba hP ha0 ha1 hb0 hb1
  go_enter Tryd.func5, Tryd.ntmps5
  go_upto_region 1 with fail
  generalize ((w.alloc _).alloc _) = w1 at HI HJ HB ⊢
  generalize w.heap.size + 1 = gb at HJ ⊢
  generalize hga : w.heap.size = ga at HI ⊢
  have HGE := Aside0.mk hga
  clear hga
  have c0 := (blk_cell HI.out 0).trans rfl
  have c1 := (blk_cell HI.out 1).trans rfl
  have c2 := (blk_cell HI.out 2).trans rfl
  have e0 := (blk_cell HJ.out 0).trans rfl
  have e1 := (blk_cell HJ.out 1).trans rfl
  have e2 := (blk_cell HJ.out 2).trans rfl
  go_cut [35] (fun v wx => ∃ bad, v = .bool bad ∧ Aside0 (Below w1.heap.size w1 wx) ∧ Aside0 (bad = false → May a ∧ May b ∧ a.f0 ≠ 4 ∧ b.f0 ≠ 4 ∧ a.f2.size + b.f2.size ≤ 1000))
  case first =>
    have L1 := HI.out
    have HMA := Aside0.mk (may_calls a w1)
    by_cases h4 : a.f0 = 4
    · have z4 : (a.f0 == 4) = true := by simpa using h4
      clear h4
      go_wp2_with (first
        | (go_at_call 10; (with_reducible refine HMA.out.mono ?_); rintro e w2 ⟨ba, rfl, hma, hb2⟩; have HB2 := Aside0.mk hb2; have HMB := Aside0.mk (may_calls b w2); have x0 := (blk_cell (blk_below HI.out hb2) 0).trans rfl; have x1 := (blk_cell (blk_below HI.out hb2) 1).trans rfl; have x2 := (blk_cell (blk_below HI.out hb2) 2).trans rfl; have y0 := (blk_cell (blk_below HJ.out hb2) 0).trans rfl; have y1 := (blk_cell (blk_below HJ.out hb2) 1).trans rfl; have y2 := (blk_cell (blk_below HJ.out hb2) 2).trans rfl; clear hb2; cases ba; rotate_left; have HA := Aside0.mk (hma rfl); have hza := (hma rfl).2.2; clear hma)
        | (go_at_call 10; (with_reducible refine HMB.out.mono ?_); rintro e w3 ⟨bb, rfl, hmb, hb3⟩; have HB3 := Aside0.mk (below_then HB2.out HB2.out.size hb3); have x0 := (blk_cell (blk_below HI.out HB3.out) 0).trans rfl; have x1 := (blk_cell (blk_below HI.out HB3.out) 1).trans rfl; have x2 := (blk_cell (blk_below HI.out HB3.out) 2).trans rfl; have y0 := (blk_cell (blk_below HJ.out HB3.out) 0).trans rfl; have y1 := (blk_cell (blk_below HJ.out HB3.out) 1).trans rfl; have y2 := (blk_cell (blk_below HJ.out HB3.out) 2).trans rfl; clear hb3; cases bb; rotate_left; have HBB := Aside0.mk (hmb rfl); have hzb := (hmb rfl).2.2; clear hmb))
      all_goals
        go_meet
        case rel => first | exact ⟨true, rfl, HB3, ⟨fun h => absurd h (by decide)⟩⟩ | exact ⟨true, rfl, HB2, ⟨fun h => absurd h (by decide)⟩⟩
    have z4 : (a.f0 == 4) = false := by simpa using h4
    by_cases h5 : b.f0 = 4
    · have z5 : (b.f0 == 4) = true := by simpa using h5
      clear h4 h5
      go_wp2_with (first
        | (go_at_call 10; (with_reducible refine HMA.out.mono ?_); rintro e w2 ⟨ba, rfl, hma, hb2⟩; have HB2 := Aside0.mk hb2; have HMB := Aside0.mk (may_calls b w2); have x0 := (blk_cell (blk_below HI.out hb2) 0).trans rfl; have x1 := (blk_cell (blk_below HI.out hb2) 1).trans rfl; have x2 := (blk_cell (blk_below HI.out hb2) 2).trans rfl; have y0 := (blk_cell (blk_below HJ.out hb2) 0).trans rfl; have y1 := (blk_cell (blk_below HJ.out hb2) 1).trans rfl; have y2 := (blk_cell (blk_below HJ.out hb2) 2).trans rfl; clear hb2; cases ba; rotate_left; have HA := Aside0.mk (hma rfl); have hza := (hma rfl).2.2; clear hma)
        | (go_at_call 10; (with_reducible refine HMB.out.mono ?_); rintro e w3 ⟨bb, rfl, hmb, hb3⟩; have HB3 := Aside0.mk (below_then HB2.out HB2.out.size hb3); have x0 := (blk_cell (blk_below HI.out HB3.out) 0).trans rfl; have x1 := (blk_cell (blk_below HI.out HB3.out) 1).trans rfl; have x2 := (blk_cell (blk_below HI.out HB3.out) 2).trans rfl; have y0 := (blk_cell (blk_below HJ.out HB3.out) 0).trans rfl; have y1 := (blk_cell (blk_below HJ.out HB3.out) 1).trans rfl; have y2 := (blk_cell (blk_below HJ.out HB3.out) 2).trans rfl; clear hb3; cases bb; rotate_left; have HBB := Aside0.mk (hmb rfl); have hzb := (hmb rfl).2.2; clear hmb))
      all_goals
        go_meet
        case rel => first | exact ⟨true, rfl, HB3, ⟨fun h => absurd h (by decide)⟩⟩ | exact ⟨true, rfl, HB2, ⟨fun h => absurd h (by decide)⟩⟩
    have z5 : (b.f0 == 4) = false := by simpa using h5
    have HN4 := Aside0.mk h4
    have HN5 := Aside0.mk h5
    clear h4 h5
    by_cases h6 : a.f2.size + b.f2.size ≤ 1000
    · have z6 : decide ((1000 : Int) < (a.f2.size : Int) + b.f2.size) = false := decide_eq_false (by omega)
      have HN6 := Aside0.mk h6
      clear h6
      go_wp2_with (first
        | (go_at_call 10; (with_reducible refine HMA.out.mono ?_); rintro e w2 ⟨ba, rfl, hma, hb2⟩; have HB2 := Aside0.mk hb2; have HMB := Aside0.mk (may_calls b w2); have x0 := (blk_cell (blk_below HI.out hb2) 0).trans rfl; have x1 := (blk_cell (blk_below HI.out hb2) 1).trans rfl; have x2 := (blk_cell (blk_below HI.out hb2) 2).trans rfl; have y0 := (blk_cell (blk_below HJ.out hb2) 0).trans rfl; have y1 := (blk_cell (blk_below HJ.out hb2) 1).trans rfl; have y2 := (blk_cell (blk_below HJ.out hb2) 2).trans rfl; clear hb2; cases ba; rotate_left; have HA := Aside0.mk (hma rfl); have hza := (hma rfl).2.2; clear hma)
        | (go_at_call 10; (with_reducible refine HMB.out.mono ?_); rintro e w3 ⟨bb, rfl, hmb, hb3⟩; have HB3 := Aside0.mk (below_then HB2.out HB2.out.size hb3); have x0 := (blk_cell (blk_below HI.out HB3.out) 0).trans rfl; have x1 := (blk_cell (blk_below HI.out HB3.out) 1).trans rfl; have x2 := (blk_cell (blk_below HI.out HB3.out) 2).trans rfl; have y0 := (blk_cell (blk_below HJ.out HB3.out) 0).trans rfl; have y1 := (blk_cell (blk_below HJ.out HB3.out) 1).trans rfl; have y2 := (blk_cell (blk_below HJ.out HB3.out) 2).trans rfl; clear hb3; cases bb; rotate_left; have HBB := Aside0.mk (hmb rfl); have hzb := (hmb rfl).2.2; clear hmb))
      all_goals
        go_meet
        case rel => first | exact ⟨true, rfl, HB3, ⟨fun h => absurd h (by decide)⟩⟩ | exact ⟨true, rfl, HB2, ⟨fun h => absurd h (by decide)⟩⟩ | exact ⟨false, rfl, HB3, ⟨fun _ => ⟨HA.out, HBB.out, HN4.out, HN5.out, HN6.out⟩⟩⟩
    · have z6 : decide ((1000 : Int) < (a.f2.size : Int) + b.f2.size) = true := decide_eq_true (by omega)
      clear h6
      go_wp2_with (first
        | (go_at_call 10; (with_reducible refine HMA.out.mono ?_); rintro e w2 ⟨ba, rfl, hma, hb2⟩; have HB2 := Aside0.mk hb2; have HMB := Aside0.mk (may_calls b w2); have x0 := (blk_cell (blk_below HI.out hb2) 0).trans rfl; have x1 := (blk_cell (blk_below HI.out hb2) 1).trans rfl; have x2 := (blk_cell (blk_below HI.out hb2) 2).trans rfl; have y0 := (blk_cell (blk_below HJ.out hb2) 0).trans rfl; have y1 := (blk_cell (blk_below HJ.out hb2) 1).trans rfl; have y2 := (blk_cell (blk_below HJ.out hb2) 2).trans rfl; clear hb2; cases ba; rotate_left; have HA := Aside0.mk (hma rfl); have hza := (hma rfl).2.2; clear hma)
        | (go_at_call 10; (with_reducible refine HMB.out.mono ?_); rintro e w3 ⟨bb, rfl, hmb, hb3⟩; have HB3 := Aside0.mk (below_then HB2.out HB2.out.size hb3); have x0 := (blk_cell (blk_below HI.out HB3.out) 0).trans rfl; have x1 := (blk_cell (blk_below HI.out HB3.out) 1).trans rfl; have x2 := (blk_cell (blk_below HI.out HB3.out) 2).trans rfl; have y0 := (blk_cell (blk_below HJ.out HB3.out) 0).trans rfl; have y1 := (blk_cell (blk_below HJ.out HB3.out) 1).trans rfl; have y2 := (blk_cell (blk_below HJ.out HB3.out) 2).trans rfl; clear hb3; cases bb; rotate_left; have HBB := Aside0.mk (hmb rfl); have hzb := (hmb rfl).2.2; clear hmb))
      all_goals
        go_meet
        case rel => first | exact ⟨true, rfl, HB3, ⟨fun h => absurd h (by decide)⟩⟩ | exact ⟨true, rfl, HB2, ⟨fun h => absurd h (by decide)⟩⟩
  case rest =>
    obtain ⟨bad, rfl, HB2, HM⟩ := hcut
    cases bad with
    | true =>
      go_wp2_with (first | (go_at_call 8; (with_reducible refine (awake_calls _ (HP.out.below (below_then HB.out HB.out.size HB2.out))).mono ?_); rintro e w8 ⟨rfl, hb8⟩; have HB8 := Aside0.mk hb8; clear hb8))
      go_ret
      exact ⟨rfl, below_then HB.out HB.out.size (below_then HB2.out HB2.out.size HB8.out)⟩
    | false =>
      obtain ⟨hma, hmb, hn4, hn5, hn6⟩ := HM.out rfl
      have HSZ := Aside0.mk hn6
      have HSP := Aside0.mk (shown_pair hn4 hn5)
      have hga := HGA.out hma
      have hgb := HGB.out hmb
      have HA := Aside0.mk hga
      have HBG := Aside0.mk hgb
      have hla := show_len (ps := [(a, b)]) (fun p hp => by simp at hp; subst hp; exact ⟨hga, hgb⟩) 6 a hga
      have hlb := show_len (ps := []) (fun p hp => by cases hp) 6 b hgb
      clear hma hmb hn4 hn5 hn6 HM HGA HGB hga hgb
      have HB02 := Aside0.mk (below_then HB.out HB.out.size HB2.out)
      go_upto_region 4 with (first | (go_at_call 9; (refine Calls.mono (New_any _ 5 wc.heap.size (Nat.le_refl _) (by decide)) ?_); rintro e w2 ⟨rfl, hb1, hs1, H1⟩))
      have HH1 := Aside0.mk (show HpIs w2 wc.heap.size wc.heap.size [] 5 from ⟨by decide, _, by have h := H1; rw [show (min (max 5 0) 1048576 : Int) = 5 by omega] at h; exact h⟩)
      have HBN := Aside0.mk hb1
      clear H1 hb1 hs1
      have HI2 := Aside0.mk (blk_below (blk_below HI.out HB2.out) HBN.out)
      have HJ2 := Aside0.mk (blk_below (blk_below HJ.out HB2.out) HBN.out)
      clear c0 c1 c2 e0 e1 e2
      have c0 := (blk_cell HI2.out 0).trans rfl
      have c1 := (blk_cell HI2.out 1).trans rfl
      have c2 := (blk_cell HI2.out 2).trans rfl
      have e0 := (blk_cell HJ2.out 0).trans rfl
      have e1 := (blk_cell HJ2.out 1).trans rfl
      have e2 := (blk_cell HJ2.out 2).trans rfl
      go_upto_region 5 with (first | (go_at_call 11; (with_reducible refine (pairUp_calls HH1.out (by decide) (Nat.le_refl _) a b).mono ?_); rintro e w3 ⟨rfl, hh3, hb3, hk3⟩; have HH3 := Aside0.mk hh3; have HB3 := Aside0.mk (HBN.out.trans hb3); have HK3 := Aside0.mk hk3; clear hh3 hb3 hk3))
      have hlta : ga < w2.heap.size := blk_lt HI2.out
      have hltb : gb < w2.heap.size := blk_lt HJ2.out
      have hga1 : ga ≠ wc.heap.size := by have := blk_lt (blk_below HI.out HB2.out); omega
      have hgb1 : gb ≠ wc.heap.size := by have := blk_lt (blk_below HJ.out HB2.out); omega
      have HI3 := (HK3.out ga hlta hga1 (fun c d h => by rw [HI2.out] at h; simp only [Option.some.injEq, Obj.cells.injEq] at h; obtain ⟨_, rfl, _⟩ := h; decide)).trans HI2.out
      have HJ3 := (HK3.out gb hltb hgb1 (fun c d h => by rw [HJ2.out] at h; simp only [Option.some.injEq, Obj.cells.injEq] at h; obtain ⟨_, rfl, _⟩ := h; decide)).trans HJ2.out
      have hB3 := below_then HB02.out HB02.out.size HB3.out
      have hN := blk_new w3 (.cells #[.int .u8 4, .int .i64 0, .string ⟨#[]⟩] 24)
      have hba := below_alloc (Below.refl w3.heap.size w3) (.cells #[.int .u8 4, .int .i64 0, .string ⟨#[]⟩] 24)
      have hI4 := blk_below HI3 hba
      have hJ4 := blk_below HJ3 hba
      have HH4 := Aside0.mk (HH3.out.below hba)
      have HB4 := Aside0.mk (below_then hB3 hB3.size hba)
      clear HI3 HJ3 hlta hltb hga1 hgb1 c0 c1 c2 e0 e1 e2 hB3 hba
      generalize w3.alloc _ = w4 at hN hI4 hJ4 HH4 HB4 ⊢
      generalize w3.heap.size = gp at hN ⊢
      generalize wc.heap.size = gh at HH4 ⊢
      have HP4 := Aside0.mk (HP.out.below HB4.out)
      have S4 : w4.cell? ⟨ga, 0, none⟩ = some (.int .u8 a.f0) ∧ w4.cell? ⟨ga, 1, none⟩ = some (.int .i64 a.f1) ∧ w4.cell? ⟨ga, 2, none⟩ = some (.string a.f2) ∧ w4.cell? ⟨gb, 0, none⟩ = some (.int .u8 b.f0) ∧ w4.cell? ⟨gb, 1, none⟩ = some (.int .i64 b.f1) ∧ w4.cell? ⟨gb, 2, none⟩ = some (.string b.f2) ∧ w4.cell? ⟨gp, 0, none⟩ = some (.int .u8 4) ∧ w4.cell? ⟨gp, 1, none⟩ = some (.int .i64 0) ∧ w4.cell? ⟨gp, 2, none⟩ = some (.string ⟨#[]⟩) := ⟨(blk_cell hI4 0).trans rfl, (blk_cell hI4 1).trans rfl, (blk_cell hI4 2).trans rfl, (blk_cell hJ4 0).trans rfl, (blk_cell hJ4 1).trans rfl, (blk_cell hJ4 2).trans rfl, (blk_cell hN 0).trans rfl, (blk_cell hN 1).trans rfl, (blk_cell hN 2).trans rfl⟩
      clear hN hI4 hJ4
      have hps : ∀ p ∈ ([] ++ [(a, b)] : List (S24 × S24)), Good p.1 ∧ Good p.2 := fun p hp => by simp at hp; subst hp; exact ⟨HA.out, HBG.out⟩
      have HSPq := Aside0.mk (show ∀ W, Below w4.heap.size w4 W → Calls Tryd.prog 12 #[.iface 26 (.pointer (some ⟨gh, 0, none⟩)), .agg #[.int .u8 4, .int .i64 0, .string ⟨#[]⟩]] W fun e w' => e = .returned (.string ⟨(showF [(a, b)] 6 ⟨4, 0, ⟨#[]⟩⟩).toArray⟩) ∧ Below W.heap.size W w' from fun W hW =>
        show_calls (HP4.out.below hW) hps (HH4.out.below hW).ok rfl ⟨4, 0, ⟨#[]⟩⟩ ⟨(by decide : (0 : Int) ≤ 4), ⟨(by decide : (-9223372036854775808 : Int) ≤ 0), (by decide : (0 : Int) ≤ 9223372036854775807)⟩, (by decide : (⟨#[]⟩ : ByteArray).size ≤ 65536), fun _ => rfl⟩)
      have HSAq := Aside0.mk (show ∀ W, Below w4.heap.size w4 W → Calls Tryd.prog 12 #[.iface 26 (.pointer (some ⟨gh, 0, none⟩)), .agg #[.int .u8 a.f0, .int .i64 a.f1, .string a.f2]] W fun e w' => e = .returned (.string ⟨(showF [(a, b)] 6 a).toArray⟩) ∧ Below W.heap.size W w' from fun W hW =>
        show_calls (HP4.out.below hW) hps (HH4.out.below hW).ok rfl a HA.out)
      have HSBq := Aside0.mk (show ∀ W, Below w4.heap.size w4 W → Calls Tryd.prog 12 #[.nilIface, .agg #[.int .u8 b.f0, .int .i64 b.f1, .string b.f2]] W fun e w' => e = .returned (.string ⟨(showF [] 6 b).toArray⟩) ∧ Below W.heap.size W w' from fun W hW =>
        show_calls (hv := .nilIface) (HP4.out.below hW) (fun p hp => by cases hp) (.inl ⟨rfl, rfl⟩) rfl b HBG.out)
      have hsp := HSPq.out
      rw [HSP.out] at hsp
      have HSPZ := Aside0.mk hsp
      clear hsp HSPq HSP hps
      have hsa : (⟨(showF [(a, b)] 6 a).toArray⟩ : ByteArray).size ≤ 40000000 := by rw [bytes_size]; omega
      have hsb : (⟨(showF [] 6 b).toArray⟩ : ByteArray).size ≤ 40000000 := by rw [bytes_size]; omega
      clear hla hlb
      generalize (⟨(showF [(a, b)] 6 a).toArray⟩ : ByteArray) = SA at HSAq HSPZ hsa
      generalize (⟨(showF [] 6 b).toArray⟩ : ByteArray) = SB at HSBq HSPZ hsb
      have z1 : ¬ 9223372036854775807 < 1 + SA.size := by omega
      have z2 : ¬ 9223372036854775807 < 1 + SA.size + 3 := by omega
      have z3 : ¬ 9223372036854775807 < 1 + SA.size + 3 + SB.size := by omega
      have z4 : ¬ 9223372036854775807 < 1 + SA.size + 3 + SB.size + 1 := by omega
      have HSA := HSAq
      have HSB := HSBq
      have HSP := HSPZ
      go_region_held3 (fun W' => W'.cell? ⟨ga, 0, none⟩ = some (.int .u8 a.f0) ∧ W'.cell? ⟨ga, 1, none⟩ = some (.int .i64 a.f1) ∧ W'.cell? ⟨ga, 2, none⟩ = some (.string a.f2) ∧ W'.cell? ⟨gb, 0, none⟩ = some (.int .u8 b.f0) ∧ W'.cell? ⟨gb, 1, none⟩ = some (.int .i64 b.f1) ∧ W'.cell? ⟨gb, 2, none⟩ = some (.string b.f2) ∧ W'.cell? ⟨gp, 0, none⟩ = some (.int .u8 4) ∧ W'.cell? ⟨gp, 1, none⟩ = some (.int .i64 0) ∧ W'.cell? ⟨gp, 2, none⟩ = some (.string ⟨#[]⟩)) (first | exact S4 | exact S5 | exact S6 | exact S7 | exact S8 | fail)
    (first
    | (go_at_call 12; (with_reducible refine (HSP.out w4.drew (below_drew (Below.refl _ w4))).mono ?_); rintro e w5 ⟨rfl, hbn⟩; have HB5 := Aside0.mk ((below_drew (Below.refl w4.heap.size w4)).trans hbn); have S5 : w5.cell? ⟨ga, 0, none⟩ = some (.int .u8 a.f0) ∧ w5.cell? ⟨ga, 1, none⟩ = some (.int .i64 a.f1) ∧ w5.cell? ⟨ga, 2, none⟩ = some (.string a.f2) ∧ w5.cell? ⟨gb, 0, none⟩ = some (.int .u8 b.f0) ∧ w5.cell? ⟨gb, 1, none⟩ = some (.int .i64 b.f1) ∧ w5.cell? ⟨gb, 2, none⟩ = some (.string b.f2) ∧ w5.cell? ⟨gp, 0, none⟩ = some (.int .u8 4) ∧ w5.cell? ⟨gp, 1, none⟩ = some (.int .i64 0) ∧ w5.cell? ⟨gp, 2, none⟩ = some (.string ⟨#[]⟩) := (by exact ⟨(hbn.cell (World.block_lt_of_cell? _ _ S4.1)).trans S4.1, (hbn.cell (World.block_lt_of_cell? _ _ S4.2.1)).trans S4.2.1, (hbn.cell (World.block_lt_of_cell? _ _ S4.2.2.1)).trans S4.2.2.1, (hbn.cell (World.block_lt_of_cell? _ _ S4.2.2.2.1)).trans S4.2.2.2.1, (hbn.cell (World.block_lt_of_cell? _ _ S4.2.2.2.2.1)).trans S4.2.2.2.2.1, (hbn.cell (World.block_lt_of_cell? _ _ S4.2.2.2.2.2.1)).trans S4.2.2.2.2.2.1, (hbn.cell (World.block_lt_of_cell? _ _ S4.2.2.2.2.2.2.1)).trans S4.2.2.2.2.2.2.1, (hbn.cell (World.block_lt_of_cell? _ _ S4.2.2.2.2.2.2.2.1)).trans S4.2.2.2.2.2.2.2.1, (hbn.cell (World.block_lt_of_cell? _ _ S4.2.2.2.2.2.2.2.2)).trans S4.2.2.2.2.2.2.2.2⟩); clear hbn)
    | (go_at_call 12; (with_reducible refine (HSP.out w5 HB5.out).mono ?_); rintro e w6 ⟨rfl, hbn⟩; have HB6 := Aside0.mk (below_then HB5.out HB5.out.size hbn); have S6 : w6.cell? ⟨ga, 0, none⟩ = some (.int .u8 a.f0) ∧ w6.cell? ⟨ga, 1, none⟩ = some (.int .i64 a.f1) ∧ w6.cell? ⟨ga, 2, none⟩ = some (.string a.f2) ∧ w6.cell? ⟨gb, 0, none⟩ = some (.int .u8 b.f0) ∧ w6.cell? ⟨gb, 1, none⟩ = some (.int .i64 b.f1) ∧ w6.cell? ⟨gb, 2, none⟩ = some (.string b.f2) ∧ w6.cell? ⟨gp, 0, none⟩ = some (.int .u8 4) ∧ w6.cell? ⟨gp, 1, none⟩ = some (.int .i64 0) ∧ w6.cell? ⟨gp, 2, none⟩ = some (.string ⟨#[]⟩) := (by exact ⟨(hbn.cell (World.block_lt_of_cell? _ _ S5.1)).trans S5.1, (hbn.cell (World.block_lt_of_cell? _ _ S5.2.1)).trans S5.2.1, (hbn.cell (World.block_lt_of_cell? _ _ S5.2.2.1)).trans S5.2.2.1, (hbn.cell (World.block_lt_of_cell? _ _ S5.2.2.2.1)).trans S5.2.2.2.1, (hbn.cell (World.block_lt_of_cell? _ _ S5.2.2.2.2.1)).trans S5.2.2.2.2.1, (hbn.cell (World.block_lt_of_cell? _ _ S5.2.2.2.2.2.1)).trans S5.2.2.2.2.2.1, (hbn.cell (World.block_lt_of_cell? _ _ S5.2.2.2.2.2.2.1)).trans S5.2.2.2.2.2.2.1, (hbn.cell (World.block_lt_of_cell? _ _ S5.2.2.2.2.2.2.2.1)).trans S5.2.2.2.2.2.2.2.1, (hbn.cell (World.block_lt_of_cell? _ _ S5.2.2.2.2.2.2.2.2)).trans S5.2.2.2.2.2.2.2.2⟩); clear hbn)
    | (go_at_call 12; (with_reducible refine (HSP.out w6 HB6.out).mono ?_); rintro e w7 ⟨rfl, hbn⟩; have HB7 := Aside0.mk (below_then HB6.out HB6.out.size hbn); have S7 : w7.cell? ⟨ga, 0, none⟩ = some (.int .u8 a.f0) ∧ w7.cell? ⟨ga, 1, none⟩ = some (.int .i64 a.f1) ∧ w7.cell? ⟨ga, 2, none⟩ = some (.string a.f2) ∧ w7.cell? ⟨gb, 0, none⟩ = some (.int .u8 b.f0) ∧ w7.cell? ⟨gb, 1, none⟩ = some (.int .i64 b.f1) ∧ w7.cell? ⟨gb, 2, none⟩ = some (.string b.f2) ∧ w7.cell? ⟨gp, 0, none⟩ = some (.int .u8 4) ∧ w7.cell? ⟨gp, 1, none⟩ = some (.int .i64 0) ∧ w7.cell? ⟨gp, 2, none⟩ = some (.string ⟨#[]⟩) := (by exact ⟨(hbn.cell (World.block_lt_of_cell? _ _ S6.1)).trans S6.1, (hbn.cell (World.block_lt_of_cell? _ _ S6.2.1)).trans S6.2.1, (hbn.cell (World.block_lt_of_cell? _ _ S6.2.2.1)).trans S6.2.2.1, (hbn.cell (World.block_lt_of_cell? _ _ S6.2.2.2.1)).trans S6.2.2.2.1, (hbn.cell (World.block_lt_of_cell? _ _ S6.2.2.2.2.1)).trans S6.2.2.2.2.1, (hbn.cell (World.block_lt_of_cell? _ _ S6.2.2.2.2.2.1)).trans S6.2.2.2.2.2.1, (hbn.cell (World.block_lt_of_cell? _ _ S6.2.2.2.2.2.2.1)).trans S6.2.2.2.2.2.2.1, (hbn.cell (World.block_lt_of_cell? _ _ S6.2.2.2.2.2.2.2.1)).trans S6.2.2.2.2.2.2.2.1, (hbn.cell (World.block_lt_of_cell? _ _ S6.2.2.2.2.2.2.2.2)).trans S6.2.2.2.2.2.2.2.2⟩); clear hbn)
    | (go_at_call 12; (with_reducible refine (HSA.out w4.drew (below_drew (Below.refl _ w4))).mono ?_); rintro e w5 ⟨rfl, hbn⟩; have HB5 := Aside0.mk ((below_drew (Below.refl w4.heap.size w4)).trans hbn); have S5 : w5.cell? ⟨ga, 0, none⟩ = some (.int .u8 a.f0) ∧ w5.cell? ⟨ga, 1, none⟩ = some (.int .i64 a.f1) ∧ w5.cell? ⟨ga, 2, none⟩ = some (.string a.f2) ∧ w5.cell? ⟨gb, 0, none⟩ = some (.int .u8 b.f0) ∧ w5.cell? ⟨gb, 1, none⟩ = some (.int .i64 b.f1) ∧ w5.cell? ⟨gb, 2, none⟩ = some (.string b.f2) ∧ w5.cell? ⟨gp, 0, none⟩ = some (.int .u8 4) ∧ w5.cell? ⟨gp, 1, none⟩ = some (.int .i64 0) ∧ w5.cell? ⟨gp, 2, none⟩ = some (.string ⟨#[]⟩) := (by exact ⟨(hbn.cell (World.block_lt_of_cell? _ _ S4.1)).trans S4.1, (hbn.cell (World.block_lt_of_cell? _ _ S4.2.1)).trans S4.2.1, (hbn.cell (World.block_lt_of_cell? _ _ S4.2.2.1)).trans S4.2.2.1, (hbn.cell (World.block_lt_of_cell? _ _ S4.2.2.2.1)).trans S4.2.2.2.1, (hbn.cell (World.block_lt_of_cell? _ _ S4.2.2.2.2.1)).trans S4.2.2.2.2.1, (hbn.cell (World.block_lt_of_cell? _ _ S4.2.2.2.2.2.1)).trans S4.2.2.2.2.2.1, (hbn.cell (World.block_lt_of_cell? _ _ S4.2.2.2.2.2.2.1)).trans S4.2.2.2.2.2.2.1, (hbn.cell (World.block_lt_of_cell? _ _ S4.2.2.2.2.2.2.2.1)).trans S4.2.2.2.2.2.2.2.1, (hbn.cell (World.block_lt_of_cell? _ _ S4.2.2.2.2.2.2.2.2)).trans S4.2.2.2.2.2.2.2.2⟩); clear hbn)
    | (go_at_call 12; (with_reducible refine (HSA.out w5 HB5.out).mono ?_); rintro e w6 ⟨rfl, hbn⟩; have HB6 := Aside0.mk (below_then HB5.out HB5.out.size hbn); have S6 : w6.cell? ⟨ga, 0, none⟩ = some (.int .u8 a.f0) ∧ w6.cell? ⟨ga, 1, none⟩ = some (.int .i64 a.f1) ∧ w6.cell? ⟨ga, 2, none⟩ = some (.string a.f2) ∧ w6.cell? ⟨gb, 0, none⟩ = some (.int .u8 b.f0) ∧ w6.cell? ⟨gb, 1, none⟩ = some (.int .i64 b.f1) ∧ w6.cell? ⟨gb, 2, none⟩ = some (.string b.f2) ∧ w6.cell? ⟨gp, 0, none⟩ = some (.int .u8 4) ∧ w6.cell? ⟨gp, 1, none⟩ = some (.int .i64 0) ∧ w6.cell? ⟨gp, 2, none⟩ = some (.string ⟨#[]⟩) := (by exact ⟨(hbn.cell (World.block_lt_of_cell? _ _ S5.1)).trans S5.1, (hbn.cell (World.block_lt_of_cell? _ _ S5.2.1)).trans S5.2.1, (hbn.cell (World.block_lt_of_cell? _ _ S5.2.2.1)).trans S5.2.2.1, (hbn.cell (World.block_lt_of_cell? _ _ S5.2.2.2.1)).trans S5.2.2.2.1, (hbn.cell (World.block_lt_of_cell? _ _ S5.2.2.2.2.1)).trans S5.2.2.2.2.1, (hbn.cell (World.block_lt_of_cell? _ _ S5.2.2.2.2.2.1)).trans S5.2.2.2.2.2.1, (hbn.cell (World.block_lt_of_cell? _ _ S5.2.2.2.2.2.2.1)).trans S5.2.2.2.2.2.2.1, (hbn.cell (World.block_lt_of_cell? _ _ S5.2.2.2.2.2.2.2.1)).trans S5.2.2.2.2.2.2.2.1, (hbn.cell (World.block_lt_of_cell? _ _ S5.2.2.2.2.2.2.2.2)).trans S5.2.2.2.2.2.2.2.2⟩); clear hbn)
    | (go_at_call 12; (with_reducible refine (HSA.out w6 HB6.out).mono ?_); rintro e w7 ⟨rfl, hbn⟩; have HB7 := Aside0.mk (below_then HB6.out HB6.out.size hbn); have S7 : w7.cell? ⟨ga, 0, none⟩ = some (.int .u8 a.f0) ∧ w7.cell? ⟨ga, 1, none⟩ = some (.int .i64 a.f1) ∧ w7.cell? ⟨ga, 2, none⟩ = some (.string a.f2) ∧ w7.cell? ⟨gb, 0, none⟩ = some (.int .u8 b.f0) ∧ w7.cell? ⟨gb, 1, none⟩ = some (.int .i64 b.f1) ∧ w7.cell? ⟨gb, 2, none⟩ = some (.string b.f2) ∧ w7.cell? ⟨gp, 0, none⟩ = some (.int .u8 4) ∧ w7.cell? ⟨gp, 1, none⟩ = some (.int .i64 0) ∧ w7.cell? ⟨gp, 2, none⟩ = some (.string ⟨#[]⟩) := (by exact ⟨(hbn.cell (World.block_lt_of_cell? _ _ S6.1)).trans S6.1, (hbn.cell (World.block_lt_of_cell? _ _ S6.2.1)).trans S6.2.1, (hbn.cell (World.block_lt_of_cell? _ _ S6.2.2.1)).trans S6.2.2.1, (hbn.cell (World.block_lt_of_cell? _ _ S6.2.2.2.1)).trans S6.2.2.2.1, (hbn.cell (World.block_lt_of_cell? _ _ S6.2.2.2.2.1)).trans S6.2.2.2.2.1, (hbn.cell (World.block_lt_of_cell? _ _ S6.2.2.2.2.2.1)).trans S6.2.2.2.2.2.1, (hbn.cell (World.block_lt_of_cell? _ _ S6.2.2.2.2.2.2.1)).trans S6.2.2.2.2.2.2.1, (hbn.cell (World.block_lt_of_cell? _ _ S6.2.2.2.2.2.2.2.1)).trans S6.2.2.2.2.2.2.2.1, (hbn.cell (World.block_lt_of_cell? _ _ S6.2.2.2.2.2.2.2.2)).trans S6.2.2.2.2.2.2.2.2⟩); clear hbn)
    | (go_at_call 12; (with_reducible refine (HSB.out w4.drew (below_drew (Below.refl _ w4))).mono ?_); rintro e w5 ⟨rfl, hbn⟩; have HB5 := Aside0.mk ((below_drew (Below.refl w4.heap.size w4)).trans hbn); have S5 : w5.cell? ⟨ga, 0, none⟩ = some (.int .u8 a.f0) ∧ w5.cell? ⟨ga, 1, none⟩ = some (.int .i64 a.f1) ∧ w5.cell? ⟨ga, 2, none⟩ = some (.string a.f2) ∧ w5.cell? ⟨gb, 0, none⟩ = some (.int .u8 b.f0) ∧ w5.cell? ⟨gb, 1, none⟩ = some (.int .i64 b.f1) ∧ w5.cell? ⟨gb, 2, none⟩ = some (.string b.f2) ∧ w5.cell? ⟨gp, 0, none⟩ = some (.int .u8 4) ∧ w5.cell? ⟨gp, 1, none⟩ = some (.int .i64 0) ∧ w5.cell? ⟨gp, 2, none⟩ = some (.string ⟨#[]⟩) := (by exact ⟨(hbn.cell (World.block_lt_of_cell? _ _ S4.1)).trans S4.1, (hbn.cell (World.block_lt_of_cell? _ _ S4.2.1)).trans S4.2.1, (hbn.cell (World.block_lt_of_cell? _ _ S4.2.2.1)).trans S4.2.2.1, (hbn.cell (World.block_lt_of_cell? _ _ S4.2.2.2.1)).trans S4.2.2.2.1, (hbn.cell (World.block_lt_of_cell? _ _ S4.2.2.2.2.1)).trans S4.2.2.2.2.1, (hbn.cell (World.block_lt_of_cell? _ _ S4.2.2.2.2.2.1)).trans S4.2.2.2.2.2.1, (hbn.cell (World.block_lt_of_cell? _ _ S4.2.2.2.2.2.2.1)).trans S4.2.2.2.2.2.2.1, (hbn.cell (World.block_lt_of_cell? _ _ S4.2.2.2.2.2.2.2.1)).trans S4.2.2.2.2.2.2.2.1, (hbn.cell (World.block_lt_of_cell? _ _ S4.2.2.2.2.2.2.2.2)).trans S4.2.2.2.2.2.2.2.2⟩); clear hbn)
    | (go_at_call 12; (with_reducible refine (HSB.out w5 HB5.out).mono ?_); rintro e w6 ⟨rfl, hbn⟩; have HB6 := Aside0.mk (below_then HB5.out HB5.out.size hbn); have S6 : w6.cell? ⟨ga, 0, none⟩ = some (.int .u8 a.f0) ∧ w6.cell? ⟨ga, 1, none⟩ = some (.int .i64 a.f1) ∧ w6.cell? ⟨ga, 2, none⟩ = some (.string a.f2) ∧ w6.cell? ⟨gb, 0, none⟩ = some (.int .u8 b.f0) ∧ w6.cell? ⟨gb, 1, none⟩ = some (.int .i64 b.f1) ∧ w6.cell? ⟨gb, 2, none⟩ = some (.string b.f2) ∧ w6.cell? ⟨gp, 0, none⟩ = some (.int .u8 4) ∧ w6.cell? ⟨gp, 1, none⟩ = some (.int .i64 0) ∧ w6.cell? ⟨gp, 2, none⟩ = some (.string ⟨#[]⟩) := (by exact ⟨(hbn.cell (World.block_lt_of_cell? _ _ S5.1)).trans S5.1, (hbn.cell (World.block_lt_of_cell? _ _ S5.2.1)).trans S5.2.1, (hbn.cell (World.block_lt_of_cell? _ _ S5.2.2.1)).trans S5.2.2.1, (hbn.cell (World.block_lt_of_cell? _ _ S5.2.2.2.1)).trans S5.2.2.2.1, (hbn.cell (World.block_lt_of_cell? _ _ S5.2.2.2.2.1)).trans S5.2.2.2.2.1, (hbn.cell (World.block_lt_of_cell? _ _ S5.2.2.2.2.2.1)).trans S5.2.2.2.2.2.1, (hbn.cell (World.block_lt_of_cell? _ _ S5.2.2.2.2.2.2.1)).trans S5.2.2.2.2.2.2.1, (hbn.cell (World.block_lt_of_cell? _ _ S5.2.2.2.2.2.2.2.1)).trans S5.2.2.2.2.2.2.2.1, (hbn.cell (World.block_lt_of_cell? _ _ S5.2.2.2.2.2.2.2.2)).trans S5.2.2.2.2.2.2.2.2⟩); clear hbn)
    | (go_at_call 12; (with_reducible refine (HSB.out w6 HB6.out).mono ?_); rintro e w7 ⟨rfl, hbn⟩; have HB7 := Aside0.mk (below_then HB6.out HB6.out.size hbn); have S7 : w7.cell? ⟨ga, 0, none⟩ = some (.int .u8 a.f0) ∧ w7.cell? ⟨ga, 1, none⟩ = some (.int .i64 a.f1) ∧ w7.cell? ⟨ga, 2, none⟩ = some (.string a.f2) ∧ w7.cell? ⟨gb, 0, none⟩ = some (.int .u8 b.f0) ∧ w7.cell? ⟨gb, 1, none⟩ = some (.int .i64 b.f1) ∧ w7.cell? ⟨gb, 2, none⟩ = some (.string b.f2) ∧ w7.cell? ⟨gp, 0, none⟩ = some (.int .u8 4) ∧ w7.cell? ⟨gp, 1, none⟩ = some (.int .i64 0) ∧ w7.cell? ⟨gp, 2, none⟩ = some (.string ⟨#[]⟩) := (by exact ⟨(hbn.cell (World.block_lt_of_cell? _ _ S6.1)).trans S6.1, (hbn.cell (World.block_lt_of_cell? _ _ S6.2.1)).trans S6.2.1, (hbn.cell (World.block_lt_of_cell? _ _ S6.2.2.1)).trans S6.2.2.1, (hbn.cell (World.block_lt_of_cell? _ _ S6.2.2.2.1)).trans S6.2.2.2.1, (hbn.cell (World.block_lt_of_cell? _ _ S6.2.2.2.2.1)).trans S6.2.2.2.2.1, (hbn.cell (World.block_lt_of_cell? _ _ S6.2.2.2.2.2.1)).trans S6.2.2.2.2.2.1, (hbn.cell (World.block_lt_of_cell? _ _ S6.2.2.2.2.2.2.1)).trans S6.2.2.2.2.2.2.1, (hbn.cell (World.block_lt_of_cell? _ _ S6.2.2.2.2.2.2.2.1)).trans S6.2.2.2.2.2.2.2.1, (hbn.cell (World.block_lt_of_cell? _ _ S6.2.2.2.2.2.2.2.2)).trans S6.2.2.2.2.2.2.2.2⟩); clear hbn)
    | (go_at_call 8; (with_reducible refine (awake_calls _ (HP4.out.below HB7.out)).mono ?_); rintro e w8 ⟨rfl, hbn⟩; have HB8 := Aside0.mk (below_then HB7.out HB7.out.size hbn); have S8 : w8.cell? ⟨ga, 0, none⟩ = some (.int .u8 a.f0) ∧ w8.cell? ⟨ga, 1, none⟩ = some (.int .i64 a.f1) ∧ w8.cell? ⟨ga, 2, none⟩ = some (.string a.f2) ∧ w8.cell? ⟨gb, 0, none⟩ = some (.int .u8 b.f0) ∧ w8.cell? ⟨gb, 1, none⟩ = some (.int .i64 b.f1) ∧ w8.cell? ⟨gb, 2, none⟩ = some (.string b.f2) ∧ w8.cell? ⟨gp, 0, none⟩ = some (.int .u8 4) ∧ w8.cell? ⟨gp, 1, none⟩ = some (.int .i64 0) ∧ w8.cell? ⟨gp, 2, none⟩ = some (.string ⟨#[]⟩) := (by exact ⟨(hbn.cell (World.block_lt_of_cell? _ _ S7.1)).trans S7.1, (hbn.cell (World.block_lt_of_cell? _ _ S7.2.1)).trans S7.2.1, (hbn.cell (World.block_lt_of_cell? _ _ S7.2.2.1)).trans S7.2.2.1, (hbn.cell (World.block_lt_of_cell? _ _ S7.2.2.2.1)).trans S7.2.2.2.1, (hbn.cell (World.block_lt_of_cell? _ _ S7.2.2.2.2.1)).trans S7.2.2.2.2.1, (hbn.cell (World.block_lt_of_cell? _ _ S7.2.2.2.2.2.1)).trans S7.2.2.2.2.2.1, (hbn.cell (World.block_lt_of_cell? _ _ S7.2.2.2.2.2.2.1)).trans S7.2.2.2.2.2.2.1, (hbn.cell (World.block_lt_of_cell? _ _ S7.2.2.2.2.2.2.2.1)).trans S7.2.2.2.2.2.2.2.1, (hbn.cell (World.block_lt_of_cell? _ _ S7.2.2.2.2.2.2.2.2)).trans S7.2.2.2.2.2.2.2.2⟩); clear hbn))

      all_goals
        go_wp2_with fail
        go_ret
        exact ⟨rfl, below_then HB4.out HB4.out.size HB8.out⟩
end Go.Proofs.YtobchfcabedmhaaDoor.NW
