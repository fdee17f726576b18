/- ShowShows, walked. -/
import Derived.Test.YtobchfcabedmhaaDoorHp
namespace Go.Proofs.YtobchfcabedmhaaDoor.NW
open Go.RowKit Go.Proofs.YtobchfcabedmhaaDoorW.PrintWords Go.Proofs.YtobchfcabedmhaaDoorW.PrintMore Go.Proofs.YtobchfcabedmhaaDoor.PS
set_option linter.unusedVariables false
set_option linter.unusedSimpArgs false
def pairsOf (l : List S24) (j : Nat) : List (S24 × S24) := (List.range j).map fun i => (rd_T24 l ((2 * i : Nat) : Int), rd_T24 l ((2 * i : Nat) + 1 : Int))
theorem pairsOf_len (l : List S24) (j : Nat) : (pairsOf l j).length = j := by simp [pairsOf]
theorem pairsOf_succ (l : List S24) (j : Nat) : pairsOf l (j + 1) = pairsOf l j ++ [(rd_T24 l ((2 * j : Nat) : Int), rd_T24 l ((2 * j : Nat) + 1 : Int))] := by simp [pairsOf, List.range_succ]
theorem rd_mem24 {l : List S24} {i : Int} (h0 : 0 ≤ i) (h1 : i < l.length) : rd_T24 l i ∈ l := by
  have h : i.toNat < l.length := by omega
  rw [rd_T24, List.getD_eq_getElem?_getD, List.getElem?_eq_getElem h]
  exact List.getElem_mem h
theorem HpIs.grown {w w1 : World} {base g : Nat} {ps : List (S24 × S24)} {limit : Int} {row : Option Nat} (h : HpIs w base g ps limit) (hg : w.grownBy w1 row) (h1 : some g ≠ row) (h2 : ∀ k, row = some k → ∃ cells, w.heap[k]? = some (.cells cells 34 (0, 0))) : HpIs w1 base g ps limit := by
  obtain ⟨hl, v, H⟩ := h
  refine ⟨hl, v, ⟨(hg.block g H.lt h1).trans H.blk, H.own.kept hg ?_, H.ne, Nat.le_trans H.base_le hg.size, H.few⟩⟩
  cases hv : v.ownBlock with
  | none => exact .inl rfl
  | some k =>
    right
    intro e
    obtain ⟨c1, hc1⟩ := own_typed H.own k hv
    obtain ⟨c2, hc2⟩ := h2 k (e ▸ rfl)
    rw [hc1] at hc2
    simp only [Option.some.injEq, Obj.cells.injEq] at hc2
    exact absurd hc2.2.1 (by decide)
theorem HpIs.keeps {w w1 : World} {base g : Nat} {ps : List (S24 × S24)} {limit : Int} (h : HpIs w base g ps limit) (hk : ∀ k, k < w.heap.size → k ≠ g → (∀ c d, w.heap[k]? = some (.cells c d (0, 0)) → d ≠ 49) → w1.heap[k]? = w.heap[k]?) : ∀ (k : Nat) (cs : Array Value) (t : Nat), w.heap[k]? = some (.cells cs t (0, 0)) → t ≠ 49 → t ≠ 46 → w1.heap[k]? = some (.cells cs t (0, 0)) := by
  intro k cs t hc h49 h46
  obtain ⟨_, v, H⟩ := h
  refine (hk k (blk_lt hc) (fun e => ?_) (fun c d hd => ?_)).trans hc
  · subst e
    rw [H.blk] at hc
    simp only [Option.some.injEq, Obj.cells.injEq] at hc
    exact h46 hc.2.1.symm
  · rw [hc] at hd
    simp only [Option.some.injEq, Obj.cells.injEq] at hd
    rw [← hd.2.1]; exact h49
set_option maxHeartbeats 3200000 in
set_option maxRecDepth 1000000 in
theorem showShows_calls (A : Option Addr) (c : Nat) (l : List S24) (v : S24) (w : World) (hP : PowOk w) (hC : k24.C w A l.length l) (hl : ∀ x ∈ l, 0 ≤ x.f0 ∧ (-9223372036854775808 ≤ x.f1 ∧ x.f1 ≤ 9223372036854775807)) (hv : 0 ≤ v.f0 ∧ (-9223372036854775808 ≤ v.f1 ∧ v.f1 ≤ 9223372036854775807)) :
    Calls Tryd.prog 3 #[.slice A l.length c, .agg #[.int .u8 v.f0, .int .i64 v.f1, .string v.f2]] w fun e w' => e = .returned (.bool true) ∧ Below w.heap.size w w' := by
  have HP := Aside0.mk hP
  have HL := Aside0.mk hl
  have HVV := Aside0.mk hv
  have hba := below_alloc (Below.refl w.heap.size w) (.cells #[.int .u8 v.f0, .int .i64 v.f1, .string v.f2] 24)
  have HB1 := Aside0.mk hba
  have HI1 := Aside0.mk (blk_new w (.cells #[.int .u8 v.f0, .int .i64 v.f1, .string v.f2] 24))
  have HC := Aside0.mk hC
  have hm := Kd.C_max hC
  clear hP hl hv hC hba
  by_cases h120 : l.length ≤ 120
  case neg =>
    have d0 : decide ((120 : Int) < l.length) = true := decide_eq_true (by omega)
    clear h120
    go_enter Tryd.func3, Tryd.ntmps3
    go_wp2_with (first | (go_at_call 8; (with_reducible refine (awake_calls _ (HP.out.below HB1.out)).mono ?_); rintro e w8 ⟨rfl, hb8⟩; have HB8 := Aside0.mk (below_then HB1.out HB1.out.size hb8); clear hb8))
    go_ret
    exact ⟨rfl, HB8.out⟩
  have d0 : decide ((120 : Int) < l.length) = false := decide_eq_false (by omega)
  go_enter Tryd.func3, Tryd.ntmps3
  go_upto_region 3 with fail
  generalize w.alloc _ = w1 at HB1 HI1 ⊢
  generalize hb3 : w.heap.size = b3 at HI1 ⊢
  have HE3 := Aside0.mk hb3
  clear hb3
  go_upto_region 4 with (first | (go_at_call 9; (refine Calls.mono (New_any _ 1000 w1.heap.size (Nat.le_refl _) (by decide)) ?_); rintro e w2 ⟨rfl, hb2, hs2, H2⟩))
  have HH2 := Aside0.mk (show HpIs w2 w1.heap.size w1.heap.size [] 1000 from ⟨by decide, _, by have h := H2; rw [show (min (max 1000 0) 1048576 : Int) = 1000 by omega] at h; exact h⟩)
  have HB2 := Aside0.mk (below_then HB1.out HB1.out.size hb2)
  have HI2 := Aside0.mk (blk_below HI1.out hb2)
  have hne : b3 ≠ w1.heap.size := by have := blk_lt HI1.out; omega
  have HNE := Aside0.mk hne
  have HGE := Aside0.mk HB1.out.size
  clear H2 hs2 hne hb2 HI1 HB1 d0
  generalize w1.heap.size = gh at HH2 HNE HGE ⊢
  go_upto_region 6 with (first | ((with_reducible refine gate_dst (N := 15) rfl ?_); refine Kd.R_lit k34 (w0 := w2) w2.heap.size 34 ?hg (N := 15) ?hd (xs := ([] : List S34)) (inner := []) (ok := fun _ => True) (okp := fun _ => True) ?hr ?hp (fun _ hk => hk) trivial (Below.refl _ _) (Nat.le_refl _) (by simp) ?_; (case hd => rfl); (case hg => rfl); (case hr => first | (go_simp; done) | (go_simp; rfl)); (case hp => exact Reps.none _ _); intro v6 w3 ho3 hb3 hg3 hn3; have HO3 := Aside0.mk ho3; have HB3 := Aside0.mk hb3; clear ho3 hb3 hg3 hn3))
  have HH3 := Aside0.mk (HH2.out.below HB3.out)
  have HI3 := Aside0.mk (blk_below HI2.out HB3.out)
  have HB03 := Aside0.mk (below_then HB2.out HB2.out.size HB3.out)
  clear HH2
  have info34 : (Tryd.prog.info? 34).map (fun i => (i.zero, i.size, i.bytes)) = some (some (.agg #[.int .u8 0, .int .u8 0, .int .i64 0, .string ⟨#[]⟩, .int .u8 0, .int .i64 0, .string ⟨#[]⟩, .int .i64 0]), 8, 80) := by kernel_rfl
  go_loopw [6, 7] (fun m i wr => ∃ j : Nat, 2 * j ≤ l.length ∧ i = .int .i64 ((2 * j : Nat) : Int) ∧ Aside0 (HpIs wr gh gh (pairsOf l j) 1000) ∧ Aside0 (Kd.R k34 34 wr w.heap.size (fun _ => True) m (rowsOf (pairsOf l j))) ∧ Aside0 (wr.heap[b3]? = some (.cells #[.int .u8 v.f0, .int .i64 v.f1, .string v.f2] 24 (0, 0))) ∧ Aside0 (Below w.heap.size w wr) ∧ Aside0 (∀ p ∈ pairsOf l j, Good p.1 ∧ Good p.2)) (fun _ i _ => l.length - (intOf i).toNat)
  case atStart => exact ⟨0, by omega, rfl, HH3, ⟨Kd.R_lower HO3.out (by have := HB2.out.size; omega)⟩, HI3, HB03, ⟨fun p hp => by simp [pairsOf] at hp⟩⟩
  case round =>
    obtain ⟨j, hj, rfl, HHr, HRr, HIr, HBr, HGr⟩ := hrel
    rename_i u6
    by_cases hlt : 2 * j + 1 < l.length
    · have d0 : decide ((((2 * j : Nat) : Int) + 1) < l.length) = true := decide_eq_true (by omega)
      obtain ⟨ad, e, a0, a1, a2⟩ := at_T24 (Kd.C_below HC.out HBr.out) ((2 * j : Nat) : Int) (by omega) (by omega)
      obtain ⟨ad', e', b0, b1, b2⟩ := at_T24 (Kd.C_below HC.out HBr.out) ((2 * j : Nat) + 1 : Int) (by omega) (by omega)
      subst e
      injection e' with e'
      subst e'
      have hma := HL.out _ (rd_mem24 (l := l) (i := ((2 * j : Nat) : Int)) (by omega) (by omega))
      have hmb := HL.out _ (rd_mem24 (l := l) (i := ((2 * j : Nat) + 1 : Int)) (by omega) (by omega))
      have hps := pairsOf_succ l j
      generalize hi0 : ((2 * j : Nat) : Int) = i0 at a0 a1 a2 b0 b1 b2 hma hmb hps d0 ⊢
      generalize hi1 : i0 + 1 = i1 at b0 b1 b2 hmb hps d0
      have hz0 : 0 ≤ i0 ∧ i0 < l.length ∧ i1 < l.length ∧ 0 ≤ i1 := by omega
      obtain ⟨y0, y1, y2, y3⟩ := hz0
      have HI01 := Aside0.mk hi1
      have HI00 := Aside0.mk hi0
      have HPSS := Aside0.mk hps
      have HMA := Aside0.mk hma
      have HMB := Aside0.mk hmb
      clear hma hmb hps
      have HLA := Aside0.mk hi1
      generalize rd_T24 l i0 = a at *
      generalize rd_T24 l i1 = b at *
      have S0 : wr.cell? (ad.add (i0.toNat * 3)) = some (.int .u8 a.f0) ∧ wr.cell? ⟨(ad.add (i0.toNat * 3)).block, (ad.add (i0.toNat * 3)).off + 1, none⟩ = some (.int .i64 a.f1) ∧ wr.cell? ⟨(ad.add (i0.toNat * 3)).block, (ad.add (i0.toNat * 3)).off + 2, none⟩ = some (.string a.f2) ∧ wr.cell? (ad.add (i1.toNat * 3)) = some (.int .u8 b.f0) ∧ wr.cell? ⟨(ad.add (i1.toNat * 3)).block, (ad.add (i1.toNat * 3)).off + 1, none⟩ = some (.int .i64 b.f1) ∧ wr.cell? ⟨(ad.add (i1.toNat * 3)).block, (ad.add (i1.toNat * 3)).off + 2, none⟩ = some (.string b.f2) := ⟨a0, a1, a2, b0, b1, b2⟩
      go_upto_region 8 with fail
      have hwr : IntKind.i64.wrap (i0 + 1) = i1 := by rw [← HI01.out]; simp [IntKind.wrap, IntKind.signed, IntKind.bits]; omega
      have hwr' : IntKind.i64.wrap i1 = i1 := by simp [IntKind.wrap, IntKind.signed, IntKind.bits]; omega
      have SB : ∀ W, Below wr.heap.size wr W → W.cell? (ad.add (i0.toNat * 3)) = some (.int .u8 a.f0) ∧ W.cell? ⟨(ad.add (i0.toNat * 3)).block, (ad.add (i0.toNat * 3)).off + 1, none⟩ = some (.int .i64 a.f1) ∧ W.cell? ⟨(ad.add (i0.toNat * 3)).block, (ad.add (i0.toNat * 3)).off + 2, none⟩ = some (.string a.f2) ∧ W.cell? (ad.add (i1.toNat * 3)) = some (.int .u8 b.f0) ∧ W.cell? ⟨(ad.add (i1.toNat * 3)).block, (ad.add (i1.toNat * 3)).off + 1, none⟩ = some (.int .i64 b.f1) ∧ W.cell? ⟨(ad.add (i1.toNat * 3)).block, (ad.add (i1.toNat * 3)).off + 2, none⟩ = some (.string b.f2) := fun W hW => ⟨(hW.cell (World.block_lt_of_cell? _ _ S0.1)).trans S0.1, (hW.cell (World.block_lt_of_cell? _ _ S0.2.1)).trans S0.2.1, (hW.cell (World.block_lt_of_cell? _ _ S0.2.2.1)).trans S0.2.2.1, (hW.cell (World.block_lt_of_cell? _ _ S0.2.2.2.1)).trans S0.2.2.2.1, (hW.cell (World.block_lt_of_cell? _ _ S0.2.2.2.2.1)).trans S0.2.2.2.2.1, (hW.cell (World.block_lt_of_cell? _ _ S0.2.2.2.2.2)).trans S0.2.2.2.2.2⟩
      go_cut [8, 9] (fun p q wx => ∃ ga gb, p = .pointer (some ⟨ga, 0, none⟩) ∧ q = .pointer (some ⟨gb, 0, none⟩) ∧ Aside0 (Below wr.heap.size wr wx) ∧ Aside0 (wx.heap[ga]? = some (.cells #[.int .u8 a.f0, .int .i64 a.f1, .string a.f2] 24 (0, 0))) ∧ Aside0 (wx.heap[gb]? = some (.cells #[.int .u8 b.f0, .int .i64 b.f1, .string b.f2] 24 (0, 0))) ∧ Aside0 (wr.heap.size ≤ ga ∧ wr.heap.size ≤ gb))
      case first =>
        go_region_held3 (fun W' => W'.cell? (ad.add (i0.toNat * 3)) = some (.int .u8 a.f0) ∧ W'.cell? ⟨(ad.add (i0.toNat * 3)).block, (ad.add (i0.toNat * 3)).off + 1, none⟩ = some (.int .i64 a.f1) ∧ W'.cell? ⟨(ad.add (i0.toNat * 3)).block, (ad.add (i0.toNat * 3)).off + 2, none⟩ = some (.string a.f2) ∧ W'.cell? (ad.add (i1.toNat * 3)) = some (.int .u8 b.f0) ∧ W'.cell? ⟨(ad.add (i1.toNat * 3)).block, (ad.add (i1.toNat * 3)).off + 1, none⟩ = some (.int .i64 b.f1) ∧ W'.cell? ⟨(ad.add (i1.toNat * 3)).block, (ad.add (i1.toNat * 3)).off + 2, none⟩ = some (.string b.f2)) (first | exact S0 | (refine SB _ ?_; (repeat (first | exact Below.refl _ _ | apply below_drew | apply below_alloc | refine Below.setCell ?_ (Nat.le_refl _) _ | refine Below.setCell ?_ (Nat.le_succ _) _)); done) | fail) (fail)
        all_goals
          go_wp2_with fail
          go_meet
          case rel => first
            | exact ⟨wr.heap.size, wr.heap.size + 1, rfl, rfl, ⟨below_drew (below_alloc (below_alloc (Below.refl wr.heap.size wr) _) _)⟩, ⟨blk_drew (blk_alloc (blk_new wr _) _)⟩, ⟨blk_drew (blk_new2 wr _ _)⟩, ⟨Nat.le_refl _, Nat.le_succ _⟩⟩
            | exact ⟨wr.heap.size + 1, wr.heap.size, rfl, rfl, ⟨below_drew (below_alloc (below_alloc (Below.refl wr.heap.size wr) _) _)⟩, ⟨blk_drew (blk_new2 wr _ _)⟩, ⟨blk_drew (blk_alloc (blk_new wr _) _)⟩, ⟨Nat.le_succ _, Nat.le_refl _⟩⟩
      case rest =>
        obtain ⟨ga, gb, rfl, rfl, HB5, HGA, HGB, HGG⟩ := hcut
        clear a0 a1 a2 b0 b1 b2 S0 SB hwr hwr' d0
        have HB05 := Aside0.mk (below_then HBr.out HBr.out.size HB5.out)
        have HH5 := Aside0.mk (HHr.out.below HB5.out)
        have HR5 := Aside0.mk (Kd.R_below HRr.out HB5.out)
        have HI5 := Aside0.mk (blk_below HIr.out HB5.out)
        clear HHr HRr HIr
        generalize wc = w1 at HB5 HGA HGB HB05 HH5 HR5 HI5 ⊢
        have c0 := (blk_cell HGA.out 0).trans rfl
        have c1 := (blk_cell HGA.out 1).trans rfl
        have c2 := (blk_cell HGA.out 2).trans rfl
        have e0 := (blk_cell HGB.out 0).trans rfl
        have e1 := (blk_cell HGB.out 1).trans rfl
        have e2 := (blk_cell HGB.out 2).trans rfl
        go_upto_region 9 with fail
        go_cut [49] (fun z wx => ∃ bad, z = .bool bad ∧ Aside0 (Below w1.heap.size w1 wx) ∧ Aside0 (bad = false → May a ∧ May b))
        case first =>
          have HMA_ := Aside0.mk (may_calls a w1)
          by_cases h6 : a.f2.size + b.f2.size ≤ 1000
          · have z6 : decide ((1000 : Int) < (a.f2.size : Int) + b.f2.size) = false := decide_eq_false (by omega)
            clear h6
            go_wp2_with (first
              | (go_at_call 10; (with_reducible refine HMA_.out.mono ?_); rintro e w2 ⟨ba, rfl, hma, hb2⟩; have HB2_ := Aside0.mk hb2; have HMB_ := Aside0.mk (may_calls b w2); have x0 := (blk_cell (blk_below HGA.out hb2) 0).trans rfl; have x1 := (blk_cell (blk_below HGA.out hb2) 1).trans rfl; have x2 := (blk_cell (blk_below HGA.out hb2) 2).trans rfl; have y0 := (blk_cell (blk_below HGB.out hb2) 0).trans rfl; have y1 := (blk_cell (blk_below HGB.out hb2) 1).trans rfl; have y2 := (blk_cell (blk_below HGB.out hb2) 2).trans rfl; clear hb2; cases ba; rotate_left; have HA_ := Aside0.mk (hma rfl); have hza := (hma rfl).2.2; clear hma)
              | (go_at_call 10; (with_reducible refine HMB_.out.mono ?_); rintro e w3 ⟨bb, rfl, hmb, hb3⟩; have HB3_ := Aside0.mk (below_then HB2_.out HB2_.out.size hb3); have x0 := (blk_cell (blk_below HGA.out HB3_.out) 0).trans rfl; have x1 := (blk_cell (blk_below HGA.out HB3_.out) 1).trans rfl; have x2 := (blk_cell (blk_below HGA.out HB3_.out) 2).trans rfl; have y0 := (blk_cell (blk_below HGB.out HB3_.out) 0).trans rfl; have y1 := (blk_cell (blk_below HGB.out HB3_.out) 1).trans rfl; have y2 := (blk_cell (blk_below HGB.out HB3_.out) 2).trans rfl; clear hb3; cases bb; rotate_left; have HBB_ := Aside0.mk (hmb rfl); have hzb := (hmb rfl).2.2; clear hmb))
            all_goals
              go_meet
              case rel => first | exact ⟨true, rfl, HB3_, ⟨fun h => absurd h (by decide)⟩⟩ | exact ⟨true, rfl, HB2_, ⟨fun h => absurd h (by decide)⟩⟩ | exact ⟨false, rfl, HB3_, ⟨fun _ => ⟨HA_.out, HBB_.out⟩⟩⟩
          · have z6 : decide ((1000 : Int) < (a.f2.size : Int) + b.f2.size) = true := decide_eq_true (by omega)
            clear h6
            go_wp2_with (first
              | (go_at_call 10; (with_reducible refine HMA_.out.mono ?_); rintro e w2 ⟨ba, rfl, hma, hb2⟩; have HB2_ := Aside0.mk hb2; have HMB_ := Aside0.mk (may_calls b w2); have x0 := (blk_cell (blk_below HGA.out hb2) 0).trans rfl; have x1 := (blk_cell (blk_below HGA.out hb2) 1).trans rfl; have x2 := (blk_cell (blk_below HGA.out hb2) 2).trans rfl; have y0 := (blk_cell (blk_below HGB.out hb2) 0).trans rfl; have y1 := (blk_cell (blk_below HGB.out hb2) 1).trans rfl; have y2 := (blk_cell (blk_below HGB.out hb2) 2).trans rfl; clear hb2; cases ba; rotate_left; have HA_ := Aside0.mk (hma rfl); have hza := (hma rfl).2.2; clear hma)
              | (go_at_call 10; (with_reducible refine HMB_.out.mono ?_); rintro e w3 ⟨bb, rfl, hmb, hb3⟩; have HB3_ := Aside0.mk (below_then HB2_.out HB2_.out.size hb3); have x0 := (blk_cell (blk_below HGA.out HB3_.out) 0).trans rfl; have x1 := (blk_cell (blk_below HGA.out HB3_.out) 1).trans rfl; have x2 := (blk_cell (blk_below HGA.out HB3_.out) 2).trans rfl; have y0 := (blk_cell (blk_below HGB.out HB3_.out) 0).trans rfl; have y1 := (blk_cell (blk_below HGB.out HB3_.out) 1).trans rfl; have y2 := (blk_cell (blk_below HGB.out HB3_.out) 2).trans rfl; clear hb3; cases bb; rotate_left; have HBB_ := Aside0.mk (hmb rfl); have hzb := (hmb rfl).2.2; clear hmb))
            all_goals
              go_meet
              case rel => first | exact ⟨true, rfl, HB3_, ⟨fun h => absurd h (by decide)⟩⟩ | exact ⟨true, rfl, HB2_, ⟨fun h => absurd h (by decide)⟩⟩
        case rest =>
          obtain ⟨bad, rfl, HB6, HM6⟩ := hcut
          cases bad with
          | true =>
            go_wp2_with (first | (go_at_call 8; (with_reducible refine (awake_calls _ (HP.out.below (below_then HB05.out HB05.out.size HB6.out))).mono ?_); rintro e w8 ⟨rfl, hb8⟩; have HB8 := Aside0.mk hb8; clear hb8))
            go_ret
            exact ⟨rfl, below_then HB05.out HB05.out.size (below_then HB6.out HB6.out.size HB8.out)⟩
          | false =>
            obtain ⟨hma6, hmb6⟩ := HM6.out rfl
            have HGDA := Aside0.mk (hma6.good HMA.out.1 HMA.out.2)
            have HGDB := Aside0.mk (hmb6.good HMB.out.1 HMB.out.2)
            have HB06 := Aside0.mk (below_then HB05.out HB05.out.size HB6.out)
            have HH6 := Aside0.mk (HH5.out.below HB6.out)
            have HR6 := Aside0.mk (Kd.R_below HR5.out HB6.out)
            have HI6 := Aside0.mk (blk_below HI5.out HB6.out)
            have HGA6 := Aside0.mk (blk_below HGA.out HB6.out)
            have HGB6 := Aside0.mk (blk_below HGB.out HB6.out)
            clear c0 c1 c2 e0 e1 e2 hma6 hmb6 HM6 HH5 HR5 HI5 HGA HGB
            have c0 := (blk_cell HGA6.out 0).trans rfl
            have c1 := (blk_cell HGA6.out 1).trans rfl
            have c2 := (blk_cell HGA6.out 2).trans rfl
            have e0 := (blk_cell HGB6.out 0).trans rfl
            have e1 := (blk_cell HGB6.out 1).trans rfl
            have e2 := (blk_cell HGB6.out 2).trans rfl
            go_upto_region 12 with (first | (go_at_call 11; (with_reducible refine (pairUp_calls HH6.out (by rw [pairsOf_len]; omega) (Nat.le_refl _) a b).mono ?_); rintro e w7 ⟨rfl, hh7, hb7, hk7⟩; have HH7 := Aside0.mk hh7; have HB7 := Aside0.mk (HB06.out.trans (hb7.mono HGE.out)); have HK7 := Aside0.mk hk7; clear hh7 hb7 hk7))
            have hk := HH6.out.keeps HK7.out
            have HI7 := Aside0.mk (hk _ _ _ HI6.out (by decide) (by decide))
            have hga7 := hk _ _ _ HGA6.out (by decide) (by decide)
            have hgb7 := hk _ _ _ HGB6.out (by decide) (by decide)
            have HR7 := Aside0.mk (Kd.R_mono (Kd.R_step (w1 := w7) (Kd.R_tight rfl HR6.out) (fun k hk1 hk2 => by
              obtain ⟨cells, hc⟩ := Kd.R_typed HR6.out k hk1.symm
              rw [hc]
              exact hk _ _ _ hc (by decide) (by decide))) (fun _ _ => trivial) : Kd.R k34 34 w7 w.heap.size (fun _ => True) u6 (rowsOf (pairsOf l j)))
            clear c0 c1 c2 e0 e1 e2 hk
            have c0 := (blk_cell hga7 0).trans rfl
            have c1 := (blk_cell hga7 1).trans rfl
            have c2 := (blk_cell hga7 2).trans rfl
            have e0 := (blk_cell hgb7 0).trans rfl
            have e1 := (blk_cell hgb7 1).trans rfl
            have e2 := (blk_cell hgb7 2).trans rfl
            clear hga7 hgb7
            have hrl : (rowsOf (pairsOf l j)).length = j := by simp [rowsOf, pairsOf_len]
            have hh7 := HH7.out
            rw [← HPSS.out] at hh7
            have HH7' := Aside0.mk hh7
            have HRS := Aside0.mk (show rowsOf (pairsOf l (j + 1)) = rowsOf (pairsOf l j) ++ [⟨4, a, b, 0⟩] by rw [HPSS.out]; simp [rowsOf])
            have HGP := Aside0.mk (show ∀ p ∈ pairsOf l (j + 1), Good p.1 ∧ Good p.2 by
              intro p hp
              rw [HPSS.out] at hp
              rcases List.mem_append.1 hp with hp | hp
              · exact HGr.out p hp
              · rw [List.mem_singleton.1 hp]; exact ⟨HGDA.out, HGDB.out⟩)
            clear hh7
            generalize rowsOf (pairsOf l j) = rows at HR7 hrl HRS
            go_wp2_with ((with_reducible refine gate_builtin (b := .append) (xs := #[.tmp 55, .tmp 59]) rfl ?_); at_builtin; go_loud (refine Kd.R_append (w0 := w) k34 w.heap.size rfl (.tmp 55) (.tmp 59) 28 34 (.agg #[.int .u8 0, .int .u8 0, .int .i64 0, .string ⟨#[]⟩, .int .u8 0, .int .i64 0, .string ⟨#[]⟩, .int .i64 0]) 80 rfl Tryd.underlying28 info34 rfl (by decide) (by decide) u6 rows ⟨4, a, b, 0⟩ [.int .u8 4, .int .u8 a.f0, .int .i64 a.f1, .string a.f2, .int .u8 b.f0, .int .i64 b.f1, .string b.f2, .int .i64 0] (fun _ => True) (fun _ => False) rfl rfl ?dP (fun _ h => h.elim) ?dF ?dO ?dB ?dS ?dL ?_; (case dP => exact k34_mkM _ _ _ ⟨4, a, b, 0⟩); (case dF => exact fun _ _ => trivial); (case dO => exact HR7.out); (case dB => exact HB7.out); (case dS => exact HB7.out.size); (case dL => omega); intro v8 w8 hr8 hb8 hg8 ha8; have HR8 := Aside0.mk hr8; have HB8 := Aside0.mk hb8; have HG8 := Aside0.mk hg8; clear hr8 hb8 hg8 ha8))
            go_roundw
            case rel =>
              have ht : ∀ k, u6.ownBlock = some k → ∃ cells, w7.heap[k]? = some (.cells cells 34 (0, 0)) := fun k hk => Kd.R_typed HR7.out k hk
              have hn : ∀ (g : Nat) (cs : Array Value) (t : Nat), w7.heap[g]? = some (.cells cs t (0, 0)) → t ≠ 34 → some g ≠ u6.ownBlock := fun g cs t hg hne e => by
                obtain ⟨cells, hc⟩ := ht g e.symm
                rw [hg] at hc
                simp only [Option.some.injEq, Obj.cells.injEq] at hc
                exact hne hc.2.1
              obtain ⟨_, vv, HX⟩ := HH7'.out
              have hgn := hn gh _ _ HX.blk (by decide)
              have hbn := hn b3 _ _ HI7.out (by decide)
              exact ⟨j + 1, by omega, by (have := HI00.out; go_num), ⟨HH7'.out.grown HG8.out hgn ht⟩, ⟨by rw [HRS.out]; exact HR8.out⟩, ⟨(HG8.out.block b3 (blk_lt HI7.out) hbn).trans HI7.out⟩, HB8, HGP⟩
            case measure => (have := HI00.out; simp [intOf]; omega)
    · have d0 : decide ((((2 * j : Nat) : Int) + 1) < l.length) = false := decide_eq_false (by omega)
      have HPJ := Aside0.mk (show j ≤ 1000 by omega)
      have y0 : 0 ≤ ((2 * j : Nat) : Int) := by omega
      have y1 : ((2 * j : Nat) : Int) ≤ 200 := by omega
      generalize ((2 * j : Nat) : Int) = i0 at d0 y0 y1 ⊢
      clear hlt
      obtain ⟨Am, cm, rfl, _, hrc⟩ := Kd.R_reads HRr.out
      have HRC := Aside0.mk hrc
      clear hrc hj HRr
      generalize hps : pairsOf l j = ps at HHr HRC HGr ⊢
      clear hps
      have c0 := (blk_cell HIr.out 0).trans rfl
      have c1 := (blk_cell HIr.out 1).trans rfl
      have c2 := (blk_cell HIr.out 2).trans rfl
      go_upto_region 13 with fail
      go_cut [69] (fun z wx => ∃ bad, z = .bool bad ∧ Aside0 (Below wr.heap.size wr wx) ∧ Aside0 (bad = false → May v))
      case first =>
        have HMV := Aside0.mk (may_calls v wr)
        by_cases h6 : v.f2.size ≤ 1000
        · have z6 : decide ((1000 : Int) < (v.f2.size : Int)) = false := decide_eq_false (by omega)
          clear h6
          go_wp2_with (first | (go_at_call 10; (with_reducible refine HMV.out.mono ?_); rintro e w2 ⟨ba, rfl, hma, hb2⟩; have HB2_ := Aside0.mk hb2; have x2 := (blk_cell (blk_below HIr.out hb2) 2).trans rfl; clear hb2; cases ba; rotate_left; have HA_ := Aside0.mk (hma rfl); clear hma))
          all_goals
            go_meet
            case rel => first | exact ⟨true, rfl, HB2_, ⟨fun h => absurd h (by decide)⟩⟩ | exact ⟨false, rfl, HB2_, ⟨fun _ => HA_.out⟩⟩
        · have z6 : decide ((1000 : Int) < (v.f2.size : Int)) = true := decide_eq_true (by omega)
          clear h6
          go_wp2_with (first | (go_at_call 10; (with_reducible refine HMV.out.mono ?_); rintro e w2 ⟨ba, rfl, hma, hb2⟩; have HB2_ := Aside0.mk hb2; have x2 := (blk_cell (blk_below HIr.out hb2) 2).trans rfl; clear hb2; cases ba; rotate_left; have HA_ := Aside0.mk (hma rfl); clear hma))
          all_goals
            go_meet
            case rel => exact ⟨true, rfl, HB2_, ⟨fun h => absurd h (by decide)⟩⟩
      case rest =>
        obtain ⟨bad, rfl, HB6, HM6⟩ := hcut
        have HB06 := Aside0.mk (below_then HBr.out HBr.out.size HB6.out)
        cases bad with
        | true =>
          go_wp2_with (first | (go_at_call 8; (with_reducible refine (awake_calls _ (HP.out.below HB06.out)).mono ?_); rintro e w8 ⟨rfl, hb8⟩; have HB8 := Aside0.mk hb8; clear hb8))
          go_ret
          exact ⟨rfl, below_then HB06.out HB06.out.size HB8.out⟩
        | false =>
          have HGV := Aside0.mk ((HM6.out rfl).good HVV.out.1 HVV.out.2)
          have HH6 := Aside0.mk (HHr.out.below HB6.out)
          have HRC6 := Aside0.mk (Kd.C_below HRC.out HB6.out)
          have HI6 := Aside0.mk (blk_below HIr.out HB6.out)
          have HP6 := Aside0.mk (HP.out.below HB06.out)
          clear c0 c1 c2
          have HSH := Aside0.mk (show ∀ W, Below wc.heap.size wc W → Calls Tryd.prog 12 #[.iface 26 (.pointer (some ⟨gh, 0, none⟩)), .agg #[.int .u8 v.f0, .int .i64 v.f1, .string v.f2]] W fun e w' => e = .returned (.string ⟨(showF ps 6 v).toArray⟩) ∧ Below W.heap.size W w' from fun W hW => show_calls (HP6.out.below hW) HGr.out (HH6.out.below hW).ok rfl v HGV.out)
          have HSR := Aside0.mk (show ∀ W, Below wc.heap.size wc W → Calls Tryd.prog 13 #[.slice Am (rowsOf ps).length cm, .agg #[.int .u8 v.f0, .int .i64 v.f1, .string v.f2], .int .i64 0] W fun e w' => e = .returned (.string ⟨(showF ps 6 v).toArray⟩) ∧ Below W.heap.size W w' from fun W hW => (refShows HGr.out 6 (Nat.le_refl _)).call Am cm v W 0 HGV.out (by decide) (Kd.C_below HRC6.out hW))
          generalize (⟨(showF ps 6 v).toArray⟩ : ByteArray) = X at HSH HSR
          have S4 : wc.cell? ⟨b3, 0, none⟩ = some (.int .u8 v.f0) ∧ wc.cell? ⟨b3, 1, none⟩ = some (.int .i64 v.f1) ∧ wc.cell? ⟨b3, 2, none⟩ = some (.string v.f2) := ⟨(blk_cell HI6.out 0).trans rfl, (blk_cell HI6.out 1).trans rfl, (blk_cell HI6.out 2).trans rfl⟩
          go_upto_region 15 with fail
          go_region_held3 (fun W' => W'.cell? ⟨b3, 0, none⟩ = some (.int .u8 v.f0) ∧ W'.cell? ⟨b3, 1, none⟩ = some (.int .i64 v.f1) ∧ W'.cell? ⟨b3, 2, none⟩ = some (.string v.f2)) (first | exact S4 | exact S5 | exact S6 | exact S7 | fail)
            (first
            | (go_at_call 12; (with_reducible refine (HSH.out wc.drew (below_drew (Below.refl _ wc))).mono ?_); rintro e w5 ⟨rfl, hbn⟩; have HB5 := Aside0.mk ((below_drew (Below.refl wc.heap.size wc)).trans hbn); have S5 : w5.cell? ⟨b3, 0, none⟩ = some (.int .u8 v.f0) ∧ w5.cell? ⟨b3, 1, none⟩ = some (.int .i64 v.f1) ∧ w5.cell? ⟨b3, 2, none⟩ = some (.string v.f2) := (by exact ⟨(hbn.cell (World.block_lt_of_cell? _ _ S4.1)).trans S4.1, (hbn.cell (World.block_lt_of_cell? _ _ S4.2.1)).trans S4.2.1, (hbn.cell (World.block_lt_of_cell? _ _ S4.2.2)).trans S4.2.2⟩); clear hbn)
            | (go_at_call 13; (with_reducible refine (HSR.out w5 HB5.out).mono ?_); rintro e w6 ⟨rfl, hbn⟩; have HB6_ := Aside0.mk (below_then HB5.out HB5.out.size hbn); have S6 : w6.cell? ⟨b3, 0, none⟩ = some (.int .u8 v.f0) ∧ w6.cell? ⟨b3, 1, none⟩ = some (.int .i64 v.f1) ∧ w6.cell? ⟨b3, 2, none⟩ = some (.string v.f2) := (by exact ⟨(hbn.cell (World.block_lt_of_cell? _ _ S5.1)).trans S5.1, (hbn.cell (World.block_lt_of_cell? _ _ S5.2.1)).trans S5.2.1, (hbn.cell (World.block_lt_of_cell? _ _ S5.2.2)).trans S5.2.2⟩); clear hbn)
            | (go_at_call 13; (with_reducible refine (HSR.out wc.drew (below_drew (Below.refl _ wc))).mono ?_); rintro e w5 ⟨rfl, hbn⟩; have HB5 := Aside0.mk ((below_drew (Below.refl wc.heap.size wc)).trans hbn); have S5 : w5.cell? ⟨b3, 0, none⟩ = some (.int .u8 v.f0) ∧ w5.cell? ⟨b3, 1, none⟩ = some (.int .i64 v.f1) ∧ w5.cell? ⟨b3, 2, none⟩ = some (.string v.f2) := (by exact ⟨(hbn.cell (World.block_lt_of_cell? _ _ S4.1)).trans S4.1, (hbn.cell (World.block_lt_of_cell? _ _ S4.2.1)).trans S4.2.1, (hbn.cell (World.block_lt_of_cell? _ _ S4.2.2)).trans S4.2.2⟩); clear hbn)
            | (go_at_call 12; (with_reducible refine (HSH.out w5 HB5.out).mono ?_); rintro e w6 ⟨rfl, hbn⟩; have HB6_ := Aside0.mk (below_then HB5.out HB5.out.size hbn); have S6 : w6.cell? ⟨b3, 0, none⟩ = some (.int .u8 v.f0) ∧ w6.cell? ⟨b3, 1, none⟩ = some (.int .i64 v.f1) ∧ w6.cell? ⟨b3, 2, none⟩ = some (.string v.f2) := (by exact ⟨(hbn.cell (World.block_lt_of_cell? _ _ S5.1)).trans S5.1, (hbn.cell (World.block_lt_of_cell? _ _ S5.2.1)).trans S5.2.1, (hbn.cell (World.block_lt_of_cell? _ _ S5.2.2)).trans S5.2.2⟩); clear hbn)
            | (go_at_call 8; (with_reducible refine (awake_calls _ (HP6.out.below HB6_.out)).mono ?_); rintro e w7 ⟨rfl, hbn⟩; have HB7 := Aside0.mk (below_then HB6_.out HB6_.out.size hbn); have S7 : w7.cell? ⟨b3, 0, none⟩ = some (.int .u8 v.f0) ∧ w7.cell? ⟨b3, 1, none⟩ = some (.int .i64 v.f1) ∧ w7.cell? ⟨b3, 2, none⟩ = some (.string v.f2) := (by exact ⟨(hbn.cell (World.block_lt_of_cell? _ _ S6.1)).trans S6.1, (hbn.cell (World.block_lt_of_cell? _ _ S6.2.1)).trans S6.2.1, (hbn.cell (World.block_lt_of_cell? _ _ S6.2.2)).trans S6.2.2⟩); clear hbn))
          all_goals
            go_wp2_with fail
            go_ret
            exact ⟨rfl, below_then HB06.out HB06.out.size HB7.out⟩
end Go.Proofs.YtobchfcabedmhaaDoor.NW
