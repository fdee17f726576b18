/- ShowDeep, walked. -/
import Derived.Test.YtobchfcabedmhaaDoorHn
namespace Go.Proofs.YtobchfcabedmhaaDoor.NW
open Go.RowKit Go.Proofs.YtobchfcabedmhaaDoorW.PrintWords Go.Proofs.YtobchfcabedmhaaDoorW.PrintMore Go.Proofs.YtobchfcabedmhaaDoor.PS
set_option linter.unusedVariables false
set_option linter.unusedSimpArgs false
def vAt : Nat → S24
  | 0 => ⟨0, 0, ⟨#[]⟩⟩
  | i + 1 => ⟨4, i, ⟨#[]⟩⟩
def one1 : S24 := ⟨1, 1, ⟨#[]⟩⟩
def deepPs (k : Nat) : List (S24 × S24) := (List.range k).map fun i => (vAt i, one1)
theorem deepPs_len (k : Nat) : (deepPs k).length = k := by simp [deepPs]
theorem deepPs_succ (k : Nat) : deepPs (k + 1) = deepPs k ++ [(vAt k, one1)] := by simp [deepPs, List.range_succ]
def wrapB (l : List UInt8) : List UInt8 := [40] ++ l ++ [32, 46, 32, 49, 41]
def wrapN : Nat → List UInt8 → List UInt8
  | 0, l => l
  | j + 1, l => wrapB (wrapN j l)
theorem wrapN_len : ∀ (j : Nat) (l : List UInt8), (wrapN j l).length = l.length + 8 * j - 2 * j
  | 0, l => by simp [wrapN]
  | j + 1, l => by rw [wrapN, wrapB]; simp only [List.length_append, List.length_cons, List.length_nil]; rw [wrapN_len j l]; omega
theorem deep_show (m : Nat) : ∀ (f k : Nat), k ≤ m → showF (deepPs m) f (vAt k) = wrapN (min k f) (if f < k then [46, 46] else [40, 41])
  | f, 0, _ => by rw [showF_eq]; simp [vAt, atomB, wrapN]
  | 0, k + 1, _ => by rw [showF_eq]; simp [vAt, atomB, prB, wrapN]
  | f + 1, k + 1, h => by
    have hp : pairAt (deepPs m) (k : Int) = some (vAt k, one1) := by
      unfold pairAt
      rw [if_pos ⟨by omega, by rw [deepPs_len]; omega⟩]
      rw [Int.toNat_natCast, deepPs, List.getElem?_map, List.getElem?_range (by omega)]
      rfl
    have ih := deep_show m f k (by omega)
    have h1 : showF (deepPs m) f one1 = [49] := by rw [showF_eq]; simp [one1, atomB, itoa_one]
    rw [showF_eq]
    show prB (deepPs m) (f + 1) (k : Int) = _
    rw [prB_succ, hp]
    dsimp only
    rw [ih, h1, show min (k + 1) (f + 1) = min k f + 1 by omega, wrapN, wrapB]
    by_cases hk : f < k
    · rw [if_pos hk, if_pos (by omega)]; simp
    · rw [if_neg hk, if_neg (by omega)]; simp
theorem vAt_good (k : Nat) (h : k ≤ 1000) : Good (vAt k) := by
  cases k with
  | zero => exact ⟨(by decide : (0 : Int) ≤ 0), ⟨(by decide : (-9223372036854775808 : Int) ≤ 0), (by decide : (0 : Int) ≤ 9223372036854775807)⟩, (by decide : (⟨#[]⟩ : ByteArray).size ≤ 65536), fun _ => rfl⟩
  | succ k => exact ⟨(by decide : (0 : Int) ≤ 4), ⟨(by show (-9223372036854775808 : Int) ≤ k; omega), (by show (k : Int) ≤ 9223372036854775807; omega)⟩, (by decide : (⟨#[]⟩ : ByteArray).size ≤ 65536), fun _ => rfl⟩
theorem one_good : Good one1 := ⟨(by decide : (0 : Int) ≤ 1), ⟨(by decide : (-9223372036854775808 : Int) ≤ 1), (by decide : (1 : Int) ≤ 9223372036854775807)⟩, (by decide : (⟨#[]⟩ : ByteArray).size ≤ 65536), fun _ => rfl⟩
theorem deep_good (k : Nat) (h : k ≤ 1000) : ∀ p ∈ deepPs k, Good p.1 ∧ Good p.2 := by
  intro p hp
  simp only [deepPs, List.mem_map, List.mem_range] at hp
  obtain ⟨i, hi, rfl⟩ := hp
  exact ⟨vAt_good i (by omega), one_good⟩
theorem HpIs.far {w : World} {base g p : Nat} {ps : List (S24 × S24)} {limit : Int} {cs : Array Value} {t : Nat} (h : HpIs w base g ps limit) (hb : w.heap[p]? = some (.cells cs t (0, 0))) (ht : t ≠ 49) (hg : p ≠ g) (j : Nat) (u : Value) : HpIs (w.setCell ⟨p, j, none⟩ u) base g ps limit := by
  obtain ⟨hl, v, H⟩ := h
  refine ⟨hl, v, H.far hg (fun e => ?_) j u⟩
  obtain ⟨cells, hc⟩ := own_typed H.own p e.symm
  rw [hb] at hc
  simp only [Option.some.injEq, Obj.cells.injEq] at hc
  exact ht hc.2.1
set_option maxHeartbeats 3200000 in
set_option maxRecDepth 1000000 in
theorem showDeep_calls (n : Int) (w : World) (hP : PowOk w) (h0 : 0 ≤ n) (h1 : n ≤ 255) :
    Calls Tryd.prog 6 #[.int .u8 n] w fun e w' => e = .returned (.bool true) ∧ Below w.heap.size w w' := by
  have HP := Aside0.mk hP
  obtain ⟨k, hk, hk99⟩ : ∃ k : Nat, n % 100 = k ∧ k < 100 := ⟨(n % 100).toNat, by omega, by omega⟩
  have hkt : Int.tmod n 100 = k := by rw [Int.tmod_eq_emod_of_nonneg h0]; exact hk
  clear hP
  go_enter Tryd.func6, Tryd.ntmps6
  go_upto_region 3 with (first | (go_at_call 9; (refine Calls.mono (New_any _ 200 w.heap.size (Nat.le_refl _) (by decide)) ?_); rintro e w1 ⟨rfl, hb1, hs1, H1⟩))
  have HH1 := Aside0.mk (show HpIs w1 w.heap.size w.heap.size [] 200 from ⟨by decide, _, by have h := H1; rw [show (min (max 200 0) 1048576 : Int) = 200 by omega] at h; exact h⟩)
  have HB1 := Aside0.mk hb1
  clear H1 hb1 hs1
  go_upto_region 6 with fail
  have hN := blk_new w1 (.cells #[.int .u8 0, .int .i64 0, .string ⟨#[]⟩] 24)
  have hba := below_alloc (Below.refl w1.heap.size w1) (.cells #[.int .u8 0, .int .i64 0, .string ⟨#[]⟩] 24)
  have HH2 := Aside0.mk (HH1.out.below hba)
  have HB2 := Aside0.mk (below_then HB1.out HB1.out.size hba)
  have HN := Aside0.mk hN
  obtain ⟨_, _, Hx⟩ := HH1.out
  have hne : w1.heap.size ≠ w.heap.size := by have := Hx.lt; omega
  have HNE := Aside0.mk hne
  have hbase : w.heap.size ≤ w1.heap.size := HB1.out.size
  have HBS := Aside0.mk hbase
  clear hN hba Hx hne hbase HH1 HB1
  generalize w1.alloc _ = w2 at HH2 HB2 HN ⊢
  generalize w1.heap.size = gb at HN HNE HBS ⊢
  generalize hgh : w.heap.size = gh at HH2 HNE ⊢
  have HGH := Aside0.mk hgh
  clear hgh
  go_loopw [7] (fun i wr => ∃ j : Nat, j ≤ k ∧ i = .int .i64 j ∧ Aside0 (HpIs wr gh gh (deepPs j) 200) ∧ Aside0 (wr.heap[gb]? = some (.cells #[.int .u8 (vAt j).f0, .int .i64 (vAt j).f1, .string (vAt j).f2] 24 (0, 0))) ∧ Aside0 (Below w.heap.size w wr)) (fun i _ => k - (intOf i).toNat)
  case atStart => exact ⟨0, by omega, rfl, HH2, HN, HB2⟩
  case round =>
    obtain ⟨j, hj, rfl, HHr, HNr, HBr⟩ := hrel
    have c0 := (blk_cell HNr.out 0).trans rfl
    have c1 := (blk_cell HNr.out 1).trans rfl
    have c2 := (blk_cell HNr.out 2).trans rfl
    by_cases hlt : j < k
    · have d0 : decide ((j : Int) < k) = true := decide_eq_true (by omega)
      have HPU := Aside0.mk (pairUp_calls HHr.out (by rw [deepPs_len]; omega) (Nat.le_refl _) (vAt j) one1)
      rw [← deepPs_succ, deepPs_len] at HPU
      dsimp only [one1] at HPU
      have hv2 : vAt (j + 1) = ⟨4, j, ⟨#[]⟩⟩ := rfl
      generalize hv : vAt j = v at c0 c1 c2 HPU HNr
      clear hv
      go_upto_region 8 with fail
      go_wp2_with (first | (go_at_call 11; (with_reducible refine HPU.out.mono ?_); rintro e w5 ⟨rfl, hh5, hb5, hk5⟩; have HH5 := Aside0.mk hh5; have HB5 := Aside0.mk (HBr.out.trans (by rw [HGH.out]; exact hb5)); have hn5 := (hk5 gb (blk_lt HNr.out) HNE.out (fun c d h => by rw [HNr.out] at h; simp only [Option.some.injEq, Obj.cells.injEq] at h; obtain ⟨_, rfl, _⟩ := h; decide)).trans HNr.out; have HN5 := Aside0.mk hn5; have q0 := (blk_cell hn5 0).trans rfl; have q1 := (blk_cell hn5 1).trans rfl; have q2 := (blk_cell hn5 2).trans rfl; have f0 := blk_frozen hn5 0; have f1 := blk_frozen hn5 1; have f2 := blk_frozen hn5 2; clear hh5 hb5 hk5 hn5))
      go_roundw
      case rel =>
        have p1 := blk_put HN5.out 0 (.int .u8 4) rfl
        have p2 := blk_put p1 1 (.int .i64 j) rfl
        exact ⟨j + 1, by omega, by go_num, ⟨((HH5.out.far HN5.out (by decide) HNE.out 0 _).far p1 (by decide) HNE.out 1 _).far p2 (by decide) HNE.out 2 _⟩, ⟨by rw [hv2]; exact blk_put p2 2 _ rfl⟩, ⟨((HB5.out.setCell (p := ⟨gb, 0, none⟩) HBS.out _).setCell (p := ⟨gb, 1, none⟩) HBS.out _).setCell (p := ⟨gb, 2, none⟩) HBS.out _⟩⟩
      case measure => simp [intOf]; omega
    · obtain rfl : j = k := by omega
      have d0 : decide ((j : Int) < j) = false := decide_eq_false (by omega)
      have HSH := Aside0.mk (show ∀ W, Below wr.heap.size wr W → Calls Tryd.prog 12 #[.iface 26 (.pointer (some ⟨gh, 0, none⟩)), .agg #[.int .u8 (vAt j).f0, .int .i64 (vAt j).f1, .string (vAt j).f2]] W fun e w' => e = .returned (.string ⟨(wrapN (min j 6) (if 6 < j then [46, 46] else [40, 41])).toArray⟩) ∧ Below W.heap.size W w' from fun W hW => by
        have := show_calls (HP.out.below (below_then HBr.out HBr.out.size hW)) (deep_good j (by omega)) (HHr.out.below hW).ok rfl (vAt j) (vAt_good j (by omega))
        rw [deep_show j 6 j (Nat.le_refl _)] at this
        exact this)
      have HM6 := Aside0.mk (show ((min j 6 : Nat) : Int) = min (j : Int) 6 by omega)
      generalize vAt j = v at c0 c1 c2 HSH HNr
      generalize min j 6 = m6 at HSH HM6
      have hm6 : m6 ≤ 6 := by have := HM6.out; omega
      clear HHr HNr hj
      by_cases h6 : (6 : Int) < j
      · have d6 : decide ((6 : Int) < j) = true := decide_eq_true h6
        rw [if_pos (show 6 < j by omega)] at HSH
        clear h6 hlt
        go_upto_region 12 with fail
        have hl0 : ([46, 46] : List UInt8).length ≤ 2 := by decide
        have hst : (⟨#[46, 46]⟩ : ByteArray) = ⟨(wrapN 0 [46, 46]).toArray⟩ := rfl
        rw [hst]
        clear hst
        generalize ([46, 46] : List UInt8) = b0 at HSH hl0 ⊢
        go_loopw [6, 8] (fun s i wx => ∃ q : Nat, q ≤ m6 ∧ i = .int .i64 q ∧ s = .string ⟨(wrapN q b0).toArray⟩ ∧ Aside0 (wx = wr)) (fun _ i _ => m6 - (intOf i).toNat)
        case atStart => exact ⟨0, by omega, rfl, rfl, ⟨rfl⟩⟩
        case round =>
          obtain ⟨q, hq, rfl, rfl, HW⟩ := hrel
          obtain rfl := HW.out
          have hm := HM6.out
          by_cases hlt : q < m6
          · have dq : decide ((q : Int) < min (j : Int) 6) = true := decide_eq_true (by omega)
            have hsz : (⟨(wrapN q b0).toArray⟩ : ByteArray).size ≤ 100 := by rw [bytes_size, wrapN_len]; omega
            have HE := Aside0.mk (show ((⟨#[40]⟩ : ByteArray) ++ ⟨(wrapN q b0).toArray⟩) ++ ⟨#[32, 46, 32, 49, 41]⟩ = ⟨(wrapN (q + 1) b0).toArray⟩ by
              rw [show (⟨#[40]⟩ : ByteArray) = ⟨[40].toArray⟩ from rfl, show (⟨#[32, 46, 32, 49, 41]⟩ : ByteArray) = ⟨[32, 46, 32, 49, 41].toArray⟩ from rfl, bytes_app, bytes_app]; rfl)
            clear hm
            generalize (⟨(wrapN q b0).toArray⟩ : ByteArray) = W at hsz HE ⊢
            have z1 : ¬ 9223372036854775807 < 1 + W.size := by omega
            have z2 : ¬ 9223372036854775807 < 1 + W.size + 5 := by omega
            go_wp2_with fail
            go_roundw
            case rel => exact ⟨q + 1, by omega, by go_num, by rw [HE.out], (by first | exact ⟨rfl⟩ | exact ⟨trivial⟩)⟩
            case measure => simp [intOf]; omega
          · obtain rfl : q = m6 := by omega
            have dq : decide ((q : Int) < min (j : Int) 6) = false := decide_eq_false (by omega)
            clear hm hlt
            generalize (⟨(wrapN q b0).toArray⟩ : ByteArray) = W at HSH ⊢
            go_wp2_with (first
              | (go_at_call 12; (with_reducible refine (HSH.out _ (Below.refl _ _)).mono ?_); rintro e w7 ⟨rfl, hb7⟩; have HB7 := Aside0.mk (below_then HBr.out HBr.out.size hb7); clear hb7)
              | (go_at_call 8; (with_reducible refine (awake_calls _ (HP.out.below HB7.out)).mono ?_); rintro e w8 ⟨rfl, hb8⟩; have HB8 := Aside0.mk (below_then HB7.out HB7.out.size hb8); clear hb8))
            go_ret
            exact ⟨rfl, HB8.out⟩
      · have d6 : decide ((6 : Int) < j) = false := decide_eq_false h6
        rw [if_neg (show ¬ 6 < j by omega)] at HSH
        clear h6 hlt
        go_upto_region 12 with fail
        have hl0 : ([40, 41] : List UInt8).length ≤ 2 := by decide
        have hst : (⟨#[40, 41]⟩ : ByteArray) = ⟨(wrapN 0 [40, 41]).toArray⟩ := rfl
        rw [hst]
        clear hst
        generalize ([40, 41] : List UInt8) = b0 at HSH hl0 ⊢
        go_loopw [6, 8] (fun s i wx => ∃ q : Nat, q ≤ m6 ∧ i = .int .i64 q ∧ s = .string ⟨(wrapN q b0).toArray⟩ ∧ Aside0 (wx = wr)) (fun _ i _ => m6 - (intOf i).toNat)
        case atStart => exact ⟨0, by omega, rfl, rfl, ⟨rfl⟩⟩
        case round =>
          obtain ⟨q, hq, rfl, rfl, HW⟩ := hrel
          obtain rfl := HW.out
          have hm := HM6.out
          by_cases hlt : q < m6
          · have dq : decide ((q : Int) < min (j : Int) 6) = true := decide_eq_true (by omega)
            have hsz : (⟨(wrapN q b0).toArray⟩ : ByteArray).size ≤ 100 := by rw [bytes_size, wrapN_len]; omega
            have HE := Aside0.mk (show ((⟨#[40]⟩ : ByteArray) ++ ⟨(wrapN q b0).toArray⟩) ++ ⟨#[32, 46, 32, 49, 41]⟩ = ⟨(wrapN (q + 1) b0).toArray⟩ by
              rw [show (⟨#[40]⟩ : ByteArray) = ⟨[40].toArray⟩ from rfl, show (⟨#[32, 46, 32, 49, 41]⟩ : ByteArray) = ⟨[32, 46, 32, 49, 41].toArray⟩ from rfl, bytes_app, bytes_app]; rfl)
            clear hm
            generalize (⟨(wrapN q b0).toArray⟩ : ByteArray) = W at hsz HE ⊢
            have z1 : ¬ 9223372036854775807 < 1 + W.size := by omega
            have z2 : ¬ 9223372036854775807 < 1 + W.size + 5 := by omega
            go_wp2_with fail
            go_roundw
            case rel => exact ⟨q + 1, by omega, by go_num, by rw [HE.out], (by first | exact ⟨rfl⟩ | exact ⟨trivial⟩)⟩
            case measure => simp [intOf]; omega
          · obtain rfl : q = m6 := by omega
            have dq : decide ((q : Int) < min (j : Int) 6) = false := decide_eq_false (by omega)
            clear hm hlt
            generalize (⟨(wrapN q b0).toArray⟩ : ByteArray) = W at HSH ⊢
            go_wp2_with (first
              | (go_at_call 12; (with_reducible refine (HSH.out _ (Below.refl _ _)).mono ?_); rintro e w7 ⟨rfl, hb7⟩; have HB7 := Aside0.mk (below_then HBr.out HBr.out.size hb7); clear hb7)
              | (go_at_call 8; (with_reducible refine (awake_calls _ (HP.out.below HB7.out)).mono ?_); rintro e w8 ⟨rfl, hb8⟩; have HB8 := Aside0.mk (below_then HB7.out HB7.out.size hb8); clear hb8))
            go_ret
            exact ⟨rfl, HB8.out⟩
end Go.Proofs.YtobchfcabedmhaaDoor.NW
