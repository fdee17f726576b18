/- Whatever the list and the Tag, HeapThings' code comes to true. -/
import Derived.Test.YtahcnpjgbhpbeaaHh
namespace Go.Proofs.Ytahcnpjgbhpbeaa.HP
open Go.RowKit Go.Proofs.YtahcnpjgbhpbeaaW.PrintWords
set_option linter.unusedVariables false
set_option linter.unusedSimpArgs false

theorem flat8 (l : List (List Value)) (h : ∀ r ∈ l, r.length = 8) (i j : Nat) (hj : j < 8) : l.flatten[i * 8 + j]? = (l[i]?).bind (fun r => r[j]?) := by
  induction l generalizing i with
  | nil => simp
  | cons r l ih =>
    have hr : r.length = 8 := h r (by simp)
    cases i with
    | zero => simp [List.getElem?_append, hr, hj]
    | succ i =>
      rw [List.flatten_cons, List.getElem?_append_right (by omega), hr, show (i + 1) * 8 + j - 8 = i * 8 + j by omega, ih (fun r hr => h r (by simp [hr])) i]
      simp
def thing (t : Int) (z : Int) : List Value := [.int .u8 t, .int .u8 0, .int .i64 0, .string ⟨#[]⟩, .int .u8 0, .int .i64 0, .string ⟨#[]⟩, .int .i64 z]
def things (t : Int) (zs : List Int) : List Value := (zs.map (thing t)).flatten
theorem things_at (t : Int) (zs : List Int) (i j : Nat) (hj : j < 8) (hi : i < zs.length) : (things t zs)[i * 8 + j]? = (thing t (zs.getD i 0))[j]? := by
  rw [things, flat8 _ (by intro r hr; simp at hr; obtain ⟨z, _, rfl⟩ := hr; rfl) i j hj]
  simp [hi, List.getD]
theorem things_snoc (t : Int) (zs : List Int) (k : Nat) (hk : k < zs.length) : things t (zs.take k) ++ thing t (zs.getD k 0) = things t (zs.take (k + 1)) := by
  rw [List.take_add_one, List.getElem?_eq_getElem hk]
  simp only [things, List.map_append, List.flatten_append, Option.toList_some, List.map_cons, List.map_nil, List.flatten_cons, List.flatten_nil, List.append_nil]
  simp [List.getD, hk]

theorem HeapIs.idle {w w' : World} {base g g' : Nat} {L : Int} {row : Option Nat} (H : HeapIs w base g 0 [] L (.slice none 0 0)) (hF : Fr w w' g' row) (h1 : g ≠ g') (h2 : some g ≠ row) : HeapIs w' base g 0 [] L (.slice none 0 0) :=
  ⟨(hF.block g H.lt h1 h2).trans H.blk, World.ownsRow_nil _ _ _ _, H.ne, Nat.le_trans H.base_le hF.size, H.few⟩

set_option maxHeartbeats 1600000 in
set_option maxRecDepth 1000000 in
theorem things_far (w : World) (ao : Option Addr) (len cap : Nat) (tag : Int) (h : 100 < len) (hm : len ≤ 9223372036854775807) :
    Calls Try.prog 4 #[.slice ao len cap, .int .u8 tag] w fun e w' => e = .returned (.bool true) ∧ Below w.heap.size w w' := by
  have h1 : (100 : Int) < len := by omega
  go_enter Try.func4, Try.ntmps4
  go_wp2_with fail
  refine Calls.mono (awake_calls w) ?_
  rintro e w1 ⟨rfl, hb⟩
  go_wp2_with fail
  go_ret
  exact ⟨rfl, hb⟩

set_option maxHeartbeats 1600000 in
set_option maxRecDepth 1000000 in
theorem things_near (w : World) (ao : Option Addr) (len cap : Nat) (tag : Int) (zs : List Int) (h : len ≤ 100) (hz : zs.length = len)
    (hr : ∀ j, j < len → ∃ b off, ao = some ⟨b, off, none⟩ ∧ b < w.heap.size ∧ w.cell? ⟨b, off + j, none⟩ = some (.int .i64 (zs.getD j 0))) :
    Calls Try.prog 4 #[.slice ao len cap, .int .u8 tag] w fun e w' => e = .returned (.bool true) ∧ Below w.heap.size w w' := by
  have h1 : ¬ (100 : Int) < len := by omega
  go_enter Try.func4, Try.ntmps4
  go_wp2_with fail
  refine Calls.mono (New_any w 200 w.heap.size (Nat.le_refl _) (by decide)) ?_
  rintro e w1 ⟨rfl, hb1, hs1, H1⟩
  rw [show (min (max 200 0) 1048576 : Int) = 200 by omega] at H1
  go_wp2_with fail
  refine Calls.mono (New_any w1 200 w.heap.size (by omega) (by decide)) ?_
  rintro e w2 ⟨rfl, hb2, hs2, H2⟩
  rw [show (min (max 200 0) 1048576 : Int) = 200 by omega] at H2
  have b2 := hb1.trans (hb2.mono hb1.size)
  have H1' := H1.below hb2
  have hne : w1.heap.size ≠ w.heap.size := by omega
  clear hb1 hb2 H1
  go_wp2_with fail
  · clear h1
    rename_i hp _ _
    rw [hp]
    go_loopw [8] (fun i wr => ∃ k : Nat, i = .int .i64 k ∧ k ≤ len ∧ ∃ v, HeapIs wr w.heap.size w.heap.size k (things 7 (zs.take k)) 200 v ∧ HeapIs wr w.heap.size w1.heap.size 0 [] 200 (.slice none 0 0) ∧ some w1.heap.size ≠ v.ownBlock ∧ Below w.heap.size w wr) (fun i _ => (101 : Nat) - (intOf i).toNat)
    case atStart => exact ⟨0, rfl, by omega, _, H1', H2, by simp [Value.ownBlock], b2⟩
    case round =>
      obtain ⟨k, rfl, hk, v, H, H0, hq, hb⟩ := hrel
      clear H1' H2 b2
      by_cases hlt : k < len
      · obtain ⟨pb, po, rfl, hpb, hcell⟩ := hr k hlt
        have hc := (hb.cell (p := ⟨pb, po + k, none⟩) hpb).trans hcell
        have hlt' : (k : Int) < len := by omega
        obtain ⟨z, hzz⟩ : ∃ z, zs.getD k 0 = z := ⟨_, rfl⟩
        rw [hzz] at hc
        have hcell : True := trivial
        have hzz' : Hid (zs.getD k 0 = z) := hzz
        clear hzz
        go_wp2_with fail
        refine Calls.mono (Make_any H (by omega) 7 z (by omega)) ?_
        rintro e u ⟨a, b, c, rfl, hA⟩
        obtain ⟨rfl, rfl, rfl, v2, G, hF, hv2⟩ := hA.room (by omega)
        rw [show [Value.int .u8 7, .int .u8 0, .int .i64 0, .string ⟨#[]⟩, .int .u8 0, .int .i64 0, .string ⟨#[]⟩, .int .i64 z] = thing 7 z from rfl, ← hzz'.out, things_snoc 7 zs k (by omega)] at G
        have hb' := H.fr hb hF (Nat.le_refl _) (Nat.le_refl _)
        have G0 := H0.idle hF hne hq
        have hq2 : some w1.heap.size ≠ v2.ownBlock := by
          rcases hv2 with e | ⟨k', e, e'⟩
          · rw [e]; exact hq
          · rw [e]; intro e2; have := H0.lt; simp at e2; omega
        have G3 := G.below ((Below.refl _ u).alloc (Nat.le_refl _) (.cells #[.int .u8 7, .int .i64 k, .string ⟨#[]⟩] 26))
        have G4 := G0.below ((Below.refl _ u).alloc (Nat.le_refl _) (.cells #[.int .u8 7, .int .i64 k, .string ⟨#[]⟩] 26))
        have hb3 := hb'.alloc hb'.size (.cells #[.int .u8 7, .int .i64 k, .string ⟨#[]⟩] 26)
        clear G G0 hF hv2 hA H H0 hq hb hb' hc hcell
        go_wp2_with fail
        go_roundw
        case rel => exact ⟨k + 1, by push_cast; rfl, by omega, v2, G3, G4, hq2, hb3⟩
        case measure => simp [intOf]; omega
      · obtain rfl : k = len := by omega
        have hall : zs.take k = zs := by rw [List.take_of_length_le]; omega
        rw [hall] at H
        clear hall
        go_wp2_with fail
        go_loopw [11] (fun i wr => ∃ j : Nat, i = .int .i64 j ∧ j ≤ k ∧ HeapIs wr w.heap.size w.heap.size k (things 7 zs) 200 v ∧ HeapIs wr w.heap.size w1.heap.size 0 [] 200 (.slice none 0 0) ∧ Below w.heap.size w wr) (fun i _ => (101 : Nat) - (intOf i).toNat)
        case atStart => exact ⟨0, rfl, by omega, H, H0, hb⟩
        case round =>
          obtain ⟨j, rfl, hj, H, H0, hb⟩ := hrel
          by_cases hlt : j < k
          · obtain ⟨gv, cap', rfl, hgv, hgg, hcap, hcell⟩ := H.cell hlt
            have hT : (things 7 zs)[j * 8]? = some (.int .u8 7) := by have := things_at 7 zs j 0 (by omega) (by omega); simpa [thing] using this
            have hX : (things 7 zs)[j * 8 + 7]? = some (.int .i64 (zs.getD j 0)) := by have := things_at 7 zs j 7 (by omega) (by omega); simpa [thing] using this
            obtain ⟨pb, po, rfl, hpb, hl⟩ := hr j (by omega)
            obtain ⟨z, hzz⟩ : ∃ z, zs.getD j 0 = z := ⟨_, rfl⟩
            rw [hzz] at hl hX
            have kT := (hcell 0 _ hT).1
            have kX := (hcell 7 _ hX).1
            rw [Nat.add_zero] at kT
            have A1 := at_hit H 7 j hlt hT
            have A2 := at_out H0 7 j ⟨#[]⟩ (by omega)
            have A3 := at_tag H 6 7 j ⟨#[]⟩ hlt hT (by decide)
            have hc0 := (hb.cell (p := ⟨pb, po + j, none⟩) hpb).trans hl
            have b1 := (Below.refl _ wr).alloc (Nat.le_refl _) (.cells #[.int .u8 7, .int .i64 j, .string ⟨#[]⟩] 26)
            have V1 := blk_new wr (.cells #[.int .u8 7, .int .i64 j, .string ⟨#[]⟩] 26)
            have hlt' : (j : Int) < k := by omega
            have hpw : pb < wr.heap.size := Nat.lt_of_lt_of_le hpb hb.size
            clear hcell hX hT hzz hl hr hcap hgg hlt
            have c1 := cells_of V1 0 _ rfl
            have c2 := cells_of V1 1 _ rfl
            have c3 := cells_of V1 2 _ rfl
            go_wp2_with fail
            refine Calls.mono (Thing_hit (by omega) (A1.later b1) ((b1.cell (p := ⟨gv, j * 8, none⟩) hgv).trans kT) ((b1.cell (p := ⟨gv, j * 8 + 7, none⟩) hgv).trans kX)) ?_
            rintro e u1 ⟨rfl, e1⟩
            have b2 := b1.trans (e1.mono b1.size)
            have V2 := blk_below V1 e1
            clear e1 c1 c2 c3 V1
            have c1 := cells_of V2 0 _ rfl
            have c2 := cells_of V2 1 _ rfl
            have c3 := cells_of V2 2 _ rfl
            go_wp2_with fail
            refine Calls.mono (Thing_bad (A2.later b2)) ?_
            rintro e u2 ⟨rfl, e1⟩
            have b3 := b2.trans (e1.mono b2.size)
            have V3 := blk_below V2 e1
            clear e1 c1 c2 c3 V2
            have c1 := cells_of V3 0 _ rfl
            have c2 := cells_of V3 1 _ rfl
            have c3 := cells_of V3 2 _ rfl
            go_wp2_with fail
            refine Calls.mono (Thing_bad (A3.later b3)) ?_
            rintro e u3 ⟨rfl, e1⟩
            have b4 := b3.trans (e1.mono b3.size)
            have V4 := blk_below V3 e1
            clear e1 c1 c2 c3 V3
            have G3 := H.below b4
            have G4 := H0.below b4
            have hb3 := hb.trans (b4.mono hb.size)
            have c0 := (b4.cell (p := ⟨pb, po + j, none⟩) hpw).trans hc0
            clear H H0 hb A1 A2 A3 b1 b2 b3 b4 V4 hc0 kT kX
            go_wp2_with fail
            go_roundw
            case rel => exact ⟨j + 1, by push_cast; rfl, by omega, G3, G4, hb3⟩
            case measure => simp [intOf]; omega
          · obtain rfl : j = k := by omega
            clear H H0 hr
            go_wp2_with fail
            refine Calls.mono (awake_calls _) ?_
            rintro e u1 ⟨rfl, e1⟩
            have hb3 := hb.trans (e1.mono hb.size)
            go_wp2_with fail
            go_ret
            exact ⟨rfl, hb3⟩
  · clear h1
    rename_i hp _ _
    rw [hp]
    go_loopw [8] (fun i wr => ∃ k : Nat, i = .int .i64 k ∧ k ≤ len ∧ ∃ v, HeapIs wr w.heap.size w.heap.size k (things 6 (zs.take k)) 200 v ∧ HeapIs wr w.heap.size w1.heap.size 0 [] 200 (.slice none 0 0) ∧ some w1.heap.size ≠ v.ownBlock ∧ Below w.heap.size w wr) (fun i _ => (101 : Nat) - (intOf i).toNat)
    case atStart => exact ⟨0, rfl, by omega, _, H1', H2, by simp [Value.ownBlock], b2⟩
    case round =>
      obtain ⟨k, rfl, hk, v, H, H0, hq, hb⟩ := hrel
      clear H1' H2 b2
      by_cases hlt : k < len
      · obtain ⟨pb, po, rfl, hpb, hcell⟩ := hr k hlt
        have hc := (hb.cell (p := ⟨pb, po + k, none⟩) hpb).trans hcell
        have hlt' : (k : Int) < len := by omega
        obtain ⟨z, hzz⟩ : ∃ z, zs.getD k 0 = z := ⟨_, rfl⟩
        rw [hzz] at hc
        have hcell : True := trivial
        have hzz' : Hid (zs.getD k 0 = z) := hzz
        clear hzz
        go_wp2_with fail
        refine Calls.mono (Make_any H (by omega) 6 z (by omega)) ?_
        rintro e u ⟨a, b, c, rfl, hA⟩
        obtain ⟨rfl, rfl, rfl, v2, G, hF, hv2⟩ := hA.room (by omega)
        rw [show [Value.int .u8 6, .int .u8 0, .int .i64 0, .string ⟨#[]⟩, .int .u8 0, .int .i64 0, .string ⟨#[]⟩, .int .i64 z] = thing 6 z from rfl, ← hzz'.out, things_snoc 6 zs k (by omega)] at G
        have hb' := H.fr hb hF (Nat.le_refl _) (Nat.le_refl _)
        have G0 := H0.idle hF hne hq
        have hq2 : some w1.heap.size ≠ v2.ownBlock := by
          rcases hv2 with e | ⟨k', e, e'⟩
          · rw [e]; exact hq
          · rw [e]; intro e2; have := H0.lt; simp at e2; omega
        have G3 := G.below ((Below.refl _ u).alloc (Nat.le_refl _) (.cells #[.int .u8 6, .int .i64 k, .string ⟨#[]⟩] 26))
        have G4 := G0.below ((Below.refl _ u).alloc (Nat.le_refl _) (.cells #[.int .u8 6, .int .i64 k, .string ⟨#[]⟩] 26))
        have hb3 := hb'.alloc hb'.size (.cells #[.int .u8 6, .int .i64 k, .string ⟨#[]⟩] 26)
        clear G G0 hF hv2 hA H H0 hq hb hb' hc hcell
        go_wp2_with fail
        go_roundw
        case rel => exact ⟨k + 1, by push_cast; rfl, by omega, v2, G3, G4, hq2, hb3⟩
        case measure => simp [intOf]; omega
      · obtain rfl : k = len := by omega
        have hall : zs.take k = zs := by rw [List.take_of_length_le]; omega
        rw [hall] at H
        clear hall
        go_wp2_with fail
        go_loopw [11] (fun i wr => ∃ j : Nat, i = .int .i64 j ∧ j ≤ k ∧ HeapIs wr w.heap.size w.heap.size k (things 6 zs) 200 v ∧ HeapIs wr w.heap.size w1.heap.size 0 [] 200 (.slice none 0 0) ∧ Below w.heap.size w wr) (fun i _ => (101 : Nat) - (intOf i).toNat)
        case atStart => exact ⟨0, rfl, by omega, H, H0, hb⟩
        case round =>
          obtain ⟨j, rfl, hj, H, H0, hb⟩ := hrel
          by_cases hlt : j < k
          · obtain ⟨gv, cap', rfl, hgv, hgg, hcap, hcell⟩ := H.cell hlt
            have hT : (things 6 zs)[j * 8]? = some (.int .u8 6) := by have := things_at 6 zs j 0 (by omega) (by omega); simpa [thing] using this
            have hX : (things 6 zs)[j * 8 + 7]? = some (.int .i64 (zs.getD j 0)) := by have := things_at 6 zs j 7 (by omega) (by omega); simpa [thing] using this
            obtain ⟨pb, po, rfl, hpb, hl⟩ := hr j (by omega)
            obtain ⟨z, hzz⟩ : ∃ z, zs.getD j 0 = z := ⟨_, rfl⟩
            rw [hzz] at hl hX
            have kT := (hcell 0 _ hT).1
            have kX := (hcell 7 _ hX).1
            rw [Nat.add_zero] at kT
            have A1 := at_hit H 6 j hlt hT
            have A2 := at_out H0 6 j ⟨#[]⟩ (by omega)
            have A3 := at_tag H 7 6 j ⟨#[]⟩ hlt hT (by decide)
            have hc0 := (hb.cell (p := ⟨pb, po + j, none⟩) hpb).trans hl
            have b1 := (Below.refl _ wr).alloc (Nat.le_refl _) (.cells #[.int .u8 6, .int .i64 j, .string ⟨#[]⟩] 26)
            have V1 := blk_new wr (.cells #[.int .u8 6, .int .i64 j, .string ⟨#[]⟩] 26)
            have hlt' : (j : Int) < k := by omega
            have hpw : pb < wr.heap.size := Nat.lt_of_lt_of_le hpb hb.size
            clear hcell hX hT hzz hl hr hcap hgg hlt
            have c1 := cells_of V1 0 _ rfl
            have c2 := cells_of V1 1 _ rfl
            have c3 := cells_of V1 2 _ rfl
            go_wp2_with fail
            refine Calls.mono (Thing_hit (by omega) (A1.later b1) ((b1.cell (p := ⟨gv, j * 8, none⟩) hgv).trans kT) ((b1.cell (p := ⟨gv, j * 8 + 7, none⟩) hgv).trans kX)) ?_
            rintro e u1 ⟨rfl, e1⟩
            have b2 := b1.trans (e1.mono b1.size)
            have V2 := blk_below V1 e1
            clear e1 c1 c2 c3 V1
            have c1 := cells_of V2 0 _ rfl
            have c2 := cells_of V2 1 _ rfl
            have c3 := cells_of V2 2 _ rfl
            go_wp2_with fail
            refine Calls.mono (Thing_bad (A2.later b2)) ?_
            rintro e u2 ⟨rfl, e1⟩
            have b3 := b2.trans (e1.mono b2.size)
            have V3 := blk_below V2 e1
            clear e1 c1 c2 c3 V2
            have c1 := cells_of V3 0 _ rfl
            have c2 := cells_of V3 1 _ rfl
            have c3 := cells_of V3 2 _ rfl
            go_wp2_with fail
            refine Calls.mono (Thing_bad (A3.later b3)) ?_
            rintro e u3 ⟨rfl, e1⟩
            have b4 := b3.trans (e1.mono b3.size)
            have V4 := blk_below V3 e1
            clear e1 c1 c2 c3 V3
            have G3 := H.below b4
            have G4 := H0.below b4
            have hb3 := hb.trans (b4.mono hb.size)
            have c0 := (b4.cell (p := ⟨pb, po + j, none⟩) hpw).trans hc0
            clear H H0 hb A1 A2 A3 b1 b2 b3 b4 V4 hc0 kT kX
            go_wp2_with fail
            go_roundw
            case rel => exact ⟨j + 1, by push_cast; rfl, by omega, G3, G4, hb3⟩
            case measure => simp [intOf]; omega
          · obtain rfl : j = k := by omega
            clear H H0 hr
            go_wp2_with fail
            refine Calls.mono (awake_calls _) ?_
            rintro e u1 ⟨rfl, e1⟩
            have hb3 := hb.trans (e1.mono hb.size)
            go_wp2_with fail
            go_ret
            exact ⟨rfl, hb3⟩
end Go.Proofs.Ytahcnpjgbhpbeaa.HP
