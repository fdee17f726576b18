/- sacristanref01.May and sacristanref02.At. -/
import Derived.Test.YtobchfcabedmhaaDoorHj
import Derived.Deep.RegionHeld2
import Derived.StillTailTactics
namespace Go.Proofs.YtobchfcabedmhaaDoor.NW
open Go.RowKit Go.Proofs.YtobchfcabedmhaaDoorW.PrintWords Go.Proofs.YtobchfcabedmhaaDoorW.PrintMore Go.Proofs.YtobchfcabedmhaaDoor.PS
set_option linter.unusedVariables false
set_option linter.unusedSimpArgs false
def May (v : S24) : Prop := v.f0 ≤ 7 ∧ (v.f0 ≠ 3 → v.f2.toList = []) ∧ v.f2.size ≤ 65536
theorem toList_length (s : ByteArray) : s.toList.length = s.size := by rw [ByteArray.toList_eq]; rfl
set_option maxHeartbeats 1600000 in
set_option maxRecDepth 1000000 in
theorem may_calls (v : S24) (w : World) : Calls Tryd.prog 10 #[.agg #[.int .u8 v.f0, .int .i64 v.f1, .string v.f2]] w fun e w' => ∃ b, e = .returned (.bool b) ∧ (b = true → May v) ∧ Below w.heap.size w w' := by
  obtain ⟨t, n, s⟩ := v
  have HB := Aside0.mk (below_alloc (Below.refl w.heap.size w) (.cells #[.int .u8 t, .int .i64 n, .string s] 24))
  have HI := Aside0.mk (blk_new w (.cells #[.int .u8 t, .int .i64 n, .string s] 24))
  go_enter Tryd.func10, Tryd.ntmps10
  go_upto_region 1 with fail
  generalize w.alloc (.cells #[.int .u8 t, .int .i64 n, .string s] 24) = w1 at HI HB ⊢
  generalize w.heap.size = gb at HI ⊢
  have c0 := (blk_cell HI.out 0).trans rfl
  have c1 := (blk_cell HI.out 1).trans rfl
  have c2 := (blk_cell HI.out 2).trans rfl
  by_cases h7 : t ≤ 7
  · have d7 : decide (7 < t) = false := decide_eq_false (by omega)
    by_cases h3 : t = 3
    · subst h3
      by_cases hs : s.size ≤ 65536
      · have ds : decide ((65536 : Int) < s.size) = false := decide_eq_false (by omega)
        have HM := Aside0.mk (show May ⟨3, n, s⟩ from ⟨by show (3 : Int) ≤ 7; decide, fun h => absurd rfl h, hs⟩)
        go_wp2_with fail
        all_goals
          go_ret
          first | exact ⟨_, rfl, fun _ => HM.out, HB.out⟩ | exact .inl ⟨rfl, HB.out⟩
      · have ds : decide ((65536 : Int) < s.size) = true := decide_eq_true (by omega)
        go_wp2_with fail
        all_goals
          go_ret
          first | exact ⟨false, rfl, (fun h => absurd h (by decide)), HB.out⟩ | exact .inl ⟨rfl, HB.out⟩
    · have b3 : (t != 3) = true := by simpa using h3
      have b3' : (t == 3) = false := by simpa using h3
      by_cases hs : s.toList = []
      · have hz : s.size = 0 := by rw [← toList_length s, hs]; rfl
        have HM := Aside0.mk (show May ⟨t, n, s⟩ from ⟨h7, fun _ => hs, by show s.size ≤ _; omega⟩)
        have bs : (s.toList != ([] : List UInt8)) = false := bne_eq_false_iff_eq.mpr hs
        have ds : decide ((65536 : Int) < s.size) = false := decide_eq_false (by omega)
        clear hs hz h3 h7
        go_wp2_with fail
        all_goals
          go_ret
          first | exact ⟨_, rfl, fun _ => HM.out, HB.out⟩ | exact .inl ⟨rfl, HB.out⟩
      · have bs : (s.toList != ([] : List UInt8)) = true := bne_iff_ne.mpr hs
        have bs' : (s.toList == ([] : List UInt8)) = false := beq_eq_false_iff_ne.mpr hs
        clear h3 h7
        go_wp2_with fail
        all_goals
          go_ret
          first | exact ⟨false, rfl, (fun h => absurd h (by decide)), HB.out⟩ | exact .inl ⟨rfl, HB.out⟩
  · have d7 : decide (7 < t) = true := decide_eq_true (by omega)
    go_wp2_with fail
    all_goals
      go_ret
      first | exact ⟨false, rfl, (fun h => absurd h (by decide)), HB.out⟩ | exact .inl ⟨rfl, HB.out⟩
theorem May.good {v : S24} (h : May v) (h0 : 0 ≤ v.f0) (h1 : -9223372036854775808 ≤ v.f1 ∧ v.f1 ≤ 9223372036854775807) : Good v :=
  ⟨h0, h1, h.2.2, fun h4 => by
    have h5 := h.2.1 (by omega)
    apply ByteArray.ext
    have h6 : v.f2.data.toList = [] := by rw [ByteArray.toList_eq] at h5; exact h5
    rw [← Array.toArray_toList (xs := v.f2.data), h6]⟩
/-! ### the document's pairs and what they show -/
theorem blk_new2 (w : World) (o p : Obj) : ((w.alloc o).alloc p).heap[w.heap.size + 1]? = some p := by
  rw [show w.heap.size + 1 = (w.alloc o).heap.size from (World.size_alloc ..).symm]; exact blk_new _ _
def rowsOf (ps : List (S24 × S24)) : List S34 := ps.map fun p => ⟨4, p.1, p.2, 0⟩
def aggT (x : S34) : Value := .agg #[.int .u8 x.f0, .int .u8 x.f1.f0, .int .i64 x.f1.f1, .string x.f1.f2, .int .u8 x.f2.f0, .int .i64 x.f2.f1, .string x.f2.f2, .int .i64 x.f3]
def atOf (ps : List (S24 × S24)) (n : Int) : S34 × Bool := match pairAt ps n with | none => (z34, false) | some p => (⟨4, p.1, p.2, 0⟩, true)
theorem cell_drew {W : World} {p : Addr} {v : Value} (h : W.cell? p = some v) : W.drew.cell? p = some v := h
theorem far8 (W : World) (g : Nat) (u0 u1 u2 u3 u4 u5 u6 u7 : Value) (k : Nat) (h : k ≠ g) : ((((((((W.setCell ⟨g, 0, none⟩ u0).setCell ⟨g, 1, none⟩ u1).setCell ⟨g, 2, none⟩ u2).setCell ⟨g, 3, none⟩ u3).setCell ⟨g, 4, none⟩ u4).setCell ⟨g, 5, none⟩ u5).setCell ⟨g, 6, none⟩ u6).setCell ⟨g, 7, none⟩ u7).heap[k]? = W.heap[k]? :=
  (Below.heap_setCell _ _ _ k h).trans ((Below.heap_setCell _ _ _ k h).trans ((Below.heap_setCell _ _ _ k h).trans ((Below.heap_setCell _ _ _ k h).trans ((Below.heap_setCell _ _ _ k h).trans ((Below.heap_setCell _ _ _ k h).trans ((Below.heap_setCell _ _ _ k h).trans (Below.heap_setCell _ _ _ k h)))))))
set_option maxHeartbeats 1600000 in
set_option maxRecDepth 1000000 in
theorem at_calls (ps : List (S24 × S24)) (A : Option Addr) (c : Nat) (n : Int) (w : World) (hl : k34.C w A (rowsOf ps).length (rowsOf ps)) :
    Calls Tryd.prog 20 #[.slice A (rowsOf ps).length c, .agg #[.int .u8 4, .int .i64 n, .string ⟨#[]⟩]] w fun e w' => e = .returned (.tuple #[aggT (atOf ps n).1, .bool (atOf ps n).2]) ∧ Below w.heap.size w w' := by
  have hlen : (rowsOf ps).length = ps.length := by simp [rowsOf]
  have hba := below_alloc (below_alloc (Below.refl w.heap.size w) (.cells #[.int .u8 4, .int .i64 n, .string ⟨#[]⟩] 24)) (.cells #[.int .u8 0, .int .u8 0, .int .i64 0, .string ⟨#[]⟩, .int .u8 0, .int .i64 0, .string ⟨#[]⟩, .int .i64 0] 34)
  have HI := Aside0.mk (blk_alloc (blk_new w (.cells #[.int .u8 4, .int .i64 n, .string ⟨#[]⟩] 24)) (.cells #[.int .u8 0, .int .u8 0, .int .i64 0, .string ⟨#[]⟩, .int .u8 0, .int .i64 0, .string ⟨#[]⟩, .int .i64 0] 34))
  have HT := Aside0.mk (blk_new2 w (.cells #[.int .u8 4, .int .i64 n, .string ⟨#[]⟩] 24) (.cells #[.int .u8 0, .int .u8 0, .int .i64 0, .string ⟨#[]⟩, .int .u8 0, .int .i64 0, .string ⟨#[]⟩, .int .i64 0] 34))
  have HB := Aside0.mk hba
  have HL := Aside0.mk hl
  have hm := Kd.C_max hl
  have HLEN := Aside0.mk hlen
  clear hl hba hlen
  generalize hat : atOf ps n = q
  have HAT := Aside0.mk hat
  clear hat
  go_enter Tryd.func20, Tryd.ntmps20
  go_upto_region 1 with fail
  generalize ((w.alloc _).alloc _) = w1 at HI HT HB ⊢
  have HGB := Aside0.mk (Nat.le_refl w.heap.size)
  generalize hgb : w.heap.size = gb at HI HT ⊢
  have HGE := Aside0.mk hgb
  clear hgb HGB
  have c0 := (blk_cell HI.out 0).trans rfl
  have c1 := (blk_cell HI.out 1).trans rfl
  have c2 := (blk_cell HI.out 2).trans rfl
  by_cases hn : 0 ≤ n ∧ n < ((rowsOf ps).length : Int)
  · obtain ⟨n0, n1⟩ := hn
    have d0 : decide (n < 0) = false := decide_eq_false (by omega)
    have d1 : decide (((rowsOf ps).length : Int) ≤ n) = false := decide_eq_false (by omega)
    obtain ⟨ad, e, e0, e1, e2, e3, e4, e5, e6, e7⟩ := at_T34 HL.out n n0 n1
    subst e
    have hp : q = (rd_T34 (rowsOf ps) n, true) ∧ (rd_T34 (rowsOf ps) n).f0 = 4 := by
      have h2 : n.toNat < ps.length := by have := HLEN.out; omega
      have h1 : pairAt ps n = some ps[n.toNat] := by
        unfold pairAt
        rw [if_pos ⟨n0, by have := HLEN.out; omega⟩, List.getElem?_eq_getElem h2]
      have h3 : rd_T34 (rowsOf ps) n = ⟨4, ps[n.toNat].1, ps[n.toNat].2, 0⟩ := by simp [rowsOf, rd_T34, h2]
      rw [h3]
      refine ⟨?_, rfl⟩
      rw [← HAT.out]
      unfold atOf
      rw [h1]
    generalize rd_T34 (rowsOf ps) n = x at e0 e1 e2 e3 e4 e5 e6 e7 hp
    obtain ⟨rfl, hp4⟩ := hp
    have b4 : (x.f0 == 4) = true := by rw [hp4]; rfl
    rw [hp4] at e0
    have HAB := Aside0.mk (show (ad.add (n.toNat * 8)).block < gb by rw [← HGE.out]; exact World.block_lt_of_cell? w _ e0)
    have hlift : ∀ (p : Addr) (v : Value), w.cell? p = some v → w1.cell? p = some v := fun p v h => (HB.out.cell (World.block_lt_of_cell? w p h)).trans h
    replace e0 := hlift _ _ e0
    replace e1 := hlift _ _ e1
    replace e2 := hlift _ _ e2
    replace e3 := hlift _ _ e3
    replace e4 := hlift _ _ e4
    replace e5 := hlift _ _ e5
    replace e6 := hlift _ _ e6
    replace e7 := hlift _ _ e7
    clear hlift
    have f0 := blk_frozen HT.out 0
    have f1 := blk_frozen HT.out 1
    have f2 := blk_frozen HT.out 2
    have f3 := blk_frozen HT.out 3
    have f4 := blk_frozen HT.out 4
    have f5 := blk_frozen HT.out 5
    have f6 := blk_frozen HT.out 6
    have f7 := blk_frozen HT.out 7
    have t0 := (blk_cell HT.out 0).trans rfl
    have t1 := (blk_cell HT.out 1).trans rfl
    have t2 := (blk_cell HT.out 2).trans rfl
    have t3 := (blk_cell HT.out 3).trans rfl
    have t4 := (blk_cell HT.out 4).trans rfl
    have t5 := (blk_cell HT.out 5).trans rfl
    have t6 := (blk_cell HT.out 6).trans rfl
    have t7 := (blk_cell HT.out 7).trans rfl
    have S0 : w1.cell? ⟨gb, 0, none⟩ = some (.int .u8 4) ∧ w1.cell? ⟨gb, 1, none⟩ = some (.int .i64 n) ∧ w1.cell? (ad.add (n.toNat * 8)) = some (.int .u8 4) ∧ w1.cell? ⟨(ad.add (n.toNat * 8)).block, (ad.add (n.toNat * 8)).off + 1, none⟩ = some (.int .u8 x.f1.f0) ∧ w1.cell? ⟨(ad.add (n.toNat * 8)).block, (ad.add (n.toNat * 8)).off + 2, none⟩ = some (.int .i64 x.f1.f1) ∧ w1.cell? ⟨(ad.add (n.toNat * 8)).block, (ad.add (n.toNat * 8)).off + 3, none⟩ = some (.string x.f1.f2) ∧ w1.cell? ⟨(ad.add (n.toNat * 8)).block, (ad.add (n.toNat * 8)).off + 4, none⟩ = some (.int .u8 x.f2.f0) ∧ w1.cell? ⟨(ad.add (n.toNat * 8)).block, (ad.add (n.toNat * 8)).off + 5, none⟩ = some (.int .i64 x.f2.f1) ∧ w1.cell? ⟨(ad.add (n.toNat * 8)).block, (ad.add (n.toNat * 8)).off + 6, none⟩ = some (.string x.f2.f2) ∧ w1.cell? ⟨(ad.add (n.toNat * 8)).block, (ad.add (n.toNat * 8)).off + 7, none⟩ = some (.int .i64 x.f3) := ⟨c0, c1, e0, e1, e2, e3, e4, e5, e6, e7⟩
    have SD : w1.drew.cell? ⟨gb, 0, none⟩ = some (.int .u8 4) ∧ w1.drew.cell? ⟨gb, 1, none⟩ = some (.int .i64 n) ∧ w1.drew.cell? (ad.add (n.toNat * 8)) = some (.int .u8 4) ∧ w1.drew.cell? ⟨(ad.add (n.toNat * 8)).block, (ad.add (n.toNat * 8)).off + 1, none⟩ = some (.int .u8 x.f1.f0) ∧ w1.drew.cell? ⟨(ad.add (n.toNat * 8)).block, (ad.add (n.toNat * 8)).off + 2, none⟩ = some (.int .i64 x.f1.f1) ∧ w1.drew.cell? ⟨(ad.add (n.toNat * 8)).block, (ad.add (n.toNat * 8)).off + 3, none⟩ = some (.string x.f1.f2) ∧ w1.drew.cell? ⟨(ad.add (n.toNat * 8)).block, (ad.add (n.toNat * 8)).off + 4, none⟩ = some (.int .u8 x.f2.f0) ∧ w1.drew.cell? ⟨(ad.add (n.toNat * 8)).block, (ad.add (n.toNat * 8)).off + 5, none⟩ = some (.int .i64 x.f2.f1) ∧ w1.drew.cell? ⟨(ad.add (n.toNat * 8)).block, (ad.add (n.toNat * 8)).off + 6, none⟩ = some (.string x.f2.f2) ∧ w1.drew.cell? ⟨(ad.add (n.toNat * 8)).block, (ad.add (n.toNat * 8)).off + 7, none⟩ = some (.int .i64 x.f3) := ⟨cell_drew S0.1, cell_drew S0.2.1, cell_drew S0.2.2.1, cell_drew S0.2.2.2.1, cell_drew S0.2.2.2.2.1, cell_drew S0.2.2.2.2.2.1, cell_drew S0.2.2.2.2.2.2.1, cell_drew S0.2.2.2.2.2.2.2.1, cell_drew S0.2.2.2.2.2.2.2.2.1, cell_drew S0.2.2.2.2.2.2.2.2.2⟩
    have S5 : ((((((((w1.setCell ⟨gb + 1, 0, none⟩ (.int .u8 4)).setCell ⟨gb + 1, 1, none⟩ (.int .u8 x.f1.f0)).setCell ⟨gb + 1, 2, none⟩ (.int .i64 x.f1.f1)).setCell ⟨gb + 1, 3, none⟩ (.string x.f1.f2)).setCell ⟨gb + 1, 4, none⟩ (.int .u8 x.f2.f0)).setCell ⟨gb + 1, 5, none⟩ (.int .i64 x.f2.f1)).setCell ⟨gb + 1, 6, none⟩ (.string x.f2.f2)).setCell ⟨gb + 1, 7, none⟩ (.int .i64 x.f3)).cell? ⟨gb, 0, none⟩ = some (.int .u8 4) ∧ ((((((((w1.setCell ⟨gb + 1, 0, none⟩ (.int .u8 4)).setCell ⟨gb + 1, 1, none⟩ (.int .u8 x.f1.f0)).setCell ⟨gb + 1, 2, none⟩ (.int .i64 x.f1.f1)).setCell ⟨gb + 1, 3, none⟩ (.string x.f1.f2)).setCell ⟨gb + 1, 4, none⟩ (.int .u8 x.f2.f0)).setCell ⟨gb + 1, 5, none⟩ (.int .i64 x.f2.f1)).setCell ⟨gb + 1, 6, none⟩ (.string x.f2.f2)).setCell ⟨gb + 1, 7, none⟩ (.int .i64 x.f3)).cell? ⟨gb, 1, none⟩ = some (.int .i64 n) ∧ ((((((((w1.setCell ⟨gb + 1, 0, none⟩ (.int .u8 4)).setCell ⟨gb + 1, 1, none⟩ (.int .u8 x.f1.f0)).setCell ⟨gb + 1, 2, none⟩ (.int .i64 x.f1.f1)).setCell ⟨gb + 1, 3, none⟩ (.string x.f1.f2)).setCell ⟨gb + 1, 4, none⟩ (.int .u8 x.f2.f0)).setCell ⟨gb + 1, 5, none⟩ (.int .i64 x.f2.f1)).setCell ⟨gb + 1, 6, none⟩ (.string x.f2.f2)).setCell ⟨gb + 1, 7, none⟩ (.int .i64 x.f3)).cell? (ad.add (n.toNat * 8)) = some (.int .u8 4) ∧ ((((((((w1.setCell ⟨gb + 1, 0, none⟩ (.int .u8 4)).setCell ⟨gb + 1, 1, none⟩ (.int .u8 x.f1.f0)).setCell ⟨gb + 1, 2, none⟩ (.int .i64 x.f1.f1)).setCell ⟨gb + 1, 3, none⟩ (.string x.f1.f2)).setCell ⟨gb + 1, 4, none⟩ (.int .u8 x.f2.f0)).setCell ⟨gb + 1, 5, none⟩ (.int .i64 x.f2.f1)).setCell ⟨gb + 1, 6, none⟩ (.string x.f2.f2)).setCell ⟨gb + 1, 7, none⟩ (.int .i64 x.f3)).cell? ⟨(ad.add (n.toNat * 8)).block, (ad.add (n.toNat * 8)).off + 1, none⟩ = some (.int .u8 x.f1.f0) ∧ ((((((((w1.setCell ⟨gb + 1, 0, none⟩ (.int .u8 4)).setCell ⟨gb + 1, 1, none⟩ (.int .u8 x.f1.f0)).setCell ⟨gb + 1, 2, none⟩ (.int .i64 x.f1.f1)).setCell ⟨gb + 1, 3, none⟩ (.string x.f1.f2)).setCell ⟨gb + 1, 4, none⟩ (.int .u8 x.f2.f0)).setCell ⟨gb + 1, 5, none⟩ (.int .i64 x.f2.f1)).setCell ⟨gb + 1, 6, none⟩ (.string x.f2.f2)).setCell ⟨gb + 1, 7, none⟩ (.int .i64 x.f3)).cell? ⟨(ad.add (n.toNat * 8)).block, (ad.add (n.toNat * 8)).off + 2, none⟩ = some (.int .i64 x.f1.f1) ∧ ((((((((w1.setCell ⟨gb + 1, 0, none⟩ (.int .u8 4)).setCell ⟨gb + 1, 1, none⟩ (.int .u8 x.f1.f0)).setCell ⟨gb + 1, 2, none⟩ (.int .i64 x.f1.f1)).setCell ⟨gb + 1, 3, none⟩ (.string x.f1.f2)).setCell ⟨gb + 1, 4, none⟩ (.int .u8 x.f2.f0)).setCell ⟨gb + 1, 5, none⟩ (.int .i64 x.f2.f1)).setCell ⟨gb + 1, 6, none⟩ (.string x.f2.f2)).setCell ⟨gb + 1, 7, none⟩ (.int .i64 x.f3)).cell? ⟨(ad.add (n.toNat * 8)).block, (ad.add (n.toNat * 8)).off + 3, none⟩ = some (.string x.f1.f2) ∧ ((((((((w1.setCell ⟨gb + 1, 0, none⟩ (.int .u8 4)).setCell ⟨gb + 1, 1, none⟩ (.int .u8 x.f1.f0)).setCell ⟨gb + 1, 2, none⟩ (.int .i64 x.f1.f1)).setCell ⟨gb + 1, 3, none⟩ (.string x.f1.f2)).setCell ⟨gb + 1, 4, none⟩ (.int .u8 x.f2.f0)).setCell ⟨gb + 1, 5, none⟩ (.int .i64 x.f2.f1)).setCell ⟨gb + 1, 6, none⟩ (.string x.f2.f2)).setCell ⟨gb + 1, 7, none⟩ (.int .i64 x.f3)).cell? ⟨(ad.add (n.toNat * 8)).block, (ad.add (n.toNat * 8)).off + 4, none⟩ = some (.int .u8 x.f2.f0) ∧ ((((((((w1.setCell ⟨gb + 1, 0, none⟩ (.int .u8 4)).setCell ⟨gb + 1, 1, none⟩ (.int .u8 x.f1.f0)).setCell ⟨gb + 1, 2, none⟩ (.int .i64 x.f1.f1)).setCell ⟨gb + 1, 3, none⟩ (.string x.f1.f2)).setCell ⟨gb + 1, 4, none⟩ (.int .u8 x.f2.f0)).setCell ⟨gb + 1, 5, none⟩ (.int .i64 x.f2.f1)).setCell ⟨gb + 1, 6, none⟩ (.string x.f2.f2)).setCell ⟨gb + 1, 7, none⟩ (.int .i64 x.f3)).cell? ⟨(ad.add (n.toNat * 8)).block, (ad.add (n.toNat * 8)).off + 5, none⟩ = some (.int .i64 x.f2.f1) ∧ ((((((((w1.setCell ⟨gb + 1, 0, none⟩ (.int .u8 4)).setCell ⟨gb + 1, 1, none⟩ (.int .u8 x.f1.f0)).setCell ⟨gb + 1, 2, none⟩ (.int .i64 x.f1.f1)).setCell ⟨gb + 1, 3, none⟩ (.string x.f1.f2)).setCell ⟨gb + 1, 4, none⟩ (.int .u8 x.f2.f0)).setCell ⟨gb + 1, 5, none⟩ (.int .i64 x.f2.f1)).setCell ⟨gb + 1, 6, none⟩ (.string x.f2.f2)).setCell ⟨gb + 1, 7, none⟩ (.int .i64 x.f3)).cell? ⟨(ad.add (n.toNat * 8)).block, (ad.add (n.toNat * 8)).off + 6, none⟩ = some (.string x.f2.f2) ∧ ((((((((w1.setCell ⟨gb + 1, 0, none⟩ (.int .u8 4)).setCell ⟨gb + 1, 1, none⟩ (.int .u8 x.f1.f0)).setCell ⟨gb + 1, 2, none⟩ (.int .i64 x.f1.f1)).setCell ⟨gb + 1, 3, none⟩ (.string x.f1.f2)).setCell ⟨gb + 1, 4, none⟩ (.int .u8 x.f2.f0)).setCell ⟨gb + 1, 5, none⟩ (.int .i64 x.f2.f1)).setCell ⟨gb + 1, 6, none⟩ (.string x.f2.f2)).setCell ⟨gb + 1, 7, none⟩ (.int .i64 x.f3)).cell? ⟨(ad.add (n.toNat * 8)).block, (ad.add (n.toNat * 8)).off + 7, none⟩ = some (.int .i64 x.f3) := ⟨cell_same (far8 w1 (gb + 1) _ _ _ _ _ _ _ _ gb (by omega)) c0, cell_same (far8 w1 (gb + 1) _ _ _ _ _ _ _ _ gb (by omega)) c1, cell_same (far8 w1 (gb + 1) _ _ _ _ _ _ _ _ _ (Nat.ne_of_lt (Nat.lt_succ_of_lt HAB.out))) e0, cell_same (far8 w1 (gb + 1) _ _ _ _ _ _ _ _ _ (Nat.ne_of_lt (Nat.lt_succ_of_lt HAB.out))) e1, cell_same (far8 w1 (gb + 1) _ _ _ _ _ _ _ _ _ (Nat.ne_of_lt (Nat.lt_succ_of_lt HAB.out))) e2, cell_same (far8 w1 (gb + 1) _ _ _ _ _ _ _ _ _ (Nat.ne_of_lt (Nat.lt_succ_of_lt HAB.out))) e3, cell_same (far8 w1 (gb + 1) _ _ _ _ _ _ _ _ _ (Nat.ne_of_lt (Nat.lt_succ_of_lt HAB.out))) e4, cell_same (far8 w1 (gb + 1) _ _ _ _ _ _ _ _ _ (Nat.ne_of_lt (Nat.lt_succ_of_lt HAB.out))) e5, cell_same (far8 w1 (gb + 1) _ _ _ _ _ _ _ _ _ (Nat.ne_of_lt (Nat.lt_succ_of_lt HAB.out))) e6, cell_same (far8 w1 (gb + 1) _ _ _ _ _ _ _ _ _ (Nat.ne_of_lt (Nat.lt_succ_of_lt HAB.out))) e7⟩
    have S6 : ((((((((w1.setCell ⟨gb + 1, 0, none⟩ (.int .u8 4)).setCell ⟨gb + 1, 1, none⟩ (.int .u8 x.f1.f0)).setCell ⟨gb + 1, 2, none⟩ (.int .i64 x.f1.f1)).setCell ⟨gb + 1, 3, none⟩ (.string x.f1.f2)).setCell ⟨gb + 1, 4, none⟩ (.int .u8 x.f2.f0)).setCell ⟨gb + 1, 5, none⟩ (.int .i64 x.f2.f1)).setCell ⟨gb + 1, 6, none⟩ (.string x.f2.f2)).setCell ⟨gb + 1, 7, none⟩ (.int .i64 x.f3)).drew.cell? ⟨gb, 0, none⟩ = some (.int .u8 4) ∧ ((((((((w1.setCell ⟨gb + 1, 0, none⟩ (.int .u8 4)).setCell ⟨gb + 1, 1, none⟩ (.int .u8 x.f1.f0)).setCell ⟨gb + 1, 2, none⟩ (.int .i64 x.f1.f1)).setCell ⟨gb + 1, 3, none⟩ (.string x.f1.f2)).setCell ⟨gb + 1, 4, none⟩ (.int .u8 x.f2.f0)).setCell ⟨gb + 1, 5, none⟩ (.int .i64 x.f2.f1)).setCell ⟨gb + 1, 6, none⟩ (.string x.f2.f2)).setCell ⟨gb + 1, 7, none⟩ (.int .i64 x.f3)).drew.cell? ⟨gb, 1, none⟩ = some (.int .i64 n) ∧ ((((((((w1.setCell ⟨gb + 1, 0, none⟩ (.int .u8 4)).setCell ⟨gb + 1, 1, none⟩ (.int .u8 x.f1.f0)).setCell ⟨gb + 1, 2, none⟩ (.int .i64 x.f1.f1)).setCell ⟨gb + 1, 3, none⟩ (.string x.f1.f2)).setCell ⟨gb + 1, 4, none⟩ (.int .u8 x.f2.f0)).setCell ⟨gb + 1, 5, none⟩ (.int .i64 x.f2.f1)).setCell ⟨gb + 1, 6, none⟩ (.string x.f2.f2)).setCell ⟨gb + 1, 7, none⟩ (.int .i64 x.f3)).drew.cell? (ad.add (n.toNat * 8)) = some (.int .u8 4) ∧ ((((((((w1.setCell ⟨gb + 1, 0, none⟩ (.int .u8 4)).setCell ⟨gb + 1, 1, none⟩ (.int .u8 x.f1.f0)).setCell ⟨gb + 1, 2, none⟩ (.int .i64 x.f1.f1)).setCell ⟨gb + 1, 3, none⟩ (.string x.f1.f2)).setCell ⟨gb + 1, 4, none⟩ (.int .u8 x.f2.f0)).setCell ⟨gb + 1, 5, none⟩ (.int .i64 x.f2.f1)).setCell ⟨gb + 1, 6, none⟩ (.string x.f2.f2)).setCell ⟨gb + 1, 7, none⟩ (.int .i64 x.f3)).drew.cell? ⟨(ad.add (n.toNat * 8)).block, (ad.add (n.toNat * 8)).off + 1, none⟩ = some (.int .u8 x.f1.f0) ∧ ((((((((w1.setCell ⟨gb + 1, 0, none⟩ (.int .u8 4)).setCell ⟨gb + 1, 1, none⟩ (.int .u8 x.f1.f0)).setCell ⟨gb + 1, 2, none⟩ (.int .i64 x.f1.f1)).setCell ⟨gb + 1, 3, none⟩ (.string x.f1.f2)).setCell ⟨gb + 1, 4, none⟩ (.int .u8 x.f2.f0)).setCell ⟨gb + 1, 5, none⟩ (.int .i64 x.f2.f1)).setCell ⟨gb + 1, 6, none⟩ (.string x.f2.f2)).setCell ⟨gb + 1, 7, none⟩ (.int .i64 x.f3)).drew.cell? ⟨(ad.add (n.toNat * 8)).block, (ad.add (n.toNat * 8)).off + 2, none⟩ = some (.int .i64 x.f1.f1) ∧ ((((((((w1.setCell ⟨gb + 1, 0, none⟩ (.int .u8 4)).setCell ⟨gb + 1, 1, none⟩ (.int .u8 x.f1.f0)).setCell ⟨gb + 1, 2, none⟩ (.int .i64 x.f1.f1)).setCell ⟨gb + 1, 3, none⟩ (.string x.f1.f2)).setCell ⟨gb + 1, 4, none⟩ (.int .u8 x.f2.f0)).setCell ⟨gb + 1, 5, none⟩ (.int .i64 x.f2.f1)).setCell ⟨gb + 1, 6, none⟩ (.string x.f2.f2)).setCell ⟨gb + 1, 7, none⟩ (.int .i64 x.f3)).drew.cell? ⟨(ad.add (n.toNat * 8)).block, (ad.add (n.toNat * 8)).off + 3, none⟩ = some (.string x.f1.f2) ∧ ((((((((w1.setCell ⟨gb + 1, 0, none⟩ (.int .u8 4)).setCell ⟨gb + 1, 1, none⟩ (.int .u8 x.f1.f0)).setCell ⟨gb + 1, 2, none⟩ (.int .i64 x.f1.f1)).setCell ⟨gb + 1, 3, none⟩ (.string x.f1.f2)).setCell ⟨gb + 1, 4, none⟩ (.int .u8 x.f2.f0)).setCell ⟨gb + 1, 5, none⟩ (.int .i64 x.f2.f1)).setCell ⟨gb + 1, 6, none⟩ (.string x.f2.f2)).setCell ⟨gb + 1, 7, none⟩ (.int .i64 x.f3)).drew.cell? ⟨(ad.add (n.toNat * 8)).block, (ad.add (n.toNat * 8)).off + 4, none⟩ = some (.int .u8 x.f2.f0) ∧ ((((((((w1.setCell ⟨gb + 1, 0, none⟩ (.int .u8 4)).setCell ⟨gb + 1, 1, none⟩ (.int .u8 x.f1.f0)).setCell ⟨gb + 1, 2, none⟩ (.int .i64 x.f1.f1)).setCell ⟨gb + 1, 3, none⟩ (.string x.f1.f2)).setCell ⟨gb + 1, 4, none⟩ (.int .u8 x.f2.f0)).setCell ⟨gb + 1, 5, none⟩ (.int .i64 x.f2.f1)).setCell ⟨gb + 1, 6, none⟩ (.string x.f2.f2)).setCell ⟨gb + 1, 7, none⟩ (.int .i64 x.f3)).drew.cell? ⟨(ad.add (n.toNat * 8)).block, (ad.add (n.toNat * 8)).off + 5, none⟩ = some (.int .i64 x.f2.f1) ∧ ((((((((w1.setCell ⟨gb + 1, 0, none⟩ (.int .u8 4)).setCell ⟨gb + 1, 1, none⟩ (.int .u8 x.f1.f0)).setCell ⟨gb + 1, 2, none⟩ (.int .i64 x.f1.f1)).setCell ⟨gb + 1, 3, none⟩ (.string x.f1.f2)).setCell ⟨gb + 1, 4, none⟩ (.int .u8 x.f2.f0)).setCell ⟨gb + 1, 5, none⟩ (.int .i64 x.f2.f1)).setCell ⟨gb + 1, 6, none⟩ (.string x.f2.f2)).setCell ⟨gb + 1, 7, none⟩ (.int .i64 x.f3)).drew.cell? ⟨(ad.add (n.toNat * 8)).block, (ad.add (n.toNat * 8)).off + 6, none⟩ = some (.string x.f2.f2) ∧ ((((((((w1.setCell ⟨gb + 1, 0, none⟩ (.int .u8 4)).setCell ⟨gb + 1, 1, none⟩ (.int .u8 x.f1.f0)).setCell ⟨gb + 1, 2, none⟩ (.int .i64 x.f1.f1)).setCell ⟨gb + 1, 3, none⟩ (.string x.f1.f2)).setCell ⟨gb + 1, 4, none⟩ (.int .u8 x.f2.f0)).setCell ⟨gb + 1, 5, none⟩ (.int .i64 x.f2.f1)).setCell ⟨gb + 1, 6, none⟩ (.string x.f2.f2)).setCell ⟨gb + 1, 7, none⟩ (.int .i64 x.f3)).drew.cell? ⟨(ad.add (n.toNat * 8)).block, (ad.add (n.toNat * 8)).off + 7, none⟩ = some (.int .i64 x.f3) := ⟨cell_drew S5.1, cell_drew S5.2.1, cell_drew S5.2.2.1, cell_drew S5.2.2.2.1, cell_drew S5.2.2.2.2.1, cell_drew S5.2.2.2.2.2.1, cell_drew S5.2.2.2.2.2.2.1, cell_drew S5.2.2.2.2.2.2.2.1, cell_drew S5.2.2.2.2.2.2.2.2.1, cell_drew S5.2.2.2.2.2.2.2.2.2⟩
    have HT5 := Aside0.mk (show (((((((((w1.setCell ⟨gb + 1, 0, none⟩ (.int .u8 4)).setCell ⟨gb + 1, 1, none⟩ (.int .u8 x.f1.f0)).setCell ⟨gb + 1, 2, none⟩ (.int .i64 x.f1.f1)).setCell ⟨gb + 1, 3, none⟩ (.string x.f1.f2)).setCell ⟨gb + 1, 4, none⟩ (.int .u8 x.f2.f0)).setCell ⟨gb + 1, 5, none⟩ (.int .i64 x.f2.f1)).setCell ⟨gb + 1, 6, none⟩ (.string x.f2.f2)).setCell ⟨gb + 1, 7, none⟩ (.int .i64 x.f3))).heap[gb + 1]? = some (.cells #[.int .u8 4, .int .u8 x.f1.f0, .int .i64 x.f1.f1, .string x.f1.f2, .int .u8 x.f2.f0, .int .i64 x.f2.f1, .string x.f2.f2, .int .i64 x.f3] 34 (0, 0)) from blk_put (blk_put (blk_put (blk_put (blk_put (blk_put (blk_put (blk_put HT.out 0 _ rfl) 1 _ rfl) 2 _ rfl) 3 _ rfl) 4 _ rfl) 5 _ rfl) 6 _ rfl) 7 _ rfl)
    have HB5 := Aside0.mk (show Below w.heap.size w ((((((((w1.setCell ⟨gb + 1, 0, none⟩ (.int .u8 4)).setCell ⟨gb + 1, 1, none⟩ (.int .u8 x.f1.f0)).setCell ⟨gb + 1, 2, none⟩ (.int .i64 x.f1.f1)).setCell ⟨gb + 1, 3, none⟩ (.string x.f1.f2)).setCell ⟨gb + 1, 4, none⟩ (.int .u8 x.f2.f0)).setCell ⟨gb + 1, 5, none⟩ (.int .i64 x.f2.f1)).setCell ⟨gb + 1, 6, none⟩ (.string x.f2.f2)).setCell ⟨gb + 1, 7, none⟩ (.int .i64 x.f3)) from ((((((((HB.out.setCell (p := ⟨gb + 1, 0, none⟩) (by have := HGE.out; show w.heap.size ≤ gb + 1; omega) _).setCell (p := ⟨gb + 1, 1, none⟩) (by have := HGE.out; show w.heap.size ≤ gb + 1; omega) _).setCell (p := ⟨gb + 1, 2, none⟩) (by have := HGE.out; show w.heap.size ≤ gb + 1; omega) _).setCell (p := ⟨gb + 1, 3, none⟩) (by have := HGE.out; show w.heap.size ≤ gb + 1; omega) _).setCell (p := ⟨gb + 1, 4, none⟩) (by have := HGE.out; show w.heap.size ≤ gb + 1; omega) _).setCell (p := ⟨gb + 1, 5, none⟩) (by have := HGE.out; show w.heap.size ≤ gb + 1; omega) _).setCell (p := ⟨gb + 1, 6, none⟩) (by have := HGE.out; show w.heap.size ≤ gb + 1; omega) _).setCell (p := ⟨gb + 1, 7, none⟩) (by have := HGE.out; show w.heap.size ≤ gb + 1; omega) _))
    go_upto_region 3 with fail
    go_region_held3 (fun W' => W'.cell? ⟨gb, 0, none⟩ = some (.int .u8 4) ∧ W'.cell? ⟨gb, 1, none⟩ = some (.int .i64 n) ∧ W'.cell? (ad.add (n.toNat * 8)) = some (.int .u8 4) ∧ W'.cell? ⟨(ad.add (n.toNat * 8)).block, (ad.add (n.toNat * 8)).off + 1, none⟩ = some (.int .u8 x.f1.f0) ∧ W'.cell? ⟨(ad.add (n.toNat * 8)).block, (ad.add (n.toNat * 8)).off + 2, none⟩ = some (.int .i64 x.f1.f1) ∧ W'.cell? ⟨(ad.add (n.toNat * 8)).block, (ad.add (n.toNat * 8)).off + 3, none⟩ = some (.string x.f1.f2) ∧ W'.cell? ⟨(ad.add (n.toNat * 8)).block, (ad.add (n.toNat * 8)).off + 4, none⟩ = some (.int .u8 x.f2.f0) ∧ W'.cell? ⟨(ad.add (n.toNat * 8)).block, (ad.add (n.toNat * 8)).off + 5, none⟩ = some (.int .i64 x.f2.f1) ∧ W'.cell? ⟨(ad.add (n.toNat * 8)).block, (ad.add (n.toNat * 8)).off + 6, none⟩ = some (.string x.f2.f2) ∧ W'.cell? ⟨(ad.add (n.toNat * 8)).block, (ad.add (n.toNat * 8)).off + 7, none⟩ = some (.int .i64 x.f3)) (first | with_reducible exact SD | with_reducible exact S0 | with_reducible exact S5 | with_reducible exact S6 | fail) (fail)
    all_goals
      go_wp2_with fail
      refine bodyPost_ret (results_ct rfl _ _ (gb + 1) 34 _ (0, 0) _ rfl (blk_drew HT5.out) Tryd.underlying34 rfl (by kernel_rfl)) rfl ?_
      exact ⟨by rw [← hp4]; rfl, below_drew HB5.out⟩
  · have hp : q = (z34, false) := by
      have : pairAt ps n = none := by unfold pairAt; rw [if_neg (by have := HLEN.out; omega)]
      rw [← HAT.out]; unfold atOf; rw [this]
    subst hp
    clear HAT
    have f0 := blk_frozen HT.out 0
    have f1 := blk_frozen HT.out 1
    have f2 := blk_frozen HT.out 2
    have f3 := blk_frozen HT.out 3
    have f4 := blk_frozen HT.out 4
    have f5 := blk_frozen HT.out 5
    have f6 := blk_frozen HT.out 6
    have f7 := blk_frozen HT.out 7
    have t0 := (blk_cell HT.out 0).trans rfl
    have t1 := (blk_cell HT.out 1).trans rfl
    have t2 := (blk_cell HT.out 2).trans rfl
    have t3 := (blk_cell HT.out 3).trans rfl
    have t4 := (blk_cell HT.out 4).trans rfl
    have t5 := (blk_cell HT.out 5).trans rfl
    have t6 := (blk_cell HT.out 6).trans rfl
    have t7 := (blk_cell HT.out 7).trans rfl
    have HT5 := Aside0.mk (blk_put (blk_put (blk_put (blk_put (blk_put (blk_put (blk_put (blk_put HT.out 0 (.int .u8 0) rfl) 1 (.int .u8 0) rfl) 2 (.int .i64 0) rfl) 3 (.string ⟨#[]⟩) rfl) 4 (.int .u8 0) rfl) 5 (.int .i64 0) rfl) 6 (.string ⟨#[]⟩) rfl) 7 (.int .i64 0) rfl)
    have hge : w.heap.size ≤ gb + 1 := by have := HGE.out; omega
    have HB5 := Aside0.mk ((((((((HB.out.setCell (p := ⟨gb + 1, 0, none⟩) hge (.int .u8 0)).setCell (p := ⟨gb + 1, 1, none⟩) hge (.int .u8 0)).setCell (p := ⟨gb + 1, 2, none⟩) hge (.int .i64 0)).setCell (p := ⟨gb + 1, 3, none⟩) hge (.string ⟨#[]⟩)).setCell (p := ⟨gb + 1, 4, none⟩) hge (.int .u8 0)).setCell (p := ⟨gb + 1, 5, none⟩) hge (.int .i64 0)).setCell (p := ⟨gb + 1, 6, none⟩) hge (.string ⟨#[]⟩)).setCell (p := ⟨gb + 1, 7, none⟩) hge (.int .i64 0))
    clear hge
    by_cases h0 : n < 0
    · have d0 : decide (n < 0) = true := decide_eq_true h0
      go_wp2_with fail
      refine bodyPost_ret (results_ct rfl _ _ (gb + 1) 34 _ (0, 0) _ rfl HT5.out Tryd.underlying34 rfl (by kernel_rfl)) rfl ?_
      exact ⟨rfl, HB5.out⟩
    · have d0 : decide (n < 0) = false := decide_eq_false h0
      have d1 : decide (((rowsOf ps).length : Int) ≤ n) = true := decide_eq_true (by omega)
      go_wp2_with fail
      refine bodyPost_ret (results_ct rfl _ _ (gb + 1) 34 _ (0, 0) _ rfl HT5.out Tryd.underlying34 rfl (by kernel_rfl)) rfl ?_
      exact ⟨rfl, HB5.out⟩
end Go.Proofs.YtobchfcabedmhaaDoor.NW
