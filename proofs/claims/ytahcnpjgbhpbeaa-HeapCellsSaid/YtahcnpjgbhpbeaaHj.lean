/- Whatever the numbers and the values, HeapCells' code comes to true. -/
import Derived.Test.YtahcnpjgbhpbeaaHi
namespace Go.Proofs.Ytahcnpjgbhpbeaa.HP
open Go.RowKit Go.Proofs.YtahcnpjgbhpbeaaW.PrintWords
set_option linter.unusedVariables false
set_option linter.unusedSimpArgs false

theorem own_fr {w w' : World} {base e size n g : Nat} {v : Value} {xs : List Value} {row : Option Nat} (h : w.ownsRow base e size v n xs) (hF : Fr w w' g row) (h1 : v.ownBlock ≠ some g) (h2 : v.ownBlock = none ∨ v.ownBlock ≠ row) : w'.ownsRow base e size v n xs := by
  refine ⟨h.1, ?_⟩
  rcases h.2 with hn | ⟨g', cap, cur, rfl, hb, hgg, rest⟩
  · exact .inl hn
  · refine .inr ⟨g', cap, cur, rfl, hb, ?_, rest⟩
    have hl := blk_lt hgg
    have h3 : some g' ≠ row := by
      intro e
      rcases h2 with h2 | h2
      · simp [Value.ownBlock] at h2
      · exact h2 e
    exact (hF.block g' hl (fun e => h1 (by rw [← e]; rfl)) h3).trans hgg
theorem own_below {w w' : World} {base e size n : Nat} {v : Value} {xs : List Value} (h : w.ownsRow base e size v n xs) (hb : Below w.heap.size w w') : w'.ownsRow base e size v n xs :=
  h.kept (row := none) ⟨hb.os, hb.tape, hb.output, hb.size, fun k hk _ => hb.block k hk⟩ (by cases v.ownBlock <;> simp)
theorem HeapIs.grown {w w1 : World} {base g n : Nat} {cells : List Value} {limit : Int} {v : Value} {row : Option Nat} (h : HeapIs w base g n cells limit v) (hg : w.grownBy w1 row) (h1 : some g ≠ row) (h2 : v.ownBlock = none ∨ v.ownBlock ≠ row) : HeapIs w1 base g n cells limit v :=
  ⟨(hg.block g h.lt h1).trans h.blk, h.own.kept hg h2, h.ne, Nat.le_trans h.base_le hg.size, h.few⟩
theorem own_put {w : World} {base e size n g cap : Nat} {xs : List Value} (h : w.ownsRow base e size (.slice (some ⟨g, 0, none⟩) n cap) n xs) (i : Nat) (u : Value) : (w.setCell ⟨g, i, none⟩ u).ownsRow base e size (.slice (some ⟨g, 0, none⟩) n cap) n (xs.set i u) := by
  refine ⟨by rw [List.length_set]; exact h.1, ?_⟩
  rcases h.2 with ⟨h1, _⟩ | ⟨g', cap', cur, h1, hb, h2, h3, h4, h5, h6⟩
  · cases h1
  · simp only [Value.slice.injEq, Option.some.injEq, Addr.mk.injEq, and_true, true_and] at h1
    obtain ⟨rfl, rfl⟩ := h1
    refine .inr ⟨g, cap, cur.setIfInBounds i u, rfl, hb, blk_set h2 i u, h3, h4, by simpa using h5, ?_⟩
    rw [Array.toList_setIfInBounds, List.take_set, h6]
theorem HeapIs.drew {w : World} {base g n : Nat} {cells : List Value} {limit : Int} {v : Value} (h : HeapIs w base g n cells limit v) : HeapIs w.drew base g n cells limit v := ⟨h.blk, h.own, h.ne, h.base_le, h.few⟩
theorem HeapIs.put {w : World} {base g n : Nat} {cells : List Value} {limit : Int} {gv cap : Nat} (h : HeapIs w base g n cells limit (.slice (some ⟨gv, 0, none⟩) n cap)) (i : Nat) (u : Value) : HeapIs (w.setCell ⟨gv, i, none⟩ u) base g n (cells.set i u) limit (.slice (some ⟨gv, 0, none⟩) n cap) := by
  have hne : g ≠ gv := fun e => h.ne (by rw [e]; rfl)
  exact ⟨(Below.heap_setCell w _ u g hne).trans h.blk, own_put h.own i u, h.ne, by simpa [World.setCell] using h.base_le, h.few⟩
def cellv (i : Nat) : List Value := [.int .u8 5, .int .i64 (i : Int), .string ⟨#[]⟩]
def cellvs (n : Nat) : List Value := ((List.range n).map cellv).flatten
def cellt (t a : Int) (s : ByteArray) : List Value := [.int .u8 5, .int .u8 t, .int .i64 a, .string s, .int .u8 0, .int .i64 0, .string ⟨#[]⟩, .int .i64 0]
def cellts (t a : Int) (s : ByteArray) (n : Nat) : List Value := (List.replicate n (cellt t a s)).flatten

theorem cellts_snoc (t a : Int) (s : ByteArray) (k : Nat) : cellts t a s k ++ cellt t a s = cellts t a s (k + 1) := by simp [cellts, List.replicate_succ']
theorem cellvs_snoc (k : Nat) : cellvs k ++ cellv k = cellvs (k + 1) := by simp [cellvs, List.range_succ]
theorem flat3 (l : List (List Value)) (h : ∀ r ∈ l, r.length = 3) (i j : Nat) (hj : j < 3) : l.flatten[i * 3 + j]? = (l[i]?).bind (fun r => r[j]?) := by
  induction l generalizing i with
  | nil => simp
  | cons r l ih =>
    have hr : r.length = 3 := h r (by simp)
    cases i with
    | zero => simp [List.getElem?_append, hr, hj]
    | succ i =>
      rw [List.flatten_cons, List.getElem?_append_right (by omega), hr, show (i + 1) * 3 + j - 3 = i * 3 + j by omega, ih (fun r hr => h r (by simp [hr])) i]
      simp
theorem cellvs_at (n i j : Nat) (hi : i < n) (hj : j < 3) : (cellvs n)[i * 3 + j]? = (cellv i)[j]? := by
  rw [cellvs, flat3 _ (by intro r hr; simp at hr; obtain ⟨z, _, rfl⟩ := hr; rfl) i j hj]
  simp [hi]
theorem cellts_at (t a : Int) (s : ByteArray) (n i j : Nat) (hi : i < n) (hj : j < 8) : (cellts t a s n)[i * 8 + j]? = (cellt t a s)[j]? := by
  rw [cellts, flat8 _ (by intro r hr; simp at hr; rw [hr.2]; rfl) i j hj]
  simp [hi]
def cs0 (t a : Int) (s : ByteArray) (k : Nat) : List Value := cellts t a s k ++ [.int .u8 4, .int .u8 5, .int .i64 0, .string ⟨#[]⟩, .int .u8 t, .int .i64 a, .string s, .int .i64 0]
theorem cellts_len (t a : Int) (s : ByteArray) (k : Nat) : (cellts t a s k).length = k * 8 := by
  induction k with
  | zero => rfl
  | succ k ih => rw [← cellts_snoc, List.length_append, ih]; simp [cellt]; omega
theorem cs0_at (t a : Int) (s : ByteArray) (k i j : Nat) (hi : i < k) (hj : j < 8) : (cs0 t a s k)[i * 8 + j]? = (cellt t a s)[j]? := by
  rw [cs0, List.getElem?_append_left (by rw [cellts_len]; omega), cellts_at t a s k i j hi hj]
theorem cs0_pair (t a : Int) (s : ByteArray) (k j : Nat) : (cs0 t a s k)[k * 8 + j]? = ([.int .u8 4, .int .u8 5, .int .i64 0, .string ⟨#[]⟩, .int .u8 t, .int .i64 a, .string s, .int .i64 0] : List Value)[j]? := by
  rw [cs0, List.getElem?_append_right (by rw [cellts_len]; omega), cellts_len, show k * 8 + j - k * 8 = j by omega]
def cs1 (t a : Int) (s : ByteArray) (k i : Nat) (tb nb : Int) (sb : ByteArray) : List Value := (((cs0 t a s k).set (i * 8 + 1) (.int .u8 tb)).set (i * 8 + 2) (.int .i64 nb)).set (i * 8 + 3) (.string sb)
theorem cs1_far (t a : Int) (s : ByteArray) (k i : Nat) (tb nb : Int) (sb : ByteArray) (m : Nat) (h1 : m ≠ i * 8 + 1) (h2 : m ≠ i * 8 + 2) (h3 : m ≠ i * 8 + 3) : (cs1 t a s k i tb nb sb)[m]? = (cs0 t a s k)[m]? := by
  rw [cs1, List.getElem?_set_ne (fun e => h3 e.symm), List.getElem?_set_ne (fun e => h2 e.symm), List.getElem?_set_ne (fun e => h1 e.symm)]
theorem cs0_len (t a : Int) (s : ByteArray) (k : Nat) : (cs0 t a s k).length = (k + 1) * 8 := by rw [cs0, List.length_append, cellts_len]; simp; omega
theorem cs1_own (t a : Int) (s : ByteArray) (k i : Nat) (tb nb : Int) (sb : ByteArray) (hi : i < k) :
    (cs1 t a s k i tb nb sb)[i * 8 + 1]? = some (.int .u8 tb) ∧ (cs1 t a s k i tb nb sb)[i * 8 + 2]? = some (.int .i64 nb) ∧ (cs1 t a s k i tb nb sb)[i * 8 + 3]? = some (.string sb) := by
  have hl := cs0_len t a s k
  refine ⟨?_, ?_, ?_⟩
  · rw [cs1, List.getElem?_set_ne (by omega), List.getElem?_set_ne (by omega), List.getElem?_set_self (by omega)]
  · rw [cs1, List.getElem?_set_ne (by omega), List.getElem?_set_self (by simp; omega)]
  · rw [cs1, List.getElem?_set_self (by simp; omega)]
/-- row i's cells of the list of cells -/
theorem row_cells {w : World} {base n : Nat} {c : Value} (O : w.ownsRow base 26 3 c n (cellvs n)) {i : Nat} (hi : i < n) :
    ∃ gc cap, c = .slice (some ⟨gc, 0, none⟩) n cap ∧ n ≤ cap ∧ gc < w.heap.size ∧ w.cell? ⟨gc, i * 3, none⟩ = some (.int .u8 5) ∧ w.cell? ⟨gc, i * 3 + 1, none⟩ = some (.int .i64 (i : Int)) ∧ w.cell? ⟨gc, i * 3 + 2, none⟩ = some (.string ⟨#[]⟩) := by
  rcases O.2 with ⟨h1, h2⟩ | ⟨g', cap, cur, h1, _, h2, h3, _⟩
  · omega
  · subst h1
    have key : ∀ j u, j < 3 → (cellv i)[j]? = some u → w.cell? ⟨g', i * 3 + j, none⟩ = some u := by
      intro j u hj hu
      have := O.cells (g := g') rfl (i * 3 + j) u ((cellvs_at n i j hi hj).trans hu)
      rwa [show (⟨g', 0, none⟩ : Addr).add (i * 3 + j) = ⟨g', i * 3 + j, none⟩ by unfold Addr.add; split <;> simp_all] at this
    exact ⟨g', cap, rfl, h3, blk_lt h2, key 0 _ (by omega) rfl, key 1 _ (by omega) rfl, key 2 _ (by omega) rfl⟩

set_option maxHeartbeats 16000000 in
set_option maxRecDepth 1000000 in
theorem cells_walk (w : World) (nn kk t a tb nb : Int) (s sb : ByteArray) (M : Nat) (hM : nn % 100 + 1 = (M : Int)) (hM1 : 0 < M) (hM2 : M ≤ 100) (h0 : 0 ≤ kk) (h1 : kk ≤ 255) (h2 : 0 ≤ nn) (h3 : nn ≤ 255) :
    Calls Try.prog 5 #[.int .u8 nn, .int .u8 kk, .agg #[.int .u8 t, .int .i64 a, .string s], .agg #[.int .u8 tb, .int .i64 nb, .string sb]] w fun e w' => e = .returned (.bool true) ∧ Below w.heap.size w w' := by
  have B0 := ((Below.refl _ w).alloc (Nat.le_refl _) (.cells #[.int .u8 t, .int .i64 a, .string s] 26)).alloc (by simp) (.cells #[.int .u8 tb, .int .i64 nb, .string sb] 26)
  have hA0 : ((w.alloc (.cells #[.int .u8 t, .int .i64 a, .string s] 26)).alloc (.cells #[.int .u8 tb, .int .i64 nb, .string sb] 26)).heap[w.heap.size]? = some (.cells #[.int .u8 t, .int .i64 a, .string s] 26 (0, 0)) := blk_alloc (blk_new w _) _
  have hB0 : ((w.alloc (.cells #[.int .u8 t, .int .i64 a, .string s] 26)).alloc (.cells #[.int .u8 tb, .int .i64 nb, .string sb] 26)).heap[w.heap.size + 1]? = some (.cells #[.int .u8 tb, .int .i64 nb, .string sb] 26 (0, 0)) := by simpa using blk_new (w.alloc _) _
  have hs0 : ((w.alloc (.cells #[.int .u8 t, .int .i64 a, .string s] 26)).alloc (.cells #[.int .u8 tb, .int .i64 nb, .string sb] 26)).heap.size = w.heap.size + 2 := by simp
  go_enter Try.func5, Try.ntmps5
  go_wp2_with fail
  generalize ((w.alloc (.cells #[.int .u8 t, .int .i64 a, .string s] 26)).alloc (.cells #[.int .u8 tb, .int .i64 nb, .string sb] 26)) = W0 at B0 hA0 hB0 hs0 ⊢
  have hs0' : Hid (W0.heap.size = w.heap.size + 2) := hs0
  clear hs0
  refine Calls.mono (New_any W0 1000 W0.heap.size (Nat.le_refl _) (by decide)) ?_
  rintro e w1 ⟨rfl, hb1, hs1, H1⟩
  rw [show (min (max 1000 0) 1048576 : Int) = 1000 by omega] at H1
  have H2 := H1.below ((Below.refl _ w1).alloc (Nat.le_refl _) (.cells #[] 26))
  have hb2 := hb1.alloc hb1.size (.cells #[] 26)
  have O2 := World.ownsRow_made (base := W0.heap.size) (e := 26) (size := 3) w1 #[] 0 hb1.size (by simp) (by simp)
  have hne : w1.heap.size ≠ W0.heap.size := by omega
  clear H1 hb1
  go_wp2_with fail
  go_loopw [11, 12] (fun c i wr => ∃ k : Nat, i = .int .i64 k ∧ k ≤ M ∧ ∃ v, HeapIs wr W0.heap.size W0.heap.size k (cellts t a s k) 1000 v ∧ wr.ownsRow W0.heap.size 26 3 c k (cellvs k) ∧ c.ownBlock ≠ some W0.heap.size ∧ (c.ownBlock = none ∨ c.ownBlock ≠ v.ownBlock) ∧ Below W0.heap.size W0 wr) (fun _ i _ => (101 : Nat) - (intOf i).toNat)
  case atStart => exact ⟨0, rfl, by omega, _, H2, O2, by simpa [Value.ownBlock] using hne, by simp [Value.ownBlock], hb2⟩
  case round =>
    obtain ⟨k, rfl, hk, v, H, O, hc1, hc2, hb⟩ := hrel
    clear H2 hb2 O2
    have hV : wr.heap[w.heap.size]? = some (.cells #[.int .u8 t, .int .i64 a, .string s] 26 (0, 0)) := blk_below hA0 hb
    have hM := hM
    by_cases hlt : k < M
    · have hlt' : (k : Int) < M := by omega
      have c0 := cells_of hV 0 _ rfl
      have c1 := cells_of hV 1 _ rfl
      have c2 := cells_of hV 2 _ rfl
      go_wp2_with fail
      refine Calls.mono (Cell_any H (by omega) t a s) ?_
      rintro e u ⟨a', b', c', rfl, hA⟩
      obtain ⟨rfl, rfl, rfl, v2, G, hF, hv2⟩ := hA.room (by omega)
      have hb' := H.fr hb hF (Nat.le_refl _) (Nat.le_refl _)
      have O' := own_fr O hF hc1 hc2
      have hcu : ∀ q, u11.ownBlock = some q → q < wr.heap.size := fun q hq => (O.lt q hq).2
      have hc3 : u11.ownBlock = none ∨ u11.ownBlock ≠ v2.ownBlock := by
        rcases hc2 with h | h
        · exact .inl h
        · right
          rcases hv2 with e | ⟨q, e, e'⟩
          · rw [e]; exact h
          · rw [e]; intro e2; have := hcu q e2; omega
      have bl := (Below.refl _ u).alloc (Nat.le_refl _) (.cells #[.int .u8 5, .int .i64 k, .string ⟨#[]⟩] 26)
      have G3 := G.below bl
      have O3 := own_below O' bl
      have hb3 := hb'.alloc hb'.size (.cells #[.int .u8 5, .int .i64 k, .string ⟨#[]⟩] 26)
      obtain ⟨ac, capc, rfl⟩ : ∃ ac capc, u11 = .slice ac k capc := by
        rcases O.2 with ⟨h1, h2⟩ | ⟨g', cap, _, h1, _⟩
        · exact ⟨none, 0, by rw [h1, h2]⟩
        · exact ⟨_, cap, h1⟩
      clear G O' hF hv2 hA H O hc2 hb hb' bl c0 c1 c2 hV
      go_wp2_with (at_builtin; refine print_append_cells (w0 := W0) (W := u.alloc (.cells #[.int .u8 5, .int .i64 k, .string ⟨#[]⟩] 26)) W0.heap.size rfl (.tmp 42) (.tmp 44) 37 26 _ 3 32 (by rfl) Try.underlying37 info26 (by rfl) (by decide) (by decide) (.slice ac k capc) k (cellvs k) [.int .u8 5, .int .i64 k, .string ⟨#[]⟩] (by simp [Act.eval, Act.put]) (by simp [Act.eval, Act.put]) (by rfl) (by simp [Value.oneCell']) O3 hb3 hb3.size (by omega) ?_; intro c5 w5 O5 hb5 hg5 hat5)
      have hc4 : v2.ownBlock = none ∨ v2.ownBlock ≠ (Value.slice ac k capc).ownBlock := by
        rcases hc3 with h | h
        · rw [h]
          cases v2.ownBlock <;> simp
        · exact .inr (fun e => h e.symm)
      have G5 := G3.grown hg5 (fun e => hc1 e.symm) hc4
      have hG : W0.heap.size < (u.alloc (.cells #[.int .u8 5, .int .i64 k, .string ⟨#[]⟩] 26)).heap.size := G3.lt
      have q1 : c5.ownBlock ≠ some W0.heap.size := by
        rcases hat5 with h | ⟨q, h, h'⟩
        · rw [h]; exact hc1
        · rw [h]; intro e; simp only [Option.some.injEq] at e; omega
      have q2 : c5.ownBlock = none ∨ c5.ownBlock ≠ v2.ownBlock := by
        rcases hat5 with h | ⟨q, h, h'⟩
        · rw [h]; exact hc3
        · right; rw [h]; intro e; have := (G3.own.lt q e.symm).2; omega
      have G6 : HeapIs w5 W0.heap.size W0.heap.size (k + 1) (cellts t a s (k + 1)) 1000 v2 := by rw [← cellts_snoc]; exact G5
      have O6 : w5.ownsRow W0.heap.size 26 3 c5 (k + 1) (cellvs (k + 1)) := by rw [← cellvs_snoc]; exact O5
      exact ⟨⟨k + 1, by push_cast; rfl, by omega, v2, G6, O6, q1, q2, hb5⟩, by simp [intOf]; omega⟩
    · obtain rfl : k = M := by omega
      have c0 := cells_of hV 0 _ rfl
      have c1 := cells_of hV 1 _ rfl
      have c2 := cells_of hV 2 _ rfl
      obtain ⟨gc, cap, rfl, hcap, hgc, r0, r1, r2⟩ := row_cells O hM1
      go_wp2_with fail
      have hlA : w.heap.size < wr.heap.size := blk_lt hV
      have hlN : w.heap.size ≠ wr.heap.size := by omega
      have hgN : gc ≠ wr.heap.size := by omega
      have HA := H.drew
      have HB := (H.below ((Below.refl _ wr).alloc (Nat.le_refl _) (.cells #[.int .u8 0, .int .i64 0, .string ⟨#[]⟩] 26))).drew
      have hbA := below_drew hb
      have hbB := below_drew (hb.alloc hb.size (.cells #[.int .u8 0, .int .i64 0, .string ⟨#[]⟩] 26))
      go_cut [15, 16] (fun s15 s16 wx => ∃ (p : Nat) (v3 : Value), s15 = .pointer (some ⟨p, 0, none⟩) ∧ s16 = .int .i64 0 ∧ HeapIs wx W0.heap.size W0.heap.size (k + 1) (cellts t a s k ++ [.int .u8 4, .int .u8 5, .int .i64 0, .string ⟨#[]⟩, .int .u8 t, .int .i64 a, .string s, .int .i64 0]) 1000 v3 ∧ wx.ownsRow W0.heap.size 26 3 (.slice (some ⟨gc, 0, none⟩) k cap) k (cellvs k) ∧ some gc ≠ v3.ownBlock ∧ p ≠ W0.heap.size ∧ some p ≠ v3.ownBlock ∧ W0.heap.size ≤ p ∧ wx.heap[p]? = some (.cells #[.int .u8 4, .int .i64 k, .string ⟨#[]⟩] 26 (0, 0)) ∧ Below W0.heap.size W0 wx)
      case first =>
        go_region_law (go_simp; first
          | (refine Calls.mono (Pair_any HA (by omega) 5 0 t a ⟨#[]⟩ s) ?_; rintro e u ⟨a', b', c', rfl, hA⟩; obtain ⟨rfl, rfl, rfl, v3, HP, hF3, hv3⟩ := hA.room (by omega))
          | (refine Calls.mono (Pair_any HB (by omega) 5 0 t a ⟨#[]⟩ s) ?_; rintro e u ⟨a', b', c', rfl, hA⟩; obtain ⟨rfl, rfl, rfl, v3, HP, hF3, hv3⟩ := hA.room (by omega); have hR : u.heap[wr.heap.size]? = some (.cells #[.int .u8 0, .int .i64 0, .string ⟨#[]⟩] 26 (0, 0)) := (hF3.block wr.heap.size (by simp) (H.apart (Nat.le_refl _)).1 (H.apart (Nat.le_refl _)).2).trans (blk_drew (blk_new wr _)); have z0 := cells_of hR 0 _ rfl; have z1 := cells_of hR 1 _ rfl; have z2 := cells_of hR 2 _ rfl; have y0 := frozen_of_row u _ 0 _ _ hR; have y1 := frozen_of_row u _ 1 _ _ hR; have y2 := frozen_of_row u _ 2 _ _ hR))
        all_goals
          go_wp2_with fail
          go_meet
          have hgv : some gc ≠ v3.ownBlock := by
            rcases hv3 with e | ⟨q, e, e'⟩
            · rw [e]
              rcases hc2 with h | h
              · simp [Value.ownBlock] at h
              · exact h
            · rw [e]
              intro e2
              simp at e2 e'
              omega
          first
          | (have hbu := HA.fr hbA hF3 (Nat.le_refl _) (Nat.le_refl _)
             have O' := own_fr (own_drew O) hF3 hc1 hc2
             have bl := (Below.refl _ u).alloc (Nat.le_refl _) (.cells #[.int .u8 4, .int .i64 k, .string ⟨#[]⟩] 26)
             exact ⟨u.heap.size, v3, rfl, rfl, HP.below bl, own_below O' bl, hgv, (HP.apart (Nat.le_refl _)).1, (HP.apart (Nat.le_refl _)).2, hbu.size, blk_new u _, hbu.alloc hbu.size _⟩)
          | (have hbu := HB.fr hbB hF3 (Nat.le_refl _) (Nat.le_refl _)
             have O' := own_fr (own_drew (O.alloc _)) hF3 hc1 hc2
             have bl := (Below.refl _ u).alloc (Nat.le_refl _) (.cells #[.int .u8 4, .int .i64 k, .string ⟨#[]⟩] 26)
             exact ⟨u.heap.size, v3, rfl, rfl, HP.below bl, own_below O' bl, hgv, (HP.apart (Nat.le_refl _)).1, (HP.apart (Nat.le_refl _)).2, hbu.size, blk_new u _, hbu.alloc hbu.size _⟩)
          | (have hbu := HB.fr hbB hF3 (Nat.le_refl _) (Nat.le_refl _)
             have O' := own_fr (own_drew (O.alloc _)) hF3 hc1 hc2
             have p1 := (H.apart (Nat.le_refl wr.heap.size)).1
             have p2 : some wr.heap.size ≠ v3.ownBlock := by
               rcases hv3 with e | ⟨q, e, e'⟩
               · rw [e]
                 exact (H.apart (Nat.le_refl wr.heap.size)).2
               · rw [e]
                 intro e2
                 simp at e2 e'
                 omega
             have p3 : (Value.slice (some ⟨gc, 0, none⟩) k cap).ownBlock ≠ some wr.heap.size := by simp [Value.ownBlock]; omega
             exact ⟨wr.heap.size, v3, rfl, rfl, ((HP.far p1 p2 _ _).far p1 p2 _ _).far p1 p2 _ _, own_far (own_far (own_far O' p3 _ _) p3 _ _) p3 _ _, hgv, p1, p2, hb.size, blk_put (blk_put (blk_put hR 0 _ rfl) 1 _ rfl) 2 _ rfl, ((hbu.setCell hb.size _).setCell hb.size _).setCell hb.size _⟩)
      case rest =>
        obtain ⟨p, v3, rfl, rfl, HP, O', hgv, hp1, hp2, hp3, hR, hb'⟩ := hcut
        clear HA HB hbA hbB H O hb hV c0 c1 c2 r0 r1 r2 hgN hlA hlN hc2
        have HP : HeapIs wc W0.heap.size W0.heap.size (k + 1) (cs0 t a s k) 1000 v3 := HP
        obtain ⟨j0, hj0⟩ : ∃ j0 : Nat, kk % (k : Int) = (j0 : Int) := ⟨(kk % (k : Int)).toNat, by have := Int.emod_nonneg kk (show (k : Int) ≠ 0 by omega); omega⟩
        have hjk : j0 < k := by have := Int.emod_lt_of_pos kk (show (0 : Int) < k by omega); omega
        have hk0 : ¬ (k : Int) = 0 := by omega
        have hjI : (j0 : Int) < k := by omega
        obtain ⟨gv, capv, rfl, hgvl, hgvG, hcapv, hcell⟩ := HP.cell (a := j0) (by omega)
        obtain ⟨gc', capc', hcc, hcl, hgcl, e0, e1, e2⟩ := row_cells O' hjk
        obtain ⟨rfl, rfl⟩ : gc = gc' ∧ cap = capc' := by simp at hcc; exact hcc
        have hS : wc.heap[w.heap.size + 1]? = some (.cells #[.int .u8 tb, .int .i64 nb, .string sb] 26 (0, 0)) := blk_below hB0 hb'
        have b0 := cells_of hS 0 _ rfl
        have b1 := cells_of hS 1 _ rfl
        have b2 := cells_of hS 2 _ rfl
        have x0 := hcell 0 _ (cs0_at t a s k j0 0 hjk (by omega))
        have x1 := hcell 1 _ (cs0_at t a s k j0 1 hjk (by omega))
        have x2 := hcell 2 _ (cs0_at t a s k j0 2 hjk (by omega))
        have x3 := hcell 3 _ (cs0_at t a s k j0 3 hjk (by omega))
        rw [Nat.add_zero] at x0
        have A1 := at_hit HP 5 j0 (by omega) (by have := cs0_at t a s k j0 0 hjk (by omega); simpa [cellt] using this)
        clear hcell hcc
        go_wp2_with fail
        rw [hj0]
        go_cut [70] (fun s70 wx => s70 = .bool false ∧ HeapIs wx W0.heap.size W0.heap.size (k + 1) (cs1 t a s k j0 tb nb sb) 1000 (.slice (some ⟨gv, 0, none⟩) (k + 1) capv) ∧ wx.ownsRow W0.heap.size 26 3 (.slice (some ⟨gc, 0, none⟩) k cap) k (cellvs k) ∧ wx.heap[p]? = some (.cells #[.int .u8 4, .int .i64 k, .string ⟨#[]⟩] 26 (0, 0)) ∧ Below W0.heap.size W0 wx)
        case first =>
          have HD := HP.drew
          go_region_law (go_simp; refine Calls.mono (Set_hit (w := wc.drew) (A1.later (below_drew (Below.refl _ wc))) x0.1 x1.1 x2.1 x3.1 x1.2 x2.2 x3.2) ?_; rintro e u ⟨rfl, u1, hbu, rfl⟩)
          all_goals
            go_wp2_with fail
            go_meet
            have hgc' : (Value.slice (some ⟨gc, 0, none⟩) k cap).ownBlock ≠ some gv := fun e => hgv (by simpa [Value.ownBlock] using e)
            have hpv : p ≠ gv := fun e => hp2 (by rw [e]; rfl)
            have hgv0 : W0.heap.size ≤ gv := (HP.own.lt gv rfl).1
            have hR1 := blk_below (blk_drew hR) hbu
            have hb1 := (below_drew hb').trans (hbu.mono hb'.size)
            exact ⟨rfl, ((HD.below hbu).put (j0 * 8 + 1) _).put (j0 * 8 + 2) _ |>.put (j0 * 8 + 3) _, own_far (own_far (own_far (own_below (own_drew O') hbu) hgc' _ _) hgc' _ _) hgc' _ _, blk_far (blk_far (blk_far hR1 hpv _) hpv _) hpv _, ((hb1.setCell hgv0 _).setCell hgv0 _).setCell hgv0 _⟩
        case rest =>
          obtain ⟨rfl, HS, OS, RS, hbS⟩ := hcut
          clear HP O' hR hb' b0 b1 b2 e0 e1 e2 x0 x1 x2 x3 A1 hS
          go_wp2_with fail
          go_loopw [18] (fun i wr => ∃ j : Nat, i = .int .i64 j ∧ j ≤ k ∧ HeapIs wr W0.heap.size W0.heap.size (k + 1) (cs1 t a s k j0 tb nb sb) 1000 (.slice (some ⟨gv, 0, none⟩) (k + 1) capv) ∧ wr.ownsRow W0.heap.size 26 3 (.slice (some ⟨gc, 0, none⟩) k cap) k (cellvs k) ∧ wr.heap[p]? = some (.cells #[.int .u8 4, .int .i64 k, .string ⟨#[]⟩] 26 (0, 0)) ∧ Below W0.heap.size W0 wr) (fun i _ => (101 : Nat) - (intOf i).toNat)
          case atStart => exact ⟨0, rfl, by omega, HS, OS, RS, hbS⟩
          case round =>
            obtain ⟨j, rfl, hj, H, O, R, hb⟩ := hrel
            clear HS OS RS hbS
            have hV : wr.heap[w.heap.size]? = some (.cells #[.int .u8 t, .int .i64 a, .string s] 26 (0, 0)) := blk_below hA0 hb
            have hS : wr.heap[w.heap.size + 1]? = some (.cells #[.int .u8 tb, .int .i64 nb, .string sb] 26 (0, 0)) := blk_below hB0 hb
            by_cases hlt : j < k
            · have hlt' : (j : Int) < k := by omega
              obtain ⟨gc', capc', hcc, hcl, hgcl, e0, e1, e2⟩ := row_cells O hlt
              obtain ⟨rfl, rfl⟩ : gc = gc' ∧ cap = capc' := by simp at hcc; exact hcc
              obtain ⟨gv', capv', hvv, hgvl', hgvG', hcapv', hcell⟩ := H.cell (a := j) (by omega)
              obtain ⟨rfl, rfl⟩ : gv = gv' ∧ capv = capv' := by simp at hvv; exact hvv
              have hT : (cs1 t a s k j0 tb nb sb)[j * 8]? = some (.int .u8 5) := by
                rw [cs1_far _ _ _ _ _ _ _ _ _ (by omega) (by omega) (by omega)]
                have := cs0_at t a s k j 0 hlt (by omega)
                simpa [cellt] using this
              have A1 := at_hit H 5 j (by omega) hT
              have x0 := (hcell 0 _ (by simpa using hT)).1
              rw [Nat.add_zero] at x0
              by_cases hjj : j = j0
              · subst hjj
                obtain ⟨y1, y2, y3⟩ := cs1_own t a s k j tb nb sb hlt
                have x1 := (hcell 1 _ y1).1
                have x2 := (hcell 2 _ y2).1
                have x3 := (hcell 3 _ y3).1
                clear hcell hcc hvv y1 y2 y3 hT
                go_wp2_with fail
                refine Calls.mono (Get_hit A1 x0 x1 x2 x3) ?_
                rintro e u ⟨rfl, hbu⟩
                have bl := hbu.trans ((Below.refl _ u).alloc hbu.size (.cells #[.int .u8 tb, .int .i64 nb, .string sb] 26))
                have hS2 := blk_alloc (blk_below hS hbu) (.cells #[.int .u8 tb, .int .i64 nb, .string sb] 26)
                have H3 := H.below bl
                have O3 := own_below O bl
                have R3 := blk_below R bl
                have hb3 := hb.trans (bl.mono hb.size)
                have b0 := cells_of hS2 0 _ rfl
                have b1 := cells_of hS2 1 _ rfl
                have b2 := cells_of hS2 2 _ rfl
                clear e0 e1 e2 x0 x1 x2 x3 A1 H O R hb hbu bl hS2 hS hV
                go_wp2_with fail
                go_roundw
                case rel => exact ⟨j + 1, by push_cast; rfl, by omega, H3, O3, R3, hb3⟩
                case measure => simp [intOf]; omega
              · have hjI' : ¬ (j : Int) = j0 := by omega
                have x1 := (hcell 1 _ ((cs1_far _ _ _ _ _ _ _ _ _ (by omega) (by omega) (by omega)).trans (cs0_at t a s k j 1 hlt (by omega)))).1
                have x2 := (hcell 2 _ ((cs1_far _ _ _ _ _ _ _ _ _ (by omega) (by omega) (by omega)).trans (cs0_at t a s k j 2 hlt (by omega)))).1
                have x3 := (hcell 3 _ ((cs1_far _ _ _ _ _ _ _ _ _ (by omega) (by omega) (by omega)).trans (cs0_at t a s k j 3 hlt (by omega)))).1
                clear hcell hcc hvv hT
                go_wp2_with fail
                refine Calls.mono (Get_hit A1 x0 x1 x2 x3) ?_
                rintro e u ⟨rfl, hbu⟩
                have bl := hbu.trans ((Below.refl _ u).alloc hbu.size (.cells #[.int .u8 t, .int .i64 a, .string s] 26))
                have hV2 := blk_alloc (blk_below hV hbu) (.cells #[.int .u8 t, .int .i64 a, .string s] 26)
                have H3 := H.below bl
                have O3 := own_below O bl
                have R3 := blk_below R bl
                have hb3 := hb.trans (bl.mono hb.size)
                have b0 := cells_of hV2 0 _ rfl
                have b1 := cells_of hV2 1 _ rfl
                have b2 := cells_of hV2 2 _ rfl
                clear e0 e1 e2 x0 x1 x2 x3 A1 H O R hb hbu bl hV2 hS hV
                go_wp2_with fail
                go_roundw
                case rel => exact ⟨j + 1, by push_cast; rfl, by omega, H3, O3, R3, hb3⟩
                case measure => simp [intOf]; omega
            · obtain rfl : j = k := by omega
              have p0 := cells_of R 0 _ rfl
              have p1 := cells_of R 1 _ rfl
              have p2 := cells_of R 2 _ rfl
              obtain ⟨gv', capv', hvv, hgvl', hgvG', hcapv', hcell⟩ := H.cell (a := j) (by omega)
              obtain ⟨rfl, rfl⟩ : gv = gv' ∧ capv = capv' := by simp at hvv; exact hvv
              have hP : ∀ q u, (cs0 t a s j)[j * 8 + q]? = some u → wr.cell? ⟨gv, j * 8 + q, none⟩ = some u := fun q u h => (hcell q u ((cs1_far _ _ _ _ _ _ _ _ _ (by omega) (by omega) (by omega)).trans h)).1
              have x0 := hP 0 _ (cs0_pair t a s j 0)
              have x1 := hP 1 _ (cs0_pair t a s j 1)
              have x2 := hP 2 _ (cs0_pair t a s j 2)
              have x3 := hP 3 _ (cs0_pair t a s j 3)
              have x4 := hP 4 _ (cs0_pair t a s j 4)
              have x5 := hP 5 _ (cs0_pair t a s j 5)
              have x6 := hP 6 _ (cs0_pair t a s j 6)
              rw [Nat.add_zero] at x0
              have A1 := at_hit H 4 j (by omega) ((cs1_far _ _ _ _ _ _ _ _ _ (by omega) (by omega) (by omega)).trans (by simpa using cs0_pair t a s j 0))
              clear hcell hP hvv
              go_wp2_with fail
              refine Calls.mono (Fst_hit A1 x0 x1 x2 x3) ?_
              rintro e u ⟨rfl, hbu⟩
              have bl := hbu.trans ((Below.refl _ u).alloc hbu.size (.cells #[.int .u8 5, .int .i64 0, .string ⟨#[]⟩] 26))
              have D1 := blk_new u (.cells #[.int .u8 5, .int .i64 0, .string ⟨#[]⟩] 26)
              have hb3 := hb.trans (bl.mono hb.size)
              have R3 := blk_below R bl
              have O3 := own_below O bl
              have hV3 := blk_below hV bl
              have A3 := A1.later bl
              have z0 := (bl.cell (p := ⟨gv, j * 8, none⟩) hgvl').trans x0
              have z4 := (bl.cell (p := ⟨gv, j * 8 + 4, none⟩) hgvl').trans x4
              have z5 := (bl.cell (p := ⟨gv, j * 8 + 5, none⟩) hgvl').trans x5
              have z6 := (bl.cell (p := ⟨gv, j * 8 + 6, none⟩) hgvl').trans x6
              clear p0 p1 p2 x0 x1 x2 x3 x4 x5 x6 A1 H O R hb hbu bl hV hS
              have p0 := cells_of R3 0 _ rfl
              have p1 := cells_of R3 1 _ rfl
              have p2 := cells_of R3 2 _ rfl
              go_wp2_with fail
              refine Calls.mono (Snd_hit A3 z0 z4 z5 z6) ?_
              rintro e u2 ⟨rfl, hbu⟩
              have bl := hbu.trans ((Below.refl _ u2).alloc hbu.size (.cells #[.int .u8 t, .int .i64 a, .string s] 26))
              have D2 := blk_alloc (blk_below D1 hbu) (.cells #[.int .u8 t, .int .i64 a, .string s] 26)
              have E2 := blk_new u2 (.cells #[.int .u8 t, .int .i64 a, .string s] 26)
              have hb4 := hb3.trans (bl.mono hb3.size)
              have O4 := own_below O3 bl
              have hV4 := blk_below hV3 bl
              clear p0 p1 p2 z0 z4 z5 z6 A3 hb3 R3 O3 hV3 D1 hbu bl
              obtain ⟨gc', capc', hcc, hcl, hgcl, e0, e1, e2⟩ := row_cells O4 hM1
              obtain ⟨rfl, rfl⟩ : gc = gc' ∧ cap = capc' := by simp at hcc; exact hcc
              have d0 := cells_of D2 0 _ rfl
              have d1 := cells_of D2 1 _ rfl
              have d2 := cells_of D2 2 _ rfl
              have f0 := cells_of E2 0 _ rfl
              have f1 := cells_of E2 1 _ rfl
              have f2 := cells_of E2 2 _ rfl
              have b0 := cells_of hV4 0 _ rfl
              have b1 := cells_of hV4 1 _ rfl
              have b2 := cells_of hV4 2 _ rfl
              clear hcc O4 D2 E2 hV4
              go_wp2_with fail
              have hfin := B0.trans ((below_drew hb4).mono B0.size)
              go_region_law (go_simp; refine Calls.mono (awake_calls _) ?_; rintro e u3 ⟨rfl, hbu⟩)
              all_goals
                go_wp2_with fail
                go_ret
                exact ⟨rfl, hfin.trans (hbu.mono hfin.size)⟩

theorem HeapCells_calls (w : World) (nn kk t a tb nb : Int) (s sb : ByteArray) (h0 : (Lit.int .u8 nn).wf = true) (h1 : (Lit.int .u8 kk).wf = true) :
    Calls Try.prog 5 #[.int .u8 nn, .int .u8 kk, .agg #[.int .u8 t, .int .i64 a, .string s], .agg #[.int .u8 tb, .int .i64 nb, .string sb]] w fun e w' => e = .returned (.bool true) ∧ Below w.heap.size w w' := by
  have b0 : 0 ≤ nn ∧ nn ≤ 255 := by
    simp [Lit.wf, IntKind.min, IntKind.max, IntKind.signed, IntKind.bits] at h0
    exact ⟨by omega, by omega⟩
  have b1 : 0 ≤ kk ∧ kk ≤ 255 := by
    simp [Lit.wf, IntKind.min, IntKind.max, IntKind.signed, IntKind.bits] at h1
    exact ⟨by omega, by omega⟩
  exact cells_walk w nn kk t a tb nb s sb (nn % 100 + 1).toNat (by omega) (by omega) (by omega) b1.1 b1.2 b0.1 b0.2
end Go.Proofs.Ytahcnpjgbhpbeaa.HP
