/- heap.Heap: add, Pair, New, at, of, Fst, Snd: what they answer and leave. -/
import Derived.Test.YtobchfcabedmhaaDoorProg
import Derived.Test.YtobchfcabedmhaaDoorWWords
import Derived.Deep.RegionLaw
import Derived.Handy
import Derived.Below
namespace Go.Proofs.YtobchfcabedmhaaDoor.NW
open Go.RowKit Go.Proofs.YtobchfcabedmhaaDoorW.PrintWords
set_option linter.unusedVariables false
set_option linter.unusedSimpArgs false


theorem info24 : (Tryd.prog.info? 24).map (fun i => (i.zero, i.size, i.bytes)) = some (some (.agg #[(.int .u8 0), (.int .i64 0), (.string ⟨#[]⟩)]), 3, 32) := by kernel_rfl
theorem info49 : (Tryd.prog.info? 49).map (fun i => (i.zero, i.size, i.bytes)) = some (some (.agg #[.int .u8 0, .int .u8 0, .int .i64 0, .string ⟨#[]⟩, .int .u8 0, .int .i64 0, .string ⟨#[]⟩, .int .i64 0]), 8, 80) := by kernel_rfl

/-- what one call may turn: the block g and the row's own block -/
structure Fr (w w' : World) (g : Nat) (row : Option Nat) : Prop where
  os : w'.os = w.os
  tape : w'.tape = w.tape
  output : w'.output = w.output
  size : w.heap.size ≤ w'.heap.size
  block : ∀ k, k < w.heap.size → k ≠ g → some k ≠ row → w'.heap[k]? = w.heap[k]?


abbrev Z26 : Value := .agg #[.int .u8 0, .int .i64 0, .string ⟨#[]⟩]

theorem Fr.far {w W : World} {g : Nat} {row : Option Nat} (h : Fr w W g row) {p : Addr} (hp : w.heap.size ≤ p.block) (u : Value) : Fr w (W.setCell p u) g row :=
  ⟨h.os, h.tape, h.output, by simpa [World.setCell] using h.size, fun k hk h1 h2 => (Below.heap_setCell W p u k (by omega)).trans (h.block k hk h1 h2)⟩
theorem own_far {W : World} {base e size n : Nat} {v : Value} {xs : List Value} (h : W.ownsRow base e size v n xs) {g : Nat} (hg : v.ownBlock ≠ some g) (j : Nat) (u : Value) : (W.setCell ⟨g, j, none⟩ u).ownsRow base e size v n xs :=
  (KeepBut.set_ (KeepBut.refl W g none) j u).own h hg (by cases v.ownBlock <;> simp)
theorem Fr.drew {w W : World} {g : Nat} {row : Option Nat} (h : Fr w W g row) : Fr w W.drew g row := ⟨h.os, h.tape, h.output, h.size, h.block⟩
theorem own_drew {W : World} {base e size n : Nat} {v : Value} {xs : List Value} (h : W.ownsRow base e size v n xs) : W.drew.ownsRow base e size v n xs := h
theorem own_form {w : World} {base e n size : Nat} {v : Value} {xs : List Value} (h : w.ownsRow base e size v (n + 1) xs) : ∃ g c, v = .slice (some ⟨g, 0, none⟩) (n + 1) c := by
  rcases h.2 with ⟨_, h2⟩ | ⟨g', cap, _, h1, _⟩
  · omega
  · exact ⟨_, cap, h1⟩

set_option maxHeartbeats 1600000 in
set_option maxRecDepth 1000000 in
theorem add_full (g : Nat) (w : World) (n cap : Nat) (ad : Option Addr) (limit t ta na tb nb x : Int) (sa sb : ByteArray)
    (hg : w.heap[g]? = some (.cells #[.slice ad n cap, .int .i64 limit] 46 (0,0))) (hl : limit ≤ n) :
    Calls Tryd.prog 17 #[.pointer (some ⟨g, 0, none⟩), .agg #[.int .u8 t, .int .u8 ta, .int .i64 na, .string sa, .int .u8 tb, .int .i64 nb, .string sb, .int .i64 x]] w fun e w' =>
      e = .returned (.tuple #[Z26, .int .i64 17]) ∧ Below w.heap.size w w' := by
  have hgl : g < w.heap.size := blk_lt hg
  have k0 : w.cell? ⟨g, 0, none⟩ = some (.slice ad n cap) := by rw [cell_of_row w g 0 _ 46 (0,0) hg]; rfl
  have k1 : w.cell? ⟨g, 1, none⟩ = some (.int .i64 limit) := by rw [cell_of_row w g 1 _ 46 (0,0) hg]; rfl
  go_enter Tryd.func17, Tryd.ntmps17
  go_wp2
  go_region
  go_wp2
  refine bodyPost_ret (results_ct rfl _ _ (w.heap.size + 1) 24 #[.int .u8 0, .int .i64 0, .string ⟨#[]⟩] (0, 0) _ rfl ?_ Tryd.underlying24 rfl (by kernel_rfl)) rfl ?_
  · exact blk_drew (by simpa using blk_new (w.alloc _) _)
  · exact ⟨rfl, ((((Below.refl _ w).alloc (Nat.le_refl _) _).alloc (by simp) _).drew)⟩

set_option maxHeartbeats 1600000 in
set_option maxRecDepth 1000000 in
theorem add_room (g : Nat) (w : World) (base n : Nat) (cells : List Value) (v : Value) (limit t ta na tb nb x : Int) (sa sb : ByteArray)
    (hg : w.heap[g]? = some (.cells #[v, .int .i64 limit] 46 (0,0))) (hl : (n : Int) < limit) (hn : n ≤ 1048576) (HO : w.ownsRow base 49 8 v n cells) (hb : base ≤ w.heap.size) (hne : some g ≠ v.ownBlock) (ht : (Lit.int .u8 t).wf = true) :
    Calls Tryd.prog 17 #[.pointer (some ⟨g, 0, none⟩), .agg #[.int .u8 t, .int .u8 ta, .int .i64 na, .string sa, .int .u8 tb, .int .i64 nb, .string sb, .int .i64 x]] w fun e w' =>
      e = .returned (.tuple #[.agg #[.int .u8 t, .int .i64 n, .string ⟨#[]⟩], .int .i64 0]) ∧ Fr w w' g v.ownBlock ∧ ∃ v', w'.heap[g]? = some (.cells #[v', .int .i64 limit] 46 (0,0)) ∧
        w'.ownsRow base 49 8 v' (n + 1) (cells ++ [.int .u8 t, .int .u8 ta, .int .i64 na, .string sa, .int .u8 tb, .int .i64 nb, .string sb, .int .i64 x]) ∧ (v'.ownBlock = v.ownBlock ∨ ∃ k, v'.ownBlock = some k ∧ w.heap.size ≤ k) := by
  have hgl : g < w.heap.size := blk_lt hg
  have hgl1 : g < w.heap.size + 1 := by omega
  have hgl2 : g < w.heap.size + 1 + 1 := by omega
  have hgl3 : g ≠ w.heap.size + 1 + 1 := by omega
  have k0 : w.cell? ⟨g, 0, none⟩ = some v := by rw [cell_of_row w g 0 _ 46 (0,0) hg]; rfl
  have k1 : w.cell? ⟨g, 1, none⟩ = some (.int .i64 limit) := by rw [cell_of_row w g 1 _ 46 (0,0) hg]; rfl
  obtain ⟨ad, cap, rfl⟩ : ∃ ad cap, v = .slice ad n cap := by
    rcases HO.2 with ⟨h1, h2⟩ | ⟨g', cap, _, h1, _⟩
    · exact ⟨none, 0, by rw [h1, h2]⟩
    · exact ⟨_, cap, h1⟩
  go_enter Tryd.func17, Tryd.ntmps17
  go_wp2
  go_region
  go_wp2
  go_region_law (refine step_append_cells (w0 := w) (W := ((w.alloc (.cells #[.int .u8 t, .int .u8 ta, .int .i64 na, .string sa, .int .u8 tb, .int .i64 nb, .string sb, .int .i64 x] 49)).alloc (.cells #[.int .u8 0, .int .i64 0, .string ⟨#[]⟩] 24)).drew.drew) base (by simp [Region.wanted]) (.tmp 25) (.tmp 27) 44 49 _ 8 80 (by rfl) Tryd.underlying44 info49 (by rfl) (by decide) (by decide) (.slice ad n cap) n cells [.int .u8 t, .int .u8 ta, .int .i64 na, .string sa, .int .u8 tb, .int .i64 nb, .string sb, .int .i64 x] (by simp [Act.eval, Act.put]) (by simp [Act.eval, Act.put]) rfl (by simp [Value.oneCell']) (((HO.alloc _).alloc _)) (((((Below.refl _ w).alloc hb _).alloc (by simp; omega) _).drew).drew) (by simp; omega) (by omega) ?_; intro v1 w1 hown1 hb1 hg1 hat1; obtain ⟨g1, cap1, rfl⟩ := own_form hown1; have hB : w1.heap[g]? = some (.cells #[.slice ad n cap, .int .i64 limit] 46 (0,0)) := (hg1.block g (by simp; omega) hne).trans (blk_drew (blk_drew (blk_alloc (blk_alloc hg _) _))); have j0 : w1.cell? ⟨g, 0, none⟩ = some (.slice ad n cap) := (by rw [cell_of_row w1 g 0 _ 46 (0,0) hB]; rfl); have f0 : w1.frozen? ⟨g, 0, none⟩ = false := frozen_of_row w1 g 0 _ 46 hB)
  all_goals
    have q1 : some w.heap.size ≠ (Value.slice ad n cap).ownBlock := fun h => by have := (HO.lt _ h.symm).2; omega
    have q2 : some (w.heap.size + 1) ≠ (Value.slice ad n cap).ownBlock := fun h => by have := (HO.lt _ h.symm).2; omega
    have hT1 := (hg1.block w.heap.size (by simp; omega) q1).trans (blk_drew (blk_drew (blk_alloc (blk_new w (.cells #[.int .u8 t, .int .u8 ta, .int .i64 na, .string sa, .int .u8 tb, .int .i64 nb, .string sb, .int .i64 x] 49)) (.cells #[.int .u8 0, .int .i64 0, .string ⟨#[]⟩] 24))))
    have hR1 := (hg1.block (w.heap.size + 1) (by simp) q2).trans (blk_drew (blk_drew (by simpa using blk_new (w.alloc (.cells #[.int .u8 t, .int .u8 ta, .int .i64 na, .string sa, .int .u8 tb, .int .i64 nb, .string sb, .int .i64 x] 49)) (.cells #[.int .u8 0, .int .i64 0, .string ⟨#[]⟩] 24))))
    have hB2 := blk_put hB 0 (.slice (some ⟨g1, 0, none⟩) (n + 1) cap1) rfl
    have hT2 := (Below.heap_setCell w1 ⟨g, 0, none⟩ (.slice (some ⟨g1, 0, none⟩) (n + 1) cap1) w.heap.size (by simp; omega)).trans hT1
    have hR2 := (Below.heap_setCell w1 ⟨g, 0, none⟩ (.slice (some ⟨g1, 0, none⟩) (n + 1) cap1) (w.heap.size + 1) (by simp; omega)).trans hR1
    have hp1 : g1 ≠ g ∧ g1 ≠ w.heap.size + 1 := by
      rcases hat1 with h | ⟨b, h, hb'⟩
      · have := (HO.lt g1 (by rw [← h]; rfl)).2
        exact ⟨fun e => hne (by rw [← h, ← e]; rfl), by omega⟩
      · simp [Value.ownBlock] at h hb'
        omega
    have hF2 : Fr w (World.setCell w1 ⟨g, 0, none⟩ (.slice (some ⟨g1, 0, none⟩) (n + 1) cap1)) g (Value.slice ad n cap).ownBlock :=
      ⟨hg1.os, hg1.tape, hg1.output, by have := hg1.size; simp at this; simp [World.setCell]; omega, fun k hk h1 h2 => (Below.heap_setCell w1 _ _ k h1).trans ((hg1.block k (by simp; omega) h2).trans
        ((Below.heap_alloc _ _ k (by simp; omega)).trans (Below.heap_alloc _ _ k hk)))⟩
    have hO2 := own_far hown1 (g := g) (by simp [Value.ownBlock]; exact hp1.1) 0 (.slice (some ⟨g1, 0, none⟩) (n + 1) cap1)
    have hW2 : World.setCell w1 ⟨g, 0, none⟩ (.slice (some ⟨g1, 0, none⟩) (n + 1) cap1) = World.setCell w1 ⟨g, 0, none⟩ (.slice (some ⟨g1, 0, none⟩) (n + 1) cap1) := rfl
    generalize World.setCell w1 ⟨g, 0, none⟩ (.slice (some ⟨g1, 0, none⟩) (n + 1) cap1) = W2 at hB2 hT2 hR2 hF2 hO2 ⊢

    have c0 : W2.cell? ⟨g, 0, none⟩ = some (.slice (some ⟨g1, 0, none⟩) (n + 1) cap1) := by rw [cell_of_row W2 g 0 _ 46 (0,0) hB2]; rfl
    have ct : W2.cell? ⟨w.heap.size, 0, none⟩ = some (.int .u8 t) := by rw [cell_of_row W2 _ 0 _ 49 (0,0) hT2]; rfl
    have cr0 : W2.cell? ⟨w.heap.size + 1, 0, none⟩ = some (.int .u8 0) := by rw [cell_of_row W2 _ 0 _ 24 (0,0) hR2]; rfl
    have cr1 : W2.cell? ⟨w.heap.size + 1, 1, none⟩ = some (.int .i64 0) := by rw [cell_of_row W2 _ 1 _ 24 (0,0) hR2]; rfl
    have cr2 : W2.cell? ⟨w.heap.size + 1, 2, none⟩ = some (.string ⟨#[]⟩) := by rw [cell_of_row W2 _ 2 _ 24 (0,0) hR2]; rfl
    have fr0 := frozen_of_row W2 (w.heap.size + 1) 0 _ 24 hR2
    have fr1 := frozen_of_row W2 (w.heap.size + 1) 1 _ 24 hR2
    have fr2 := frozen_of_row W2 (w.heap.size + 1) 2 _ 24 hR2
    have hlim : (n : Int) ≤ 1048576 := by omega
    go_wp2
    go_region
    all_goals go_wp2
    refine bodyPost_ret (results_ct rfl _ _ (w.heap.size + 1) 24 #[.int .u8 t, .int .i64 n, .string ⟨#[]⟩] (0, 0) _ rfl ?_ Tryd.underlying24 rfl (by kernel_rfl)) rfl ?_
    · exact blk_drew (blk_put (blk_put (blk_put hR2 0 _ rfl) 1 _ rfl) 2 _ rfl)
    · refine ⟨rfl, Fr.drew (((hF2.far (Nat.le_succ _) _).far (Nat.le_succ _) _).far (Nat.le_succ _) _), _, blk_drew ?_, own_drew (own_far (own_far (own_far hO2 ?_ _ _) ?_ _ _) ?_ _ _), ?_⟩
      · have hne1 : g ≠ w.heap.size + 1 := by omega
        exact (Below.heap_setCell _ _ _ g hne1).trans ((Below.heap_setCell _ _ _ g hne1).trans ((Below.heap_setCell _ _ _ g hne1).trans hB2))
      · simp [Value.ownBlock]; exact hp1.2
      · simp [Value.ownBlock]; exact hp1.2
      · simp [Value.ownBlock]; exact hp1.2
      · rcases hat1 with h | ⟨b, h, hb'⟩
        · exact .inl h
        · exact .inr ⟨b, h, by simp at hb'; omega⟩

structure HeapIs (w : World) (base g n : Nat) (cells : List Value) (limit : Int) (v : Value) : Prop where
  blk : w.heap[g]? = some (.cells #[v, .int .i64 limit] 46 (0,0))
  own : w.ownsRow base 49 8 v n cells
  ne : some g ≠ v.ownBlock
  base_le : base ≤ w.heap.size
  few : n ≤ 1048576

theorem HeapIs.lt {w : World} {base g n : Nat} {cells : List Value} {limit : Int} {v : Value} (h : HeapIs w base g n cells limit v) : g < w.heap.size := blk_lt h.blk
theorem HeapIs.apart {w : World} {base g n : Nat} {cells : List Value} {limit : Int} {v : Value} (h : HeapIs w base g n cells limit v) {p : Nat} (hp : w.heap.size ≤ p) : p ≠ g ∧ some p ≠ v.ownBlock :=
  ⟨by have := h.lt; omega, fun e => by have := (h.own.lt p e.symm).2; omega⟩
theorem HeapIs.below {w w1 : World} {base g n : Nat} {cells : List Value} {limit : Int} {v : Value} (h : HeapIs w base g n cells limit v) (hb : Below w.heap.size w w1) : HeapIs w1 base g n cells limit v :=
  ⟨blk_below h.blk hb, h.own.kept (row := none) ⟨hb.os, hb.tape, hb.output, hb.size, fun k hk _ => hb.block k hk⟩ (by cases v.ownBlock <;> simp), h.ne, Nat.le_trans h.base_le hb.size, h.few⟩
theorem HeapIs.far {w : World} {base g n : Nat} {cells : List Value} {limit : Int} {v : Value} (h : HeapIs w base g n cells limit v) {p : Nat} (hp : p ≠ g) (hv : some p ≠ v.ownBlock) (j : Nat) (u : Value) : HeapIs (w.setCell ⟨p, j, none⟩ u) base g n cells limit v :=
  ⟨(Below.heap_setCell w _ u g (fun e => hp e.symm)).trans h.blk, own_far h.own (fun e => hv e.symm) j u, h.ne, by simpa [World.setCell] using h.base_le, h.few⟩

theorem Fr.of_below {w w1 : World} (h : Below w.heap.size w w1) (g : Nat) (row : Option Nat) : Fr w w1 g row := ⟨h.os, h.tape, h.output, h.size, fun k hk _ _ => h.block k hk⟩
theorem Fr.pre {w wc w1 : World} {g : Nat} {row : Option Nat} (hb : Below w.heap.size w wc) (h : Fr wc w1 g row) : Fr w w1 g row :=
  ⟨h.os.trans hb.os, h.tape.trans hb.tape, h.output.trans hb.output, Nat.le_trans hb.size h.size, fun k hk h1 h2 => (h.block k (Nat.lt_of_lt_of_le hk hb.size) h1 h2).trans (hb.block k hk)⟩

/-- what an addition leaves, whether or not there was room -/
def Adds (w w' : World) (base g n : Nat) (cells : List Value) (limit : Int) (v : Value) (t : Int) (new : List Value) (a b c : Int) : Prop :=
  Fr w w' g v.ownBlock ∧ ((limit ≤ n ∧ a = 0 ∧ b = 0 ∧ c = 17 ∧ HeapIs w' base g n cells limit v) ∨
    ((n : Int) < limit ∧ a = t ∧ b = n ∧ c = 0 ∧ ∃ v', HeapIs w' base g (n + 1) (cells ++ new) limit v' ∧ (v'.ownBlock = v.ownBlock ∨ ∃ k, v'.ownBlock = some k ∧ w.heap.size ≤ k)))

theorem add_any {g : Nat} {w : World} {base n : Nat} {cells : List Value} {v : Value} {limit : Int} (H : HeapIs w base g n cells limit v) (hl : limit ≤ 1048576) (t ta na tb nb x : Int) (sa sb : ByteArray) (ht : (Lit.int .u8 t).wf = true) :
    Calls Tryd.prog 17 #[.pointer (some ⟨g, 0, none⟩), .agg #[.int .u8 t, .int .u8 ta, .int .i64 na, .string sa, .int .u8 tb, .int .i64 nb, .string sb, .int .i64 x]] w fun e w' =>
      ∃ a b c, e = .returned (.tuple #[.agg #[.int .u8 a, .int .i64 b, .string ⟨#[]⟩], .int .i64 c]) ∧
        Adds w w' base g n cells limit v t [.int .u8 t, .int .u8 ta, .int .i64 na, .string sa, .int .u8 tb, .int .i64 nb, .string sb, .int .i64 x] a b c := by
  by_cases h : limit ≤ n
  · obtain ⟨ad, cap, rfl⟩ : ∃ ad cap, v = .slice ad n cap := by
      rcases H.own.2 with ⟨h1, h2⟩ | ⟨g', cap, _, h1, _⟩
      · exact ⟨none, 0, by rw [h1, h2]⟩
      · exact ⟨_, cap, h1⟩
    refine (add_full g w n cap ad limit t ta na tb nb x sa sb H.blk h).mono fun e w' ⟨he, hb⟩ => ?_
    exact ⟨0, 0, 17, he, Fr.of_below hb _ _, .inl ⟨h, rfl, rfl, rfl, H.below hb⟩⟩
  · refine (add_room g w base n cells v limit t ta na tb nb x sa sb H.blk (by omega) H.few H.own H.base_le H.ne ht).mono fun e w' ⟨he, hF, v', h1, h2, h3⟩ => ?_
    refine ⟨t, n, 0, he, hF, .inr ⟨by omega, rfl, rfl, rfl, v', ⟨h1, h2, ?_, Nat.le_trans H.base_le hF.size, by omega⟩, h3⟩⟩
    rcases h3 with h3 | ⟨k, h3, h4⟩
    · rw [h3]; exact H.ne
    · rw [h3]; intro e; have := H.lt; simp at e; omega

/-- the answer laid into the caller's own new block p -/
theorem Adds.out {w wc w' : World} {base g n : Nat} {cells : List Value} {limit : Int} {v : Value} {t : Int} {new : List Value} {a b c : Int} (H : HeapIs w base g n cells limit v) (hb : Below w.heap.size w wc)
    (h : Adds wc w' base g n cells limit v t new a b c) {p : Nat} (h1 : w.heap.size ≤ p) (h2 : p < wc.heap.size) (x y z : Value) :
    Adds w (((w'.setCell ⟨p, 0, none⟩ x).setCell ⟨p, 1, none⟩ y).setCell ⟨p, 2, none⟩ z) base g n cells limit v t new a b c := by
  obtain ⟨hp, hv⟩ := H.apart h1
  obtain ⟨hF, hh⟩ := h
  refine ⟨(((Fr.pre hb hF).far h1 _).far h1 _).far h1 _, ?_⟩
  rcases hh with ⟨e1, e2, e3, e4, e5⟩ | ⟨e1, e2, e3, e4, v', e5, e6⟩
  · exact .inl ⟨e1, e2, e3, e4, ((e5.far hp hv _ _).far hp hv _ _).far hp hv _ _⟩
  · have hv' : some p ≠ v'.ownBlock := by
      rcases e6 with e6 | ⟨k, e6, e7⟩
      · rw [e6]; exact hv
      · rw [e6]; intro e; simp at e; omega
    refine .inr ⟨e1, e2, e3, e4, v', ((e5.far hp hv' _ _).far hp hv' _ _).far hp hv' _ _, ?_⟩
    rcases e6 with e6 | ⟨k, e6, e7⟩
    · exact .inl e6
    · exact .inr ⟨k, e6, Nat.le_trans hb.size e7⟩
theorem Adds.drew {w w' : World} {base g n : Nat} {cells : List Value} {limit : Int} {v : Value} {t : Int} {new : List Value} {a b c : Int} (h : Adds w w' base g n cells limit v t new a b c) : Adds w w'.drew base g n cells limit v t new a b c := by
  obtain ⟨hF, hh⟩ := h
  refine ⟨hF.drew, ?_⟩
  rcases hh with ⟨e1, e2, e3, e4, e5⟩ | ⟨e1, e2, e3, e4, v', e5, e6⟩
  · exact .inl ⟨e1, e2, e3, e4, ⟨e5.blk, e5.own, e5.ne, e5.base_le, e5.few⟩⟩
  · exact .inr ⟨e1, e2, e3, e4, v', ⟨e5.blk, e5.own, e5.ne, e5.base_le, e5.few⟩, e6⟩

set_option maxHeartbeats 1600000 in
set_option maxRecDepth 1000000 in
theorem Pair_any {g : Nat} {w : World} {base n : Nat} {cells : List Value} {v : Value} {limit : Int} (H : HeapIs w base g n cells limit v) (hl : limit ≤ 1048576) (ta na tb nb : Int) (sa sb : ByteArray) :
    Calls Tryd.prog 11 #[.pointer (some ⟨g, 0, none⟩), .agg #[.int .u8 ta, .int .i64 na, .string sa], .agg #[.int .u8 tb, .int .i64 nb, .string sb]] w fun e w' =>
      ∃ a b c, e = .returned (.tuple #[.agg #[.int .u8 a, .int .i64 b, .string ⟨#[]⟩], .int .i64 c]) ∧
        Adds w w' base g n cells limit v 4 [.int .u8 4, .int .u8 ta, .int .i64 na, .string sa, .int .u8 tb, .int .i64 nb, .string sb, .int .i64 0] a b c := by
  have hbel : Below w.heap.size w (((w.alloc (.cells #[.int .u8 ta, .int .i64 na, .string sa] 24)).alloc (.cells #[.int .u8 tb, .int .i64 nb, .string sb] 24)).alloc (.cells #[.int .u8 0, .int .i64 0, .string ⟨#[]⟩] 24)) := (((Below.refl _ w).alloc (Nat.le_refl _) _).alloc (by simp) _).alloc (by simp; omega) _
  have H' := H.below hbel
  obtain ⟨q1, q2⟩ := H.apart (p := w.heap.size + 2) (by omega)
  go_enter Tryd.func11, Tryd.ntmps11
  go_wp2_with (go_at_call 17; refine Calls.mono (add_any H' hl 4 ta na tb nb 0 sa sb (by decide)) ?_; rintro e w2 ⟨a, b, c, rfl, hA⟩; have hR : w2.heap[w.heap.size + 2]? = some (.cells #[.int .u8 0, .int .i64 0, .string ⟨#[]⟩] 24 (0,0)) := (hA.1.block (w.heap.size + 2) (by simp) q1 q2).trans (by simpa using blk_new ((w.alloc _).alloc _) _); have cr0 : w2.cell? ⟨w.heap.size + 2, 0, none⟩ = some (.int .u8 0) := (by rw [cell_of_row w2 _ 0 _ 24 (0,0) hR]; rfl); have cr1 : w2.cell? ⟨w.heap.size + 2, 1, none⟩ = some (.int .i64 0) := (by rw [cell_of_row w2 _ 1 _ 24 (0,0) hR]; rfl); have cr2 : w2.cell? ⟨w.heap.size + 2, 2, none⟩ = some (.string ⟨#[]⟩) := (by rw [cell_of_row w2 _ 2 _ 24 (0,0) hR]; rfl); have fr0 := frozen_of_row w2 (w.heap.size + 2) 0 _ 24 hR; have fr1 := frozen_of_row w2 (w.heap.size + 2) 1 _ 24 hR; have fr2 := frozen_of_row w2 (w.heap.size + 2) 2 _ 24 hR)
  refine bodyPost_ret (results_ct rfl _ _ (w.heap.size + 2) 24 #[.int .u8 a, .int .i64 b, .string ⟨#[]⟩] (0, 0) _ rfl (blk_put (blk_put (blk_put hR 0 _ rfl) 1 _ rfl) 2 _ rfl) Tryd.underlying24 rfl (by kernel_rfl)) rfl ?_
  exact ⟨a, b, c, rfl, Adds.out H hbel hA (by omega) (by simp) _ _ _⟩

theorem new_is (w : World) {base : Nat} (hb : base ≤ w.heap.size) {L L' : Int} (h : L' = L) : HeapIs (w.alloc (.cells #[.slice none 0 0, .int .i64 L] 46)) base w.heap.size 0 [] L' (.slice none 0 0) := by
  subst h
  exact ⟨blk_new w _, World.ownsRow_nil _ _ _ _, by simp [Value.ownBlock], by simp; omega, by omega⟩

set_option maxHeartbeats 1600000 in
set_option maxRecDepth 1000000 in
theorem New_any (w : World) (limit : Int) (base : Nat) (hb : base ≤ w.heap.size) (wf : (Lit.int .i64 limit).wf = true) :
    Calls Tryd.prog 9 #[.int .i64 limit] w fun e w' => e = .returned (.pointer (some ⟨w.heap.size, 0, none⟩)) ∧ Below w.heap.size w w' ∧ w.heap.size < w'.heap.size ∧ HeapIs w' base w.heap.size 0 [] (min (max limit 0) 1048576) (.slice none 0 0) := by
  go_enter Tryd.func9, Tryd.ntmps9
  go_wp2
  all_goals
    go_ret
    exact ⟨rfl, (Below.refl _ w).alloc (Nat.le_refl _) _, by simp, new_is w hb (by omega)⟩



def AtNone (p : Value) (t a : Int) (s : ByteArray) (w : World) : Prop := ∀ W, Below w.heap.size w W →
  Calls Tryd.prog 62 #[p, .agg #[.int .u8 t, .int .i64 a, .string s]] W fun e w' => e = .returned (.pointer none) ∧ Below W.heap.size W w'
def AtHit (p : Value) (t a : Int) (s : ByteArray) (q o : Nat) (w : World) : Prop := ∀ W, Below w.heap.size w W →
  Calls Tryd.prog 62 #[p, .agg #[.int .u8 t, .int .i64 a, .string s]] W fun e w' => e = .returned (.pointer (some ⟨q, o, none⟩)) ∧ Below W.heap.size W w'

theorem AtNone.later {p : Value} {t a : Int} {s : ByteArray} {w w1 : World} (h : AtNone p t a s w) (hb : Below w.heap.size w w1) : AtNone p t a s w1 :=
  fun W hW => h W (hb.trans (hW.mono hb.size))
theorem AtHit.later {p : Value} {t a : Int} {s : ByteArray} {q o : Nat} {w w1 : World} (h : AtHit p t a s q o w) (hb : Below w.heap.size w w1) : AtHit p t a s q o w1 :=
  fun W hW => h W (hb.trans (hW.mono hb.size))

set_option maxHeartbeats 1600000 in
set_option maxRecDepth 1000000 in
theorem at_nil (t a : Int) (s : ByteArray) (w : World) : AtNone (.pointer none) t a s w := by
  intro W _
  go_enter Tryd.func62, Tryd.ntmps62
  go_wp2_with fail
  go_region
  go_wp2_with fail
  go_ret
  exact ⟨rfl, ((Below.refl _ W).alloc (Nat.le_refl _) _).drew⟩

set_option maxHeartbeats 1600000 in
set_option maxRecDepth 1000000 in
theorem at_out {g : Nat} {w : World} {base n : Nat} {cells : List Value} {v : Value} {limit : Int} (H : HeapIs w base g n cells limit v) (t a : Int) (s : ByteArray) (ha : a < 0 ∨ (n : Int) ≤ a) :
    AtNone (.pointer (some ⟨g, 0, none⟩)) t a s w := by
  intro W hW
  have H' := H.below hW
  obtain ⟨ad, cap, rfl⟩ : ∃ ad cap, v = .slice ad n cap := by
    rcases H.own.2 with ⟨h1, h2⟩ | ⟨g', cap, _, h1, _⟩
    · exact ⟨none, 0, by rw [h1, h2]⟩
    · exact ⟨_, cap, h1⟩
  have hgl := H'.lt
  have k0 : W.cell? ⟨g, 0, none⟩ = some (.slice ad n cap) := by rw [cell_of_row W g 0 _ 46 (0,0) H'.blk]; rfl
  clear hW H H'
  go_enter Tryd.func62, Tryd.ntmps62
  by_cases h0 : a < 0
  · have d0 : decide (a < 0) = true := decide_eq_true h0
    go_wp2_with fail
    go_quiet (fail)
    go_wp2_with fail
    go_ret
    exact ⟨rfl, pw_below_drewN ((Below.refl _ W).alloc (Nat.le_refl _) _) _⟩
  · have h1 : (n : Int) ≤ a := by omega
    have d0 : decide (a < 0) = false := decide_eq_false h0
    have d1 : decide ((n : Int) ≤ a) = true := decide_eq_true h1
    clear ha
    go_wp2_with fail
    go_quiet (fail)
    go_wp2_with fail
    go_ret
    exact ⟨rfl, pw_below_drewN ((Below.refl _ W).alloc (Nat.le_refl _) _) _⟩

theorem HeapIs.cell {g : Nat} {w : World} {base n : Nat} {cells : List Value} {v : Value} {limit : Int} (H : HeapIs w base g n cells limit v) {a : Nat} (ha : a < n) :
    ∃ gv cap, v = .slice (some ⟨gv, 0, none⟩) n cap ∧ gv < w.heap.size ∧ gv ≠ g ∧ n ≤ cap ∧ (∀ j u, cells[a * 8 + j]? = some u → w.cell? ⟨gv, a * 8 + j, none⟩ = some u ∧ w.frozen? ⟨gv, a * 8 + j, none⟩ = false) := by
  rcases H.own.2 with ⟨h1, h2⟩ | ⟨g', cap, cur, h1, _, h2, h3, _⟩
  · omega
  · subst h1
    refine ⟨g', cap, rfl, blk_lt h2, fun e => H.ne (by rw [e]; rfl), h3, fun j u hj => ⟨?_, frozen_of_row w g' _ _ 49 h2⟩⟩
    have := H.own.cells (g := g') rfl _ _ hj
    rwa [show (⟨g', 0, none⟩ : Addr).add (a * 8 + j) = ⟨g', a * 8 + j, none⟩ by unfold Addr.add; split <;> simp_all] at this

set_option maxHeartbeats 1600000 in
set_option maxRecDepth 1000000 in
theorem at_tag {g : Nat} {w : World} {base n : Nat} {cells : List Value} {v : Value} {limit : Int} (H : HeapIs w base g n cells limit v) (t t' : Int) (a : Nat) (s : ByteArray) (ha : a < n)
    (hc : cells[a * 8]? = some (.int .u8 t')) (hne : (t' != t) = true) : AtNone (.pointer (some ⟨g, 0, none⟩)) t a s w := by
  intro W hW
  have H' := H.below hW
  obtain ⟨gv, cap, rfl, hgv, hgg, hcap, hcell⟩ := H'.cell ha
  have hgl := H'.lt
  have k0 : W.cell? ⟨g, 0, none⟩ = some (.slice (some ⟨gv, 0, none⟩) n cap) := by rw [cell_of_row W g 0 _ 46 (0,0) H'.blk]; rfl
  have k2 : W.cell? ⟨gv, a * 8, none⟩ = some (.int .u8 t') := by simpa using (hcell 0 _ hc).1
  have hfew : n ≤ 1048576 := H.few
  clear hW H H' hcell hc
  have h0 : ¬ (a : Int) < 0 := by omega
  have h1 : ¬ (n : Int) ≤ a := by omega
  have h2 : (a : Int).toNat = a := by omega
  have h1' : (a : Int) < n := by omega
  have d0 : decide ((a : Int) < 0) = false := decide_eq_false h0
  have d1 : decide ((n : Int) ≤ a) = false := decide_eq_false h1
  go_enter Tryd.func62, Tryd.ntmps62
  go_wp2_with fail
  go_quiet (fail)
  go_wp2_with fail
  go_ret
  exact ⟨rfl, pw_below_drewN ((Below.refl _ W).alloc (Nat.le_refl _) _) _⟩

set_option maxHeartbeats 1600000 in
set_option maxRecDepth 1000000 in
theorem at_hit {g : Nat} {w : World} {base n : Nat} {cells : List Value} {limit : Int} {gv cap : Nat} (H : HeapIs w base g n cells limit (.slice (some ⟨gv, 0, none⟩) n cap)) (t : Int) (a : Nat) (ha : a < n)
    (hc : cells[a * 8]? = some (.int .u8 t)) : AtHit (.pointer (some ⟨g, 0, none⟩)) t a ⟨#[]⟩ gv (a * 8) w := by
  intro W hW
  have H' := H.below hW
  obtain ⟨gv', cap', hv, hgv, hgg, hcap, hcell⟩ := H'.cell ha
  obtain ⟨rfl, rfl⟩ : gv' = gv ∧ cap' = cap := by simp at hv; exact ⟨hv.1.symm, hv.2.symm⟩
  have hgl := H'.lt
  have k0 : W.cell? ⟨g, 0, none⟩ = some (.slice (some ⟨gv', 0, none⟩) n cap') := by rw [cell_of_row W g 0 _ 46 (0,0) H'.blk]; rfl
  have k2 : W.cell? ⟨gv', a * 8, none⟩ = some (.int .u8 t) := by simpa using (hcell 0 _ hc).1
  have hfew : n ≤ 1048576 := H.few
  clear hW H H' hcell hc hv
  have h0 : ¬ (a : Int) < 0 := by omega
  have h1 : ¬ (n : Int) ≤ a := by omega
  have h2 : (a : Int).toNat = a := by omega
  have h1' : (a : Int) < n := by omega
  have d0 : decide ((a : Int) < 0) = false := decide_eq_false h0
  have d1 : decide ((n : Int) ≤ a) = false := decide_eq_false h1
  go_enter Tryd.func62, Tryd.ntmps62
  go_wp2_with fail
  go_quiet (fail)
  go_wp2_with fail
  go_quiet (fail)
  go_wp2_with fail
  go_ret
  exact ⟨rfl, pw_below_drewN (pw_below_drewN ((Below.refl _ W).alloc (Nat.le_refl _) _) _) _⟩

set_option maxHeartbeats 1600000 in
set_option maxRecDepth 1000000 in
theorem of_bad {p : Value} {t a tag : Int} {s : ByteArray} {w : World} (h : AtNone p t a s w) :
    Calls Tryd.prog 61 #[p, .agg #[.int .u8 t, .int .i64 a, .string s], .int .u8 tag] w fun e w' =>
      ∃ q, e = .returned (.tuple #[.pointer (some ⟨q, 0, none⟩), .int .i64 2]) ∧ Below w.heap.size w w' ∧ w.heap.size ≤ q ∧
        w'.heap[q]? = some (.cells #[.int .u8 0, .int .u8 0, .int .i64 0, .string ⟨#[]⟩, .int .u8 0, .int .i64 0, .string ⟨#[]⟩, .int .i64 0] 49 (0, 0)) := by
  have h1 := h _ ((Below.refl _ w).alloc (Nat.le_refl _) (.cells #[.int .u8 t, .int .i64 a, .string s] 24))
  clear h
  go_enter Tryd.func61, Tryd.ntmps61
  go_wp2_with fail
  refine Calls.mono h1 ?_
  rintro e w1 ⟨rfl, hb⟩
  have hb1 : Below w.heap.size w w1 := ((Below.refl _ w).alloc (Nat.le_refl _) _).trans (hb.mono (by simp))
  clear h1 hb
  go_wp2_with fail
  go_ret2
  exact ⟨_, rfl, hb1.alloc hb1.size _, hb1.size, blk_new w1 _⟩

set_option maxHeartbeats 1600000 in
set_option maxRecDepth 1000000 in
theorem of_hit {p : Value} {t a : Int} {s : ByteArray} {q o : Nat} {w : World} (h : AtHit p t a s q o w) (hc : w.cell? ⟨q, o, none⟩ = some (.int .u8 t)) :
    Calls Tryd.prog 61 #[p, .agg #[.int .u8 t, .int .i64 a, .string s], .int .u8 t] w fun e w' =>
      e = .returned (.tuple #[.pointer (some ⟨q, o, none⟩), .int .i64 0]) ∧ Below w.heap.size w w' := by
  have h1 := h _ ((Below.refl _ w).alloc (Nat.le_refl _) (.cells #[.int .u8 t, .int .i64 a, .string s] 24))
  have hq : q < w.heap.size := World.block_lt_of_cell? w ⟨q, o, none⟩ hc
  clear h
  go_enter Tryd.func61, Tryd.ntmps61
  go_wp2_with fail
  refine Calls.mono h1 ?_
  rintro e w1 ⟨rfl, hb⟩
  have hb1 : Below w.heap.size w w1 := ((Below.refl _ w).alloc (Nat.le_refl _) _).trans (hb.mono (by simp))
  have hc1 := (hb1.cell (p := ⟨q, o, none⟩) hq).trans hc
  clear h1 hb hc
  go_wp2_with fail
  go_ret2
  exact ⟨rfl, hb1⟩



theorem cells_of {W : World} {g t : Nat} {cs : Array Value} (h : W.heap[g]? = some (.cells cs t (0, 0))) (j : Nat) (u : Value) (hu : cs[j]? = some u) : W.cell? ⟨g, j, none⟩ = some u := by
  rw [cell_of_row W g j cs t (0, 0) h]; exact hu

set_option maxHeartbeats 1600000 in
set_option maxRecDepth 1000000 in
theorem Fst_bad {p : Value} {t a : Int} {s : ByteArray} {w : World} (h : AtNone p t a s w) :
    Calls Tryd.prog 58 #[p, .agg #[.int .u8 t, .int .i64 a, .string s]] w fun e w' => e = .returned (.tuple #[Z26, .int .i64 2]) ∧ Below w.heap.size w w' := by
  have h1 := of_bad (tag := 4) (h.later (((Below.refl _ w).alloc (Nat.le_refl _) (.cells #[.int .u8 t, .int .i64 a, .string s] 24)).alloc (by simp) (.cells #[.int .u8 0, .int .i64 0, .string ⟨#[]⟩] 24)))
  clear h
  go_enter Tryd.func58, Tryd.ntmps58
  go_wp2_with fail
  refine Calls.mono h1 ?_
  rintro e w1 ⟨q, rfl, hb, hq, hQ⟩
  have hR : w1.heap[w.heap.size + 1]? = some (.cells #[.int .u8 0, .int .i64 0, .string ⟨#[]⟩] 24 (0, 0)) := (hb.block _ (by simp)).trans (by simpa using blk_new (w.alloc _) _)
  have hb1 : Below w.heap.size w w1 := (((Below.refl _ w).alloc (Nat.le_refl _) _).alloc (by simp) _).trans (hb.mono (by simp; omega))
  have c0 := cells_of hR 0 _ rfl
  have c1 := cells_of hR 1 _ rfl
  have c2 := cells_of hR 2 _ rfl
  have f0 := frozen_of_row w1 _ 0 _ _ hR
  have f1 := frozen_of_row w1 _ 1 _ _ hR
  have f2 := frozen_of_row w1 _ 2 _ _ hR
  have q1 := cells_of hQ 1 _ rfl
  have q2 := cells_of hQ 2 _ rfl
  have q3 := cells_of hQ 3 _ rfl
  clear h1 hb hq hQ
  go_wp2_with fail
  refine bodyPost_ret (results_ct rfl _ _ (w.heap.size + 1) 24 #[.int .u8 0, .int .i64 0, .string ⟨#[]⟩] (0, 0) _ rfl (blk_put (blk_put (blk_put hR 0 _ rfl) 1 _ rfl) 2 _ rfl) Tryd.underlying24 rfl (by kernel_rfl)) rfl ?_
  exact ⟨rfl, ((hb1.setCell (by simp) _).setCell (by simp) _).setCell (by simp) _⟩

set_option maxHeartbeats 1600000 in
set_option maxRecDepth 1000000 in
theorem Fst_hit {p : Value} {a x1 x2 : Int} {s x3 : ByteArray} {q o : Nat} {w : World} (h : AtHit p 4 a s q o w) (hc : w.cell? ⟨q, o, none⟩ = some (.int .u8 4))
    (hc1 : w.cell? ⟨q, o + 1, none⟩ = some (.int .u8 x1)) (hc2 : w.cell? ⟨q, o + 2, none⟩ = some (.int .i64 x2)) (hc3 : w.cell? ⟨q, o + 3, none⟩ = some (.string x3)) :
    Calls Tryd.prog 58 #[p, .agg #[.int .u8 4, .int .i64 a, .string s]] w fun e w' => e = .returned (.tuple #[.agg #[.int .u8 x1, .int .i64 x2, .string x3], .int .i64 0]) ∧ Below w.heap.size w w' := by
  have hq : q < w.heap.size := World.block_lt_of_cell? w ⟨q, o, none⟩ hc
  have hbb := ((Below.refl _ w).alloc (Nat.le_refl _) (.cells #[.int .u8 4, .int .i64 a, .string s] 24)).alloc (by simp) (.cells #[.int .u8 0, .int .i64 0, .string ⟨#[]⟩] 24)
  have h1 := of_hit (h.later hbb) ((hbb.cell (p := ⟨q, o, none⟩) hq).trans hc)
  clear h
  go_enter Tryd.func58, Tryd.ntmps58
  go_wp2_with fail
  refine Calls.mono h1 ?_
  rintro e w1 ⟨rfl, hb⟩
  have hR : w1.heap[w.heap.size + 1]? = some (.cells #[.int .u8 0, .int .i64 0, .string ⟨#[]⟩] 24 (0, 0)) := (hb.block _ (by simp)).trans (by simpa using blk_new (w.alloc _) _)
  have hb1 : Below w.heap.size w w1 := hbb.trans (hb.mono (by simp; omega))
  have c0 := cells_of hR 0 _ rfl
  have c1 := cells_of hR 1 _ rfl
  have c2 := cells_of hR 2 _ rfl
  have f0 := frozen_of_row w1 _ 0 _ _ hR
  have f1 := frozen_of_row w1 _ 1 _ _ hR
  have f2 := frozen_of_row w1 _ 2 _ _ hR
  have q0 := (hb1.cell (p := ⟨q, o, none⟩) hq).trans hc
  have q1 := (hb1.cell (p := ⟨q, o + 1, none⟩) hq).trans hc1
  have q2 := (hb1.cell (p := ⟨q, o + 2, none⟩) hq).trans hc2
  have q3 := (hb1.cell (p := ⟨q, o + 3, none⟩) hq).trans hc3
  clear h1 hb hc hc1 hc2 hc3 hbb
  go_wp2_with fail
  refine bodyPost_ret (results_ct rfl _ _ (w.heap.size + 1) 24 #[.int .u8 x1, .int .i64 x2, .string x3] (0, 0) _ rfl (blk_put (blk_put (blk_put hR 0 _ rfl) 1 _ rfl) 2 _ rfl) Tryd.underlying24 rfl (by kernel_rfl)) rfl ?_
  exact ⟨rfl, ((hb1.setCell (by simp) _).setCell (by simp) _).setCell (by simp) _⟩

set_option maxHeartbeats 1600000 in
set_option maxRecDepth 1000000 in
theorem Snd_bad {p : Value} {t a : Int} {s : ByteArray} {w : World} (h : AtNone p t a s w) :
    Calls Tryd.prog 60 #[p, .agg #[.int .u8 t, .int .i64 a, .string s]] w fun e w' => e = .returned (.tuple #[Z26, .int .i64 2]) ∧ Below w.heap.size w w' := by
  have h1 := of_bad (tag := 4) (h.later (((Below.refl _ w).alloc (Nat.le_refl _) (.cells #[.int .u8 t, .int .i64 a, .string s] 24)).alloc (by simp) (.cells #[.int .u8 0, .int .i64 0, .string ⟨#[]⟩] 24)))
  clear h
  go_enter Tryd.func60, Tryd.ntmps60
  go_wp2_with fail
  refine Calls.mono h1 ?_
  rintro e w1 ⟨q, rfl, hb, hq, hQ⟩
  have hR : w1.heap[w.heap.size + 1]? = some (.cells #[.int .u8 0, .int .i64 0, .string ⟨#[]⟩] 24 (0, 0)) := (hb.block _ (by simp)).trans (by simpa using blk_new (w.alloc _) _)
  have hb1 : Below w.heap.size w w1 := (((Below.refl _ w).alloc (Nat.le_refl _) _).alloc (by simp) _).trans (hb.mono (by simp; omega))
  have c0 := cells_of hR 0 _ rfl
  have c1 := cells_of hR 1 _ rfl
  have c2 := cells_of hR 2 _ rfl
  have f0 := frozen_of_row w1 _ 0 _ _ hR
  have f1 := frozen_of_row w1 _ 1 _ _ hR
  have f2 := frozen_of_row w1 _ 2 _ _ hR
  have q1 := cells_of hQ 4 _ rfl
  have q2 := cells_of hQ 5 _ rfl
  have q3 := cells_of hQ 6 _ rfl
  clear h1 hb hq hQ
  go_wp2_with fail
  refine bodyPost_ret (results_ct rfl _ _ (w.heap.size + 1) 24 #[.int .u8 0, .int .i64 0, .string ⟨#[]⟩] (0, 0) _ rfl (blk_put (blk_put (blk_put hR 0 _ rfl) 1 _ rfl) 2 _ rfl) Tryd.underlying24 rfl (by kernel_rfl)) rfl ?_
  exact ⟨rfl, ((hb1.setCell (by simp) _).setCell (by simp) _).setCell (by simp) _⟩

set_option maxHeartbeats 1600000 in
set_option maxRecDepth 1000000 in
theorem Snd_hit {p : Value} {a x1 x2 : Int} {s x3 : ByteArray} {q o : Nat} {w : World} (h : AtHit p 4 a s q o w) (hc : w.cell? ⟨q, o, none⟩ = some (.int .u8 4))
    (hc1 : w.cell? ⟨q, o + 4, none⟩ = some (.int .u8 x1)) (hc2 : w.cell? ⟨q, o + 5, none⟩ = some (.int .i64 x2)) (hc3 : w.cell? ⟨q, o + 6, none⟩ = some (.string x3)) :
    Calls Tryd.prog 60 #[p, .agg #[.int .u8 4, .int .i64 a, .string s]] w fun e w' => e = .returned (.tuple #[.agg #[.int .u8 x1, .int .i64 x2, .string x3], .int .i64 0]) ∧ Below w.heap.size w w' := by
  have hq : q < w.heap.size := World.block_lt_of_cell? w ⟨q, o, none⟩ hc
  have hbb := ((Below.refl _ w).alloc (Nat.le_refl _) (.cells #[.int .u8 4, .int .i64 a, .string s] 24)).alloc (by simp) (.cells #[.int .u8 0, .int .i64 0, .string ⟨#[]⟩] 24)
  have h1 := of_hit (h.later hbb) ((hbb.cell (p := ⟨q, o, none⟩) hq).trans hc)
  clear h
  go_enter Tryd.func60, Tryd.ntmps60
  go_wp2_with fail
  refine Calls.mono h1 ?_
  rintro e w1 ⟨rfl, hb⟩
  have hR : w1.heap[w.heap.size + 1]? = some (.cells #[.int .u8 0, .int .i64 0, .string ⟨#[]⟩] 24 (0, 0)) := (hb.block _ (by simp)).trans (by simpa using blk_new (w.alloc _) _)
  have hb1 : Below w.heap.size w w1 := hbb.trans (hb.mono (by simp; omega))
  have c0 := cells_of hR 0 _ rfl
  have c1 := cells_of hR 1 _ rfl
  have c2 := cells_of hR 2 _ rfl
  have f0 := frozen_of_row w1 _ 0 _ _ hR
  have f1 := frozen_of_row w1 _ 1 _ _ hR
  have f2 := frozen_of_row w1 _ 2 _ _ hR
  have q0 := (hb1.cell (p := ⟨q, o, none⟩) hq).trans hc
  have q1 := (hb1.cell (p := ⟨q, o + 4, none⟩) hq).trans hc1
  have q2 := (hb1.cell (p := ⟨q, o + 5, none⟩) hq).trans hc2
  have q3 := (hb1.cell (p := ⟨q, o + 6, none⟩) hq).trans hc3
  clear h1 hb hc hc1 hc2 hc3 hbb
  go_wp2_with fail
  refine bodyPost_ret (results_ct rfl _ _ (w.heap.size + 1) 24 #[.int .u8 x1, .int .i64 x2, .string x3] (0, 0) _ rfl (blk_put (blk_put (blk_put hR 0 _ rfl) 1 _ rfl) 2 _ rfl) Tryd.underlying24 rfl (by kernel_rfl)) rfl ?_
  exact ⟨rfl, ((hb1.setCell (by simp) _).setCell (by simp) _).setCell (by simp) _⟩

end Go.Proofs.YtobchfcabedmhaaDoor.NW
