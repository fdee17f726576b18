/- The heap's one addition: where there is no room, and where there is: what it answers and what it leaves. -/
import Derived.Test.YtahcnpjgbhpbeaaProg
import Derived.Test.YtahcnpjgbhpbeaaWWords
import Derived.Deep.RegionLaw
import Derived.Handy
namespace Go.Proofs.Ytahcnpjgbhpbeaa.HP
open Go.RowKit Go.Proofs.YtahcnpjgbhpbeaaW.PrintWords
set_option linter.unusedVariables false
set_option linter.unusedSimpArgs false

theorem info26 : (Try.prog.info? 26).map (fun i => (i.zero, i.size, i.bytes)) = some (some (.agg #[(.int .u8 0), (.int .i64 0), (.string ⟨#[]⟩)]), 3, 32) := by kernel_rfl
theorem info68 : (Try.prog.info? 68).map (fun i => (i.zero, i.size, i.bytes)) = some (some (.agg #[.int .u8 0, .int .u8 0, .int .i64 0, .string ⟨#[]⟩, .int .u8 0, .int .i64 0, .string ⟨#[]⟩, .int .i64 0]), 8, 80) := by kernel_rfl

/-- what one call may turn: the block g and the row's own block -/
structure Fr (w w' : World) (g : Nat) (row : Option Nat) : Prop where
  os : w'.os = w.os
  tape : w'.tape = w.tape
  output : w'.output = w.output
  size : w.heap.size ≤ w'.heap.size
  block : ∀ k, k < w.heap.size → k ≠ g → some k ≠ row → w'.heap[k]? = w.heap[k]?


abbrev Z26 : Value := .agg #[.int .u8 0, .int .i64 0, .string ⟨#[]⟩]

theorem Fr.far {w W : World} {g : Nat} {row : Option Nat} (h : Fr w W g row) {p : Addr} (hp : w.heap.size ≤ p.block) (u : Value) : Fr w (W.setCell p u) g row :=
  ⟨h.os, h.tape, h.output, by simpa [World.setCell] using h.size, fun k hk h1 h2 => (Below.heap_setCell W p u k (by omega)).trans (h.block k hk h1 h2)⟩
theorem own_far {W : World} {base e size n : Nat} {v : Value} {xs : List Value} (h : W.ownsRow base e size v n xs) {g : Nat} (hg : v.ownBlock ≠ some g) (j : Nat) (u : Value) : (W.setCell ⟨g, j, none⟩ u).ownsRow base e size v n xs :=
  (KeepBut.set_ (KeepBut.refl W g none) j u).own h hg (by cases v.ownBlock <;> simp)
theorem Fr.drew {w W : World} {g : Nat} {row : Option Nat} (h : Fr w W g row) : Fr w W.drew g row := ⟨h.os, h.tape, h.output, h.size, h.block⟩
theorem own_drew {W : World} {base e size n : Nat} {v : Value} {xs : List Value} (h : W.ownsRow base e size v n xs) : W.drew.ownsRow base e size v n xs := h
theorem own_form {w : World} {base e n size : Nat} {v : Value} {xs : List Value} (h : w.ownsRow base e size v (n + 1) xs) : ∃ g c, v = .slice (some ⟨g, 0, none⟩) (n + 1) c := by
  rcases h.2 with ⟨_, h2⟩ | ⟨g', cap, _, h1, _⟩
  · omega
  · exact ⟨_, cap, h1⟩

set_option maxHeartbeats 1600000 in
set_option maxRecDepth 1000000 in
theorem add_full (g : Nat) (w : World) (n cap : Nat) (ad : Option Addr) (limit t ta na tb nb x : Int) (sa sb : ByteArray)
    (hg : w.heap[g]? = some (.cells #[.slice ad n cap, .int .i64 limit] 65 (0,0))) (hl : limit ≤ n) :
    Calls Try.prog 42 #[.pointer (some ⟨g, 0, none⟩), .agg #[.int .u8 t, .int .u8 ta, .int .i64 na, .string sa, .int .u8 tb, .int .i64 nb, .string sb, .int .i64 x]] w fun e w' =>
      e = .returned (.tuple #[Z26, .int .i64 17]) ∧ Below w.heap.size w w' := by
  have hgl : g < w.heap.size := blk_lt hg
  have k0 : w.cell? ⟨g, 0, none⟩ = some (.slice ad n cap) := by rw [cell_of_row w g 0 _ 65 (0,0) hg]; rfl
  have k1 : w.cell? ⟨g, 1, none⟩ = some (.int .i64 limit) := by rw [cell_of_row w g 1 _ 65 (0,0) hg]; rfl
  go_enter Try.func42, Try.ntmps42
  go_wp2
  go_region
  go_wp2
  refine bodyPost_ret (results_ct rfl _ _ (w.heap.size + 1) 26 #[.int .u8 0, .int .i64 0, .string ⟨#[]⟩] (0, 0) _ rfl ?_ Try.underlying26 rfl (by kernel_rfl)) rfl ?_
  · exact blk_drew (by simpa using blk_new (w.alloc _) _)
  · exact ⟨rfl, ((((Below.refl _ w).alloc (Nat.le_refl _) _).alloc (by simp) _).drew)⟩

set_option maxHeartbeats 1600000 in
set_option maxRecDepth 1000000 in
theorem add_room (g : Nat) (w : World) (base n : Nat) (cells : List Value) (v : Value) (limit t ta na tb nb x : Int) (sa sb : ByteArray)
    (hg : w.heap[g]? = some (.cells #[v, .int .i64 limit] 65 (0,0))) (hl : (n : Int) < limit) (hn : n ≤ 1048576) (HO : w.ownsRow base 68 8 v n cells) (hb : base ≤ w.heap.size) (hne : some g ≠ v.ownBlock) (ht : (Lit.int .u8 t).wf = true) :
    Calls Try.prog 42 #[.pointer (some ⟨g, 0, none⟩), .agg #[.int .u8 t, .int .u8 ta, .int .i64 na, .string sa, .int .u8 tb, .int .i64 nb, .string sb, .int .i64 x]] w fun e w' =>
      e = .returned (.tuple #[.agg #[.int .u8 t, .int .i64 n, .string ⟨#[]⟩], .int .i64 0]) ∧ Fr w w' g v.ownBlock ∧ ∃ v', w'.heap[g]? = some (.cells #[v', .int .i64 limit] 65 (0,0)) ∧
        w'.ownsRow base 68 8 v' (n + 1) (cells ++ [.int .u8 t, .int .u8 ta, .int .i64 na, .string sa, .int .u8 tb, .int .i64 nb, .string sb, .int .i64 x]) ∧ (v'.ownBlock = v.ownBlock ∨ ∃ k, v'.ownBlock = some k ∧ w.heap.size ≤ k) := by
  have hgl : g < w.heap.size := blk_lt hg
  have hgl1 : g < w.heap.size + 1 := by omega
  have hgl2 : g < w.heap.size + 1 + 1 := by omega
  have hgl3 : g ≠ w.heap.size + 1 + 1 := by omega
  have k0 : w.cell? ⟨g, 0, none⟩ = some v := by rw [cell_of_row w g 0 _ 65 (0,0) hg]; rfl
  have k1 : w.cell? ⟨g, 1, none⟩ = some (.int .i64 limit) := by rw [cell_of_row w g 1 _ 65 (0,0) hg]; rfl
  obtain ⟨ad, cap, rfl⟩ : ∃ ad cap, v = .slice ad n cap := by
    rcases HO.2 with ⟨h1, h2⟩ | ⟨g', cap, _, h1, _⟩
    · exact ⟨none, 0, by rw [h1, h2]⟩
    · exact ⟨_, cap, h1⟩
  go_enter Try.func42, Try.ntmps42
  go_wp2
  go_region
  go_wp2
  go_region_law (refine step_append_cells (w0 := w) (W := ((w.alloc (.cells #[.int .u8 t, .int .u8 ta, .int .i64 na, .string sa, .int .u8 tb, .int .i64 nb, .string sb, .int .i64 x] 68)).alloc (.cells #[.int .u8 0, .int .i64 0, .string ⟨#[]⟩] 26)).drew.drew) base (by simp [Region.wanted]) (.tmp 25) (.tmp 27) 63 68 _ 8 80 (by rfl) Try.underlying63 info68 (by rfl) (by decide) (by decide) (.slice ad n cap) n cells [.int .u8 t, .int .u8 ta, .int .i64 na, .string sa, .int .u8 tb, .int .i64 nb, .string sb, .int .i64 x] (by simp [Act.eval, Act.put]) (by simp [Act.eval, Act.put]) rfl (by simp [Value.oneCell']) (((HO.alloc _).alloc _)) (((((Below.refl _ w).alloc hb _).alloc (by simp; omega) _).drew).drew) (by simp; omega) (by omega) ?_; intro v1 w1 hown1 hb1 hg1 hat1; obtain ⟨g1, cap1, rfl⟩ := own_form hown1; have hB : w1.heap[g]? = some (.cells #[.slice ad n cap, .int .i64 limit] 65 (0,0)) := (hg1.block g (by simp; omega) hne).trans (blk_drew (blk_drew (blk_alloc (blk_alloc hg _) _))); have j0 : w1.cell? ⟨g, 0, none⟩ = some (.slice ad n cap) := (by rw [cell_of_row w1 g 0 _ 65 (0,0) hB]; rfl); have f0 : w1.frozen? ⟨g, 0, none⟩ = false := frozen_of_row w1 g 0 _ 65 hB)
  all_goals
    have q1 : some w.heap.size ≠ (Value.slice ad n cap).ownBlock := fun h => by have := (HO.lt _ h.symm).2; omega
    have q2 : some (w.heap.size + 1) ≠ (Value.slice ad n cap).ownBlock := fun h => by have := (HO.lt _ h.symm).2; omega
    have hT1 := (hg1.block w.heap.size (by simp; omega) q1).trans (blk_drew (blk_drew (blk_alloc (blk_new w (.cells #[.int .u8 t, .int .u8 ta, .int .i64 na, .string sa, .int .u8 tb, .int .i64 nb, .string sb, .int .i64 x] 68)) (.cells #[.int .u8 0, .int .i64 0, .string ⟨#[]⟩] 26))))
    have hR1 := (hg1.block (w.heap.size + 1) (by simp) q2).trans (blk_drew (blk_drew (by simpa using blk_new (w.alloc (.cells #[.int .u8 t, .int .u8 ta, .int .i64 na, .string sa, .int .u8 tb, .int .i64 nb, .string sb, .int .i64 x] 68)) (.cells #[.int .u8 0, .int .i64 0, .string ⟨#[]⟩] 26))))
    have hB2 := blk_put hB 0 (.slice (some ⟨g1, 0, none⟩) (n + 1) cap1) rfl
    have hT2 := (Below.heap_setCell w1 ⟨g, 0, none⟩ (.slice (some ⟨g1, 0, none⟩) (n + 1) cap1) w.heap.size (by simp; omega)).trans hT1
    have hR2 := (Below.heap_setCell w1 ⟨g, 0, none⟩ (.slice (some ⟨g1, 0, none⟩) (n + 1) cap1) (w.heap.size + 1) (by simp; omega)).trans hR1
    have hp1 : g1 ≠ g ∧ g1 ≠ w.heap.size + 1 := by
      rcases hat1 with h | ⟨b, h, hb'⟩
      · have := (HO.lt g1 (by rw [← h]; rfl)).2
        exact ⟨fun e => hne (by rw [← h, ← e]; rfl), by omega⟩
      · simp [Value.ownBlock] at h hb'
        omega
    have hF2 : Fr w (World.setCell w1 ⟨g, 0, none⟩ (.slice (some ⟨g1, 0, none⟩) (n + 1) cap1)) g (Value.slice ad n cap).ownBlock :=
      ⟨hg1.os, hg1.tape, hg1.output, by have := hg1.size; simp at this; simp [World.setCell]; omega, fun k hk h1 h2 => (Below.heap_setCell w1 _ _ k h1).trans ((hg1.block k (by simp; omega) h2).trans
        ((Below.heap_alloc _ _ k (by simp; omega)).trans (Below.heap_alloc _ _ k hk)))⟩
    have hO2 := own_far hown1 (g := g) (by simp [Value.ownBlock]; exact hp1.1) 0 (.slice (some ⟨g1, 0, none⟩) (n + 1) cap1)
    have hW2 : World.setCell w1 ⟨g, 0, none⟩ (.slice (some ⟨g1, 0, none⟩) (n + 1) cap1) = World.setCell w1 ⟨g, 0, none⟩ (.slice (some ⟨g1, 0, none⟩) (n + 1) cap1) := rfl
    generalize World.setCell w1 ⟨g, 0, none⟩ (.slice (some ⟨g1, 0, none⟩) (n + 1) cap1) = W2 at hB2 hT2 hR2 hF2 hO2 ⊢

    have c0 : W2.cell? ⟨g, 0, none⟩ = some (.slice (some ⟨g1, 0, none⟩) (n + 1) cap1) := by rw [cell_of_row W2 g 0 _ 65 (0,0) hB2]; rfl
    have ct : W2.cell? ⟨w.heap.size, 0, none⟩ = some (.int .u8 t) := by rw [cell_of_row W2 _ 0 _ 68 (0,0) hT2]; rfl
    have cr0 : W2.cell? ⟨w.heap.size + 1, 0, none⟩ = some (.int .u8 0) := by rw [cell_of_row W2 _ 0 _ 26 (0,0) hR2]; rfl
    have cr1 : W2.cell? ⟨w.heap.size + 1, 1, none⟩ = some (.int .i64 0) := by rw [cell_of_row W2 _ 1 _ 26 (0,0) hR2]; rfl
    have cr2 : W2.cell? ⟨w.heap.size + 1, 2, none⟩ = some (.string ⟨#[]⟩) := by rw [cell_of_row W2 _ 2 _ 26 (0,0) hR2]; rfl
    have fr0 := frozen_of_row W2 (w.heap.size + 1) 0 _ 26 hR2
    have fr1 := frozen_of_row W2 (w.heap.size + 1) 1 _ 26 hR2
    have fr2 := frozen_of_row W2 (w.heap.size + 1) 2 _ 26 hR2
    have hlim : (n : Int) ≤ 1048576 := by omega
    go_wp2
    go_region
    all_goals go_wp2
    refine bodyPost_ret (results_ct rfl _ _ (w.heap.size + 1) 26 #[.int .u8 t, .int .i64 n, .string ⟨#[]⟩] (0, 0) _ rfl ?_ Try.underlying26 rfl (by kernel_rfl)) rfl ?_
    · exact blk_drew (blk_put (blk_put (blk_put hR2 0 _ rfl) 1 _ rfl) 2 _ rfl)
    · refine ⟨rfl, Fr.drew (((hF2.far (Nat.le_succ _) _).far (Nat.le_succ _) _).far (Nat.le_succ _) _), _, blk_drew ?_, own_drew (own_far (own_far (own_far hO2 ?_ _ _) ?_ _ _) ?_ _ _), ?_⟩
      · have hne1 : g ≠ w.heap.size + 1 := by omega
        exact (Below.heap_setCell _ _ _ g hne1).trans ((Below.heap_setCell _ _ _ g hne1).trans ((Below.heap_setCell _ _ _ g hne1).trans hB2))
      · simp [Value.ownBlock]; exact hp1.2
      · simp [Value.ownBlock]; exact hp1.2
      · simp [Value.ownBlock]; exact hp1.2
      · rcases hat1 with h | ⟨b, h, hb'⟩
        · exact .inl h
        · exact .inr ⟨b, h, by simp at hb'; omega⟩

structure HeapIs (w : World) (base g n : Nat) (cells : List Value) (limit : Int) (v : Value) : Prop where
  blk : w.heap[g]? = some (.cells #[v, .int .i64 limit] 65 (0,0))
  own : w.ownsRow base 68 8 v n cells
  ne : some g ≠ v.ownBlock
  base_le : base ≤ w.heap.size
  few : n ≤ 1048576

theorem HeapIs.lt {w : World} {base g n : Nat} {cells : List Value} {limit : Int} {v : Value} (h : HeapIs w base g n cells limit v) : g < w.heap.size := blk_lt h.blk
theorem HeapIs.apart {w : World} {base g n : Nat} {cells : List Value} {limit : Int} {v : Value} (h : HeapIs w base g n cells limit v) {p : Nat} (hp : w.heap.size ≤ p) : p ≠ g ∧ some p ≠ v.ownBlock :=
  ⟨by have := h.lt; omega, fun e => by have := (h.own.lt p e.symm).2; omega⟩
theorem HeapIs.below {w w1 : World} {base g n : Nat} {cells : List Value} {limit : Int} {v : Value} (h : HeapIs w base g n cells limit v) (hb : Below w.heap.size w w1) : HeapIs w1 base g n cells limit v :=
  ⟨blk_below h.blk hb, h.own.kept (row := none) ⟨hb.os, hb.tape, hb.output, hb.size, fun k hk _ => hb.block k hk⟩ (by cases v.ownBlock <;> simp), h.ne, Nat.le_trans h.base_le hb.size, h.few⟩
theorem HeapIs.far {w : World} {base g n : Nat} {cells : List Value} {limit : Int} {v : Value} (h : HeapIs w base g n cells limit v) {p : Nat} (hp : p ≠ g) (hv : some p ≠ v.ownBlock) (j : Nat) (u : Value) : HeapIs (w.setCell ⟨p, j, none⟩ u) base g n cells limit v :=
  ⟨(Below.heap_setCell w _ u g (fun e => hp e.symm)).trans h.blk, own_far h.own (fun e => hv e.symm) j u, h.ne, by simpa [World.setCell] using h.base_le, h.few⟩

theorem Fr.of_below {w w1 : World} (h : Below w.heap.size w w1) (g : Nat) (row : Option Nat) : Fr w w1 g row := ⟨h.os, h.tape, h.output, h.size, fun k hk _ _ => h.block k hk⟩
theorem Fr.pre {w wc w1 : World} {g : Nat} {row : Option Nat} (hb : Below w.heap.size w wc) (h : Fr wc w1 g row) : Fr w w1 g row :=
  ⟨h.os.trans hb.os, h.tape.trans hb.tape, h.output.trans hb.output, Nat.le_trans hb.size h.size, fun k hk h1 h2 => (h.block k (Nat.lt_of_lt_of_le hk hb.size) h1 h2).trans (hb.block k hk)⟩

/-- what an addition leaves, whether or not there was room -/
def Adds (w w' : World) (base g n : Nat) (cells : List Value) (limit : Int) (v : Value) (t : Int) (new : List Value) (a b c : Int) : Prop :=
  Fr w w' g v.ownBlock ∧ ((limit ≤ n ∧ a = 0 ∧ b = 0 ∧ c = 17 ∧ HeapIs w' base g n cells limit v) ∨
    ((n : Int) < limit ∧ a = t ∧ b = n ∧ c = 0 ∧ ∃ v', HeapIs w' base g (n + 1) (cells ++ new) limit v' ∧ (v'.ownBlock = v.ownBlock ∨ ∃ k, v'.ownBlock = some k ∧ w.heap.size ≤ k)))

theorem add_any {g : Nat} {w : World} {base n : Nat} {cells : List Value} {v : Value} {limit : Int} (H : HeapIs w base g n cells limit v) (hl : limit ≤ 1048576) (t ta na tb nb x : Int) (sa sb : ByteArray) (ht : (Lit.int .u8 t).wf = true) :
    Calls Try.prog 42 #[.pointer (some ⟨g, 0, none⟩), .agg #[.int .u8 t, .int .u8 ta, .int .i64 na, .string sa, .int .u8 tb, .int .i64 nb, .string sb, .int .i64 x]] w fun e w' =>
      ∃ a b c, e = .returned (.tuple #[.agg #[.int .u8 a, .int .i64 b, .string ⟨#[]⟩], .int .i64 c]) ∧
        Adds w w' base g n cells limit v t [.int .u8 t, .int .u8 ta, .int .i64 na, .string sa, .int .u8 tb, .int .i64 nb, .string sb, .int .i64 x] a b c := by
  by_cases h : limit ≤ n
  · obtain ⟨ad, cap, rfl⟩ : ∃ ad cap, v = .slice ad n cap := by
      rcases H.own.2 with ⟨h1, h2⟩ | ⟨g', cap, _, h1, _⟩
      · exact ⟨none, 0, by rw [h1, h2]⟩
      · exact ⟨_, cap, h1⟩
    refine (add_full g w n cap ad limit t ta na tb nb x sa sb H.blk h).mono fun e w' ⟨he, hb⟩ => ?_
    exact ⟨0, 0, 17, he, Fr.of_below hb _ _, .inl ⟨h, rfl, rfl, rfl, H.below hb⟩⟩
  · refine (add_room g w base n cells v limit t ta na tb nb x sa sb H.blk (by omega) H.few H.own H.base_le H.ne ht).mono fun e w' ⟨he, hF, v', h1, h2, h3⟩ => ?_
    refine ⟨t, n, 0, he, hF, .inr ⟨by omega, rfl, rfl, rfl, v', ⟨h1, h2, ?_, Nat.le_trans H.base_le hF.size, by omega⟩, h3⟩⟩
    rcases h3 with h3 | ⟨k, h3, h4⟩
    · rw [h3]; exact H.ne
    · rw [h3]; intro e; have := H.lt; simp at e; omega

/-- the answer laid into the caller's own new block p -/
theorem Adds.out {w wc w' : World} {base g n : Nat} {cells : List Value} {limit : Int} {v : Value} {t : Int} {new : List Value} {a b c : Int} (H : HeapIs w base g n cells limit v) (hb : Below w.heap.size w wc)
    (h : Adds wc w' base g n cells limit v t new a b c) {p : Nat} (h1 : w.heap.size ≤ p) (h2 : p < wc.heap.size) (x y z : Value) :
    Adds w (((w'.setCell ⟨p, 0, none⟩ x).setCell ⟨p, 1, none⟩ y).setCell ⟨p, 2, none⟩ z) base g n cells limit v t new a b c := by
  obtain ⟨hp, hv⟩ := H.apart h1
  obtain ⟨hF, hh⟩ := h
  refine ⟨(((Fr.pre hb hF).far h1 _).far h1 _).far h1 _, ?_⟩
  rcases hh with ⟨e1, e2, e3, e4, e5⟩ | ⟨e1, e2, e3, e4, v', e5, e6⟩
  · exact .inl ⟨e1, e2, e3, e4, ((e5.far hp hv _ _).far hp hv _ _).far hp hv _ _⟩
  · have hv' : some p ≠ v'.ownBlock := by
      rcases e6 with e6 | ⟨k, e6, e7⟩
      · rw [e6]; exact hv
      · rw [e6]; intro e; simp at e; omega
    refine .inr ⟨e1, e2, e3, e4, v', ((e5.far hp hv' _ _).far hp hv' _ _).far hp hv' _ _, ?_⟩
    rcases e6 with e6 | ⟨k, e6, e7⟩
    · exact .inl e6
    · exact .inr ⟨k, e6, Nat.le_trans hb.size e7⟩
theorem Adds.drew {w w' : World} {base g n : Nat} {cells : List Value} {limit : Int} {v : Value} {t : Int} {new : List Value} {a b c : Int} (h : Adds w w' base g n cells limit v t new a b c) : Adds w w'.drew base g n cells limit v t new a b c := by
  obtain ⟨hF, hh⟩ := h
  refine ⟨hF.drew, ?_⟩
  rcases hh with ⟨e1, e2, e3, e4, e5⟩ | ⟨e1, e2, e3, e4, v', e5, e6⟩
  · exact .inl ⟨e1, e2, e3, e4, ⟨e5.blk, e5.own, e5.ne, e5.base_le, e5.few⟩⟩
  · exact .inr ⟨e1, e2, e3, e4, v', ⟨e5.blk, e5.own, e5.ne, e5.base_le, e5.few⟩, e6⟩
end Go.Proofs.Ytahcnpjgbhpbeaa.HP
