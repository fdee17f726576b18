/- A module that is right is right with a copy of one of its functions more, and with any texts and numbers more. -/
import Derived.Test.YtfncoldcjhkhiaaDoorGg
import Derived.Test.YtfncoldcjhkhiaaDoorTb
namespace Go.Proofs.YtfncoldcjhkhiaaDoor.NW
open Go.RowKit Go.Proofs.YtfncoldcjhkhiaaDoorW.PrintWords Go.Proofs.YtfncoldcjhkhiaaDoorW.PrintMore Go.Proofs.YtfncoldcjhkhiaaDoor.PC
set_option linter.unusedVariables false
set_option linter.unusedSimpArgs false
theorem bat {w x : World} {p : Addr} {v : Value} (h : Below w.heap.size w x) (e : w.cell? p = some v) : x.cell? p = some v := (h.cell (World.block_lt_of_cell? w _ e)).trans e
theorem sz2 (W : World) (o q : Obj) : ((W.alloc o).alloc q).drew.heap.size = W.heap.size + 1 + 1 := (World.size_alloc _ _).trans (by rw [World.size_alloc])
/-- an empty row, just made -/
theorem emp_N {α : Type} (d : Kd α) (e : Nat) (W : World) (base B : Nat) (hB : B = W.heap.size) (hb : base ≤ W.heap.size) (ok : Nat → Prop) (hok : ok W.heap.size) : Kd.N d e (W.alloc (.cells #[] e)) base ok (.slice (some ⟨B, 0, none⟩) 0 0) [] := by
  subst hB
  have h2 := World.ownsRow_lit (base := base) (e := e) (size := d.sz) W #[] 0 hb (by unfold maxLen; omega) (by simp)
  exact Kd.R_N ⟨fun k hk => by simp [Value.ownBlock] at hk; rw [← hk]; exact hok, [], h2, Reps.none _ _⟩
theorem k44_heap : Kd.Heap k44 := Kd.heap_iso _ (Kd.heap_pair (Kd.heap_int _) (Kd.heap_pair (Kd.heap_int _) (Kd.heap_pair (Kd.heap_int _) (Kd.heap_slice _ (Kd.heap_iso _ (Kd.heap_pair (Kd.heap_int _) (Kd.heap_int _)))))))
theorem k41_heap : Kd.Heap k41 := Kd.heap_iso _ (Kd.heap_pair (Kd.heap_slice _ (Kd.heap_int _)) (Kd.heap_pair Kd.heap_bool Kd.heap_bool))
/-- while a module grows: its box, the elder one's box -/
structure MoreIs (w W : World) (g : Nat) (mc kc : Array Value) : Prop where
  old : Below w.heap.size w W
  mb : W.heap[w.heap.size]? = some (.cells mc 30 (0, 0))
  kb : W.heap[g]? = some (.cells kc 30 (0, 0))
  gl : w.heap.size < g
theorem MoreIs.ne_new {w W : World} {g : Nat} {mc kc : Array Value} (h : MoreIs w W g mc kc) : W.heap.size ≠ g := by have := blk_lt h.kb; omega
theorem MoreIs.apart1 {w W : World} {g B : Nat} {mc kc : Array Value} (h : MoreIs w W g mc kc) (hB : B = W.heap.size) (k : Nat) (hk : k < w.heap.size) : k ≠ g ∧ some k ≠ (Value.slice (some ⟨B, 0, none⟩) 0 0).ownBlock := by
  have := h.gl
  have := h.old.size
  exact ⟨by omega, by simp [Value.ownBlock]; omega⟩
theorem MoreIs.far1 {w W : World} {g : Nat} {mc kc : Array Value} {o : Obj} (h : MoreIs w W g mc kc) (k : Nat) (hk : (W.alloc o).heap.size ≤ k) : k ≠ g := by have := blk_lt h.kb; rw [World.size_alloc] at hk; omega
theorem MoreIs.far2 {w W W1 : World} {g : Nat} {mc kc : Array Value} (h : MoreIs w W g mc kc) (hs : W.heap.size ≤ W1.heap.size) (k : Nat) (hk : W1.heap.size ≤ k) : k ≠ g := by have := blk_lt h.kb; omega
theorem MoreIs.mid {w W w1 : World} {g B : Nat} {mc kc : Array Value} {o : Obj} {v0 : Value} (h : MoreIs w W g mc kc) (hB : B = W.heap.size) (hv : v0.ownBlock = some B) (hg1 : (W.alloc o).grownBy w1 v0.ownBlock) : w1.heap[w.heap.size]? = some (.cells mc 30 (0, 0)) := by
  subst hB
  have hwl := blk_lt h.mb
  exact (hg1.block _ (by rw [World.size_alloc]; omega) (by rw [hv]; intro e; injection e with e; omega)).trans ((Below.heap_alloc W o _ hwl).trans h.mb)
theorem k32_heap : Kd.Heap k32 := Kd.heap_iso _ (Kd.heap_pair (Kd.heap_int _) (Kd.heap_int _))
/-- one field more: all that is elder stays, but the box -/
theorem MoreIs.phase {w W w1 w1' w2 : World} {g i B : Nat} {mc kc kc' : Array Value} {o : Obj} {v0 v1 u v : Value} (h : MoreIs w W g mc kc) (hB : B = W.heap.size) (hv : v0.ownBlock = some B) (hg1 : (W.alloc o).grownBy w1 v0.ownBlock) (hat1 : v1.ownBlock = v0.ownBlock ∨ ∃ b, v1.ownBlock = some b ∧ (W.alloc o).heap.size ≤ b)
    (hx : ∀ k, k < w1.heap.size → w1'.heap[k]? = w1.heap[k]?) (hxs : w1.heap.size ≤ w1'.heap.size) (hg2 : w1'.grownBy w2 v1.ownBlock) (hb2 : Below w.heap.size w w2) (hkc : kc[i]? = some u) (hkc' : kc.setIfInBounds i v = kc') :
    w2.cell? ⟨g, i, none⟩ = some u ∧ w2.frozen? ⟨g, i, none⟩ = false ∧ MoreIs w (w2.setCell ⟨g, i, none⟩ v) g mc kc' ∧ ∀ {α : Type} (d : Kd α) (A : Option Addr) (n : Nat) (xs : List α), Kd.F d W (fun k => k ≠ g) A n xs → Kd.F d (w2.setCell ⟨g, i, none⟩ v) (fun k => k ≠ g) A n xs := by
  subst hB
  have hs1 : W.heap.size + 1 ≤ w1.heap.size := by have := hg1.size; rwa [World.size_alloc] at this
  have hkeep : ∀ k, k < W.heap.size → w2.heap[k]? = W.heap[k]? := by
    intro k hk
    have e1 : w1.heap[k]? = W.heap[k]? := (hg1.block k (by rw [World.size_alloc]; omega) (by rw [hv]; intro e; injection e with e; omega)).trans (Below.heap_alloc W o k hk)
    have e2 : w2.heap[k]? = w1'.heap[k]? := hg2.block k (by omega) (by
      rcases hat1 with e | ⟨b, e, hb⟩
      · rw [e, hv]; intro e; injection e with e; omega
      · rw [e]; intro e; injection e with e; rw [World.size_alloc] at hb; omega)
    exact e2.trans ((hx k (by omega)).trans e1)
  have hgl := blk_lt h.kb
  have hwl := blk_lt h.mb
  have kb : w2.heap[g]? = some (.cells kc 30 (0, 0)) := (hkeep g hgl).trans h.kb
  have mb : w2.heap[w.heap.size]? = some (.cells mc 30 (0, 0)) := (hkeep _ hwl).trans h.mb
  have := h.gl
  refine ⟨(blk_cell kb i).trans hkc, blk_frozen kb i, ⟨hb2.setCell (p := ⟨g, i, none⟩) (by show w.heap.size ≤ g; omega) v, blk_far mb (p := ⟨g, i, none⟩) (by show w.heap.size ≠ g; omega) v, blk_put kb i v hkc', h.gl⟩, fun d A n xs hF => ?_⟩
  exact Kd.F_step (Kd.F_step hF (fun k _ hk => hkeep k hk)) (fun k hk _ => Below.heap_setCell w2 ⟨g, i, none⟩ v k hk)
theorem new_F {α : Type} {d : Kd α} {e base g i : Nat} {w2 : World} {v2 u : Value} {xs : List α} (h : Kd.N d e w2 base (fun k => k ≠ g) v2 xs) : ∃ A m c, v2 = .slice A m c ∧ m = xs.length ∧ m ≤ c ∧ Kd.F d (w2.setCell ⟨g, i, none⟩ u) (fun k => k ≠ g) A m xs := by
  obtain ⟨A, c, rfl⟩ := Kd.N_slice h
  obtain ⟨_, hle, _⟩ := Kd.N_reads' h
  exact ⟨A, _, c, rfl, rfl, hle, Kd.F_step (Kd.N_F h) (fun k hk _ => Below.heap_setCell w2 ⟨g, i, none⟩ u k hk)⟩
theorem nil_F {α : Type} (d : Kd α) (W : World) (ok : Nat → Prop) : Kd.F d W ok none ([] : List α).length [] := fun W' _ => Kd.C_nil d W'
section
variable {A0 : Option Addr} {c0 : Nat} {l0 : List Int} {A1 : Option Addr} {c1 : Nat} {l1 : List ByteArray} {A2 : Option Addr} {c2 : Nat} {l2 : List S44} {A3 : Option Addr} {c3 : Nat} {l3 : List S41}
variable {B0 B1 B2 B3 : Option Addr} {d0 d1 d2 d3 m0 m1 m2 m3 : Nat} {n : Int} {s : ByteArray} {q : S44}
theorem mod_F {W : World} {ok : Nat → Prop} (f0 : Kd.F (Kd.int .i64) W ok B0 m0 l0) (e0 : m0 = l0.length) (k0 : m0 ≤ d0) (f1 : Kd.F Kd.string W ok B1 m1 l1) (e1 : m1 = l1.length) (k1 : m1 ≤ d1) (f2 : Kd.F k44 W ok B2 m2 l2) (e2 : m2 = l2.length) (k2 : m2 ≤ d2) (h3 : l3.length ≤ c3) (f3 : Kd.C k41 W A3 l3.length l3) :
    ModIs W B0 d0 l0 B1 d1 l1 B2 d2 l2 A3 c3 l3 := by
  subst e0 e1 e2
  exact ⟨Kd.F_now f0, k0, Kd.F_now f1, k1, Kd.F_now f2, k2, f3, h3⟩
theorem more_check {W : World} (hk : ModIs W B0 d0 (l0 ++ [n]) B1 d1 (l1 ++ [s]) B2 d2 (l2 ++ [q]) A3 c3 l3) (e0 : m0 = (l0 ++ [n]).length) (e1 : m1 = (l1 ++ [s]).length) (e2 : m2 = (l2 ++ [q]).length)
    (h : Pure.FitM l0 l1 l2 l3) (hsz : ∀ t ∈ l1, t.size ≤ reachBytes) (hs : s.size ≤ 1000) (hq : q ∈ l2) (h0 : l0.length ≤ 300) (h1 : l1.length ≤ 300) (h2 : l2.length ≤ 300) (h3 : l3.length ≤ 300) (hc : (Pure.checkS l0 l1 l2 l3).2 = 0) (hM : MaxOk W) :
    Calls Tryd.prog 30 #[.agg #[.slice B0 m0 d0, .slice B1 m1 d1, .slice B2 m2 d2, .slice A3 l3.length c3]] W fun e w' => e = .returned (.tuple #[.int .i64 0, .int .i64 0]) ∧ Below W.heap.size W w' := by
  subst e0 e1 e2
  have hcc := Pure.Check_calls W (Pure.v_fit n s h hq h0 h1 h2 h3) (fun t ht => by
    rcases List.mem_append.1 ht with ht | ht
    · exact hsz t ht
    · rw [List.mem_singleton] at ht; subst ht; unfold reachBytes; omega) hM hk
  rw [Pure.v_check n s hc hq hs h0 h1 h2 h3] at hcc
  exact hcc
theorem more_depths {W : World} (hk : ModIs W B0 d0 (l0 ++ [n]) B1 d1 (l1 ++ [s]) B2 d2 (l2 ++ [q]) A3 c3 l3) (e0 : m0 = (l0 ++ [n]).length) (e1 : m1 = (l1 ++ [s]).length) (e2 : m2 = (l2 ++ [q]).length)
    (h : Pure.FitM l0 l1 l2 l3) (hsz : ∀ t ∈ l1, t.size ≤ reachBytes) (hs : s.size ≤ 1000) (hq : q ∈ l2) (h0 : l0.length ≤ 300) (h1 : l1.length ≤ 300) (h2 : l2.length ≤ 300) (h3 : l3.length ≤ 300) (hc : (Pure.checkS l0 l1 l2 l3).2 = 0) (hM : MaxOk W) :
    Calls Tryd.prog 32 #[.agg #[.slice B0 m0 d0, .slice B1 m1 d1, .slice B2 m2 d2, .slice A3 l3.length c3], .int .i64 (l2.length : Int)] W fun e w' => ∃ V d, e = .returned (.slice V q.f3.length d) ∧ Below W.heap.size W w' := by
  subst e0 e1 e2
  have hcc := Pure.Depths_calls W (Pure.v_fit n s h hq h0 h1 h2 h3) (fun t ht => by
    rcases List.mem_append.1 ht with ht | ht
    · exact hsz t ht
    · rw [List.mem_singleton] at ht; subst ht; unfold reachBytes; omega) hM hk (l2.length : Int)
  refine hcc.mono fun e w' ⟨v, he, hr, hb⟩ => ?_
  obtain ⟨V, d, ev⟩ := Kd.R_slice hr
  rw [Pure.v_depths n s hc hq hs h0 h1 h2 h3] at ev
  exact ⟨V, d, by rw [he, ev], hb⟩
theorem great28 (w : World) (hmd : ModIs w A0 c0 l0 A1 c1 l1 A2 c2 l2 A3 c3 l3) : ∃ b, Calls Tryd.prog 28 #[.agg #[.slice A0 l0.length c0, .slice A1 l1.length c1, .slice A2 l2.length c2, .slice A3 l3.length c3]] w (fun e w' => e = .returned (.bool b) ∧ Below w.heap.size w w') ∧ (b = false → Pure.greatS l0 l1 l2 l3 = false) := by
  obtain ⟨b, ⟨N, hN⟩, hg⟩ := Pure.great11 (l0 := l0) (l1 := l1) (l2 := l2) (l3 := l3)
  exact ⟨b, sacristanlaw11_great.calls N A0 c0 l0 A1 c1 l1 A2 c2 l2 A3 c3 l3 b w hmd.r0 hmd.h0 hmd.r1 hmd.h1 hmd.r2 hmd.h2 hmd.r3 hmd.h3 (hN N (Nat.le_refl _)), hg⟩
/-- behind the last field -/
theorem more_end {w W y : World} {g : Nat} {mc : Array Value} {k0 k1 k2 k3 u : Value} (h : MoreIs w W g mc #[k0, k1, k2, k3]) (hk : ∀ k, k < W.heap.size → y.heap[k]? = W.heap[k]?) (hb : Below w.heap.size w y) (hn : Kd.N k44 44 y w.heap.size (fun k => k ≠ g) u (l2 ++ [q]))
    (f0 : Kd.F (Kd.int .i64) W (fun k => k ≠ g) B0 m0 (l0 ++ [n])) (e0 : m0 = (l0 ++ [n]).length) (h0 : m0 ≤ d0) (f1 : Kd.F Kd.string W (fun k => k ≠ g) B1 m1 (l1 ++ [s])) (e1 : m1 = (l1 ++ [s]).length) (h1 : m1 ≤ d1) (h3 : l3.length ≤ c3) (r3 : Kd.C k41 w A3 l3.length l3) :
    y.cell? ⟨g, 2, none⟩ = some k2 ∧ y.frozen? ⟨g, 2, none⟩ = false ∧ ∃ A' m' c', u = .slice A' m' c' ∧ m' = (l2 ++ [q]).length ∧ MoreIs w (y.setCell ⟨g, 2, none⟩ (.slice A' m' c')) g mc #[k0, k1, .slice A' m' c', k3] ∧ ModIs (y.setCell ⟨g, 2, none⟩ (.slice A' m' c')) B0 d0 (l0 ++ [n]) B1 d1 (l1 ++ [s]) A' c' (l2 ++ [q]) A3 c3 l3 := by
  have hgl := blk_lt h.kb
  have hwl := blk_lt h.mb
  have kb : y.heap[g]? = some (.cells #[k0, k1, k2, k3] 30 (0, 0)) := (hk g hgl).trans h.kb
  have mb : y.heap[w.heap.size]? = some (.cells mc 30 (0, 0)) := (hk _ hwl).trans h.mb
  have := h.gl
  obtain ⟨A', m', c', rfl, hm, hle, hF⟩ := new_F (i := 2) (u := u) hn
  have hM : MoreIs w (y.setCell ⟨g, 2, none⟩ (.slice A' m' c')) g mc #[k0, k1, .slice A' m' c', k3] := ⟨hb.setCell (p := ⟨g, 2, none⟩) (by show w.heap.size ≤ g; omega) _, blk_far mb (p := ⟨g, 2, none⟩) (by show w.heap.size ≠ g; omega) _, blk_put kb 2 _ rfl, h.gl⟩
  have hFF : ∀ {α : Type} (d : Kd α) (A : Option Addr) (n : Nat) (xs : List α), Kd.F d W (fun k => k ≠ g) A n xs → Kd.F d (y.setCell ⟨g, 2, none⟩ (.slice A' m' c')) (fun k => k ≠ g) A n xs := fun d A n xs hF =>
    Kd.F_step (Kd.F_step hF (fun k _ hlt => hk k hlt)) (fun k hk _ => Below.heap_setCell y ⟨g, 2, none⟩ _ k hk)
  exact ⟨(blk_cell kb 2).trans rfl, blk_frozen kb 2, A', m', c', rfl, hm, hM, mod_F (hFF _ _ _ _ f0) e0 h0 (hFF _ _ _ _ f1) e1 h1 hF hm hle h3 (Kd.C_below r3 hM.old)⟩
theorem one_row18 {w : World} {B : Nat} {p : S44} {A : Option Addr} {m d : Nat} (hm : m = p.f3.length) (hb : w.heap[B]? = some (.cells #[.int .i64 p.f0, .int .i64 p.f1, .int .i64 p.f2, .slice A m d] 44 (0, 0))) (hl : p.f3.length ≤ d) (hC : Kd.C k32 w A p.f3.length p.f3) : Kd.C k44 w (some ⟨B, 0, none⟩) [p].length [p] := by
  subst hm
  refine ⟨rfl, by simp, fun _ => ⟨_, rfl, fun j q hj => ?_⟩⟩
  rcases j with _ | j
  · simp only [List.getElem?_cons_zero, Option.some.injEq] at hj
    subst hj
    refine ⟨_, rfl, k44_mk w p hl hC, fun i u hi => ?_⟩
    rw [add_plain, blk_cell hb]
    rw [show (0 * k44.sz + i) = i by omega, ← Array.getElem?_toList]
    exact hi
  · simp at hj
theorem lit_q {W : World} {b d : Nat} {B : Option Addr} {ok : Nat → Prop} (hL : W.heap[b]? = some (.cells #[.int .i64 q.f0, .int .i64 q.f1, .int .i64 q.f2, .slice B q.f3.length d] 44 (0, 0))) (hl : q.f3.length ≤ d) (hF : Kd.F k32 W ok B q.f3.length q.f3) (hok : ok b) : Kd.F k44 W ok (some ⟨b, 0, none⟩) 1 [q] :=
  fun W' hW => one_row18 rfl ((hW b hok (blk_lt hL)).trans hL) hl (hF W' hW)
theorem grown_elder {W w1 y : World} {o : Obj} {v0 v1 : Value} {b : Nat} (hv : v0.ownBlock = some b) (hb : W.heap.size ≤ b) (hg1 : (W.alloc o).drew.grownBy w1 v0.ownBlock) (hat1 : v1.ownBlock = v0.ownBlock ∨ ∃ b, v1.ownBlock = some b ∧ (W.alloc o).drew.heap.size ≤ b) {x : World} (hx : ∀ k, k < w1.heap.size → x.heap[k]? = w1.heap[k]?) (hxs : w1.heap.size ≤ x.heap.size) (hg2 : x.grownBy y v1.ownBlock) :
    ∀ k, k < W.heap.size → y.heap[k]? = W.heap[k]? := by
  intro k hk
  have hs1 : W.heap.size + 1 ≤ w1.heap.size := by have := hg1.size; show _; rw [show (W.alloc o).drew.heap.size = W.heap.size + 1 from World.size_alloc W o] at this; exact this
  have e1 : w1.heap[k]? = W.heap[k]? := (hg1.block k (by rw [show (W.alloc o).drew.heap.size = W.heap.size + 1 from World.size_alloc W o]; omega) (by rw [hv]; intro e; injection e with e; omega)).trans (Below.heap_alloc W o k hk)
  have e2 : y.heap[k]? = x.heap[k]? := hg2.block k (by omega) (by
    rcases hat1 with e | ⟨b', e, hb'⟩
    · rw [e, hv]; intro e; injection e with e; omega
    · rw [e]; intro e; injection e with e
      rw [show (W.alloc o).drew.heap.size = W.heap.size + 1 from World.size_alloc W o] at hb'; omega)
  exact e2.trans ((hx k (by omega)).trans e1)
theorem grown_elder2 {W w1 y x : World} {o o' : Obj} {v0 v1 : Value} {b : Nat} (hv : v0.ownBlock = some b) (hb : W.heap.size ≤ b) (hg1 : ((W.alloc o).alloc o').drew.grownBy w1 v0.ownBlock) (hat1 : v1.ownBlock = v0.ownBlock ∨ ∃ b, v1.ownBlock = some b ∧ ((W.alloc o).alloc o').drew.heap.size ≤ b) (hx : ∀ k, k < w1.heap.size → x.heap[k]? = w1.heap[k]?) (hxs : w1.heap.size ≤ x.heap.size) (hg2 : x.grownBy y v1.ownBlock) :
    ∀ k, k < W.heap.size → y.heap[k]? = W.heap[k]? := by
  intro k hk
  have hsz : ((W.alloc o).alloc o').drew.heap.size = W.heap.size + 1 + 1 := (World.size_alloc _ o').trans (by rw [World.size_alloc])
  have hs1 : W.heap.size + 1 + 1 ≤ w1.heap.size := by have := hg1.size; rw [hsz] at this; exact this
  have e1 : w1.heap[k]? = W.heap[k]? := (hg1.block k (by rw [hsz]; omega) (by rw [hv]; intro e; injection e with e; omega)).trans ((Below.heap_alloc (W.alloc o) o' k (by rw [World.size_alloc]; omega)).trans (Below.heap_alloc W o k hk))
  have e2 : y.heap[k]? = x.heap[k]? := hg2.block k (by omega) (by
    rcases hat1 with e | ⟨b', e, hb'⟩
    · rw [e, hv]; intro e; injection e with e; omega
    · rw [e]; intro e; injection e with e
      rw [hsz] at hb'; omega)
  exact e2.trans ((hx k (by omega)).trans e1)
theorem mid2 {w W w1 : World} {g b : Nat} {mc kc : Array Value} {o o' : Obj} {v0 : Value} (h : MoreIs w W g mc kc) (hv : v0.ownBlock = some b) (hb : W.heap.size ≤ b) (hg1 : ((W.alloc o).alloc o').drew.grownBy w1 v0.ownBlock) : w1.heap[w.heap.size]? = some (.cells mc 30 (0, 0)) := by
  have hwl := blk_lt h.mb
  have hsz : ((W.alloc o).alloc o').drew.heap.size = W.heap.size + 1 + 1 := (World.size_alloc _ o').trans (by rw [World.size_alloc])
  exact (hg1.block _ (by rw [hsz]; omega) (by rw [hv]; intro e; injection e with e; omega)).trans ((Below.heap_alloc (W.alloc o) o' _ (by rw [World.size_alloc]; omega)).trans ((Below.heap_alloc W o _ hwl).trans h.mb))
theorem mid3 {w W y : World} {g : Nat} {mc kc : Array Value} (h : MoreIs w W g mc kc) (hk : ∀ k, k < W.heap.size → y.heap[k]? = W.heap[k]?) : y.heap[w.heap.size]? = some (.cells mc 30 (0, 0)) := (hk _ (blk_lt h.mb)).trans h.mb
theorem rd_last (l : List S44) (x : S44) : rd_T44 (l ++ [x]) (l.length : Int) = x := by
  rw [rd_T44, Int.toNat_natCast, List.getD_eq_getElem?_getD, List.getElem?_append_right (Nat.le_refl _)]; simp
set_option maxHeartbeats 16000000 in
set_option maxRecDepth 1000000 in
theorem verifyMore_calls (i n : Int) (s : ByteArray) (w : World) (hi : 0 ≤ i ∧ i ≤ 255) (hmd : ModIs w A0 c0 l0 A1 c1 l1 A2 c2 l2 A3 c3 l3) (hM : MaxOk w) (h : Pure.FitM l0 l1 l2 l3) (hsz : ∀ t ∈ l1, t.size ≤ reachBytes) (hss : s.size ≤ 1000) (hc : (Pure.checkS l0 l1 l2 l3).2 = 0)
    (b_ : Bool) (hgc : Calls Tryd.prog 28 #[.agg #[.slice A0 l0.length c0, .slice A1 l1.length c1, .slice A2 l2.length c2, .slice A3 l3.length c3]] (w.alloc (.cells #[.slice A0 l0.length c0, .slice A1 l1.length c1, .slice A2 l2.length c2, .slice A3 l3.length c3] 30 (0, 0))) (fun e w' => e = .returned (.bool b_) ∧ Below (w.alloc (.cells #[.slice A0 l0.length c0, .slice A1 l1.length c1, .slice A2 l2.length c2, .slice A3 l3.length c3] 30 (0, 0))).heap.size (w.alloc (.cells #[.slice A0 l0.length c0, .slice A1 l1.length c1, .slice A2 l2.length c2, .slice A3 l3.length c3] 30 (0, 0))) w')) (hbb : b_ = false) (hgr : Pure.greatS l0 l1 l2 l3 = false) :
    Calls Tryd.prog 10 #[.agg #[.slice A0 l0.length c0, .slice A1 l1.length c1, .slice A2 l2.length c2, .slice A3 l3.length c3], .int .u8 i, .int .i64 n, .string s] w fun e w' => e = .returned (.bool true) ∧ Below w.heap.size w w' := by
  have hA := (Below.refl w.heap.size w).alloc (Nat.le_refl _) (.cells #[.slice A0 l0.length c0, .slice A1 l1.length c1, .slice A2 l2.length c2, .slice A3 l3.length c3] 30 (0, 0))
  have hG := blk_new w (.cells #[.slice A0 l0.length c0, .slice A1 l1.length c1, .slice A2 l2.length c2, .slice A3 l3.length c3] 30 (0, 0))
  have hlen : l0.length ≤ 300 ∧ l1.length ≤ 300 ∧ l2.length ≤ 300 ∧ l3.length ≤ 300 := by
    unfold Pure.greatS at hgr
    have := of_decide_eq_false hgr
    omega
  have HL0 := Aside0.mk hlen.1
  have HL1 := Aside0.mk hlen.2.1
  have HL2 := Aside0.mk hlen.2.2.1
  have HL3 := Aside0.mk hlen.2.2.2
  have hl2b := hlen.2.2.1
  have hmay := Pure.check_may hc
  have hne : l2 ≠ [] := (Pure.may_good hmay).2.2
  have hpos : 0 < l2.length := List.length_pos_iff.2 hne
  obtain ⟨j, hj⟩ : ∃ j : Nat, (j : Int) = i % (l2.length : Int) := ⟨(i % (l2.length : Int)).toNat, by have := Int.emod_nonneg i (b := (l2.length : Int)) (by omega); omega⟩
  have hjl : j < l2.length := by have := Int.emod_lt_of_pos i (b := (l2.length : Int)) (by omega); omega
  obtain ⟨ad, B, b, ea, p0, p1, p2, p3, hlb, hCB⟩ := at_T44 hmd.r2 (j : Int) (by omega) (by omega)
  rw [Int.toNat_natCast] at p0 p1 p2 p3
  have hqm := rd44_in (l := l2) (a := (j : Int)) (by omega) (by omega)
  generalize rd_T44 l2 (j : Int) = q at p0 p1 p2 p3 hlb hCB hqm
  subst ea
  have hj1 : i % (l2.length : Int) = (j : Int) := hj.symm
  have hj2 : Int.tmod i (l2.length : Int) = (j : Int) := by rw [Int.tmod_eq_emod_of_nonneg hi.1]; exact hj.symm
  have hj3 : (j : Int) < (l2.length : Int) := by omega
  have d0 : ((l2.length : Int) == 0) = false := beq_eq_false_iff_ne.2 (by omega)
  have d1 : decide ((1000 : Int) < (s.size : Int)) = false := decide_eq_false (by omega)
  have P0 := Aside0.mk p0
  have P1 := Aside0.mk p1
  have P2 := Aside0.mk p2
  have P3 := Aside0.mk p3
  have HLB := Aside0.mk hlb
  have HCB := Aside0.mk hCB
  have HQ := Aside0.mk hqm
  have HA := Aside0.mk hA
  have HG := Aside0.mk hG
  have HH := Aside0.mk h
  have HMX := Aside0.mk hM
  have HMD := Aside0.mk hmd
  have HSZ := Aside0.mk hsz
  have HS := Aside0.mk hss
  have HCK := Aside0.mk hc
  have HGC := Aside0.mk hgc
  have HBB := Aside0.mk hbb
  have hi0 := hi.1
  have hi1 := hi.2
  have g0 := (blk_cell hG 0).trans rfl
  have g1 := (blk_cell hG 1).trans rfl
  have g2 := (blk_cell hG 2).trans rfl
  have g3 := (blk_cell hG 3).trans rfl
  have hwi : IntKind.i64.wrap i = i := by rw [IntKind.wrap_i64]; omega
  clear hA hG hlen hmay hj p0 p1 p2 p3 hlb hCB hqm h hM hmd hsz hss hc hgc hbb hgr hi
  go_enter Tryd.func10, Tryd.ntmps10
  go_wp2_with (first
    | (go_at_call 28; go_loud (refine HGC.out.mono ?_); rintro e w1 ⟨rfl, hb1⟩; rw [HBB.out]; have HB1 := Aside0.mk (below_then HA.out HA.out.size hb1); have HG1 := Aside0.mk (blk_below HG.out hb1); have z0 := (blk_cell (HG1.out) 0).trans rfl; have z1 := (blk_cell (HG1.out) 1).trans rfl; have z2 := (blk_cell (HG1.out) 2).trans rfl; have z3 := (blk_cell (HG1.out) 3).trans rfl; clear hb1)
    | ((with_reducible refine gate_builtin (b := .append) (xs := #[.tmp 37, .tmp 39]) rfl ?_); at_builtin; go_loud (refine Kd.N_append_rows (Kd.int .i64) (w0 := w) w.heap.size rfl (.tmp 37) (.tmp 39) 26 2 (.int .i64 0) 8 rfl Tryd.underlying26 info2 rfl (by decide) (by omega) (.slice (some ⟨w2.heap.size + 1, 0, none⟩) 0 0) [] l0 A0 l0.length c0 (fun q => q ≠ w2.heap.size) (fun q => q < w.heap.size) rfl rfl ?aO ?aR ?aK ?aF ?aB ?aS ?aL ?_; (case aO => exact emp_N (Kd.int .i64) 2 _ _ _ (by simp [World.setCell]) HM0.out.old.size _ HM0.out.ne_new); (case aR => exact Kd.F_below (Kd.F_below (Kd.C_F (Kd.heap_int _) HMD.out.r0) HM0.out.old) (below_alloc (Below.refl _ _) _)); (case aK => exact HM0.out.apart1 (by simp [World.setCell])); (case aF => exact HM0.out.far1); (case aB => exact HM0.out.old.alloc HM0.out.old.size _); (case aS => exact (HM0.out.old.alloc HM0.out.old.size _).size); (case aL => have := HL0.out; simp only [List.length_nil, Nat.zero_add]; omega); intro v0 x0 hn hb hg hat; have HN0 := Aside0.mk hn; have HBx0 := Aside0.mk hb; have HGx0 := Aside0.mk hg; have HAx0 := Aside0.mk hat; clear hn hb hg hat))
    | ((with_reducible refine gate_builtin (b := .append) (xs := #[.tmp 40, .tmp 42]) rfl ?_); at_builtin; go_loud (refine Kd.N_append (Kd.int .i64) (w0 := w) (W := x0) w.heap.size rfl (.tmp 40) (.tmp 42) 26 2 (.int .i64 0) 8 rfl Tryd.underlying26 info2 rfl (by decide) (by omega) v0 ([] ++ l0) n [.int .i64 n] (fun q => q ≠ w2.heap.size) (fun _ => False) rfl ?aX ?aP ?aK ?aF ?aO ?aB ?aS ?aL ?_; (case aX => (first | exact rfl | (simp [Act.eval, World.size_alloc]))); (case aP => exact fun _ _ => rfl); (case aK => exact fun _ hk => hk.elim); (case aF => exact HM0.out.far2 (by have := HGx0.out.size; rw [World.size_alloc] at this; omega)); (case aO => exact HN0.out); (case aB => exact HBx0.out); (case aS => exact HBx0.out.size); (case aL => have := HL0.out; simp only [List.nil_append]; omega); intro u0 y0 hn hb hg hat); go_loud (obtain ⟨A'0, m'0, c'0, ev, hm, hle, hF⟩ := new_F (i := 0) (u := u0) hn; obtain ⟨z0, zf0, hM', hFF⟩ := HM0.out.phase (i := 0) (v0 := .slice (some ⟨w2.heap.size + 1, 0, none⟩) 0 0) (v1 := v0) (v := u0) (kc' := #[u0, .slice A1 l1.length c1, .slice (some ad) l2.length c2, .slice A3 l3.length c3]) (by simp [World.setCell]) rfl HGx0.out HAx0.out (fun _ _ => rfl) (Nat.le_refl _) hg hb rfl (by rw [ev]; rfl); subst ev; have HM1 := Aside0.mk hM'; have HF0 := Aside0.mk hF; have HFF0 := Aside0.mk (fun {α : Type} (d : Kd α) A n xs h => hFF d A n xs h); have HE0 := Aside0.mk hm; have HLE0 := Aside0.mk hle; have q0 : ((y0.setCell ⟨w2.heap.size, 0, none⟩ (.slice A'0 m'0 c'0)).alloc (.cells #[] 9 (0, 0))).cell? ⟨w.heap.size, 1, none⟩ = some (.slice A1 l1.length c1) := (blk_cell (blk_alloc hM'.mb _) 1).trans rfl; clear hn hb hg hat hm hle hF hFF hM'))
    | ((with_reducible refine gate_builtin (b := .append) (xs := #[.tmp 45, .tmp 47]) rfl ?_); at_builtin; go_loud (refine Kd.N_append_rows Kd.string (w0 := w) w.heap.size rfl (.tmp 45) (.tmp 47) 22 9 (.string ⟨#[]⟩) 16 rfl Tryd.underlying22 info9 rfl (by decide) (by omega) (.slice (some ⟨y0.heap.size, 0, none⟩) 0 0) [] l1 A1 l1.length c1 (fun q => q ≠ w2.heap.size) (fun q => q < w.heap.size) rfl rfl ?aO ?aR ?aK ?aF ?aB ?aS ?aL ?_; (case aO => exact emp_N Kd.string 9 _ _ _ (by simp [World.setCell]) HM1.out.old.size _ HM1.out.ne_new); (case aR => exact Kd.F_below (Kd.F_below (Kd.C_F Kd.heap_string HMD.out.r1) HM1.out.old) (below_alloc (Below.refl _ _) _)); (case aK => exact HM1.out.apart1 (by simp [World.setCell])); (case aF => exact HM1.out.far1); (case aB => exact HM1.out.old.alloc HM1.out.old.size _); (case aS => exact (HM1.out.old.alloc HM1.out.old.size _).size); (case aL => have := HL1.out; simp only [List.length_nil, Nat.zero_add]; omega); intro v1 x1 hn hb hg hat; have HN1 := Aside0.mk hn; have HBx1 := Aside0.mk hb; have HGx1 := Aside0.mk hg; have HAx1 := Aside0.mk hat; clear hn hb hg hat))
    | ((with_reducible refine gate_builtin (b := .append) (xs := #[.tmp 48, .tmp 50]) rfl ?_); at_builtin; go_loud (refine Kd.N_append Kd.string (w0 := w) (W := x1) w.heap.size rfl (.tmp 48) (.tmp 50) 22 9 (.string ⟨#[]⟩) 16 rfl Tryd.underlying22 info9 rfl (by decide) (by omega) v1 ([] ++ l1) s [.string s] (fun q => q ≠ w2.heap.size) (fun _ => False) rfl ?aX ?aP ?aK ?aF ?aO ?aB ?aS ?aL ?_; (case aX => (first | exact rfl | (simp [Act.eval, World.size_alloc]))); (case aP => exact fun _ _ => rfl); (case aK => exact fun _ hk => hk.elim); (case aF => exact HM1.out.far2 (by have := HGx1.out.size; rw [World.size_alloc] at this; omega)); (case aO => exact HN1.out); (case aB => exact HBx1.out); (case aS => exact HBx1.out.size); (case aL => have := HL1.out; simp only [List.nil_append]; omega); intro u1 y1 hn hb hg hat); go_loud (obtain ⟨A'1, m'1, c'1, ev, hm, hle, hF⟩ := new_F (i := 1) (u := u1) hn; obtain ⟨z1, zf1, hM', hFF⟩ := HM1.out.phase (i := 1) (v0 := .slice (some ⟨y0.heap.size, 0, none⟩) 0 0) (v1 := v1) (v := u1) (kc' := #[.slice A'0 m'0 c'0, u1, .slice (some ad) l2.length c2, .slice A3 l3.length c3]) (by simp [World.setCell]) rfl HGx1.out HAx1.out (fun _ _ => rfl) (Nat.le_refl _) hg hb rfl (by rw [ev]; rfl); subst ev; have HM2 := Aside0.mk hM'; have HF1 := Aside0.mk hF; have HFF1 := Aside0.mk (fun {α : Type} (d : Kd α) A n xs h => hFF d A n xs h); have HE1 := Aside0.mk hm; have HLE1 := Aside0.mk hle; have q1 : ((y1.setCell ⟨w2.heap.size, 1, none⟩ (.slice A'1 m'1 c'1)).alloc (.cells #[] 44 (0, 0))).cell? ⟨w.heap.size, 2, none⟩ = some (.slice (some ad) l2.length c2) := (blk_cell (blk_alloc hM'.mb _) 2).trans rfl; clear hn hb hg hat hm hle hF hFF hM'))
    | (go_at_call 30; go_loud (refine (Pure.Check_calls _ HH.out HSZ.out (HMX.out.below HB1.out) (HMD.out.below HB1.out)).mono ?_); rintro e w2 ⟨rfl, hb2⟩; rw [HCK.out]; have HB2 := Aside0.mk (below_then HB1.out HB1.out.size hb2); have HG2 := Aside0.mk (blk_below HG1.out hb2); have yy0 := (blk_cell (HG2.out) 0).trans rfl; have yy1 := (blk_cell (HG2.out) 1).trans rfl; have yy2 := (blk_cell (HG2.out) 2).trans rfl; have yy3 := (blk_cell (HG2.out) 3).trans rfl; have hgl := blk_lt HG2.out; have HM0 := Aside0.mk (show MoreIs w (w2.alloc (.cells #[.slice A0 l0.length c0, .slice A1 l1.length c1, .slice (some ad) l2.length c2, .slice A3 l3.length c3] 30 (0, 0))) w2.heap.size #[.slice A0 l0.length c0, .slice A1 l1.length c1, .slice (some ad) l2.length c2, .slice A3 l3.length c3] #[.slice A0 l0.length c0, .slice A1 l1.length c1, .slice (some ad) l2.length c2, .slice A3 l3.length c3] from ⟨below_alloc HB2.out _, blk_alloc HG2.out _, blk_new w2 _, hgl⟩); have qq : ((w2.alloc (.cells #[.slice A0 l0.length c0, .slice A1 l1.length c1, .slice (some ad) l2.length c2, .slice A3 l3.length c3] 30 (0, 0))).alloc (.cells #[] 2 (0, 0))).cell? ⟨w.heap.size, 0, none⟩ = some (.slice A0 l0.length c0) := (blk_cell (blk_alloc HM0.out.mb _) 0).trans rfl; clear hb2 hgl))
  obtain ⟨W, hW⟩ : ∃ W, y1.setCell ⟨w2.heap.size, 1, none⟩ (.slice A'1 m'1 c'1) = W := ⟨_, rfl⟩
  rw [hW] at HM2 HF1 HFF1 ⊢
  have F0 := Aside0.mk (HFF1.out _ _ _ _ HF0.out)
  have HOW := Aside0.mk HM2.out.old
  have mx : W.cell? ⟨w.heap.size, 2, none⟩ = some (.slice (some ad) l2.length c2) := (blk_cell HM2.out.mb 2).trans rfl
  have e0 := bat HOW.out P0.out
  have e1 := bat HOW.out P1.out
  have e2 := bat HOW.out P2.out
  have e3 := bat HOW.out P3.out
  have hb1 := Aside0.mk (below_alloc (Below.refl W.heap.size W) (.cells #[] 44 (0, 0)))
  have mx1 := bat hb1.out mx
  have e01 := bat hb1.out e0
  have e11 := bat hb1.out e1
  have e21 := bat hb1.out e2
  have e31 := bat hb1.out e3
  have hb2 := Aside0.mk (below_alloc hb1.out (.cells #[.int .i64 q.f0, .int .i64 q.f1, .int .i64 q.f2, .slice B q.f3.length b] 44 (0, 0)))
  have mx11 := bat hb2.out mx
  have hb3 := Aside0.mk (below_alloc (Below.refl W.heap.size W) (.cells #[.int .i64 q.f0, .int .i64 q.f1, .int .i64 q.f2, .slice B q.f3.length b] 44 (0, 0)))
  have mxc1 := bat hb3.out mx
  have hb4 := Aside0.mk (below_alloc hb3.out (.cells #[] 44 (0, 0)))
  have mxc2 := bat hb4.out mx
  clear hW HGx0 HGx1 HAx0 HAx1 HBx0 HBx1 HN0 HN1 HM0 HM1 HF0 HFF0 HG1 HG2 HB1 HB2 g0 g1 g2 g3 qq
  clear yy0 yy1 yy2 yy3
  have S0 : W.cell? ⟨w.heap.size, 2, none⟩ = some (.slice (some ad) l2.length c2) ∧ W.cell? (ad.add (j * 4)) = some (.int .i64 q.f0) ∧ W.cell? ⟨(ad.add (j * 4)).block, (ad.add (j * 4)).off + 1, none⟩ = some (.int .i64 q.f1) ∧ W.cell? ⟨(ad.add (j * 4)).block, (ad.add (j * 4)).off + 2, none⟩ = some (.int .i64 q.f2) ∧ W.cell? ⟨(ad.add (j * 4)).block, (ad.add (j * 4)).off + 3, none⟩ = some (.slice B q.f3.length b) := (by exact ⟨mx, e0, e1, e2, e3⟩)
  have S1 : (W.alloc (.cells #[] 44 (0, 0))).cell? ⟨w.heap.size, 2, none⟩ = some (.slice (some ad) l2.length c2) ∧ (W.alloc (.cells #[] 44 (0, 0))).cell? (ad.add (j * 4)) = some (.int .i64 q.f0) ∧ (W.alloc (.cells #[] 44 (0, 0))).cell? ⟨(ad.add (j * 4)).block, (ad.add (j * 4)).off + 1, none⟩ = some (.int .i64 q.f1) ∧ (W.alloc (.cells #[] 44 (0, 0))).cell? ⟨(ad.add (j * 4)).block, (ad.add (j * 4)).off + 2, none⟩ = some (.int .i64 q.f2) ∧ (W.alloc (.cells #[] 44 (0, 0))).cell? ⟨(ad.add (j * 4)).block, (ad.add (j * 4)).off + 3, none⟩ = some (.slice B q.f3.length b) := (by exact ⟨mx1, e01, e11, e21, e31⟩)
  have S11 : ((W.alloc (.cells #[] 44 (0, 0))).alloc (.cells #[.int .i64 q.f0, .int .i64 q.f1, .int .i64 q.f2, .slice B q.f3.length b] 44 (0, 0))).cell? ⟨w.heap.size, 2, none⟩ = some (.slice (some ad) l2.length c2) ∧ ((W.alloc (.cells #[] 44 (0, 0))).alloc (.cells #[.int .i64 q.f0, .int .i64 q.f1, .int .i64 q.f2, .slice B q.f3.length b] 44 (0, 0))).cell? (ad.add (j * 4)) = some (.int .i64 q.f0) ∧ ((W.alloc (.cells #[] 44 (0, 0))).alloc (.cells #[.int .i64 q.f0, .int .i64 q.f1, .int .i64 q.f2, .slice B q.f3.length b] 44 (0, 0))).cell? ⟨(ad.add (j * 4)).block, (ad.add (j * 4)).off + 1, none⟩ = some (.int .i64 q.f1) ∧ ((W.alloc (.cells #[] 44 (0, 0))).alloc (.cells #[.int .i64 q.f0, .int .i64 q.f1, .int .i64 q.f2, .slice B q.f3.length b] 44 (0, 0))).cell? ⟨(ad.add (j * 4)).block, (ad.add (j * 4)).off + 2, none⟩ = some (.int .i64 q.f2) ∧ ((W.alloc (.cells #[] 44 (0, 0))).alloc (.cells #[.int .i64 q.f0, .int .i64 q.f1, .int .i64 q.f2, .slice B q.f3.length b] 44 (0, 0))).cell? ⟨(ad.add (j * 4)).block, (ad.add (j * 4)).off + 3, none⟩ = some (.slice B q.f3.length b) := (by exact ⟨mx11, bat hb2.out e0, bat hb2.out e1, bat hb2.out e2, bat hb2.out e3⟩)
  have Sc1 : (W.alloc (.cells #[.int .i64 q.f0, .int .i64 q.f1, .int .i64 q.f2, .slice B q.f3.length b] 44 (0, 0))).cell? ⟨w.heap.size, 2, none⟩ = some (.slice (some ad) l2.length c2) ∧ (W.alloc (.cells #[.int .i64 q.f0, .int .i64 q.f1, .int .i64 q.f2, .slice B q.f3.length b] 44 (0, 0))).cell? (ad.add (j * 4)) = some (.int .i64 q.f0) ∧ (W.alloc (.cells #[.int .i64 q.f0, .int .i64 q.f1, .int .i64 q.f2, .slice B q.f3.length b] 44 (0, 0))).cell? ⟨(ad.add (j * 4)).block, (ad.add (j * 4)).off + 1, none⟩ = some (.int .i64 q.f1) ∧ (W.alloc (.cells #[.int .i64 q.f0, .int .i64 q.f1, .int .i64 q.f2, .slice B q.f3.length b] 44 (0, 0))).cell? ⟨(ad.add (j * 4)).block, (ad.add (j * 4)).off + 2, none⟩ = some (.int .i64 q.f2) ∧ (W.alloc (.cells #[.int .i64 q.f0, .int .i64 q.f1, .int .i64 q.f2, .slice B q.f3.length b] 44 (0, 0))).cell? ⟨(ad.add (j * 4)).block, (ad.add (j * 4)).off + 3, none⟩ = some (.slice B q.f3.length b) := (by exact ⟨mxc1, bat hb3.out e0, bat hb3.out e1, bat hb3.out e2, bat hb3.out e3⟩)
  have Sc2 : ((W.alloc (.cells #[.int .i64 q.f0, .int .i64 q.f1, .int .i64 q.f2, .slice B q.f3.length b] 44 (0, 0))).alloc (.cells #[] 44 (0, 0))).cell? ⟨w.heap.size, 2, none⟩ = some (.slice (some ad) l2.length c2) ∧ ((W.alloc (.cells #[.int .i64 q.f0, .int .i64 q.f1, .int .i64 q.f2, .slice B q.f3.length b] 44 (0, 0))).alloc (.cells #[] 44 (0, 0))).cell? (ad.add (j * 4)) = some (.int .i64 q.f0) ∧ ((W.alloc (.cells #[.int .i64 q.f0, .int .i64 q.f1, .int .i64 q.f2, .slice B q.f3.length b] 44 (0, 0))).alloc (.cells #[] 44 (0, 0))).cell? ⟨(ad.add (j * 4)).block, (ad.add (j * 4)).off + 1, none⟩ = some (.int .i64 q.f1) ∧ ((W.alloc (.cells #[.int .i64 q.f0, .int .i64 q.f1, .int .i64 q.f2, .slice B q.f3.length b] 44 (0, 0))).alloc (.cells #[] 44 (0, 0))).cell? ⟨(ad.add (j * 4)).block, (ad.add (j * 4)).off + 2, none⟩ = some (.int .i64 q.f2) ∧ ((W.alloc (.cells #[.int .i64 q.f0, .int .i64 q.f1, .int .i64 q.f2, .slice B q.f3.length b] 44 (0, 0))).alloc (.cells #[] 44 (0, 0))).cell? ⟨(ad.add (j * 4)).block, (ad.add (j * 4)).off + 3, none⟩ = some (.slice B q.f3.length b) := (by exact ⟨mxc2, bat hb4.out e0, bat hb4.out e1, bat hb4.out e2, bat hb4.out e3⟩)
  clear mx mx1 mx11 mxc1 mxc2 e0 e1 e2 e3 e01 e11 e21 e31
  go_cut [11] (fun s11 wx => ∃ (A' : Option Addr) (m' c' : Nat), s11 = .pointer (some ⟨w2.heap.size, 0, none⟩) ∧ Aside0 (MoreIs w wx w2.heap.size #[.slice A0 l0.length c0, .slice A1 l1.length c1, .slice (some ad) l2.length c2, .slice A3 l3.length c3] #[.slice A'0 m'0 c'0, .slice A'1 m'1 c'1, .slice A' m' c', .slice A3 l3.length c3]) ∧ Aside0 (m' = (l2 ++ [q]).length) ∧ Aside0 (ModIs wx A'0 c'0 (l0 ++ [n]) A'1 c'1 (l1 ++ [s]) A' c' (l2 ++ [q]) A3 c3 l3))
  case first =>
    go_region_held3 (fun W' => W'.cell? ⟨w.heap.size, 2, none⟩ = some (.slice (some ad) l2.length c2) ∧ W'.cell? (ad.add (j * 4)) = some (.int .i64 q.f0) ∧ W'.cell? ⟨(ad.add (j * 4)).block, (ad.add (j * 4)).off + 1, none⟩ = some (.int .i64 q.f1) ∧ W'.cell? ⟨(ad.add (j * 4)).block, (ad.add (j * 4)).off + 2, none⟩ = some (.int .i64 q.f2) ∧ W'.cell? ⟨(ad.add (j * 4)).block, (ad.add (j * 4)).off + 3, none⟩ = some (.slice B q.f3.length b)) (first | exact S0 | exact S1 | exact S11 | exact Sc1 | exact Sc2 | exact S3 | exact S3b | exact S4 | exact S5 | fail)
      (first
        | (refine Kd.N_append_rows_step k44 (w0 := w) (W := (W.alloc (.cells #[] 44 (0, 0))).drew) w.heap.size (by simp [Region.wanted]) (.tmp 53) (.tmp 55) 27 44 (.agg #[(.int .i64 0), (.int .i64 0), (.int .i64 0), (.slice none 0 0)]) 48 rfl Tryd.underlying27 info44 rfl (by decide) (by omega) (.slice (some ⟨W.heap.size, 0, none⟩) 0 0) [] l2 (some ad) l2.length c2 (fun k => k ≠ w2.heap.size) (fun k => k < w.heap.size) (by simp [Act.eval, Act.put]) (by simp [Act.eval, Act.put]) ?aO ?aR ?aK ?aF ?aB ?aS ?aL ?_; (case aO => exact Kd.N_drew (emp_N k44 44 _ _ _ rfl HM2.out.old.size _ HM2.out.ne_new)); (case aR => exact Kd.F_drew (Kd.F_below (Kd.F_below (Kd.C_F k44_heap HMD.out.r2) HM2.out.old) (below_alloc (Below.refl _ _) _))); (case aK => exact HM2.out.apart1 rfl); (case aF => exact HM2.out.far1); (case aB => exact (HM2.out.old.alloc HM2.out.old.size _).drew); (case aS => exact (HM2.out.old.alloc HM2.out.old.size _).drew.size); (case aL => have := HL2.out; simp only [List.length_nil, Nat.zero_add]; omega); intro v3 x3 hn hb hg hat; have HN3 := Aside0.mk hn; have HB3 := Aside0.mk hb; have HG3 := Aside0.mk hg; have HA3 := Aside0.mk hat; have S3 : x3.cell? ⟨w.heap.size, 2, none⟩ = some (.slice (some ad) l2.length c2) ∧ x3.cell? (ad.add (j * 4)) = some (.int .i64 q.f0) ∧ x3.cell? ⟨(ad.add (j * 4)).block, (ad.add (j * 4)).off + 1, none⟩ = some (.int .i64 q.f1) ∧ x3.cell? ⟨(ad.add (j * 4)).block, (ad.add (j * 4)).off + 2, none⟩ = some (.int .i64 q.f2) ∧ x3.cell? ⟨(ad.add (j * 4)).block, (ad.add (j * 4)).off + 3, none⟩ = some (.slice B q.f3.length b) := (by exact ⟨(blk_cell (HM2.out.mid (o := .cells #[] 44 (0, 0)) (v0 := .slice (some ⟨W.heap.size, 0, none⟩) 0 0) rfl rfl ⟨hg.os, hg.tape, hg.output, hg.size, hg.block⟩) 2).trans rfl, bat hb P0.out, bat hb P1.out, bat hb P2.out, bat hb P3.out⟩); have hB3 := below_alloc (Below.refl x3.heap.size x3) (.cells #[.int .i64 q.f0, .int .i64 q.f1, .int .i64 q.f2, .slice B q.f3.length b] 44 (0, 0)); have S3b : (x3.alloc (.cells #[.int .i64 q.f0, .int .i64 q.f1, .int .i64 q.f2, .slice B q.f3.length b] 44 (0, 0))).cell? ⟨w.heap.size, 2, none⟩ = some (.slice (some ad) l2.length c2) ∧ (x3.alloc (.cells #[.int .i64 q.f0, .int .i64 q.f1, .int .i64 q.f2, .slice B q.f3.length b] 44 (0, 0))).cell? (ad.add (j * 4)) = some (.int .i64 q.f0) ∧ (x3.alloc (.cells #[.int .i64 q.f0, .int .i64 q.f1, .int .i64 q.f2, .slice B q.f3.length b] 44 (0, 0))).cell? ⟨(ad.add (j * 4)).block, (ad.add (j * 4)).off + 1, none⟩ = some (.int .i64 q.f1) ∧ (x3.alloc (.cells #[.int .i64 q.f0, .int .i64 q.f1, .int .i64 q.f2, .slice B q.f3.length b] 44 (0, 0))).cell? ⟨(ad.add (j * 4)).block, (ad.add (j * 4)).off + 2, none⟩ = some (.int .i64 q.f2) ∧ (x3.alloc (.cells #[.int .i64 q.f0, .int .i64 q.f1, .int .i64 q.f2, .slice B q.f3.length b] 44 (0, 0))).cell? ⟨(ad.add (j * 4)).block, (ad.add (j * 4)).off + 3, none⟩ = some (.slice B q.f3.length b) := (by exact ⟨bat hB3 S3.1, bat hB3 S3.2.1, bat hB3 S3.2.2.1, bat hB3 S3.2.2.2.1, bat hB3 S3.2.2.2.2⟩); clear hB3; clear hn hb hg hat)
        | (refine Kd.N_append_rows_step k44 (w0 := w) (W := x3.alloc (.cells #[.int .i64 q.f0, .int .i64 q.f1, .int .i64 q.f2, .slice B q.f3.length b] 44 (0, 0))) w.heap.size (by simp [Region.wanted]) (.tmp 56) (.tmp 67) 27 44 (.agg #[(.int .i64 0), (.int .i64 0), (.int .i64 0), (.slice none 0 0)]) 48 rfl Tryd.underlying27 info44 rfl (by decide) (by omega) v3 ([] ++ l2) [q] (some ⟨x3.heap.size, 0, none⟩) 1 1 (fun k => k ≠ w2.heap.size) (fun k => k < w.heap.size ∨ k = x3.heap.size) (by simp [Act.eval, Act.put]) (by simp [Act.eval, Act.put]) ?aO ?aR ?aK ?aF ?aB ?aS ?aL ?_; (case aO => exact Kd.N_alloc HN3.out _); (case aR => exact lit_q (blk_new x3 _) HLB.out (Kd.F_mono (Kd.F_below (Kd.F_below (Kd.C_F k32_heap HCB.out) HB3.out) (below_alloc (Below.refl _ _) _)) (fun k hk => Or.inl hk)) (Or.inr rfl)); (case aK => exact (fun k hk => ⟨by have := HM2.out.gl; have := blk_lt HM2.out.kb; have := HG3.out.size; rw [show (W.alloc (.cells #[] 44 (0, 0))).drew.heap.size = W.heap.size + 1 from World.size_alloc W _] at this; omega, fun e => by have h1 := Kd.N_base HN3.out _ e.symm; have h2 := Kd.N_lt HN3.out _ e.symm; omega⟩)); (case aF => exact (fun k hk => by have := blk_lt HM2.out.kb; have := HG3.out.size; rw [show (W.alloc (.cells #[] 44 (0, 0))).drew.heap.size = W.heap.size + 1 from World.size_alloc W _] at this; rw [World.size_alloc] at hk; omega)); (case aB => exact HB3.out.alloc HB3.out.size _); (case aS => exact (HB3.out.alloc HB3.out.size _).size); (case aL => have := HL2.out; simp only [List.nil_append]; omega); intro v4 x4 hn hb hg hat; have hKK := grown_elder (v0 := .slice (some ⟨W.heap.size, 0, none⟩) 0 0) rfl (Nat.le_refl _) HG3.out HA3.out (fun k hk => Below.heap_alloc x3 _ k hk) (by rw [World.size_alloc]; omega) hg; obtain ⟨z2, zf2, A', m', c', ev, hm', hM', hK'⟩ := more_end HM2.out hKK hb hn F0.out HE0.out HLE0.out HF1.out HE1.out HLE1.out HMD.out.h3 HMD.out.r3; subst ev; have HM' := Aside0.mk hM'; have HK' := Aside0.mk hK'; have HE' := Aside0.mk hm'; have S4 : x4.cell? ⟨w.heap.size, 2, none⟩ = some (.slice (some ad) l2.length c2) ∧ x4.cell? (ad.add (j * 4)) = some (.int .i64 q.f0) ∧ x4.cell? ⟨(ad.add (j * 4)).block, (ad.add (j * 4)).off + 1, none⟩ = some (.int .i64 q.f1) ∧ x4.cell? ⟨(ad.add (j * 4)).block, (ad.add (j * 4)).off + 2, none⟩ = some (.int .i64 q.f2) ∧ x4.cell? ⟨(ad.add (j * 4)).block, (ad.add (j * 4)).off + 3, none⟩ = some (.slice B q.f3.length b) := (by exact ⟨(blk_cell (mid3 HM2.out hKK) 2).trans rfl, bat hb P0.out, bat hb P1.out, bat hb P2.out, bat hb P3.out⟩); have S5 : (x4.setCell ⟨w2.heap.size, 2, none⟩ (.slice A' m' c')).cell? ⟨w.heap.size, 2, none⟩ = some (.slice (some ad) l2.length c2) ∧ (x4.setCell ⟨w2.heap.size, 2, none⟩ (.slice A' m' c')).cell? (ad.add (j * 4)) = some (.int .i64 q.f0) ∧ (x4.setCell ⟨w2.heap.size, 2, none⟩ (.slice A' m' c')).cell? ⟨(ad.add (j * 4)).block, (ad.add (j * 4)).off + 1, none⟩ = some (.int .i64 q.f1) ∧ (x4.setCell ⟨w2.heap.size, 2, none⟩ (.slice A' m' c')).cell? ⟨(ad.add (j * 4)).block, (ad.add (j * 4)).off + 2, none⟩ = some (.int .i64 q.f2) ∧ (x4.setCell ⟨w2.heap.size, 2, none⟩ (.slice A' m' c')).cell? ⟨(ad.add (j * 4)).block, (ad.add (j * 4)).off + 3, none⟩ = some (.slice B q.f3.length b) := (by exact ⟨(blk_cell hM'.mb 2).trans rfl, bat hM'.old P0.out, bat hM'.old P1.out, bat hM'.old P2.out, bat hM'.old P3.out⟩); clear hn hb hg hat hM' hK' hm' hKK)
        | (refine Kd.N_append_rows_step k44 (w0 := w) (W := ((W.alloc (.cells #[] 44 (0, 0))).alloc (.cells #[.int .i64 q.f0, .int .i64 q.f1, .int .i64 q.f2, .slice B q.f3.length b] 44 (0, 0))).drew) w.heap.size (by simp [Region.wanted]) (.tmp 53) (.tmp 55) 27 44 (.agg #[(.int .i64 0), (.int .i64 0), (.int .i64 0), (.slice none 0 0)]) 48 rfl Tryd.underlying27 info44 rfl (by decide) (by omega) (.slice (some ⟨W.heap.size, 0, none⟩) 0 0) [] l2 (some ad) l2.length c2 (fun k => k ≠ w2.heap.size) (fun k => k < w.heap.size) (by simp [Act.eval, Act.put]) (by simp [Act.eval, Act.put]) ?aO ?aR ?aK ?aF ?aB ?aS ?aL ?_; (case aO => exact Kd.N_drew (Kd.N_alloc (emp_N k44 44 _ _ _ rfl HM2.out.old.size _ HM2.out.ne_new) _)); (case aR => exact Kd.F_drew (Kd.F_below (Kd.F_below (Kd.F_below (Kd.C_F k44_heap HMD.out.r2) HM2.out.old) (below_alloc (Below.refl _ _) _)) (below_alloc (Below.refl _ _) _))); (case aK => exact HM2.out.apart1 rfl); (case aF => exact fun k hk => by have := blk_lt HM2.out.kb; rw [(show ((W.alloc (.cells #[] 44 (0, 0))).alloc (.cells #[.int .i64 q.f0, .int .i64 q.f1, .int .i64 q.f2, .slice B q.f3.length b] 44 (0, 0))).drew.heap.size = W.heap.size + 1 + 1 from (World.size_alloc _ _).trans (by rw [World.size_alloc]))] at hk; omega); (case aB => exact ((HM2.out.old.alloc HM2.out.old.size _).alloc (HM2.out.old.alloc HM2.out.old.size _).size _).drew); (case aS => exact ((HM2.out.old.alloc HM2.out.old.size _).alloc (HM2.out.old.alloc HM2.out.old.size _).size _).drew.size); (case aL => have := HL2.out; simp only [List.length_nil, Nat.zero_add]; omega); intro v3 x3 hn hb hg hat; have HN3 := Aside0.mk hn; have HB3 := Aside0.mk hb; have HG3 := Aside0.mk hg; have HA3 := Aside0.mk hat; have HX3 := Aside0.mk (show x3.heap[W.heap.size + 1]? = some (.cells #[.int .i64 q.f0, .int .i64 q.f1, .int .i64 q.f2, .slice B q.f3.length b] 44 (0, 0)) from (hg.block (W.heap.size + 1) (by rw [(show ((W.alloc (.cells #[] 44 (0, 0))).alloc (.cells #[.int .i64 q.f0, .int .i64 q.f1, .int .i64 q.f2, .slice B q.f3.length b] 44 (0, 0))).drew.heap.size = W.heap.size + 1 + 1 from (World.size_alloc _ _).trans (by rw [World.size_alloc]))]; omega) (by show some (W.heap.size + 1) ≠ some W.heap.size; intro e; injection e with e; omega)).trans (blk_drew (blk_new2 W _ _))); have S3 : x3.cell? ⟨w.heap.size, 2, none⟩ = some (.slice (some ad) l2.length c2) ∧ x3.cell? (ad.add (j * 4)) = some (.int .i64 q.f0) ∧ x3.cell? ⟨(ad.add (j * 4)).block, (ad.add (j * 4)).off + 1, none⟩ = some (.int .i64 q.f1) ∧ x3.cell? ⟨(ad.add (j * 4)).block, (ad.add (j * 4)).off + 2, none⟩ = some (.int .i64 q.f2) ∧ x3.cell? ⟨(ad.add (j * 4)).block, (ad.add (j * 4)).off + 3, none⟩ = some (.slice B q.f3.length b) := (by exact ⟨(blk_cell (mid2 HM2.out (b := W.heap.size) rfl (by omega) hg) 2).trans rfl, bat hb P0.out, bat hb P1.out, bat hb P2.out, bat hb P3.out⟩); clear hn hb hg hat)
        | (refine Kd.N_append_rows_step k44 (w0 := w) (W := x3) w.heap.size (by simp [Region.wanted]) (.tmp 56) (.tmp 67) 27 44 (.agg #[(.int .i64 0), (.int .i64 0), (.int .i64 0), (.slice none 0 0)]) 48 rfl Tryd.underlying27 info44 rfl (by decide) (by omega) v3 ([] ++ l2) [q] (some ⟨W.heap.size + 1, 0, none⟩) 1 1 (fun k => k ≠ w2.heap.size) (fun k => k < w.heap.size ∨ k = W.heap.size + 1) (by simp [Act.eval, Act.put]) (by simp [Act.eval, Act.put]) ?aO ?aR ?aK ?aF ?aB ?aS ?aL ?_; (case aO => exact HN3.out); (case aR => exact lit_q HX3.out HLB.out (Kd.F_mono (Kd.F_below (Kd.C_F k32_heap HCB.out) HB3.out) (fun k hk => Or.inl hk)) (Or.inr rfl)); (case aK => exact fun k hk => ⟨by have := HM2.out.gl; have := blk_lt HM2.out.kb; omega, fun e => by have h1 := Kd.N_base HN3.out _ e.symm; rcases hk with hk | hk; (· omega); (· rcases HA3.out with e2 | ⟨b', e2, hb'⟩; (· have e' : some k = some W.heap.size := e.trans e2; injection e' with e'; omega); (· rw [(show ((W.alloc (.cells #[] 44 (0, 0))).alloc (.cells #[.int .i64 q.f0, .int .i64 q.f1, .int .i64 q.f2, .slice B q.f3.length b] 44 (0, 0))).drew.heap.size = W.heap.size + 1 + 1 from (World.size_alloc _ _).trans (by rw [World.size_alloc]))] at hb'; have e' := e.trans e2; injection e' with e'; omega))⟩); (case aF => exact fun k hk => by have := blk_lt HM2.out.kb; have := HG3.out.size; rw [(show ((W.alloc (.cells #[] 44 (0, 0))).alloc (.cells #[.int .i64 q.f0, .int .i64 q.f1, .int .i64 q.f2, .slice B q.f3.length b] 44 (0, 0))).drew.heap.size = W.heap.size + 1 + 1 from (World.size_alloc _ _).trans (by rw [World.size_alloc]))] at this; omega); (case aB => exact HB3.out); (case aS => exact HB3.out.size); (case aL => have := HL2.out; simp only [List.nil_append]; omega); intro v4 x4 hn hb hg hat; have hKK := grown_elder2 (v0 := .slice (some ⟨W.heap.size, 0, none⟩) 0 0) rfl (Nat.le_refl _) HG3.out HA3.out (fun k hk => rfl) (Nat.le_refl _) hg; obtain ⟨z2, zf2, A', m', c', ev, hm', hM', hK'⟩ := more_end HM2.out hKK hb hn F0.out HE0.out HLE0.out HF1.out HE1.out HLE1.out HMD.out.h3 HMD.out.r3; subst ev; have HM' := Aside0.mk hM'; have HK' := Aside0.mk hK'; have HE' := Aside0.mk hm'; have S4 : x4.cell? ⟨w.heap.size, 2, none⟩ = some (.slice (some ad) l2.length c2) ∧ x4.cell? (ad.add (j * 4)) = some (.int .i64 q.f0) ∧ x4.cell? ⟨(ad.add (j * 4)).block, (ad.add (j * 4)).off + 1, none⟩ = some (.int .i64 q.f1) ∧ x4.cell? ⟨(ad.add (j * 4)).block, (ad.add (j * 4)).off + 2, none⟩ = some (.int .i64 q.f2) ∧ x4.cell? ⟨(ad.add (j * 4)).block, (ad.add (j * 4)).off + 3, none⟩ = some (.slice B q.f3.length b) := (by exact ⟨(blk_cell (mid3 HM2.out hKK) 2).trans rfl, bat hb P0.out, bat hb P1.out, bat hb P2.out, bat hb P3.out⟩); have S5 : (x4.setCell ⟨w2.heap.size, 2, none⟩ (.slice A' m' c')).cell? ⟨w.heap.size, 2, none⟩ = some (.slice (some ad) l2.length c2) ∧ (x4.setCell ⟨w2.heap.size, 2, none⟩ (.slice A' m' c')).cell? (ad.add (j * 4)) = some (.int .i64 q.f0) ∧ (x4.setCell ⟨w2.heap.size, 2, none⟩ (.slice A' m' c')).cell? ⟨(ad.add (j * 4)).block, (ad.add (j * 4)).off + 1, none⟩ = some (.int .i64 q.f1) ∧ (x4.setCell ⟨w2.heap.size, 2, none⟩ (.slice A' m' c')).cell? ⟨(ad.add (j * 4)).block, (ad.add (j * 4)).off + 2, none⟩ = some (.int .i64 q.f2) ∧ (x4.setCell ⟨w2.heap.size, 2, none⟩ (.slice A' m' c')).cell? ⟨(ad.add (j * 4)).block, (ad.add (j * 4)).off + 3, none⟩ = some (.slice B q.f3.length b) := (by exact ⟨(blk_cell hM'.mb 2).trans rfl, bat hM'.old P0.out, bat hM'.old P1.out, bat hM'.old P2.out, bat hM'.old P3.out⟩); clear hn hb hg hat hM' hK' hm' hKK)
        | (refine Kd.N_append_rows_step k44 (w0 := w) (W := ((W.alloc (.cells #[.int .i64 q.f0, .int .i64 q.f1, .int .i64 q.f2, .slice B q.f3.length b] 44 (0, 0))).alloc (.cells #[] 44 (0, 0))).drew) w.heap.size (by simp [Region.wanted]) (.tmp 53) (.tmp 55) 27 44 (.agg #[(.int .i64 0), (.int .i64 0), (.int .i64 0), (.slice none 0 0)]) 48 rfl Tryd.underlying27 info44 rfl (by decide) (by omega) (.slice (some ⟨W.heap.size + 1, 0, none⟩) 0 0) [] l2 (some ad) l2.length c2 (fun k => k ≠ w2.heap.size) (fun k => k < w.heap.size) (by simp [Act.eval, Act.put]) (by simp [Act.eval, Act.put]) ?aO ?aR ?aK ?aF ?aB ?aS ?aL ?_; (case aO => exact Kd.N_drew (emp_N k44 44 (W.alloc _) _ _ (by rw [World.size_alloc]) (by rw [World.size_alloc]; have := HM2.out.old.size; omega) _ (by rw [World.size_alloc]; have := blk_lt HM2.out.kb; omega))); (case aR => exact Kd.F_drew (Kd.F_below (Kd.F_below (Kd.F_below (Kd.C_F k44_heap HMD.out.r2) HM2.out.old) (below_alloc (Below.refl _ _) _)) (below_alloc (Below.refl _ _) _))); (case aK => exact fun k hk => ⟨by have := HM2.out.gl; omega, by have := HM2.out.old.size; show some k ≠ some (W.heap.size + 1); intro e; injection e with e; omega⟩); (case aF => exact fun k hk => by have := blk_lt HM2.out.kb; rw [sz2] at hk; omega); (case aB => exact ((HM2.out.old.alloc HM2.out.old.size _).alloc (HM2.out.old.alloc HM2.out.old.size _).size _).drew); (case aS => exact ((HM2.out.old.alloc HM2.out.old.size _).alloc (HM2.out.old.alloc HM2.out.old.size _).size _).drew.size); (case aL => have := HL2.out; simp only [List.length_nil, Nat.zero_add]; omega); intro v3 x3 hn hb hg hat; have HN3 := Aside0.mk hn; have HB3 := Aside0.mk hb; have HG3 := Aside0.mk hg; have HA3 := Aside0.mk hat; have HX3 := Aside0.mk (show x3.heap[W.heap.size]? = some (.cells #[.int .i64 q.f0, .int .i64 q.f1, .int .i64 q.f2, .slice B q.f3.length b] 44 (0, 0)) from (hg.block W.heap.size (by rw [sz2]; omega) (by show some W.heap.size ≠ some (W.heap.size + 1); intro e; injection e with e; omega)).trans (blk_drew (blk_alloc (blk_new W _) _))); have S3 : x3.cell? ⟨w.heap.size, 2, none⟩ = some (.slice (some ad) l2.length c2) ∧ x3.cell? (ad.add (j * 4)) = some (.int .i64 q.f0) ∧ x3.cell? ⟨(ad.add (j * 4)).block, (ad.add (j * 4)).off + 1, none⟩ = some (.int .i64 q.f1) ∧ x3.cell? ⟨(ad.add (j * 4)).block, (ad.add (j * 4)).off + 2, none⟩ = some (.int .i64 q.f2) ∧ x3.cell? ⟨(ad.add (j * 4)).block, (ad.add (j * 4)).off + 3, none⟩ = some (.slice B q.f3.length b) := (by exact ⟨(blk_cell (mid2 HM2.out (b := W.heap.size + 1) rfl (by omega) hg) 2).trans rfl, bat hb P0.out, bat hb P1.out, bat hb P2.out, bat hb P3.out⟩); clear hn hb hg hat)
        | (refine Kd.N_append_rows_step k44 (w0 := w) (W := x3) w.heap.size (by simp [Region.wanted]) (.tmp 56) (.tmp 67) 27 44 (.agg #[(.int .i64 0), (.int .i64 0), (.int .i64 0), (.slice none 0 0)]) 48 rfl Tryd.underlying27 info44 rfl (by decide) (by omega) v3 ([] ++ l2) [q] (some ⟨W.heap.size, 0, none⟩) 1 1 (fun k => k ≠ w2.heap.size) (fun k => k < w.heap.size ∨ k = W.heap.size) (by simp [Act.eval, Act.put]) (by simp [Act.eval, Act.put]) ?aO ?aR ?aK ?aF ?aB ?aS ?aL ?_; (case aO => exact HN3.out); (case aR => exact lit_q HX3.out HLB.out (Kd.F_mono (Kd.F_below (Kd.C_F k32_heap HCB.out) HB3.out) (fun k hk => Or.inl hk)) (Or.inr rfl)); (case aK => exact fun k hk => ⟨by have := HM2.out.gl; have := blk_lt HM2.out.kb; omega, fun e => by have h1 := Kd.N_base HN3.out _ e.symm; rcases hk with hk | hk; (· omega); (· rcases HA3.out with e2 | ⟨b', e2, hb'⟩; (· have e' : some k = some (W.heap.size + 1) := e.trans e2; injection e' with e'; omega); (· rw [sz2] at hb'; have e' := e.trans e2; injection e' with e'; omega))⟩); (case aF => exact fun k hk => by have := blk_lt HM2.out.kb; have := HG3.out.size; rw [sz2] at this; omega); (case aB => exact HB3.out); (case aS => exact HB3.out.size); (case aL => have := HL2.out; simp only [List.nil_append]; omega); intro v4 x4 hn hb hg hat; have hKK := grown_elder2 (v0 := .slice (some ⟨W.heap.size + 1, 0, none⟩) 0 0) rfl (Nat.le_succ _) HG3.out HA3.out (fun k hk => rfl) (Nat.le_refl _) hg; obtain ⟨z2, zf2, A', m', c', ev, hm', hM', hK'⟩ := more_end HM2.out hKK hb hn F0.out HE0.out HLE0.out HF1.out HE1.out HLE1.out HMD.out.h3 HMD.out.r3; subst ev; have HM' := Aside0.mk hM'; have HK' := Aside0.mk hK'; have HE' := Aside0.mk hm'; have S4 : x4.cell? ⟨w.heap.size, 2, none⟩ = some (.slice (some ad) l2.length c2) ∧ x4.cell? (ad.add (j * 4)) = some (.int .i64 q.f0) ∧ x4.cell? ⟨(ad.add (j * 4)).block, (ad.add (j * 4)).off + 1, none⟩ = some (.int .i64 q.f1) ∧ x4.cell? ⟨(ad.add (j * 4)).block, (ad.add (j * 4)).off + 2, none⟩ = some (.int .i64 q.f2) ∧ x4.cell? ⟨(ad.add (j * 4)).block, (ad.add (j * 4)).off + 3, none⟩ = some (.slice B q.f3.length b) := (by exact ⟨(blk_cell (mid3 HM2.out hKK) 2).trans rfl, bat hb P0.out, bat hb P1.out, bat hb P2.out, bat hb P3.out⟩); have S5 : (x4.setCell ⟨w2.heap.size, 2, none⟩ (.slice A' m' c')).cell? ⟨w.heap.size, 2, none⟩ = some (.slice (some ad) l2.length c2) ∧ (x4.setCell ⟨w2.heap.size, 2, none⟩ (.slice A' m' c')).cell? (ad.add (j * 4)) = some (.int .i64 q.f0) ∧ (x4.setCell ⟨w2.heap.size, 2, none⟩ (.slice A' m' c')).cell? ⟨(ad.add (j * 4)).block, (ad.add (j * 4)).off + 1, none⟩ = some (.int .i64 q.f1) ∧ (x4.setCell ⟨w2.heap.size, 2, none⟩ (.slice A' m' c')).cell? ⟨(ad.add (j * 4)).block, (ad.add (j * 4)).off + 2, none⟩ = some (.int .i64 q.f2) ∧ (x4.setCell ⟨w2.heap.size, 2, none⟩ (.slice A' m' c')).cell? ⟨(ad.add (j * 4)).block, (ad.add (j * 4)).off + 3, none⟩ = some (.slice B q.f3.length b) := (by exact ⟨(blk_cell hM'.mb 2).trans rfl, bat hM'.old P0.out, bat hM'.old P1.out, bat hM'.old P2.out, bat hM'.old P3.out⟩); clear hn hb hg hat hM' hK' hm' hKK))
    all_goals (go_wp2_with fail; go_meet; exact ⟨A', m', c', rfl, HM', HE', HK'⟩)
  case rest =>
    obtain ⟨A', m', c', rfl, HM', HE', HK'⟩ := hcut
    have HCM := Aside0.mk (more_check HK'.out HE0.out HE1.out HE'.out HH.out HSZ.out HS.out HQ.out HL0.out HL1.out HL2.out HL3.out HCK.out (HMX.out.below HM'.out.old))
    have hkk := HM'.out.kb
    have hmm := HM'.out.mb
    have k0 := (blk_cell hkk 0).trans rfl
    have k1 := (blk_cell hkk 1).trans rfl
    have k2 := (blk_cell hkk 2).trans rfl
    have k3 := (blk_cell hkk 3).trans rfl
    clear hkk hmm S0 S1 S11 Sc1 Sc2
    go_wp2_with (go_at_call 30; refine HCM.out.mono ?_; rintro e w5 ⟨rfl, hb5⟩; have HB5 := Aside0.mk (below_then HM'.out.old HM'.out.old.size hb5); have HK5 := Aside0.mk (HK'.out.below hb5); have HKB5 := Aside0.mk (blk_below HM'.out.kb hb5); have HMB5 := Aside0.mk (blk_below HM'.out.mb hb5); clear hb5)
    have a0 := (blk_cell HKB5.out 0).trans rfl
    have a1 := (blk_cell HKB5.out 1).trans rfl
    have a2 := (blk_cell HKB5.out 2).trans rfl
    have a3 := (blk_cell HKB5.out 3).trans rfl
    have b2 := (blk_cell HMB5.out 2).trans rfl
    obtain ⟨adx, Bx, bx, ex, _, _, _, s3, _⟩ := at_T44 HK5.out.r2 (l2.length : Int) (by omega) (by simp; omega)
    rw [rd_last, Int.toNat_natCast] at s3
    subst ex
    have hml : (l2.length : Int) < (m' : Int) := by have := HE'.out; simp only [List.length_append, List.length_cons, List.length_nil] at this; omega
    have hml2 : l2.length < m' := by omega
    clear k0 k1 k2 k3
    go_region_held3 (fun W' => W'.cell? ⟨w2.heap.size, 0, none⟩ = some (.slice A'0 m'0 c'0) ∧ W'.cell? ⟨w2.heap.size, 1, none⟩ = some (.slice A'1 m'1 c'1) ∧ W'.cell? ⟨w2.heap.size, 2, none⟩ = some (.slice (some adx) m' c') ∧ W'.cell? ⟨w2.heap.size, 3, none⟩ = some (.slice A3 l3.length c3) ∧ W'.cell? ⟨w.heap.size, 2, none⟩ = some (.slice (some ad) l2.length c2) ∧ W'.cell? ⟨(adx.add (l2.length * 4)).block, (adx.add (l2.length * 4)).off + 3, none⟩ = some (.slice Bx q.f3.length bx)) (first | exact ⟨a0, a1, a2, a3, b2, s3⟩ | exact ⟨f0, f1, f2, f3, h2, s3'⟩ | exact ⟨n0, n1, n2, n3, nh2, ns3⟩) (first
      | (go_at_call 32; go_loud (refine (more_depths (HK5.out.below (Below.refl _ _).drew) HE0.out HE1.out HE'.out HH.out HSZ.out HS.out HQ.out HL0.out HL1.out HL2.out HL3.out HCK.out (HMX.out.below HB5.out.drew)).mono ?_); rintro e w6 ⟨V, dV, rfl, hb6⟩; have HB6 := Aside0.mk (below_then HB5.out.drew HB5.out.drew.size hb6); have HKB6 := Aside0.mk (blk_below (blk_drew HKB5.out) hb6); have HMB6 := Aside0.mk (blk_below (blk_drew HMB5.out) hb6); have f0 := (blk_cell HKB6.out 0).trans rfl; have f1 := (blk_cell HKB6.out 1).trans rfl; have f2 := (blk_cell HKB6.out 2).trans rfl; have f3 := (blk_cell HKB6.out 3).trans rfl; have h2 := (blk_cell HMB6.out 2).trans rfl; have s3' := bat hb6 s3; clear hb6)
      | (go_at_call 29; go_loud (refine (sacristanlaw11_awake.calls true _ (HMX.out.below HB6.out) Pure.awake11).mono ?_); rintro e w7 ⟨rfl, hb7⟩; have n0 := (blk_cell (blk_below HKB6.out hb7) 0).trans rfl; have n1 := (blk_cell (blk_below HKB6.out hb7) 1).trans rfl; have n2 := (blk_cell (blk_below HKB6.out hb7) 2).trans rfl; have n3 := (blk_cell (blk_below HKB6.out hb7) 3).trans rfl; have nh2 := (blk_cell (blk_below HMB6.out hb7) 2).trans rfl; have ns3 := bat hb7 s3'))
    all_goals (go_wp2_with fail)
    all_goals go_ret
    all_goals exact ⟨rfl, below_then HB6.out HB6.out.size hb7⟩
set_option maxHeartbeats 3200000 in
set_option maxRecDepth 1000000 in
theorem verifyMore_bad (i n : Int) (s : ByteArray) (w : World) (hmd : ModIs w A0 c0 l0 A1 c1 l1 A2 c2 l2 A3 c3 l3) (hM : MaxOk w) (h : Pure.FitM l0 l1 l2 l3) (hsz : ∀ t ∈ l1, t.size ≤ reachBytes) (hss : s.size ≤ maxLen)
    (b_ : Bool) (hgc : Calls Tryd.prog 28 #[.agg #[.slice A0 l0.length c0, .slice A1 l1.length c1, .slice A2 l2.length c2, .slice A3 l3.length c3]] (w.alloc (.cells #[.slice A0 l0.length c0, .slice A1 l1.length c1, .slice A2 l2.length c2, .slice A3 l3.length c3] 30 (0, 0))) (fun e w' => e = .returned (.bool b_) ∧ Below (w.alloc (.cells #[.slice A0 l0.length c0, .slice A1 l1.length c1, .slice A2 l2.length c2, .slice A3 l3.length c3] 30 (0, 0))).heap.size (w.alloc (.cells #[.slice A0 l0.length c0, .slice A1 l1.length c1, .slice A2 l2.length c2, .slice A3 l3.length c3] 30 (0, 0))) w')) (hbad : b_ = true ∨ 1000 < s.size ∨ (Pure.checkS l0 l1 l2 l3).2 ≠ 0) :
    Calls Tryd.prog 10 #[.agg #[.slice A0 l0.length c0, .slice A1 l1.length c1, .slice A2 l2.length c2, .slice A3 l3.length c3], .int .u8 i, .int .i64 n, .string s] w fun e w' => e = .returned (.bool true) ∧ Below w.heap.size w w' := by
  have hA := (Below.refl w.heap.size w).alloc (Nat.le_refl _) (.cells #[.slice A0 l0.length c0, .slice A1 l1.length c1, .slice A2 l2.length c2, .slice A3 l3.length c3] 30 (0, 0))
  have hG := blk_new w (.cells #[.slice A0 l0.length c0, .slice A1 l1.length c1, .slice A2 l2.length c2, .slice A3 l3.length c3] 30 (0, 0))
  have hsl : (s.size : Int) ≤ 9223372036854775807 := by unfold maxLen at hss; omega
  have m2 := Kd.C_max hmd.r2
  have HA := Aside0.mk hA
  have HG := Aside0.mk hG
  have HH := Aside0.mk h
  have HMX := Aside0.mk hM
  have HMD := Aside0.mk hmd
  have HSZ := Aside0.mk hsz
  have HGC := Aside0.mk hgc
  have g0 := (blk_cell hG 0).trans rfl
  have g1 := (blk_cell hG 1).trans rfl
  have g2 := (blk_cell hG 2).trans rfl
  have g3 := (blk_cell hG 3).trans rfl
  clear hA hG h hM hmd hsz hss hgc
  cases hbb : b_ with
  | true =>
    have HBB := Aside0.mk hbb
    clear hbb hbad
    go_enter Tryd.func10, Tryd.ntmps10
    go_wp2_with (first | (go_at_call 28; go_loud (refine HGC.out.mono ?_); rintro e w1 ⟨rfl, hb1⟩; rw [HBB.out]; have HB1 := Aside0.mk (below_then HA.out HA.out.size hb1); have HG1 := Aside0.mk (blk_below HG.out hb1); have z0 := (blk_cell (HG1.out) 0).trans rfl; have z1 := (blk_cell (HG1.out) 1).trans rfl; have z2 := (blk_cell (HG1.out) 2).trans rfl; have z3 := (blk_cell (HG1.out) 3).trans rfl; clear hb1) | (go_at_call 29; go_loud (refine (sacristanlaw11_awake.calls true _ (HMX.out.below HB1.out) Pure.awake11).mono ?_); rintro e w7 ⟨rfl, hb7⟩))
    go_ret
    exact ⟨rfl, below_then HB1.out HB1.out.size hb7⟩
  | false =>
    have HBB := Aside0.mk hbb
    by_cases hls : 1000 < s.size
    · have d1 : decide ((1000 : Int) < (s.size : Int)) = true := decide_eq_true (by omega)
      clear hbb hbad hls
      go_enter Tryd.func10, Tryd.ntmps10
      go_wp2_with (first | (go_at_call 28; go_loud (refine HGC.out.mono ?_); rintro e w1 ⟨rfl, hb1⟩; rw [HBB.out]; have HB1 := Aside0.mk (below_then HA.out HA.out.size hb1); have HG1 := Aside0.mk (blk_below HG.out hb1); have z0 := (blk_cell (HG1.out) 0).trans rfl; have z1 := (blk_cell (HG1.out) 1).trans rfl; have z2 := (blk_cell (HG1.out) 2).trans rfl; have z3 := (blk_cell (HG1.out) 3).trans rfl; clear hb1) | (go_at_call 29; go_loud (refine (sacristanlaw11_awake.calls true _ (HMX.out.below HB1.out) Pure.awake11).mono ?_); rintro e w7 ⟨rfl, hb7⟩))
      go_ret
      exact ⟨rfl, below_then HB1.out HB1.out.size hb7⟩
    · have d1 : decide ((1000 : Int) < (s.size : Int)) = false := decide_eq_false (by omega)
      have hne : (Pure.checkS l0 l1 l2 l3).2 = 18 := by
        rcases Pure.check_two (l0 := l0) (l1 := l1) (l2 := l2) (l3 := l3) with e | e
        · rcases hbad with h | h | h
          · rw [hbb] at h; cases h
          · exact absurd h hls
          · exact absurd e h
        · exact e
      have HNE := Aside0.mk hne
      clear hbb hbad hls hne
      go_enter Tryd.func10, Tryd.ntmps10
      go_wp2_with (first | (go_at_call 28; go_loud (refine HGC.out.mono ?_); rintro e w1 ⟨rfl, hb1⟩; rw [HBB.out]; have HB1 := Aside0.mk (below_then HA.out HA.out.size hb1); have HG1 := Aside0.mk (blk_below HG.out hb1); have z0 := (blk_cell (HG1.out) 0).trans rfl; have z1 := (blk_cell (HG1.out) 1).trans rfl; have z2 := (blk_cell (HG1.out) 2).trans rfl; have z3 := (blk_cell (HG1.out) 3).trans rfl; clear hb1) | (go_at_call 30; go_loud (refine (Pure.Check_calls _ HH.out HSZ.out (HMX.out.below HB1.out) (HMD.out.below HB1.out)).mono ?_); rintro e w2 ⟨rfl, hb2⟩; rw [HNE.out]; have HB2 := Aside0.mk (below_then HB1.out HB1.out.size hb2); have HG2 := Aside0.mk (blk_below HG1.out hb2); have yy0 := (blk_cell (HG2.out) 0).trans rfl; have yy1 := (blk_cell (HG2.out) 1).trans rfl; have yy2 := (blk_cell (HG2.out) 2).trans rfl; have yy3 := (blk_cell (HG2.out) 3).trans rfl; clear hb2) | (go_at_call 29; go_loud (refine (sacristanlaw11_awake.calls true _ (HMX.out.below HB2.out) Pure.awake11).mono ?_); rintro e w7 ⟨rfl, hb7⟩))
      go_ret
      exact ⟨rfl, below_then HB2.out HB2.out.size hb7⟩
theorem verifyMore_all (i n : Int) (s : ByteArray) (w : World) (hi : 0 ≤ i ∧ i ≤ 255) (hmd : ModIs w A0 c0 l0 A1 c1 l1 A2 c2 l2 A3 c3 l3) (hM : MaxOk w) (h : Pure.FitM l0 l1 l2 l3) (hsz : ∀ t ∈ l1, t.size ≤ reachBytes) (hss : s.size ≤ maxLen) :
    Calls Tryd.prog 10 #[.agg #[.slice A0 l0.length c0, .slice A1 l1.length c1, .slice A2 l2.length c2, .slice A3 l3.length c3], .int .u8 i, .int .i64 n, .string s] w fun e w' => e = .returned (.bool true) ∧ Below w.heap.size w w' := by
  obtain ⟨b, hgc, hg⟩ := great28 (w.alloc (.cells #[.slice A0 l0.length c0, .slice A1 l1.length c1, .slice A2 l2.length c2, .slice A3 l3.length c3] 30 (0, 0))) (hmd.below (below_alloc (Below.refl w.heap.size w) _))
  by_cases hbad : b = true ∨ 1000 < s.size ∨ (Pure.checkS l0 l1 l2 l3).2 ≠ 0
  · exact verifyMore_bad i n s w hmd hM h hsz hss b hgc hbad
  · have hb : b = false := by cases b <;> simp_all
    have hc : (Pure.checkS l0 l1 l2 l3).2 = 0 := Classical.byContradiction fun e => hbad (.inr (.inr e))
    exact verifyMore_calls i n s w hi hmd hM h hsz (Nat.le_of_not_lt fun e => hbad (.inr (.inl e))) hc b hgc hb (hg hb)
end
end Go.Proofs.YtfncoldcjhkhiaaDoor.NW
