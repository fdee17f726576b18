/- A value put on the stack and taken off again ahead of a function's code changes nothing but the depths' number. -/
import Derived.Test.YtfncoldcjhkhiaaDoorGi
import Derived.Test.YtfncoldcjhkhiaaDoorTb
namespace Go.Proofs.YtfncoldcjhkhiaaDoor.NW
open Go.RowKit Go.Proofs.YtfncoldcjhkhiaaDoorW.PrintWords Go.Proofs.YtfncoldcjhkhiaaDoorW.PrintMore Go.Proofs.YtfncoldcjhkhiaaDoor.PC
set_option linter.unusedVariables false
set_option linter.unusedSimpArgs false
/-- an empty row, just made -/
theorem emp_N {α : Type} (d : Kd α) (e : Nat) (W : World) (base B : Nat) (hB : B = W.heap.size) (hb : base ≤ W.heap.size) (ok : Nat → Prop) (hok : ok W.heap.size) : Kd.N d e (W.alloc (.cells #[] e)) base ok (.slice (some ⟨B, 0, none⟩) 0 0) [] := by
  subst hB
  have h2 := World.ownsRow_lit (base := base) (e := e) (size := d.sz) W #[] 0 hb (by unfold maxLen; omega) (by simp)
  exact Kd.R_N ⟨fun k hk => by simp [Value.ownBlock] at hk; rw [← hk]; exact hok, [], h2, Reps.none _ _⟩
theorem k44_heap : Kd.Heap k44 := Kd.heap_iso _ (Kd.heap_pair (Kd.heap_int _) (Kd.heap_pair (Kd.heap_int _) (Kd.heap_pair (Kd.heap_int _) (Kd.heap_slice _ (Kd.heap_iso _ (Kd.heap_pair (Kd.heap_int _) (Kd.heap_int _)))))))
theorem k41_heap : Kd.Heap k41 := Kd.heap_iso _ (Kd.heap_pair (Kd.heap_slice _ (Kd.heap_int _)) (Kd.heap_pair Kd.heap_bool Kd.heap_bool))
/-- while a module grows: its box, the elder one's box -/
structure MoreIs (w W : World) (g : Nat) (mc kc : Array Value) : Prop where
  old : Below w.heap.size w W
  mb : W.heap[w.heap.size]? = some (.cells mc 30 (0, 0))
  kb : W.heap[g]? = some (.cells kc 30 (0, 0))
  gl : w.heap.size < g
theorem MoreIs.ne_new {w W : World} {g : Nat} {mc kc : Array Value} (h : MoreIs w W g mc kc) : W.heap.size ≠ g := by have := blk_lt h.kb; omega
theorem MoreIs.apart1 {w W : World} {g B : Nat} {mc kc : Array Value} (h : MoreIs w W g mc kc) (hB : B = W.heap.size) (k : Nat) (hk : k < w.heap.size) : k ≠ g ∧ some k ≠ (Value.slice (some ⟨B, 0, none⟩) 0 0).ownBlock := by
  have := h.gl
  have := h.old.size
  exact ⟨by omega, by simp [Value.ownBlock]; omega⟩
theorem MoreIs.far1 {w W : World} {g : Nat} {mc kc : Array Value} {o : Obj} (h : MoreIs w W g mc kc) (k : Nat) (hk : (W.alloc o).heap.size ≤ k) : k ≠ g := by have := blk_lt h.kb; rw [World.size_alloc] at hk; omega
theorem MoreIs.far2 {w W W1 : World} {g : Nat} {mc kc : Array Value} (h : MoreIs w W g mc kc) (hs : W.heap.size ≤ W1.heap.size) (k : Nat) (hk : W1.heap.size ≤ k) : k ≠ g := by have := blk_lt h.kb; omega
theorem MoreIs.mid {w W w1 : World} {g B : Nat} {mc kc : Array Value} {o : Obj} {v0 : Value} (h : MoreIs w W g mc kc) (hB : B = W.heap.size) (hv : v0.ownBlock = some B) (hg1 : (W.alloc o).grownBy w1 v0.ownBlock) : w1.heap[w.heap.size]? = some (.cells mc 30 (0, 0)) := by
  subst hB
  have hwl := blk_lt h.mb
  exact (hg1.block _ (by rw [World.size_alloc]; omega) (by rw [hv]; intro e; injection e with e; omega)).trans ((Below.heap_alloc W o _ hwl).trans h.mb)
theorem k32_heap : Kd.Heap k32 := Kd.heap_iso _ (Kd.heap_pair (Kd.heap_int _) (Kd.heap_int _))
/-- one field more: all that is elder stays, but the box -/
theorem MoreIs.phase {w W w1 w1' w2 : World} {g i B : Nat} {mc kc kc' : Array Value} {o : Obj} {v0 v1 u v : Value} (h : MoreIs w W g mc kc) (hB : B = W.heap.size) (hv : v0.ownBlock = some B) (hg1 : (W.alloc o).grownBy w1 v0.ownBlock) (hat1 : v1.ownBlock = v0.ownBlock ∨ ∃ b, v1.ownBlock = some b ∧ (W.alloc o).heap.size ≤ b)
    (hx : ∀ k, k < w1.heap.size → w1'.heap[k]? = w1.heap[k]?) (hxs : w1.heap.size ≤ w1'.heap.size) (hg2 : w1'.grownBy w2 v1.ownBlock) (hb2 : Below w.heap.size w w2) (hkc : kc[i]? = some u) (hkc' : kc.setIfInBounds i v = kc') :
    w2.cell? ⟨g, i, none⟩ = some u ∧ w2.frozen? ⟨g, i, none⟩ = false ∧ MoreIs w (w2.setCell ⟨g, i, none⟩ v) g mc kc' ∧ ∀ {α : Type} (d : Kd α) (A : Option Addr) (n : Nat) (xs : List α), Kd.F d W (fun k => k ≠ g) A n xs → Kd.F d (w2.setCell ⟨g, i, none⟩ v) (fun k => k ≠ g) A n xs := by
  subst hB
  have hs1 : W.heap.size + 1 ≤ w1.heap.size := by have := hg1.size; rwa [World.size_alloc] at this
  have hkeep : ∀ k, k < W.heap.size → w2.heap[k]? = W.heap[k]? := by
    intro k hk
    have e1 : w1.heap[k]? = W.heap[k]? := (hg1.block k (by rw [World.size_alloc]; omega) (by rw [hv]; intro e; injection e with e; omega)).trans (Below.heap_alloc W o k hk)
    have e2 : w2.heap[k]? = w1'.heap[k]? := hg2.block k (by omega) (by
      rcases hat1 with e | ⟨b, e, hb⟩
      · rw [e, hv]; intro e; injection e with e; omega
      · rw [e]; intro e; injection e with e; rw [World.size_alloc] at hb; omega)
    exact e2.trans ((hx k (by omega)).trans e1)
  have hgl := blk_lt h.kb
  have hwl := blk_lt h.mb
  have kb : w2.heap[g]? = some (.cells kc 30 (0, 0)) := (hkeep g hgl).trans h.kb
  have mb : w2.heap[w.heap.size]? = some (.cells mc 30 (0, 0)) := (hkeep _ hwl).trans h.mb
  have := h.gl
  refine ⟨(blk_cell kb i).trans hkc, blk_frozen kb i, ⟨hb2.setCell (p := ⟨g, i, none⟩) (by show w.heap.size ≤ g; omega) v, blk_far mb (p := ⟨g, i, none⟩) (by show w.heap.size ≠ g; omega) v, blk_put kb i v hkc', h.gl⟩, fun d A n xs hF => ?_⟩
  exact Kd.F_step (Kd.F_step hF (fun k _ hk => hkeep k hk)) (fun k hk _ => Below.heap_setCell w2 ⟨g, i, none⟩ v k hk)
theorem new_F {α : Type} {d : Kd α} {e base g i : Nat} {w2 : World} {v2 u : Value} {xs : List α} (h : Kd.N d e w2 base (fun k => k ≠ g) v2 xs) : ∃ A m c, v2 = .slice A m c ∧ m = xs.length ∧ m ≤ c ∧ Kd.F d (w2.setCell ⟨g, i, none⟩ u) (fun k => k ≠ g) A m xs := by
  obtain ⟨A, c, rfl⟩ := Kd.N_slice h
  obtain ⟨_, hle, _⟩ := Kd.N_reads' h
  exact ⟨A, _, c, rfl, rfl, hle, Kd.F_step (Kd.N_F h) (fun k hk _ => Below.heap_setCell w2 ⟨g, i, none⟩ u k hk)⟩
theorem nil_F {α : Type} (d : Kd α) (W : World) (ok : Nat → Prop) : Kd.F d W ok none ([] : List α).length [] := fun W' _ => Kd.C_nil d W'
theorem lit_R (W : World) (xs : List S32) (cs : Array Value) (hcs : cs.toList = xs.flatMap fun x => [.int .u8 x.f0, .int .i64 x.f1]) (hn : xs.length ≤ 1000) (base : Nat) (hb : base ≤ W.heap.size) (ok : Nat → Prop) (hok : ok W.heap.size) :
    Kd.R k32 32 (W.alloc (.cells cs 32)) base ok (.slice (some ⟨W.heap.size, 0, none⟩) xs.length xs.length) xs := by
  have hlen : ∀ l : List S32, (l.flatMap fun x => [Value.int .u8 x.f0, Value.int .i64 x.f1]).length = l.length * 2 := fun l => by
    induction l with
    | nil => rfl
    | cons x l ih => rw [List.flatMap_cons, List.length_append, ih]; simp; omega
  have hat : ∀ (l : List S32) (j : Nat) (p : S32), l[j]? = some p → ((l.flatMap fun x => [Value.int .u8 x.f0, Value.int .i64 x.f1]).drop (j * 2)).take 2 = [.int .u8 p.f0, .int .i64 p.f1] := fun l => by
    induction l with
    | nil => intro j p h; simp at h
    | cons x l ih =>
      intro j p h
      rcases j with _ | j
      · simp only [List.getElem?_cons_zero, Option.some.injEq] at h
        subst h; rfl
      · rw [List.getElem?_cons_succ] at h
        rw [List.flatMap_cons, show (j + 1) * 2 = j * 2 + 1 + 1 by omega]
        exact ih j p h
  have hsz : cs.size = xs.length * 2 := by rw [← Array.length_toList, hcs, hlen]
  have h2 := World.ownsRow_lit (base := base) (e := 32) (size := 2) W cs xs.length hb (by unfold maxLen; omega) hsz
  refine ⟨fun k hk => by simp [Value.ownBlock] at hk; rw [← hk]; exact hok, cs.toList, h2, ?_, fun j p hj => ?_⟩
  · show cs.toList.length = xs.length * 2
    rw [hcs, hlen]
  · have := hat xs j p hj
    rw [hcs]
    show k32.M _ _ _ p (((xs.flatMap fun x => [Value.int .u8 x.f0, Value.int .i64 x.f1]).drop (j * 2)).take 2)
    rw [this]; exact k32_mkM _ _ _ p
/-- a function that is made: its box, its code a row of the call's own -/
structure PIs (w0 w : World) (g : Nat) (a b c : Int) (l : List S32) (v : Value) : Prop where
  blk : w.heap[g]? = some (.cells #[.int .i64 a, .int .i64 b, .int .i64 c, v] 44 (0, 0))
  row : Kd.R k32 32 w w0.heap.size (fun k => k ≠ g) v l
  old : Below w0.heap.size w0 w
  gl : w0.heap.size ≤ g
theorem PIs.below {w0 w w1 : World} {g : Nat} {a b c : Int} {l : List S32} {v : Value} (h : PIs w0 w g a b c l v) (hb : Below w.heap.size w w1) : PIs w0 w1 g a b c l v :=
  ⟨blk_below h.blk hb, Kd.R_below h.row hb, below_then h.old h.old.size hb, h.gl⟩
theorem PIs.push {w0 w w1 : World} {g : Nat} {a b c : Int} {l l' : List S32} {v v1 : Value} (h : PIs w0 w g a b c l v) (hr : Kd.R k32 32 w1 w0.heap.size (fun k => k ≠ g) v1 l') (hb : Below w0.heap.size w0 w1) (hg : w.grownBy w1 v.ownBlock) :
    w1.cell? ⟨g, 3, none⟩ = some v ∧ w1.frozen? ⟨g, 3, none⟩ = false ∧ PIs w0 (w1.setCell ⟨g, 3, none⟩ v1) g a b c l' v1 ∧ ∃ (A : Option Addr) (m d : Nat), v1 = .slice A m d := by
  have hne : some g ≠ v.ownBlock := fun e => h.row.1 g e.symm rfl
  have BK := blk_grown h.blk hg hne
  exact ⟨(blk_cell BK 3).trans rfl, blk_frozen BK 3, ⟨blk_put BK 3 v1 rfl, Kd.R_far hr (p := ⟨g, 3, none⟩) (fun k hk => hk) v1, hb.setCell (p := ⟨g, 3, none⟩) h.gl v1, h.gl⟩, by obtain ⟨A, d, e⟩ := Kd.R_slice hr; exact ⟨A, _, d, e⟩⟩
theorem shift_take {l : List S32} {i : Nat} (h : i < l.length) {y : S32} (hy : Pure.shiftI (rd_T32 l (i : Int)) = y) : ([⟨3, 0⟩, ⟨15, 0⟩] ++ (l.take i).map Pure.shiftI) ++ [y] = [⟨3, 0⟩, ⟨15, 0⟩] ++ (l.take (i + 1)).map Pure.shiftI := by
  subst hy
  rw [rd_T32, Int.toNat_natCast, List.getD_eq_getElem?_getD, List.getElem?_eq_getElem h, List.take_succ_eq_append_getElem h, List.map_append, List.append_assoc]
  rfl
theorem jump_b {l0 : List Int} {l1 : List ByteArray} {l2 : List S44} {l3 : List S41} {p : S44} {i : Nat} (hg : Pure.Good (l0 := l0) (l1 := l1) (l2 := l2) (l3 := l3) p) (h : i < p.f3.length) (hj : (rd_T32 p.f3 (i : Int)).f0 = 13 ∨ (rd_T32 p.f3 (i : Int)).f0 = 14) : 0 ≤ (rd_T32 p.f3 (i : Int)).f1 ∧ (rd_T32 p.f3 (i : Int)).f1 ≤ 16384 := by
  have hi := hg.ins _ (List.getElem_mem h)
  have e : rd_T32 p.f3 (i : Int) = p.f3[i] := by rw [rd_T32, Int.toNat_natCast, List.getD_eq_getElem?_getD, List.getElem?_eq_getElem h]; rfl
  rw [e] at hj ⊢
  unfold Pure.insM Pure.insS at hi
  rw [Bool.and_eq_true] at hi
  have h2 := hi.2
  unfold Pure.restS at h2
  rw [if_neg (by omega), if_neg (by omega), if_pos hj] at h2
  have := of_decide_eq_true h2
  have := hg.few
  omega
/-- four cells are written -/
theorem four {W : World} {g o : Nat} {t : TypeId} {cs : Array Value} (h : W.heap[g]? = some (.cells cs t (0, 0))) (ho : o + 3 < cs.size) (v0 v1 v2 v3 : Value) :
    let W' := (((W.setCell ⟨g, o, none⟩ v0).setCell ⟨g, o + 1, none⟩ v1).setCell ⟨g, o + 2, none⟩ v2).setCell ⟨g, o + 3, none⟩ v3
    (∀ k, k ≠ g → W'.heap[k]? = W.heap[k]?) ∧ W'.cell? ⟨g, o, none⟩ = some v0 ∧ W'.cell? ⟨g, o + 1, none⟩ = some v1 ∧ W'.cell? ⟨g, o + 2, none⟩ = some v2 ∧ W'.cell? ⟨g, o + 3, none⟩ = some v3 ∧ ∀ i, (i < o ∨ o + 4 ≤ i) → W'.cell? ⟨g, i, none⟩ = W.cell? ⟨g, i, none⟩ := by
  intro W'
  have b := blk_put (blk_put (blk_put (blk_put h o v0 rfl) (o + 1) v1 rfl) (o + 2) v2 rfl) (o + 3) v3 rfl
  refine ⟨fun k hk => ?_, ?_, ?_, ?_, ?_, fun i hi => ?_⟩
  · exact (Below.heap_setCell _ _ _ k hk).trans ((Below.heap_setCell _ _ _ k hk).trans ((Below.heap_setCell _ _ _ k hk).trans (Below.heap_setCell _ _ _ k hk)))
  · rw [blk_cell b]; simp [Array.getElem?_setIfInBounds]; omega
  · rw [blk_cell b]; simp [Array.getElem?_setIfInBounds]; omega
  · rw [blk_cell b]; simp [Array.getElem?_setIfInBounds]; omega
  · rw [blk_cell b]; simp [Array.getElem?_setIfInBounds]; omega
  · rw [blk_cell b, blk_cell h]
    simp only [Array.getElem?_setIfInBounds]
    rw [if_neg (by omega), if_neg (by omega), if_neg (by omega), if_neg (by omega)]
/-- a function of a row of the call's own is another one now -/
theorem set_rows {W W' : World} {base g cap j cv : Nat} {l : List S44} {ok : Nat → Prop} {q : S44} {A : Option Addr} (h : Kd.N k44 44 W base ok (.slice (some ⟨g, 0, none⟩) l.length cap) l) (hj : j < l.length) (hle : q.f3.length ≤ cv) (hC : Kd.C k32 W' A q.f3.length q.f3)
    (hW : ∀ k, k ≠ g → W'.heap[k]? = W.heap[k]?) (h0 : W'.cell? ⟨g, j * 4, none⟩ = some (.int .i64 q.f0)) (h1 : W'.cell? ⟨g, j * 4 + 1, none⟩ = some (.int .i64 q.f1)) (h2 : W'.cell? ⟨g, j * 4 + 2, none⟩ = some (.int .i64 q.f2)) (h3 : W'.cell? ⟨g, j * 4 + 3, none⟩ = some (.slice A q.f3.length cv))
    (ho : ∀ o, (o < j * 4 ∨ j * 4 + 4 ≤ o) → W'.cell? ⟨g, o, none⟩ = W.cell? ⟨g, o, none⟩) : Kd.C k44 W' (some ⟨g, 0, none⟩) l.length (l.set j q) := by
  have hCl := (Kd.N_reads' h).2.2
  obtain ⟨hown, rows, hl, hR, hf⟩ := h
  obtain ⟨_, _, hr⟩ := Kd.R_reads' hR
  have hr' := hr.2.2 (by omega)
  obtain ⟨ad, ea, hcell⟩ := hr'
  injection ea with ea
  subst ea
  refine ⟨by rw [List.length_set], hCl.2.1, fun _ => ⟨_, rfl, fun i x hx => ?_⟩⟩
  by_cases hij : i = j
  · subst hij
    rw [List.getElem?_set_self hj] at hx
    injection hx with hx
    subst hx
    refine ⟨_, rfl, k44_mk W' q hle hC, fun o u hu => ?_⟩
    rw [add_plain]
    rcases o with _ | _ | _ | _ | o
    · simp at hu; subst hu; exact h0
    · simp at hu; subst hu; exact h1
    · simp at hu; subst hu; exact h2
    · simp at hu; subst hu; exact h3
    · simp at hu
  · rw [List.getElem?_set_ne (Ne.symm hij)] at hx
    have hi : i < l.length := (List.getElem?_eq_some_iff.1 hx).1
    obtain ⟨r, hr⟩ : ∃ r, rows[i]? = some r := ⟨_, List.getElem?_eq_getElem (by omega)⟩
    obtain ⟨c, hcl, ⟨e, hr1, hr2⟩, hc⟩ := hcell i r hr
    subst e
    have hK : k44.K W' x c := (hf i x c hx hr) W' (fun k hk _ => hW k (fun e => hk.2 (by subst e; simp [Value.ownBlock])))
    refine ⟨c, hcl, hK, fun o u hu => ?_⟩
    have := hc o u hu
    rw [add_plain] at this ⊢
    have hcl' : c.length = 4 := hcl
    have ho' : o < 4 := by have := (List.getElem?_eq_some_iff.1 hu).1; omega
    rw [ho _ (by show i * 4 + o < j * 4 ∨ j * 4 + 4 ≤ i * 4 + o; omega)]
    exact this
theorem stages {W : World} {g j : Nat} {t : TypeId} {cs : Array Value} {adx : Addr} {u : Value} (hadx : adx = ⟨g, 0, none⟩) (hb : W.heap[g]? = some (.cells cs t (0, 0))) (hu : W.cell? ⟨(adx.add (j * 4)).block, (adx.add (j * 4)).off + 3, none⟩ = some u) (v0 v1 v2 : Value) :
    W.frozen? (adx.add (j * 4)) = false ∧ (∃ c, (W.setCell (adx.add (j * 4)) v0).cell? ⟨(adx.add (j * 4)).block, (adx.add (j * 4)).off + 1, none⟩ = some c) ∧ (W.setCell (adx.add (j * 4)) v0).frozen? ⟨(adx.add (j * 4)).block, (adx.add (j * 4)).off + 1, none⟩ = false ∧
      (∃ c, ((W.setCell (adx.add (j * 4)) v0).setCell ⟨(adx.add (j * 4)).block, (adx.add (j * 4)).off + 1, none⟩ v1).cell? ⟨(adx.add (j * 4)).block, (adx.add (j * 4)).off + 2, none⟩ = some c) ∧ ((W.setCell (adx.add (j * 4)) v0).setCell ⟨(adx.add (j * 4)).block, (adx.add (j * 4)).off + 1, none⟩ v1).frozen? ⟨(adx.add (j * 4)).block, (adx.add (j * 4)).off + 2, none⟩ = false ∧
      (∃ c, (((W.setCell (adx.add (j * 4)) v0).setCell ⟨(adx.add (j * 4)).block, (adx.add (j * 4)).off + 1, none⟩ v1).setCell ⟨(adx.add (j * 4)).block, (adx.add (j * 4)).off + 2, none⟩ v2).cell? ⟨(adx.add (j * 4)).block, (adx.add (j * 4)).off + 3, none⟩ = some c) ∧ (((W.setCell (adx.add (j * 4)) v0).setCell ⟨(adx.add (j * 4)).block, (adx.add (j * 4)).off + 1, none⟩ v1).setCell ⟨(adx.add (j * 4)).block, (adx.add (j * 4)).off + 2, none⟩ v2).frozen? ⟨(adx.add (j * 4)).block, (adx.add (j * 4)).off + 3, none⟩ = false := by
  subst hadx
  rw [add_plain] at hu ⊢
  dsimp only at hu ⊢
  rw [blk_cell hb] at hu
  have hs : j * 4 + 3 < cs.size := (Array.getElem?_eq_some_iff.1 hu).1
  have b1 := blk_put hb (j * 4) v0 rfl
  have b2 := blk_put b1 (j * 4 + 1) v1 rfl
  have b3 := blk_put b2 (j * 4 + 2) v2 rfl
  refine ⟨blk_frozen hb _, ⟨_, (blk_cell b1 _).trans (Array.getElem?_eq_getElem (by simp only [Array.size_setIfInBounds]; omega))⟩, blk_frozen b1 _, ⟨_, (blk_cell b2 _).trans (Array.getElem?_eq_getElem (by simp only [Array.size_setIfInBounds]; omega))⟩, blk_frozen b2 _, ⟨_, (blk_cell b3 _).trans (Array.getElem?_eq_getElem (by simp only [Array.size_setIfInBounds]; omega))⟩, blk_frozen b3 _⟩
/-- a function put into a row of the call's own -/
theorem put_row {W : World} {base g cap j cv : Nat} {l : List S44} {ok : Nat → Prop} {q : S44} {A : Option Addr} {adx : Addr} (hadx : adx = ⟨g, 0, none⟩) (h : Kd.N k44 44 W base ok (.slice (some adx) l.length cap) l) (hj : j < l.length) (hle : q.f3.length ≤ cv) :
    let W' := (((W.setCell (adx.add (j * 4)) (.int .i64 q.f0)).setCell ⟨(adx.add (j * 4)).block, (adx.add (j * 4)).off + 1, none⟩ (.int .i64 q.f1)).setCell ⟨(adx.add (j * 4)).block, (adx.add (j * 4)).off + 2, none⟩ (.int .i64 q.f2)).setCell ⟨(adx.add (j * 4)).block, (adx.add (j * 4)).off + 3, none⟩ (.slice A q.f3.length cv)
    (∀ k, k ≠ g → W'.heap[k]? = W.heap[k]?) ∧ (Kd.C k32 W' A q.f3.length q.f3 → Kd.C k44 W' (some adx) (l.set j q).length (l.set j q)) := by
  intro W'
  subst hadx
  obtain ⟨cs, hcs⟩ := Kd.N_typed h g (by simp [Value.ownBlock])
  obtain ⟨ad, A3, c3, e, _, _, _, hu, _⟩ := at_T44 (Kd.N_reads' h).2.2 (j : Int) (by omega) (by omega)
  injection e with e
  subst e
  rw [Int.toNat_natCast, add_plain] at hu
  dsimp only at hu
  rw [blk_cell hcs] at hu
  have hs : j * 4 + 3 < cs.size := (Array.getElem?_eq_some_iff.1 hu).1
  have hW : W' = (((W.setCell ⟨g, j * 4, none⟩ (.int .i64 q.f0)).setCell ⟨g, j * 4 + 1, none⟩ (.int .i64 q.f1)).setCell ⟨g, j * 4 + 2, none⟩ (.int .i64 q.f2)).setCell ⟨g, j * 4 + 3, none⟩ (.slice A q.f3.length cv) := by
    show (((W.setCell ((⟨g, 0, none⟩ : Addr).add (j * 4)) _).setCell ⟨((⟨g, 0, none⟩ : Addr).add (j * 4)).block, _, none⟩ _).setCell _ _).setCell _ _ = _
    rw [add_plain]
  obtain ⟨r, r0, r1, r2, r3, ro⟩ := four hcs hs (.int .i64 q.f0) (.int .i64 q.f1) (.int .i64 q.f2) (.slice A q.f3.length cv)
  rw [← hW] at r r0 r1 r2 r3 ro
  exact ⟨r, fun hC => by rw [List.length_set]; exact set_rows h hj hle hC r r0 r1 r2 r3 ro⟩
section
variable {A0 : Option Addr} {c0 : Nat} {l0 : List Int} {A1 : Option Addr} {c1 : Nat} {l1 : List ByteArray} {A2 : Option Addr} {c2 : Nat} {l2 : List S44} {A3 : Option Addr} {c3 : Nat} {l3 : List S41}
variable {B0 B1 B2 B3 : Option Addr} {d0 d1 d2 d3 m0 m1 m2 m3 : Nat} {n : Int} {s : ByteArray} {q : S44}
theorem mod_F {W : World} {ok : Nat → Prop} (f0 : Kd.F (Kd.int .i64) W ok B0 m0 l0) (e0 : m0 = l0.length) (k0 : m0 ≤ d0) (f1 : Kd.F Kd.string W ok B1 m1 l1) (e1 : m1 = l1.length) (k1 : m1 ≤ d1) (f2 : Kd.F k44 W ok B2 m2 l2) (e2 : m2 = l2.length) (k2 : m2 ≤ d2) (h3 : l3.length ≤ c3) (f3 : Kd.C k41 W A3 l3.length l3) :
    ModIs W B0 d0 l0 B1 d1 l1 B2 d2 l2 A3 c3 l3 := by
  subst e0 e1 e2
  exact ⟨Kd.F_now f0, k0, Kd.F_now f1, k1, Kd.F_now f2, k2, f3, h3⟩
theorem refMay_calls19 (w : World) (h : Pure.FitM l0 l1 l2 l3) (hmd : ModIs w A0 c0 l0 A1 c1 l1 A2 c2 l2 A3 c3 l3) :
    Calls Tryd.prog 25 #[.agg #[.slice A0 l0.length c0, .slice A1 l1.length c1, .slice A2 l2.length c2, .slice A3 l3.length c3]] w fun e w' => e = .returned (.bool (mayS (Pure.insM l0 l1 l2 l3) l0 l1 l2 l3)) ∧ Below w.heap.size w w' := by
  obtain ⟨N, hN⟩ := Pure.may_ref l0 l1 l2 l3 h
  exact sacristanref09_May.calls N A0 c0 l0 A1 c1 l1 A2 c2 l2 A3 c3 l3 _ w hmd.r0 hmd.h0 hmd.r1 hmd.h1 hmd.r2 hmd.h2 hmd.r3 hmd.h3 (hN N (Nat.le_refl _))
theorem deps {W : World} (h : Pure.FitM l0 l1 l2 l3) (hsz : ∀ t ∈ l1, t.size ≤ reachBytes) (hM : MaxOk W) (hk : ModIs W A0 c0 l0 A1 c1 l1 A2 c2 l2 A3 c3 l3) (n : Int) :
    Calls Tryd.prog 32 #[.agg #[.slice A0 l0.length c0, .slice A1 l1.length c1, .slice A2 l2.length c2, .slice A3 l3.length c3], .int .i64 n] W fun e w' => ∃ V d, e = .returned (.slice V (Pure.depthsS l0 l1 l2 l3 n).length d) ∧ (Pure.depthsS l0 l1 l2 l3 n).length ≤ 9223372036854775807 ∧ Below W.heap.size W w' :=
  (Pure.Depths_calls W h hsz hM hk n).mono fun e w' ⟨v, he, hr, hb⟩ => by
    obtain ⟨V, d, ev⟩ := Kd.R_slice hr
    subst ev
    have hh := (Kd.R_reads' hr).2.2.2.1
    exact ⟨V, d, he, hh, hb⟩
theorem deps_q {W : World} {j : Nat} (h : Pure.FitM l0 l1 (l2.set j q) l3) (hsz : ∀ t ∈ l1, t.size ≤ reachBytes) (hM : MaxOk W) (hk : ModIs W A0 c0 l0 A1 c1 l1 A2 c2 (l2.set j q) A3 c3 l3) (n : Int) :
    Calls Tryd.prog 32 #[.agg #[.slice A0 l0.length c0, .slice A1 l1.length c1, .slice A2 l2.length c2, .slice A3 l3.length c3], .int .i64 n] W fun e w' => ∃ V d, e = .returned (.slice V (Pure.depthsS l0 l1 (l2.set j q) l3 n).length d) ∧ (Pure.depthsS l0 l1 (l2.set j q) l3 n).length ≤ 9223372036854775807 ∧ Below W.heap.size W w' := by
  have := deps h hsz hM hk n
  rwa [List.length_set] at this
theorem great28 (w : World) (hmd : ModIs w A0 c0 l0 A1 c1 l1 A2 c2 l2 A3 c3 l3) : ∃ b, Calls Tryd.prog 28 #[.agg #[.slice A0 l0.length c0, .slice A1 l1.length c1, .slice A2 l2.length c2, .slice A3 l3.length c3]] w (fun e w' => e = .returned (.bool b) ∧ Below w.heap.size w w') ∧ (b = false → Pure.greatS l0 l1 l2 l3 = false) := by
  obtain ⟨b, ⟨N, hN⟩, hg⟩ := Pure.great11 (l0 := l0) (l1 := l1) (l2 := l2) (l3 := l3)
  exact ⟨b, sacristanlaw11_great.calls N A0 c0 l0 A1 c1 l1 A2 c2 l2 A3 c3 l3 b w hmd.r0 hmd.h0 hmd.r1 hmd.h1 hmd.r2 hmd.h2 hmd.r3 hmd.h3 (hN N (Nat.le_refl _)), hg⟩
set_option maxHeartbeats 6400000 in
set_option maxRecDepth 1000000 in
theorem verifyPairs_bad (i : Int) (w : World) (hmd : ModIs w A0 c0 l0 A1 c1 l1 A2 c2 l2 A3 c3 l3) (hM : MaxOk w) (h : Pure.FitM l0 l1 l2 l3) (hsz : ∀ t ∈ l1, t.size ≤ reachBytes)
    (b_ : Bool) (hgc : Calls Tryd.prog 28 #[.agg #[.slice A0 l0.length c0, .slice A1 l1.length c1, .slice A2 l2.length c2, .slice A3 l3.length c3]] (w.alloc (.cells #[.slice A0 l0.length c0, .slice A1 l1.length c1, .slice A2 l2.length c2, .slice A3 l3.length c3] 30 (0, 0))) (fun e w' => e = .returned (.bool b_) ∧ Below (w.alloc (.cells #[.slice A0 l0.length c0, .slice A1 l1.length c1, .slice A2 l2.length c2, .slice A3 l3.length c3] 30 (0, 0))).heap.size (w.alloc (.cells #[.slice A0 l0.length c0, .slice A1 l1.length c1, .slice A2 l2.length c2, .slice A3 l3.length c3] 30 (0, 0))) w')) (hbad : b_ = true ∨ mayS (Pure.insM l0 l1 l2 l3) l0 l1 l2 l3 = false) :
    Calls Tryd.prog 11 #[.agg #[.slice A0 l0.length c0, .slice A1 l1.length c1, .slice A2 l2.length c2, .slice A3 l3.length c3], .int .u8 i] w fun e w' => e = .returned (.bool true) ∧ Below w.heap.size w w' := by
  have hA := (Below.refl w.heap.size w).alloc (Nat.le_refl _) (.cells #[.slice A0 l0.length c0, .slice A1 l1.length c1, .slice A2 l2.length c2, .slice A3 l3.length c3] 30 (0, 0))
  have hG := blk_new w (.cells #[.slice A0 l0.length c0, .slice A1 l1.length c1, .slice A2 l2.length c2, .slice A3 l3.length c3] 30 (0, 0))
  have HA := Aside0.mk hA
  have HG := Aside0.mk hG
  have HH := Aside0.mk h
  have HMX := Aside0.mk hM
  have HMD := Aside0.mk hmd
  have HGC := Aside0.mk hgc
  have g0 := (blk_cell hG 0).trans rfl
  have g1 := (blk_cell hG 1).trans rfl
  have g2 := (blk_cell hG 2).trans rfl
  have g3 := (blk_cell hG 3).trans rfl
  clear hA hG h hM hmd hsz hgc
  cases hbb : b_ with
  | true =>
    have HBB := Aside0.mk hbb
    clear hbb hbad
    go_enter Tryd.func11, Tryd.ntmps11
    go_wp2_with (first | (go_at_call 28; go_loud (refine HGC.out.mono ?_); rintro e w1 ⟨rfl, hb1⟩; rw [HBB.out]; have HB1 := Aside0.mk (below_then HA.out HA.out.size hb1); clear hb1) | (go_at_call 29; go_loud (refine (sacristanlaw11_awake.calls true _ (HMX.out.below HB1.out) Pure.awake11).mono ?_); rintro e w7 ⟨rfl, hb7⟩))
    go_ret
    exact ⟨rfl, below_then HB1.out HB1.out.size hb7⟩
  | false =>
    have HBB := Aside0.mk hbb
    have hm : mayS (Pure.insM l0 l1 l2 l3) l0 l1 l2 l3 = false := by
      rcases hbad with h | h
      · rw [hbb] at h; cases h
      · exact h
    have HMAY := Aside0.mk hm
    clear hbb hbad hm
    go_enter Tryd.func11, Tryd.ntmps11
    go_wp2_with (first | (go_at_call 28; go_loud (refine HGC.out.mono ?_); rintro e w1 ⟨rfl, hb1⟩; rw [HBB.out]; have HB1 := Aside0.mk (below_then HA.out HA.out.size hb1); have HG1 := Aside0.mk (blk_below HG.out hb1); have z0 := (blk_cell (HG1.out) 0).trans rfl; have z1 := (blk_cell (HG1.out) 1).trans rfl; have z2 := (blk_cell (HG1.out) 2).trans rfl; have z3 := (blk_cell (HG1.out) 3).trans rfl; clear hb1) | (go_at_call 25; go_loud (refine (refMay_calls19 _ HH.out (HMD.out.below HB1.out)).mono ?_); rintro e w2 ⟨rfl, hb2⟩; rw [HMAY.out]; have HB2 := Aside0.mk (below_then HB1.out HB1.out.size hb2); clear hb2) | (go_at_call 29; go_loud (refine (sacristanlaw11_awake.calls true _ (HMX.out.below HB2.out) Pure.awake11).mono ?_); rintro e w7 ⟨rfl, hb7⟩))
    go_ret
    exact ⟨rfl, below_then HB2.out HB2.out.size hb7⟩
set_option maxHeartbeats 6400000 in
set_option maxRecDepth 1000000 in
theorem verifyPairs_calls (i : Int) (w : World) (hi : 0 ≤ i ∧ i ≤ 255) (hmd : ModIs w A0 c0 l0 A1 c1 l1 A2 c2 l2 A3 c3 l3) (hM : MaxOk w) (h : Pure.FitM l0 l1 l2 l3) (hsz : ∀ t ∈ l1, t.size ≤ reachBytes) (hmay : mayS (Pure.insM l0 l1 l2 l3) l0 l1 l2 l3 = true)
    (b_ : Bool) (hgc : Calls Tryd.prog 28 #[.agg #[.slice A0 l0.length c0, .slice A1 l1.length c1, .slice A2 l2.length c2, .slice A3 l3.length c3]] (w.alloc (.cells #[.slice A0 l0.length c0, .slice A1 l1.length c1, .slice A2 l2.length c2, .slice A3 l3.length c3] 30 (0, 0))) (fun e w' => e = .returned (.bool b_) ∧ Below (w.alloc (.cells #[.slice A0 l0.length c0, .slice A1 l1.length c1, .slice A2 l2.length c2, .slice A3 l3.length c3] 30 (0, 0))).heap.size (w.alloc (.cells #[.slice A0 l0.length c0, .slice A1 l1.length c1, .slice A2 l2.length c2, .slice A3 l3.length c3] 30 (0, 0))) w')) (hbb : b_ = false) (hgr : Pure.greatS l0 l1 l2 l3 = false) :
    Calls Tryd.prog 11 #[.agg #[.slice A0 l0.length c0, .slice A1 l1.length c1, .slice A2 l2.length c2, .slice A3 l3.length c3], .int .u8 i] w fun e w' => e = .returned (.bool true) ∧ Below w.heap.size w w' := by
  have hA := (Below.refl w.heap.size w).alloc (Nat.le_refl _) (.cells #[.slice A0 l0.length c0, .slice A1 l1.length c1, .slice A2 l2.length c2, .slice A3 l3.length c3] 30 (0, 0))
  have hG := blk_new w (.cells #[.slice A0 l0.length c0, .slice A1 l1.length c1, .slice A2 l2.length c2, .slice A3 l3.length c3] 30 (0, 0))
  have hlen : l0.length ≤ 300 ∧ l1.length ≤ 300 ∧ l2.length ≤ 300 ∧ l3.length ≤ 300 := by
    unfold Pure.greatS at hgr
    have := of_decide_eq_false hgr
    omega
  have HL2 := Aside0.mk hlen.2.2.1
  have hl2b := hlen.2.2.1
  have hne : l2 ≠ [] := (Pure.may_good hmay).2.2
  have hpos : 0 < l2.length := List.length_pos_iff.2 hne
  obtain ⟨j, hj⟩ : ∃ j : Nat, (j : Int) = i % (l2.length : Int) := ⟨(i % (l2.length : Int)).toNat, by have := Int.emod_nonneg i (b := (l2.length : Int)) (by omega); omega⟩
  have hjl : j < l2.length := by have := Int.emod_lt_of_pos i (b := (l2.length : Int)) (by omega); omega
  obtain ⟨ad, B, b, ea, p0, p1, p2, p3, hlb, hCB⟩ := at_T44 hmd.r2 (j : Int) (by omega) (by omega)
  rw [Int.toNat_natCast] at p0 p1 p2 p3
  have hgood := Pure.good_of ((Pure.may_good hmay).1 _ (List.getElem_mem hjl))
  have hpd := Pure.pairs_depths hmay hjl
  have hfq := Pure.fit_q h hmay hjl
  have hrd : rd_T44 l2 (j : Int) = l2[j] := Pure.rd44 hjl
  rw [hrd] at p0 p1 p2 p3 hlb hCB
  generalize l2[j] = p at p0 p1 p2 p3 hlb hCB hgood hpd hfq hrd
  subst ea
  have hj1 : i % (l2.length : Int) = (j : Int) := hj.symm
  have hj2 : Int.tmod i (l2.length : Int) = (j : Int) := by rw [Int.tmod_eq_emod_of_nonneg hi.1]; exact hj.symm
  have hj3 : (j : Int) < (l2.length : Int) := by omega
  have P0 := Aside0.mk p0
  have P1 := Aside0.mk p1
  have P2 := Aside0.mk p2
  have P3 := Aside0.mk p3
  have HLB := Aside0.mk hlb
  have HCB := Aside0.mk hCB
  have HGD := Aside0.mk hgood
  have HPD := Aside0.mk hpd
  have HFQ := Aside0.mk hfq
  have HRD := Aside0.mk hrd
  have HA := Aside0.mk hA
  have HG := Aside0.mk hG
  have HH := Aside0.mk h
  have HMX := Aside0.mk hM
  have HMD := Aside0.mk hmd
  have HSZ := Aside0.mk hsz
  have HMAY := Aside0.mk hmay
  have HGC := Aside0.mk hgc
  have HBB := Aside0.mk hbb
  have hi0 := hi.1
  have hi1 := hi.2
  have hwi : IntKind.i64.wrap i = i := by rw [IntKind.wrap_i64]; omega
  have hnb := hgood.few
  have g0 := (blk_cell hG 0).trans rfl
  have g1 := (blk_cell hG 1).trans rfl
  have g2 := (blk_cell hG 2).trans rfl
  have g3 := (blk_cell hG 3).trans rfl
  clear hA hG hlen hmay hj p0 p1 p2 p3 hlb hCB h hM hmd hsz hgc hbb hgr hi hgood hpd hfq hrd
  go_enter Tryd.func11, Tryd.ntmps11
  go_wp2_with (first | (go_at_call 28; go_loud (refine HGC.out.mono ?_); rintro e w1 ⟨rfl, hb1⟩; rw [HBB.out]; have HB1 := Aside0.mk (below_then HA.out HA.out.size hb1); have HG1 := Aside0.mk (blk_below HG.out hb1); have z0 := (blk_cell (HG1.out) 0).trans rfl; have z1 := (blk_cell (HG1.out) 1).trans rfl; have z2 := (blk_cell (HG1.out) 2).trans rfl; have z3 := (blk_cell (HG1.out) 3).trans rfl; clear hb1) | (go_at_call 25; go_loud (refine (refMay_calls19 _ HH.out (HMD.out.below HB1.out)).mono ?_); rintro e w2 ⟨rfl, hb2⟩; rw [HMAY.out]; have HB2 := Aside0.mk (below_then HB1.out HB1.out.size hb2); have HG2 := Aside0.mk (blk_below HG1.out hb2); have b2 := (blk_cell HG2.out 2).trans rfl; have e0 := (HB2.out.cell (World.block_lt_of_cell? w _ P0.out)).trans P0.out; have e1 := (HB2.out.cell (World.block_lt_of_cell? w _ P1.out)).trans P1.out; have e2 := (HB2.out.cell (World.block_lt_of_cell? w _ P2.out)).trans P2.out; have e3 := (HB2.out.cell (World.block_lt_of_cell? w _ P3.out)).trans P3.out; clear hb2))
  have hs0 : (w2.alloc (.cells #[.int .i64 p.f0, .int .i64 p.f1, .int .i64 p.f2, .slice B p.f3.length b] 44)).heap.size = w2.heap.size + 1 := World.size_alloc _ _
  have hPB := blk_new w2 (.cells #[.int .i64 p.f0, .int .i64 p.f1, .int .i64 p.f2, .slice B p.f3.length b] 44)
  have hBW := HB2.out.alloc HB2.out.size (.cells #[.int .i64 p.f0, .int .i64 p.f1, .int .i64 p.f2, .slice B p.f3.length b] 44)
  have hGW := blk_below HG2.out (below_alloc (Below.refl _ _) (.cells #[.int .i64 p.f0, .int .i64 p.f1, .int .i64 p.f2, .slice B p.f3.length b] 44))
  rw [← hs0]
  generalize w2.alloc (.cells #[.int .i64 p.f0, .int .i64 p.f1, .int .i64 p.f2, .slice B p.f3.length b] 44) = W0 at hs0 hPB hBW hGW
  have HS0 := Aside0.mk hs0
  have HPB := Aside0.mk hPB
  have HBW := Aside0.mk hBW
  have HGW := Aside0.mk hGW
  clear hs0 hPB hBW hGW e0 e1 e2 e3 b2
  obtain ⟨n, hn⟩ : ∃ n : Nat, n = p.f3.length := ⟨_, rfl⟩
  go_loopw [8] (fun s8 wr => ∃ i : Nat, i ≤ p.f3.length ∧ s8 = .int .i64 (i : Int) ∧ Aside0 (∃ v, PIs W0 wr W0.heap.size p.f0 p.f1 p.f2 ([⟨3, 0⟩, ⟨15, 0⟩] ++ (p.f3.take i).map Pure.shiftI) v)) (fun s8 _ => p.f3.length - (intOf s8).toNat)
  case atStart => exact ⟨0, by omega, rfl, ⟨_, blk_below (blk_new W0 _) (below_alloc (Below.refl _ _) _), by
    have h := lit_R (W0.alloc (.cells #[.int .i64 p.f0, .int .i64 p.f1, .int .i64 p.f2, .slice (some ⟨W0.heap.size + 1, 0, none⟩) 2 2] 44)) [⟨3, 0⟩, ⟨15, 0⟩] #[.int .u8 3, .int .i64 0, .int .u8 15, .int .i64 0] rfl (by decide) W0.heap.size (by rw [World.size_alloc]; omega) (fun k => k ≠ W0.heap.size) (by rw [World.size_alloc]; omega)
    rw [World.size_alloc] at h
    exact h, ((Below.refl _ _).alloc (Nat.le_refl _) _).alloc (by rw [World.size_alloc]; omega) _, Nat.le_refl _⟩⟩
  case round =>
    obtain ⟨i, hi, rfl, ⟨v, HP⟩⟩ := hrel
    have HWR := Aside0.mk (below_then HBW.out HBW.out.size HP.old)
    have HPQ := Aside0.mk (blk_below HPB.out HP.old)
    have u3 : wr.cell? ⟨w2.heap.size, 3, none⟩ = some (.slice B p.f3.length b) := (blk_cell HPQ.out 3).trans rfl
    have b3 : wr.cell? ⟨W0.heap.size, 3, none⟩ = some v := (blk_cell HP.blk 3).trans rfl
    by_cases hlt : i < p.f3.length
    · obtain ⟨adc, ec, y0, y1⟩ := at_T32 (Kd.F_now (Kd.F_below (Kd.C_F k32_heap HCB.out) HWR.out)) (i : Int) (by omega) (by omega)
      rw [Int.toNat_natCast] at y0 y1
      subst ec
      have HPP := Aside0.mk HP
      clear HP
      have HJB := Aside0.mk (fun h => jump_b HGD.out hlt h)
      clear b3
      obtain ⟨a0, a1, hx⟩ : ∃ a0 a1, rd_T32 p.f3 (i : Int) = ⟨a0, a1⟩ := ⟨_, _, rfl⟩
      have HX := Aside0.mk hx
      clear hx
      by_cases h13 : a0 = 13
      · subst h13
        have HSY : Aside0 (Pure.shiftI (rd_T32 p.f3 (i : Int)) = ⟨13, a1 + 2⟩) := ⟨by rw [HX.out]; exact if_pos (.inl rfl)⟩
        rw [HX.out] at y0 y1
        have hwx : wrap64 (a1 + 2) = a1 + 2 := by have := HJB.out (by rw [HX.out]; exact .inl rfl); rw [HX.out] at this; unfold wrap64; dsimp only at this; omega
        have bx3 : (wr.alloc (.cells #[.int .u8 13, .int .i64 (a1 + 2)] 32)).cell? ⟨W0.heap.size, 3, none⟩ = some v := (blk_cell (blk_below HPP.out.blk (below_alloc (Below.refl _ _) _)) 3).trans rfl
        go_wp2_with ((with_reducible refine gate_builtin (b := .append) (xs := #[.tmp 62, .tmp 64]) rfl ?_); at_builtin; go_loud (refine Kd.R_append k32 (w0 := W0) W0.heap.size rfl (.tmp 62) (.tmp 64) 42 32 (.agg #[.int .u8 0, .int .i64 0]) 16 rfl Tryd.underlying42 info32 rfl (by decide) (by omega) v ([⟨3, 0⟩, ⟨15, 0⟩] ++ (p.f3.take i).map Pure.shiftI) ⟨13, a1 + 2⟩ [.int .u8 13, .int .i64 (a1 + 2)] (fun q => q ≠ W0.heap.size) (fun _ => False) rfl (by rw [World.size_alloc]; rfl) ?aP (fun _ hk => hk.elim) ?aF ?aO ?aB ?aS ?aL ?_; (case aP => exact k32_mkM _ _ _ ⟨13, a1 + 2⟩); (case aF => exact fun q hq => by have := blk_lt HPP.out.blk; rw [World.size_alloc] at hq; omega); (case aO => exact Kd.R_alloc HPP.out.row _); (case aB => exact HPP.out.old.alloc HPP.out.old.size _); (case aS => exact (HPP.out.old.alloc HPP.out.old.size _).size); (case aL => simp only [List.length_append, List.length_cons, List.length_nil, List.length_map, List.length_take]; omega); intro v1 w1 hr hb hg hat); go_loud (obtain ⟨z3, zf, hQ, Av, mv, cv, ev⟩ := (HPP.out.below (below_alloc (Below.refl _ _) _)).push hr hb hg; have HQ := Aside0.mk hQ; clear hr hb hg hat hQ; subst ev))
        go_roundw
        case rel => exact ⟨i + 1, by omega, by go_num, ⟨_, by rw [← shift_take hlt HSY.out]; exact HQ.out⟩⟩
        case measure => simp [intOf]; omega
      by_cases h14 : a0 = 14
      · subst h14
        have HSY : Aside0 (Pure.shiftI (rd_T32 p.f3 (i : Int)) = ⟨14, a1 + 2⟩) := ⟨by rw [HX.out]; exact if_pos (.inr rfl)⟩
        rw [HX.out] at y0 y1
        have hwx : wrap64 (a1 + 2) = a1 + 2 := by have := HJB.out (by rw [HX.out]; exact .inr rfl); rw [HX.out] at this; unfold wrap64; dsimp only at this; omega
        have bx3 : (wr.alloc (.cells #[.int .u8 14, .int .i64 (a1 + 2)] 32)).cell? ⟨W0.heap.size, 3, none⟩ = some v := (blk_cell (blk_below HPP.out.blk (below_alloc (Below.refl _ _) _)) 3).trans rfl
        go_wp2_with ((with_reducible refine gate_builtin (b := .append) (xs := #[.tmp 62, .tmp 64]) rfl ?_); at_builtin; go_loud (refine Kd.R_append k32 (w0 := W0) W0.heap.size rfl (.tmp 62) (.tmp 64) 42 32 (.agg #[.int .u8 0, .int .i64 0]) 16 rfl Tryd.underlying42 info32 rfl (by decide) (by omega) v ([⟨3, 0⟩, ⟨15, 0⟩] ++ (p.f3.take i).map Pure.shiftI) ⟨14, a1 + 2⟩ [.int .u8 14, .int .i64 (a1 + 2)] (fun q => q ≠ W0.heap.size) (fun _ => False) rfl (by rw [World.size_alloc]; rfl) ?aP (fun _ hk => hk.elim) ?aF ?aO ?aB ?aS ?aL ?_; (case aP => exact k32_mkM _ _ _ ⟨14, a1 + 2⟩); (case aF => exact fun q hq => by have := blk_lt HPP.out.blk; rw [World.size_alloc] at hq; omega); (case aO => exact Kd.R_alloc HPP.out.row _); (case aB => exact HPP.out.old.alloc HPP.out.old.size _); (case aS => exact (HPP.out.old.alloc HPP.out.old.size _).size); (case aL => simp only [List.length_append, List.length_cons, List.length_nil, List.length_map, List.length_take]; omega); intro v1 w1 hr hb hg hat); go_loud (obtain ⟨z3, zf, hQ, Av, mv, cv, ev⟩ := (HPP.out.below (below_alloc (Below.refl _ _) _)).push hr hb hg; have HQ := Aside0.mk hQ; clear hr hb hg hat hQ; subst ev))
        go_roundw
        case rel => exact ⟨i + 1, by omega, by go_num, ⟨_, by rw [← shift_take hlt HSY.out]; exact HQ.out⟩⟩
        case measure => simp [intOf]; omega
      · skip
        have HSY : Aside0 (Pure.shiftI (rd_T32 p.f3 (i : Int)) = ⟨a0, a1⟩) := ⟨by rw [HX.out]; exact if_neg (fun h => h.elim h13 h14)⟩
        rw [HX.out] at y0 y1
        have d13 : (a0 == 13) = false := beq_eq_false_iff_ne.2 h13
        have d14 : (a0 == 14) = false := beq_eq_false_iff_ne.2 h14
        have bx3 : (wr.alloc (.cells #[.int .u8 a0, .int .i64 (a1)] 32)).cell? ⟨W0.heap.size, 3, none⟩ = some v := (blk_cell (blk_below HPP.out.blk (below_alloc (Below.refl _ _) _)) 3).trans rfl
        go_wp2_with ((with_reducible refine gate_builtin (b := .append) (xs := #[.tmp 62, .tmp 64]) rfl ?_); at_builtin; go_loud (refine Kd.R_append k32 (w0 := W0) W0.heap.size rfl (.tmp 62) (.tmp 64) 42 32 (.agg #[.int .u8 0, .int .i64 0]) 16 rfl Tryd.underlying42 info32 rfl (by decide) (by omega) v ([⟨3, 0⟩, ⟨15, 0⟩] ++ (p.f3.take i).map Pure.shiftI) ⟨a0, a1⟩ [.int .u8 a0, .int .i64 (a1)] (fun q => q ≠ W0.heap.size) (fun _ => False) rfl (by rw [World.size_alloc]; rfl) ?aP (fun _ hk => hk.elim) ?aF ?aO ?aB ?aS ?aL ?_; (case aP => exact k32_mkM _ _ _ ⟨a0, a1⟩); (case aF => exact fun q hq => by have := blk_lt HPP.out.blk; rw [World.size_alloc] at hq; omega); (case aO => exact Kd.R_alloc HPP.out.row _); (case aB => exact HPP.out.old.alloc HPP.out.old.size _); (case aS => exact (HPP.out.old.alloc HPP.out.old.size _).size); (case aL => simp only [List.length_append, List.length_cons, List.length_nil, List.length_map, List.length_take]; omega); intro v1 w1 hr hb hg hat); go_loud (obtain ⟨z3, zf, hQ, Av, mv, cv, ev⟩ := (HPP.out.below (below_alloc (Below.refl _ _) _)).push hr hb hg; have HQ := Aside0.mk hQ; clear hr hb hg hat hQ; subst ev))
        go_roundw
        case rel => exact ⟨i + 1, by omega, by go_num, ⟨_, by rw [← shift_take hlt HSY.out]; exact HQ.out⟩⟩
        case measure => simp [intOf]; omega
    · obtain rfl : i = p.f3.length := by omega
      have hl : [⟨3, 0⟩, ⟨15, 0⟩] ++ (p.f3.take p.f3.length).map Pure.shiftI = (Pure.qOf p).f3 := by rw [List.take_length]; rfl
      rw [hl] at HP
      obtain ⟨Av, cv, ev⟩ := Kd.R_slice HP.row
      subst ev
      have HGR := Aside0.mk (blk_below HGW.out HP.old)
      have g0 := (blk_cell HGR.out 0).trans rfl
      have g1 := (blk_cell HGR.out 1).trans rfl
      have g2 := (blk_cell HGR.out 2).trans rfl
      have g3 := (blk_cell HGR.out 3).trans rfl
      have k2 : (wr.alloc (.cells #[.slice A0 l0.length c0, .slice A1 l1.length c1, .slice (some ad) l2.length c2, .slice A3 l3.length c3] 30)).cell? ⟨w.heap.size, 2, none⟩ = some (.slice (some ad) l2.length c2) := (blk_cell (blk_below HGR.out (below_alloc (Below.refl _ _) _)) 2).trans rfl
      have j2 : ((wr.alloc (.cells #[.slice A0 l0.length c0, .slice A1 l1.length c1, .slice (some ad) l2.length c2, .slice A3 l3.length c3] 30)).alloc (.cells #[] 44)).cell? ⟨w.heap.size, 2, none⟩ = some (.slice (some ad) l2.length c2) := (blk_cell (blk_below (blk_below HGR.out (below_alloc (Below.refl _ _) _)) (below_alloc (Below.refl _ _) _)) 2).trans rfl
      have d1 : decide ((p.f3.length : Int) < (p.f3.length : Int)) = false := decide_eq_false (by omega)
      have HPP := Aside0.mk HP
      clear HP hl
      go_wp2_with ((with_reducible refine gate_builtin (b := .append) (xs := #[.tmp 68, .tmp 70]) rfl ?_); at_builtin; go_loud (refine Kd.N_append_rows k44 (w0 := wr.alloc (.cells #[.slice A0 l0.length c0, .slice A1 l1.length c1, .slice (some ad) l2.length c2, .slice A3 l3.length c3] 30)) (wr.alloc (.cells #[.slice A0 l0.length c0, .slice A1 l1.length c1, .slice (some ad) l2.length c2, .slice A3 l3.length c3] 30)).heap.size rfl (.tmp 68) (.tmp 70) 27 44 (.agg #[(.int .i64 0), (.int .i64 0), (.int .i64 0), (.slice none 0 0)]) 48 rfl Tryd.underlying27 info44 rfl (by decide) (by omega) (.slice (some ⟨wr.heap.size + 1, 0, none⟩) 0 0) [] l2 (some ad) l2.length c2 (fun k => k ≠ wr.heap.size) (fun k => k < w.heap.size) rfl rfl ?aO ?aR ?aK ?aF ?aB ?aS ?aL ?_; (case aO => exact emp_N k44 44 _ _ _ (by rw [World.size_alloc]) (Nat.le_refl _) _ (by rw [World.size_alloc]; omega)); (case aR => exact Kd.F_below (Kd.F_below (Kd.F_below (Kd.C_F k44_heap HMD.out.r2) HWR.out) (below_alloc (Below.refl _ _) _)) (below_alloc (Below.refl _ _) _)); (case aK => exact fun k hk => ⟨by have := HWR.out.size; omega, by have := HWR.out.size; simp [Value.ownBlock]; omega⟩); (case aF => exact fun k hk => by rw [World.size_alloc, World.size_alloc] at hk; omega); (case aB => exact (Below.refl _ _).alloc (Nat.le_refl _) _); (case aS => exact (below_alloc (Below.refl _ _) _).size); (case aL => simp only [List.length_nil, Nat.zero_add]; omega); intro v1 w1 hn hb hg hat); go_loud (simp only [List.nil_append] at hn; obtain ⟨gq, cap, ev, hgq, _, _, _⟩ := Kd.N_form hn hpos; subst ev; obtain ⟨adx, hadx⟩ : ∃ a : Addr, a = ⟨gq, 0, none⟩ := ⟨_, rfl⟩; rw [← hadx] at hn ⊢; rw [World.size_alloc] at hgq; have hBW := below_then (below_alloc (Below.refl wr.heap.size wr) (.cells #[.slice A0 l0.length c0, .slice A1 l1.length c1, .slice (some ad) l2.length c2, .slice A3 l3.length c3] 30)) (below_alloc (Below.refl wr.heap.size wr) (.cells #[.slice A0 l0.length c0, .slice A1 l1.length c1, .slice (some ad) l2.length c2, .slice A3 l3.length c3] 30)).size hb; have hKB := blk_below (blk_new wr (.cells #[.slice A0 l0.length c0, .slice A1 l1.length c1, .slice (some ad) l2.length c2, .slice A3 l3.length c3] 30)) hb; have z2 : w1.cell? ⟨wr.heap.size, 2, none⟩ = some (.slice (some ad) l2.length c2) := (blk_cell hKB 2).trans rfl; have zf : w1.frozen? ⟨wr.heap.size, 2, none⟩ = false := blk_frozen hKB 2; have HB2' := Aside0.mk (hBW.setCell (p := ⟨wr.heap.size, 2, none⟩) (Nat.le_refl _) (.slice (some adx) l2.length cap)); have HKB2 := Aside0.mk (blk_put hKB 2 (.slice (some adx) l2.length cap) rfl); have HN2 := Aside0.mk (Kd.N_far hn (p := ⟨wr.heap.size, 2, none⟩) (fun k hk => hk) (.slice (some adx) l2.length cap)); have HADX := Aside0.mk hadx; have HGQ := Aside0.mk hgq; have HQ2 := Aside0.mk (HPP.out.below HB2'.out); have s2 : (w1.setCell ⟨wr.heap.size, 2, none⟩ (.slice (some adx) l2.length cap)).cell? ⟨wr.heap.size, 2, none⟩ = some (.slice (some adx) l2.length cap) := (blk_cell HKB2.out 2).trans rfl; have q0 : (w1.setCell ⟨wr.heap.size, 2, none⟩ (.slice (some adx) l2.length cap)).cell? ⟨W0.heap.size, 0, none⟩ = some (.int .i64 p.f0) := (blk_cell HQ2.out.blk 0).trans rfl; have q1 : (w1.setCell ⟨wr.heap.size, 2, none⟩ (.slice (some adx) l2.length cap)).cell? ⟨W0.heap.size, 1, none⟩ = some (.int .i64 p.f1) := (blk_cell HQ2.out.blk 1).trans rfl; have q2 : (w1.setCell ⟨wr.heap.size, 2, none⟩ (.slice (some adx) l2.length cap)).cell? ⟨W0.heap.size, 2, none⟩ = some (.int .i64 p.f2) := (blk_cell HQ2.out.blk 2).trans rfl; have q3 : (w1.setCell ⟨wr.heap.size, 2, none⟩ (.slice (some adx) l2.length cap)).cell? ⟨W0.heap.size, 3, none⟩ = some (.slice Av (Pure.qOf p).f3.length cv) := (blk_cell HQ2.out.blk 3).trans rfl; obtain ⟨ady, A5, c5, ey, y0, y1, y2, y3, _, _⟩ := at_T44 (Kd.N_reads' HN2.out).2.2 (j : Int) (by omega) (by omega); rw [Int.toNat_natCast] at y0 y1 y2 y3; injection ey with ey; subst ey; obtain ⟨cq, hcq⟩ := Kd.N_typed HN2.out gq (by rw [hadx]; simp [Value.ownBlock]); obtain ⟨f0, ⟨x1, t1⟩, f1, ⟨x2, t2⟩, f2, ⟨x3, t3⟩, f3⟩ := stages hadx hcq y3 (.int .i64 p.f0) (.int .i64 p.f1) (.int .i64 p.f2); clear hcq hn hb hg hat hadx hgq hBW hKB))
      obtain ⟨W6, hW6⟩ : ∃ W6, W6 = (((((w1.setCell ⟨wr.heap.size, 2, none⟩ (.slice (some adx) l2.length cap)).setCell (adx.add (j * 4)) (.int .i64 p.f0)).setCell ⟨(adx.add (j * 4)).block, (adx.add (j * 4)).off + 1, none⟩ (.int .i64 p.f1)).setCell ⟨(adx.add (j * 4)).block, (adx.add (j * 4)).off + 2, none⟩ (.int .i64 p.f2)).setCell ⟨(adx.add (j * 4)).block, (adx.add (j * 4)).off + 3, none⟩ (.slice Av (Pure.qOf p).f3.length cv)) := ⟨_, rfl⟩
      rw [← hW6]
      have hrr := Kd.R_reads' HPP.out.row
      have hblk : wr.heap.size ≤ (adx.add (j * 4)).block := by rw [HADX.out, add_plain]; exact Nat.le_of_succ_le HGQ.out
      have hB6 : Below wr.heap.size wr W6 := by
        rw [hW6]
        exact (((HB2'.out.setCell (p := adx.add (j * 4)) hblk _).setCell (p := ⟨(adx.add (j * 4)).block, _, none⟩) hblk _).setCell (p := ⟨(adx.add (j * 4)).block, _, none⟩) hblk _).setCell (p := ⟨(adx.add (j * 4)).block, _, none⟩) hblk _
      have hpr : (∀ k, k ≠ gq → W6.heap[k]? = (w1.setCell ⟨wr.heap.size, 2, none⟩ (.slice (some adx) l2.length cap)).heap[k]?) ∧ (Kd.C k32 W6 Av (Pure.qOf p).f3.length (Pure.qOf p).f3 → Kd.C k44 W6 (some adx) (l2.set j (Pure.qOf p)).length (l2.set j (Pure.qOf p))) := by
        rw [hW6]
        exact put_row (q := Pure.qOf p) HADX.out HN2.out hjl hrr.2.1
      have hK6 := (hpr.1 _ (by have := HGQ.out; omega)).trans HKB2.out
      have hQ6 := HPP.out.below hB6
      have hC6 := hpr.2 (Kd.R_reads' hQ6.row).2.2
      have hM6 := HMD.out.below (below_then HWR.out HWR.out.size hB6)
      have HKM := Aside0.mk (⟨hM6.r0, hM6.h0, hM6.r1, hM6.h1, hC6, by rw [List.length_set]; exact (Kd.N_reads' HN2.out).2.1, hM6.r3, hM6.h3⟩ : ModIs W6 A0 c0 l0 A1 c1 l1 (some adx) cap (l2.set j (Pure.qOf p)) A3 c3 l3)
      have HK6 := Aside0.mk hK6
      have HQ6 := Aside0.mk hQ6.blk
      have HM6 := Aside0.mk hM6
      have HG6 := Aside0.mk (blk_below HGR.out hB6)
      have HB6 := Aside0.mk (below_then HWR.out HWR.out.size hB6)
      clear hW6 hrr hblk hB6 hpr hK6 hQ6 hC6 hM6 s2 q0 q1 q2 q3 y0 y1 y2 y3 f0 f1 f2 f3 t1 t2 t3 g0 g1 g2 g3 k2 j2 u3 HKB2 HN2 HB2' HQ2
      have a0 := (blk_cell HG6.out 0).trans rfl
      have a1 := (blk_cell HG6.out 1).trans rfl
      have a2 := (blk_cell HG6.out 2).trans rfl
      have a3 := (blk_cell HG6.out 3).trans rfl
      have b0 := (blk_cell HK6.out 0).trans rfl
      have b1 := (blk_cell HK6.out 1).trans rfl
      have b2 := (blk_cell HK6.out 2).trans rfl
      have b3 := (blk_cell HK6.out 3).trans rfl
      have S0 : W6.cell? ⟨w.heap.size, 0, none⟩ = some (.slice A0 l0.length c0) ∧ W6.cell? ⟨w.heap.size, 1, none⟩ = some (.slice A1 l1.length c1) ∧ W6.cell? ⟨w.heap.size, 2, none⟩ = some (.slice (some ad) l2.length c2) ∧ W6.cell? ⟨w.heap.size, 3, none⟩ = some (.slice A3 l3.length c3) ∧ W6.cell? ⟨wr.heap.size, 0, none⟩ = some (.slice A0 l0.length c0) ∧ W6.cell? ⟨wr.heap.size, 1, none⟩ = some (.slice A1 l1.length c1) ∧ W6.cell? ⟨wr.heap.size, 2, none⟩ = some (.slice (some adx) l2.length cap) ∧ W6.cell? ⟨wr.heap.size, 3, none⟩ = some (.slice A3 l3.length c3) := ⟨a0, a1, a2, a3, b0, b1, b2, b3⟩
      go_region_held3 (fun W' => W'.cell? ⟨w.heap.size, 0, none⟩ = some (.slice A0 l0.length c0) ∧ W'.cell? ⟨w.heap.size, 1, none⟩ = some (.slice A1 l1.length c1) ∧ W'.cell? ⟨w.heap.size, 2, none⟩ = some (.slice (some ad) l2.length c2) ∧ W'.cell? ⟨w.heap.size, 3, none⟩ = some (.slice A3 l3.length c3) ∧ W'.cell? ⟨wr.heap.size, 0, none⟩ = some (.slice A0 l0.length c0) ∧ W'.cell? ⟨wr.heap.size, 1, none⟩ = some (.slice A1 l1.length c1) ∧ W'.cell? ⟨wr.heap.size, 2, none⟩ = some (.slice (some adx) l2.length cap) ∧ W'.cell? ⟨wr.heap.size, 3, none⟩ = some (.slice A3 l3.length c3)) (first | exact S0 | exact S7 | exact S8 | fail) (first | (go_at_call 32; with_reducible refine (deps HH.out HSZ.out (HMX.out.below HB6.out.drew) (HM6.out.below (Below.refl _ _).drew) (j : Int)).mono ?_; rintro e w7 ⟨V, dV, rfl, _, hb7⟩; have HB7 := Aside0.mk (below_then HB6.out.drew HB6.out.drew.size hb7); have HG7 := Aside0.mk (blk_below (blk_drew HG6.out) hb7); have HK7 := Aside0.mk (blk_below (blk_drew HK6.out) hb7); have HQ7 := Aside0.mk (blk_below (blk_drew HQ6.out) hb7); have HKM7 := Aside0.mk ((HKM.out.below (Below.refl _ _).drew).below hb7); have S7 : w7.cell? ⟨w.heap.size, 0, none⟩ = some (.slice A0 l0.length c0) ∧ w7.cell? ⟨w.heap.size, 1, none⟩ = some (.slice A1 l1.length c1) ∧ w7.cell? ⟨w.heap.size, 2, none⟩ = some (.slice (some ad) l2.length c2) ∧ w7.cell? ⟨w.heap.size, 3, none⟩ = some (.slice A3 l3.length c3) ∧ w7.cell? ⟨wr.heap.size, 0, none⟩ = some (.slice A0 l0.length c0) ∧ w7.cell? ⟨wr.heap.size, 1, none⟩ = some (.slice A1 l1.length c1) ∧ w7.cell? ⟨wr.heap.size, 2, none⟩ = some (.slice (some adx) l2.length cap) ∧ w7.cell? ⟨wr.heap.size, 3, none⟩ = some (.slice A3 l3.length c3) := (by exact ⟨(blk_cell HG7.out 0).trans rfl, (blk_cell HG7.out 1).trans rfl, (blk_cell HG7.out 2).trans rfl, (blk_cell HG7.out 3).trans rfl, (blk_cell HK7.out 0).trans rfl, (blk_cell HK7.out 1).trans rfl, (blk_cell HK7.out 2).trans rfl, (blk_cell HK7.out 3).trans rfl⟩); clear hb7) | (go_at_call 32; with_reducible refine (deps_q HFQ.out HSZ.out (HMX.out.below HB7.out) HKM7.out (j : Int)).mono ?_; rintro e w8 ⟨V', dV', rfl, hlb, hb8⟩; have HB8 := Aside0.mk (below_then HB7.out HB7.out.size hb8); have HQ8 := Aside0.mk (blk_below HQ7.out hb8); have HG8 := Aside0.mk (blk_below HG7.out hb8); have HK8 := Aside0.mk (blk_below HK7.out hb8); have S8 : w8.cell? ⟨w.heap.size, 0, none⟩ = some (.slice A0 l0.length c0) ∧ w8.cell? ⟨w.heap.size, 1, none⟩ = some (.slice A1 l1.length c1) ∧ w8.cell? ⟨w.heap.size, 2, none⟩ = some (.slice (some ad) l2.length c2) ∧ w8.cell? ⟨w.heap.size, 3, none⟩ = some (.slice A3 l3.length c3) ∧ w8.cell? ⟨wr.heap.size, 0, none⟩ = some (.slice A0 l0.length c0) ∧ w8.cell? ⟨wr.heap.size, 1, none⟩ = some (.slice A1 l1.length c1) ∧ w8.cell? ⟨wr.heap.size, 2, none⟩ = some (.slice (some adx) l2.length cap) ∧ w8.cell? ⟨wr.heap.size, 3, none⟩ = some (.slice A3 l3.length c3) := (by exact ⟨(blk_cell HG8.out 0).trans rfl, (blk_cell HG8.out 1).trans rfl, (blk_cell HG8.out 2).trans rfl, (blk_cell HG8.out 3).trans rfl, (blk_cell HK8.out 0).trans rfl, (blk_cell HK8.out 1).trans rfl, (blk_cell HK8.out 2).trans rfl, (blk_cell HK8.out 3).trans rfl⟩); clear hb8))
      have q3 : w8.cell? ⟨W0.heap.size, 3, none⟩ = some (.slice Av (Pure.qOf p).f3.length cv) := (blk_cell HQ8.out 3).trans rfl
      have hql := Pure.q_len p
      have HPD' := HPD.out
      generalize (Pure.qOf p).f3.length = lq at q3 hql
      generalize (Pure.depthsS l0 l1 l2 l3 (j : Int)).length = la at HPD' ⊢
      generalize (Pure.depthsS l0 l1 (l2.set j (Pure.qOf p)) l3 (j : Int)).length = lb at HPD' hlb ⊢
      by_cases h16 : lq ≤ 16384
      · have d2 : decide ((16384 : Int) < (lq : Int)) = false := decide_eq_false (by omega)
        rcases HPD' (by omega) with ⟨e1, e2⟩ | ⟨e1, e2⟩
        · subst e1 e2
          clear h16 HPD'
          go_wp2_with (go_at_call 29; go_loud (refine (sacristanlaw11_awake.calls true _ (HMX.out.below HB8.out) Pure.awake11).mono ?_); rintro e w9 ⟨rfl, hb9⟩)
          all_goals (go_ret; exact ⟨rfl, below_then HB8.out HB8.out.size hb9⟩)
        · obtain ⟨lc, hlc⟩ : ∃ lc : Int, wrap64 ((la : Int) + 2) = lc := ⟨_, rfl⟩
          have hl2 : lc = (la : Int) + 2 := by rw [← hlc]; unfold wrap64; omega
          have d3 : decide ((0 : Int) < (la : Int)) = true := decide_eq_true (by omega)
          have d4 : decide ((0 : Int) < (lb : Int)) = true := decide_eq_true (by omega)
          have d5 : ((lb : Int) == 0) = false := beq_eq_false_iff_ne.2 (by omega)
          have d6 : ((lb : Int) == lc) = true := beq_iff_eq.2 (by omega)
          have n1 : ¬ lb = 0 := by omega
          have n2 : ¬ la = 0 := by omega
          have n3 : 0 < la := by omega
          have n4 : 0 < lb := by omega
          have n5 : (lb : Int) = lc := by omega
          clear hl2 e1 e2 hlb hql
          clear h16 HPD'
          go_wp2_with (go_at_call 29; go_loud (refine (sacristanlaw11_awake.calls true _ (HMX.out.below HB8.out) Pure.awake11).mono ?_); rintro e w9 ⟨rfl, hb9⟩)
          all_goals (go_ret; exact ⟨rfl, below_then HB8.out HB8.out.size hb9⟩)
      · have d2 : decide ((16384 : Int) < (lq : Int)) = true := decide_eq_true (by omega)
        have m1 : 16384 < lq := by omega
        have m2 : (16384 : Int) < (lq : Int) := by omega
        obtain ⟨lc, hlc⟩ : ∃ lc : Int, wrap64 ((la : Int) + 2) = lc := ⟨_, rfl⟩
        clear h16 HPD' hql hlb
        go_wp2_with (go_at_call 29; go_loud (refine (sacristanlaw11_awake.calls true _ (HMX.out.below HB8.out) Pure.awake11).mono ?_); rintro e w9 ⟨rfl, hb9⟩)
        all_goals (go_ret; exact ⟨rfl, below_then HB8.out HB8.out.size hb9⟩)
theorem verifyPairs_all (i : Int) (w : World) (hi : 0 ≤ i ∧ i ≤ 255) (hmd : ModIs w A0 c0 l0 A1 c1 l1 A2 c2 l2 A3 c3 l3) (hM : MaxOk w) (h : Pure.FitM l0 l1 l2 l3) (hsz : ∀ t ∈ l1, t.size ≤ reachBytes) :
    Calls Tryd.prog 11 #[.agg #[.slice A0 l0.length c0, .slice A1 l1.length c1, .slice A2 l2.length c2, .slice A3 l3.length c3], .int .u8 i] w fun e w' => e = .returned (.bool true) ∧ Below w.heap.size w w' := by
  obtain ⟨b, hgc, hg⟩ := great28 (w.alloc (.cells #[.slice A0 l0.length c0, .slice A1 l1.length c1, .slice A2 l2.length c2, .slice A3 l3.length c3] 30 (0, 0))) (hmd.below (below_alloc (Below.refl w.heap.size w) _))
  by_cases hbad : b = true ∨ mayS (Pure.insM l0 l1 l2 l3) l0 l1 l2 l3 = false
  · exact verifyPairs_bad i w hmd hM h hsz b hgc hbad
  · have hb : b = false := by cases b <;> simp_all
    have hc : mayS (Pure.insM l0 l1 l2 l3) l0 l1 l2 l3 = true := by
      cases hc : mayS (Pure.insM l0 l1 l2 l3) l0 l1 l2 l3
      · exact absurd (.inr hc) hbad
      · rfl
    exact verifyPairs_calls i w hi hmd hM h hsz hc b hgc hb (hg hb)
end
end Go.Proofs.YtfncoldcjhkhiaaDoor.NW
