/- sacristanref15.does: what an instruction does. -/
import Derived.Test.YtjkjbfhhfdbnoaaSg
namespace Go.Proofs.Ytjkjbfhhfdbnoaa.NW
open Go.RowKit Go.Proofs.YtjkjbfhhfdbnoaaW.PrintWords Go.Proofs.YtjkjbfhhfdbnoaaW.PrintMore Go.Proofs.Ytjkjbfhhfdbnoaa.PB
set_option linter.unusedVariables false
set_option linter.unusedSimpArgs false

theorem info37 : (Try.prog.info? 37).map (fun i => (i.zero, i.size, i.bytes)) = some (some (.agg #[(.int .u8 0), (.int .i64 0), (.string ⟨#[]⟩)]), 3, 32) := by kernel_rfl
theorem info54 : (Try.prog.info? 54).map (fun i => (i.zero, i.size, i.bytes)) = some (some (.agg #[(.string ⟨#[]⟩), (.int .i64 0), (.int .i64 0), (.slice none 0 0)]), 4, 56) := by kernel_rfl
theorem k37_heap : Kd.Heap k37 := Kd.heap_iso _ (Kd.heap_pair (Kd.heap_int _) (Kd.heap_pair (Kd.heap_int _) Kd.heap_string))
theorem k54_heap : Kd.Heap k54 := Kd.heap_iso _ (Kd.heap_pair Kd.heap_string (Kd.heap_pair (Kd.heap_int _) (Kd.heap_pair (Kd.heap_int _) (Kd.heap_slice 37 k37_heap))))
/-- what the calls of the words answer -/
structure OpsAre (O : Ops) (P : S37 → Prop) : Prop where
  one : ∀ (wd : ByteArray) (v : S37), P v → ∃ (r : S37) (e : Int), (∀ w : World, Calls Try.prog 74 #[.string wd, .agg #[.int .u8 v.f0, .int .i64 v.f1, .string v.f2]] w fun x w' => x = .returned (.tuple #[.agg #[.int .u8 r.f0, .int .i64 r.f1, .string r.f2], .int .i64 e]) ∧ Below w.heap.size w w') ∧ O.one wd v = (if e = 0 then some r else none) ∧ (e = 0 → P r)
  two : ∀ (wd : ByteArray) (v u : S37), P v → P u → ∃ (r : S37) (e : Int), (∀ w : World, Calls Try.prog 75 #[.string wd, .agg #[.int .u8 v.f0, .int .i64 v.f1, .string v.f2], .agg #[.int .u8 u.f0, .int .i64 u.f1, .string u.f2]] w fun x w' => x = .returned (.tuple #[.agg #[.int .u8 r.f0, .int .i64 r.f1, .string r.f2], .int .i64 e]) ∧ Below w.heap.size w w') ∧ O.two wd v u = (if e = 0 then some r else none) ∧ (e = 0 → P r)
/-- what does gives back -/
def Did (O : Ops) (ups : List S37) (ons : List S54) (x : S39) (r : List S37) (g : List S54) (w : World) (e : Ending) (w' : World) : Prop :=
  ∃ ok r' g' A c B b, e = .returned (.tuple #[.slice A r'.length c, .slice B g'.length b, .bool ok]) ∧ r'.length ≤ c ∧ g'.length ≤ b ∧ k37.C w' A r'.length r' ∧ k54.C w' B g'.length g' ∧ Below w.heap.size w w' ∧
    doesK O ups ons x r g = if ok = true then some (r', g') else none
theorem did_not {O : Ops} {ups : List S37} {ons : List S54} {x : S39} {r : List S37} {g : List S54} {w w' : World} {A B : Option Addr} {c b : Nat} (hc : r.length ≤ c) (hb : g.length ≤ b) (h1 : k37.C w A r.length r) (h2 : k54.C w B g.length g) (h : Below w.heap.size w w') (hk : doesK O ups ons x r g = none) :
    Did O ups ons x r g w (.returned (.tuple #[.slice A r.length c, .slice B g.length b, .bool false])) w' :=
  ⟨false, r, g, A, c, B, b, rfl, hc, hb, Kd.C_below h1 h, Kd.C_below h2 h, h, by rw [hk]; rfl⟩
theorem did_same {O : Ops} {ups : List S37} {ons : List S54} {x : S39} {r : List S37} {g : List S54} {w w' : World} {A B : Option Addr} {c b : Nat} {ok : Bool} (hc : r.length ≤ c) (hb : g.length ≤ b) (h1 : k37.C w A r.length r) (h2 : k54.C w B g.length g) (h : Below w.heap.size w w') (hk : doesK O ups ons x r g = if ok = true then some (r, g) else none) :
    Did O ups ons x r g w (.returned (.tuple #[.slice A r.length c, .slice B g.length b, .bool ok])) w' :=
  ⟨ok, r, g, A, c, B, b, rfl, hc, hb, Kd.C_below h1 h, Kd.C_below h2 h, h, hk⟩
theorem did_put {O : Ops} {ups : List S37} {ons : List S54} {x : S39} {r : List S37} {g : List S54} {w w' : World} {A B : Option Addr} {c b n : Nat} {v : S37} (hn : n = r.length) (hc : n ≤ c) (hb : g.length ≤ b) (h1 : k37.C w' A (r.set x.f1.toNat v).length (r.set x.f1.toNat v)) (h2 : k54.C w B g.length g) (h : Below w.heap.size w w') (hk : doesK O ups ons x r g = some (r.set x.f1.toNat v, g)) :
    Did O ups ons x r g w (.returned (.tuple #[.slice A n c, .slice B g.length b, .bool true])) w' := by
  subst hn
  exact ⟨true, r.set x.f1.toNat v, g, A, c, B, b, by rw [List.length_set], by rw [List.length_set]; exact hc, hb, h1, Kd.C_below h2 h, h, by rw [hk]; rfl⟩
/-- what an instruction asks of the rows -/
structure InstOk (R G : Nat) (x : S39) : Prop where
  dst : x.f0 ≠ 6 → x.f0 ≠ 8 → 0 ≤ x.f1 ∧ x.f1 < R
  a : x.f0 = 2 ∨ x.f0 = 3 ∨ x.f0 = 4 ∨ x.f0 = 8 → 0 ≤ x.f2 ∧ x.f2 < R
  b : x.f0 = 4 → 0 ≤ x.f3 ∧ x.f3 < R
  up : x.f0 = 5 ∨ x.f0 = 7 → 0 ≤ x.f2
  gd : x.f0 = 7 → 0 ≤ x.f3 ∧ x.f3 < G
/-- the row that is put into -/
structure RowPut (W : World) (gr : Nat) (d : Int) (v : S37) (l : List S37) : Prop where
  c0 : ∃ c, W.cell? ⟨gr, d.toNat * 3, none⟩ = some c
  z0 : W.frozen? ⟨gr, d.toNat * 3, none⟩ = false
  c1 : ∃ c, (W.setCell ⟨gr, d.toNat * 3, none⟩ (.int .u8 v.f0)).cell? ⟨gr, d.toNat * 3 + 1, none⟩ = some c
  z1 : (W.setCell ⟨gr, d.toNat * 3, none⟩ (.int .u8 v.f0)).frozen? ⟨gr, d.toNat * 3 + 1, none⟩ = false
  c2 : ∃ c, ((W.setCell ⟨gr, d.toNat * 3, none⟩ (.int .u8 v.f0)).setCell ⟨gr, d.toNat * 3 + 1, none⟩ (.int .i64 v.f1)).cell? ⟨gr, d.toNat * 3 + 2, none⟩ = some c
  z2 : ((W.setCell ⟨gr, d.toNat * 3, none⟩ (.int .u8 v.f0)).setCell ⟨gr, d.toNat * 3 + 1, none⟩ (.int .i64 v.f1)).frozen? ⟨gr, d.toNat * 3 + 2, none⟩ = false
  far : ∀ k, k ≠ gr → (((W.setCell ⟨gr, d.toNat * 3, none⟩ (.int .u8 v.f0)).setCell ⟨gr, d.toNat * 3 + 1, none⟩ (.int .i64 v.f1)).setCell ⟨gr, d.toNat * 3 + 2, none⟩ (.string v.f2)).heap[k]? = W.heap[k]?
  old : ∀ (B : Nat) (w0 : World), Below B w0 W → B ≤ gr → Below B w0 (((W.setCell ⟨gr, d.toNat * 3, none⟩ (.int .u8 v.f0)).setCell ⟨gr, d.toNat * 3 + 1, none⟩ (.int .i64 v.f1)).setCell ⟨gr, d.toNat * 3 + 2, none⟩ (.string v.f2))
  k : k37.C (((W.setCell ⟨gr, d.toNat * 3, none⟩ (.int .u8 v.f0)).setCell ⟨gr, d.toNat * 3 + 1, none⟩ (.int .i64 v.f1)).setCell ⟨gr, d.toNat * 3 + 2, none⟩ (.string v.f2)) (some ⟨gr, 0, none⟩) (l.set d.toNat v).length (l.set d.toNat v)
theorem row_put {W : World} {base gr n c : Nat} {l : List S37} {d : Int} (v : S37) (h : Kd.R k37 37 W base (fun _ => True) (.slice (some ⟨gr, 0, none⟩) n c) l) (h0 : 0 ≤ d) (h1 : d < l.length) : RowPut W gr d v l := by
  obtain ⟨hn, hnc, hC⟩ := Kd.R_reads' h
  obtain ⟨ad, e, e0, e1, e2⟩ := at_T37 hC d h0 h1
  injection e with e
  subst e
  obtain ⟨cs, hcs⟩ := own_typed (Kd.R_own h).choose_spec gr (by simp [Value.ownBlock])
  have hadd : (⟨gr, 0, none⟩ : Addr).add (d.toNat * 3) = ⟨gr, d.toNat * 3, none⟩ := add_plain _ _
  have hsz : d.toNat * 3 + 2 < cs.size := by
    rw [hadd] at e2
    dsimp only at e2
    rw [blk_cell hcs] at e2
    exact (Array.getElem?_eq_some_iff.1 e2).1
  have b1 := blk_put hcs (d.toNat * 3) (.int .u8 v.f0) rfl
  have b2 := blk_put b1 (d.toNat * 3 + 1) (.int .i64 v.f1) rfl
  have hs := (Kd.R_seg (d := k37) (e := 37) (base := base) (ok := fun _ => True) (okp := fun _ => False) (x' := v) (j := 0) (c := [.int .u8 (rd_T37 l d).f0, .int .i64 (rd_T37 l d).f1, .string (rd_T37 l d).f2]) (seg := [.int .u8 v.f0, .int .i64 v.f1, .string v.f2]) h d h0 (by omega) rfl (fun j u hu => by
    rw [hadd] at e0 e1 e2
    rcases j with _ | _ | _ | j
    · simp at hu; subst hu; exact e0
    · simp at hu; subst hu; exact e1
    · simp at hu; subst hu; exact e2
    · simp at hu) (Nat.le_refl _) (k37_mkM _ _ _ v) (fun _ hk => hk.elim)).1
  have h2 := (Kd.R_reads' hs).2.2
  refine ⟨⟨_, (by rw [hadd] at e0; exact e0)⟩, ?_, ?_, ?_, ?_, ?_, ?_, ?_, ?_⟩
  · exact blk_frozen hcs _
  · exact ⟨_, (blk_cell b1 _).trans (Array.getElem?_eq_getElem (by simp only [Array.size_setIfInBounds]; omega))⟩
  · exact blk_frozen b1 _
  · exact ⟨_, (blk_cell b2 _).trans (Array.getElem?_eq_getElem (by simp only [Array.size_setIfInBounds]; omega))⟩
  · exact blk_frozen b2 _
  · intro k hk
    exact (Below.heap_setCell _ _ _ k hk).trans ((Below.heap_setCell _ _ _ k hk).trans (Below.heap_setCell _ _ _ k hk))
  · intro B w0 hb hg
    exact ((hb.setCell (p := ⟨gr, d.toNat * 3, none⟩) hg _).setCell (p := ⟨gr, d.toNat * 3 + 1, none⟩) hg _).setCell (p := ⟨gr, d.toNat * 3 + 2, none⟩) hg _
  · exact h2
theorem mem_rd {l : List S37} {i : Int} (h0 : 0 ≤ i) (h1 : i < l.length) : rd_T37 l i ∈ l := by
  rw [rd_T37, List.getD_eq_getElem?_getD, List.getElem?_eq_getElem (by omega)]
  exact List.getElem_mem _

section
variable {ops : Array Oper} {o : Oper} {a : Act} {Kc : Act → World → Prop} {Q : Exit → Act → World → Prop} {w W : World}
theorem own_from {v : Value} {e0 n k : Nat} (h : v.ownBlock = some e0 ∨ ∃ b, v.ownBlock = some b ∧ n ≤ b) (hk : v.ownBlock = some k) : k = e0 ∨ n ≤ k := by
  rcases h with h | ⟨b, hb, hle⟩
  · rw [hk] at h; injection h with h; exact .inl h
  · rw [hk] at hb; injection hb with hb; exact .inr (by omega)
/-- the guards so far, copied -/
theorem push_g (hw : Region.wanted o (yielded ops a.tmps) = true) (s x : Operand) (ho : o.op = .call { callee := .builtin .append, args := #[s, x], argTypes := #[27, 27] }) {A3 : Option Addr} {c3 e0 : Nat} {g : List S54} (hg : k54.C w A3 g.length g) (hl : g.length ≤ 5000) (hB : Below w.heap.size w W) (hE : W.heap[e0]? = some (.cells #[] 54 (0, 0))) (he : w.heap.size ≤ e0)
    (hs : a.eval s = .slice (some ⟨e0, 0, none⟩) 0 0) (hx : a.eval x = .slice A3 g.length c3)
    (h : ∀ v1 w1, Kd.N k54 54 w1 w.heap.size (fun _ => True) v1 g → Below w.heap.size w w1 → W.grownBy w1 (some e0) → (v1.ownBlock = some e0 ∨ ∃ b, v1.ownBlock = some b ∧ W.heap.size ≤ b) → Kc (a.put o.dst v1) w1) :
    if Region.wanted o (yielded ops a.tmps) = true then Oper.wp Try.prog o a W Kc Q else Kc (a.put o.dst undef) W := by
  have hN : Kd.N k54 54 W w.heap.size (fun _ => True) (.slice (some ⟨e0, 0, none⟩) 0 0) [] := by
    refine Kd.R_N ⟨fun _ _ => trivial, [], ⟨rfl, .inr ⟨e0, 0, #[], rfl, he, hE, Nat.le_refl _, Nat.zero_le _, rfl, rfl⟩⟩, Reps.none _ _⟩
  refine Kd.N_append_rows_step k54 (w0 := w) w.heap.size hw s x 27 54 (.agg #[(.string ⟨#[]⟩), (.int .i64 0), (.int .i64 0), (.slice none 0 0)]) 56 ho Try.underlying27 info54 rfl (by decide) (by omega) (.slice (some ⟨e0, 0, none⟩) 0 0) [] g A3 g.length c3 (fun _ => True) (fun k => k < w.heap.size) hs hx hN
    (Kd.F_step (Kd.C_F k54_heap hg) (fun k hk _ => hB.block k hk)) (fun k hk => ⟨trivial, fun e => ?_⟩) (fun _ _ => trivial) hB hB.size (by rw [List.length_nil]; omega) (fun v1 w1 h1 h2 h3 h4 => h v1 w1 h1 h2 h3 h4)
  have e2 : k = e0 := by simpa [Value.ownBlock] using e
  omega
/-- one guard more -/
theorem push_o (hw : Region.wanted o (yielded ops a.tmps) = true) (s x : Operand) (ho : o.op = .call { callee := .builtin .append, args := #[s, x], argTypes := #[27, 27] }) {g : List S54} {q : S54} {AO : Option Addr} {co l0 n : Nat} {v1 : Value} (hl : g.length ≤ 5000) (hN : Kd.N k54 54 W w.heap.size (fun _ => True) v1 g) (hB : Below w.heap.size w W)
    (hL : W.heap[l0]? = some (.cells #[.string q.f0, .int .i64 q.f1, .int .i64 q.f2, .slice AO q.f3.length co] 54 (0, 0))) (hln : some l0 ≠ v1.ownBlock) (hco : q.f3.length ≤ co) (hF : Kd.F k37 W (fun k => k < n) AO q.f3.length q.f3) (hn : ∀ k, v1.ownBlock = some k → n ≤ k)
    (hs : a.eval s = v1) (hx : a.eval x = .slice (some ⟨l0, 0, none⟩) 1 1)
    (h : ∀ B b w1, (g ++ [q]).length ≤ b → k54.C w1 B (g ++ [q]).length (g ++ [q]) → Below w.heap.size w w1 → Kc (a.put o.dst (.slice B (g ++ [q]).length b)) w1) :
    if Region.wanted o (yielded ops a.tmps) = true then Oper.wp Try.prog o a W Kc Q else Kc (a.put o.dst undef) W := by
  have hR : Kd.F k54 W (fun k => k = l0 ∨ k < n) (some ⟨l0, 0, none⟩) 1 [q] := fun W' hW => by
    have hb : W'.heap[l0]? = some (.cells #[.string q.f0, .int .i64 q.f1, .int .i64 q.f2, .slice AO q.f3.length co] 54 (0, 0)) := (hW l0 (.inl rfl) (blk_lt hL)).trans hL
    have hc : k37.C W' AO q.f3.length q.f3 := hF W' (fun k hk hlt => hW k (.inr hk) hlt)
    refine ⟨rfl, by decide, fun _ => ⟨⟨l0, 0, none⟩, rfl, fun j p hj => ?_⟩⟩
    rcases j with _ | j
    · simp only [List.getElem?_cons_zero, Option.some.injEq] at hj
      subst hj
      refine ⟨_, rfl, k54_mk W' q hco hc, fun i u hu => ?_⟩
      rw [add_plain, blk_cell hb]
      rw [Nat.zero_mul, Nat.zero_add]
      rw [← hu]
      exact (Array.getElem?_toList ..).symm
    · simp at hj
  refine Kd.N_append_rows_step k54 (w0 := w) w.heap.size hw s x 27 54 (.agg #[(.string ⟨#[]⟩), (.int .i64 0), (.int .i64 0), (.slice none 0 0)]) 56 ho Try.underlying27 info54 rfl (by decide) (by omega) v1 g [q] (some ⟨l0, 0, none⟩) 1 1 (fun _ => True) (fun k => k = l0 ∨ k < n) hs hx hN hR (fun k hk => ⟨trivial, fun e => ?_⟩) (fun _ _ => trivial) hB hB.size (by omega) (fun v2 w2 h1 h2 h3 h4 => ?_)
  · rcases hk with rfl | hk
    · exact hln e
    · have := hn k e.symm; omega
  · obtain ⟨B, b, rfl⟩ := Kd.N_slice h1
    have h5 := Kd.N_reads' h1
    exact h B b w2 h5.2.1 h5.2.2 h2
end

set_option maxHeartbeats 3200000 in
set_option maxRecDepth 1000000 in
theorem does_calls (O : Ops) (P : S37 → Prop) (hO : OpsAre O P) (x : S39) (A1 : Option Addr) (c1 : Nat) (r : List S37) (A0 : Option Addr) (c0 : Nat) (ups : List S37) (A2 : Option Addr) (c2 : Nat) (ons : List S54) (A3 : Option Addr) (c3 : Nat) (g : List S54) (w : World)
    (hop : 1 ≤ x.f0 ∧ x.f0 ≤ 8) (hr : k37.C w A1 r.length r) (hc1 : r.length ≤ c1) (hu : k37.C w A0 ups.length ups) (ho : k54.C w A2 ons.length ons) (hg : k54.C w A3 g.length g) (hc3 : g.length ≤ c3) (hk : InstOk r.length g.length x) (hl : r.length ≤ 5000 ∧ g.length ≤ 5000) (hP : ∀ v ∈ r, P v) :
    Calls Try.prog 55 #[.agg #[.int .u8 x.f0, .int .i64 x.f1, .int .i64 x.f2, .int .i64 x.f3, .string x.f4, .int .u8 x.f5.f0, .int .i64 x.f5.f1, .string x.f5.f2], .slice A1 r.length c1, .agg #[.slice A0 ups.length c0, .slice A2 ons.length c2], .slice A3 g.length c3] w fun e w' => Did O ups ons x r g w e w' := by
  obtain ⟨op, d, a, b, wd, ⟨t, n, s⟩⟩ := x
  dsimp only at hop ⊢
  have hops : op = 1 ∨ op = 2 ∨ op = 3 ∨ op = 4 ∨ op = 5 ∨ op = 6 ∨ op = 7 ∨ op = 8 := by omega
  have HR := Aside0.mk hr
  have HU := Aside0.mk hu
  have HON := Aside0.mk ho
  have HG := Aside0.mk hg
  have HC1 := Aside0.mk hc1
  have HC3 := Aside0.mk hc3
  have HL := Aside0.mk hl
  have HP := Aside0.mk hP
  have hu0 := Kd.C_max hu
  clear hr hu ho hg hc1 hc3 hl hP hop
  have hA : Below w.heap.size w (((w.alloc (.cells #[.int .u8 op, .int .i64 d, .int .i64 a, .int .i64 b, .string wd, .int .u8 t, .int .i64 n, .string s] 39)).alloc (.cells #[.slice A0 ups.length c0, .slice A2 ons.length c2] 29)).alloc (.cells #[.int .u8 0, .int .i64 0, .string ⟨#[]⟩] 37)) := (((Below.refl _ w).alloc (Nat.le_refl _) _).alloc (by simp) _).alloc (by simp; omega) _
  have HA := Aside0.mk hA
  clear hA
  have hI : (((w.alloc (.cells #[.int .u8 op, .int .i64 d, .int .i64 a, .int .i64 b, .string wd, .int .u8 t, .int .i64 n, .string s] 39)).alloc (.cells #[.slice A0 ups.length c0, .slice A2 ons.length c2] 29)).alloc (.cells #[.int .u8 0, .int .i64 0, .string ⟨#[]⟩] 37)).heap[w.heap.size]? = some (.cells #[.int .u8 op, .int .i64 d, .int .i64 a, .int .i64 b, .string wd, .int .u8 t, .int .i64 n, .string s] 39 (0, 0)) := blk_alloc (blk_alloc (blk_new w _) _) _
  have hV : (((w.alloc (.cells #[.int .u8 op, .int .i64 d, .int .i64 a, .int .i64 b, .string wd, .int .u8 t, .int .i64 n, .string s] 39)).alloc (.cells #[.slice A0 ups.length c0, .slice A2 ons.length c2] 29)).alloc (.cells #[.int .u8 0, .int .i64 0, .string ⟨#[]⟩] 37)).heap[w.heap.size + 1]? = some (.cells #[.slice A0 ups.length c0, .slice A2 ons.length c2] 29 (0, 0)) := blk_alloc (blk_new2 w _ _) _
  have hZ : (((w.alloc (.cells #[.int .u8 op, .int .i64 d, .int .i64 a, .int .i64 b, .string wd, .int .u8 t, .int .i64 n, .string s] 39)).alloc (.cells #[.slice A0 ups.length c0, .slice A2 ons.length c2] 29)).alloc (.cells #[.int .u8 0, .int .i64 0, .string ⟨#[]⟩] 37)).heap[w.heap.size + 1 + 1]? = some (.cells #[.int .u8 0, .int .i64 0, .string ⟨#[]⟩] 37 (0, 0)) := by
    have := blk_new2 (w.alloc (.cells #[.int .u8 op, .int .i64 d, .int .i64 a, .int .i64 b, .string wd, .int .u8 t, .int .i64 n, .string s] 39)) (.cells #[.slice A0 ups.length c0, .slice A2 ons.length c2] 29) (.cells #[.int .u8 0, .int .i64 0, .string ⟨#[]⟩] 37)
    rw [World.size_alloc] at this
    exact this
  go_enter Try.func55, Try.ntmps55
  go_upto_region 3 with fail
  obtain ⟨w1, hw1⟩ : ∃ w1, (((w.alloc (.cells #[.int .u8 op, .int .i64 d, .int .i64 a, .int .i64 b, .string wd, .int .u8 t, .int .i64 n, .string s] 39)).alloc (.cells #[.slice A0 ups.length c0, .slice A2 ons.length c2] 29)).alloc (.cells #[.int .u8 0, .int .i64 0, .string ⟨#[]⟩] 37)) = w1 := ⟨_, rfl⟩
  rw [hw1] at HA hI hV hZ ⊢
  obtain ⟨gb, hgb⟩ : ∃ gb, w.heap.size = gb := ⟨_, rfl⟩
  rw [hgb] at hI hV hZ ⊢
  have HI := Aside0.mk hI
  have HV := Aside0.mk hV
  have HZ := Aside0.mk hZ
  have HGB := Aside0.mk hgb
  clear hw1 hI hV hZ hgb
  rcases hops with rfl | rfl | rfl | rfl | rfl | rfl | rfl | rfl
  · have i5 := (blk_cell HI.out 5).trans rfl
    have i6 := (blk_cell HI.out 6).trans rfl
    have i7 := (blk_cell HI.out 7).trans rfl
    have z0 := (blk_cell HZ.out 0).trans rfl
    have z1 := (blk_cell HZ.out 1).trans rfl
    have z2 := (blk_cell HZ.out 2).trans rfl
    have y0 := blk_frozen HZ.out 0
    have y1 := blk_frozen HZ.out 1
    have y2 := blk_frozen HZ.out 2
    have hd : doesK O ups ons ⟨1, d, a, b, wd, ⟨t, n, s⟩⟩ r g = some (r.set d.toNat ⟨t, n, s⟩, g) := rfl
    have HD := Aside0.mk hd
    clear hd
    go_upto_region 32 with fail
    clear i5 i6 i7 z0 z1 z2 y0 y1 y2

    have hT : Below w.heap.size w (((w1.setCell ⟨gb + 1 + 1, 0, none⟩ (.int .u8 t)).setCell ⟨gb + 1 + 1, 1, none⟩ (.int .i64 n)).setCell ⟨gb + 1 + 1, 2, none⟩ (.string s)) := (((HA.out).setCell (p := ⟨gb + 1 + 1, 0, none⟩) (by have := HGB.out; show w.heap.size ≤ gb + 1 + 1; omega) _).setCell (p := ⟨gb + 1 + 1, 1, none⟩) (by have := HGB.out; show w.heap.size ≤ gb + 1 + 1; omega) _).setCell (p := ⟨gb + 1 + 1, 2, none⟩) (by have := HGB.out; show w.heap.size ≤ gb + 1 + 1; omega) _
    have hI : (((w1.setCell ⟨gb + 1 + 1, 0, none⟩ (.int .u8 t)).setCell ⟨gb + 1 + 1, 1, none⟩ (.int .i64 n)).setCell ⟨gb + 1 + 1, 2, none⟩ (.string s)).heap[gb]? = some (.cells #[.int .u8 1, .int .i64 d, .int .i64 a, .int .i64 b, .string wd, .int .u8 t, .int .i64 n, .string s] 39 (0, 0)) := blk_far (blk_far (blk_far HI.out (p := ⟨gb + 1 + 1, 0, none⟩) (by show gb ≠ gb + 1 + 1; omega) _) (p := ⟨gb + 1 + 1, 1, none⟩) (by show gb ≠ gb + 1 + 1; omega) _) (p := ⟨gb + 1 + 1, 2, none⟩) (by show gb ≠ gb + 1 + 1; omega) _
    have hZ : (((w1.setCell ⟨gb + 1 + 1, 0, none⟩ (.int .u8 t)).setCell ⟨gb + 1 + 1, 1, none⟩ (.int .i64 n)).setCell ⟨gb + 1 + 1, 2, none⟩ (.string s)).heap[gb + 1 + 1]? = some (.cells #[.int .u8 t, .int .i64 n, .string s] 37 (0, 0)) := blk_put (blk_put (blk_put HZ.out 0 _ rfl) 1 _ rfl) 2 _ rfl
    obtain ⟨wt, hwt⟩ : ∃ wt, (((w1.setCell ⟨gb + 1 + 1, 0, none⟩ (.int .u8 t)).setCell ⟨gb + 1 + 1, 1, none⟩ (.int .i64 n)).setCell ⟨gb + 1 + 1, 2, none⟩ (.string s)) = wt := ⟨_, rfl⟩
    rw [hwt] at hT hI hZ ⊢
    have HT := Aside0.mk hT
    have HIt := Aside0.mk hI
    have HZt := Aside0.mk hZ
    clear hT hI hZ hwt
    obtain ⟨d0, d1⟩ := hk.dst (by show (1 : Int) ≠ 6; omega) (by show (1 : Int) ≠ 8; omega)
    dsimp only at d0 d1
    go_wp2_with (first
      | ((with_reducible refine gate_dst (N := 159) rfl ?_); refine Kd.R_lit k37 (w0 := wt) wt.heap.size 37 ?hg (N := 159) ?hd (xs := ([] : List S37)) (inner := []) (ok := fun _ => True) (okp := fun _ => True) ?hr ?hp (fun _ hk => hk) trivial (Below.refl _ _) (Nat.le_refl _) (by simp) ?_; (case hd => rfl); (case hg => rfl); (case hr => first | (go_simp; done) | (go_simp; rfl)); (case hp => exact Reps.none _ _); intro v7 w7 ho7 hb7 hg7 hn7; have HO7 := Aside0.mk ho7; have HB7 := Aside0.mk hb7; clear ho7 hb7 hg7 hn7)
      | ((with_reducible refine gate_builtin (b := .append) (xs := #[.tmp 159, .tmp 160]) rfl ?_); at_builtin; go_loud (refine Kd.R_append_rows k37 (w0 := wt) wt.heap.size rfl (.tmp 159) (.tmp 160) 26 37 (.agg #[(.int .u8 0), (.int .i64 0), (.string ⟨#[]⟩)]) 32 rfl Try.underlying26 info37 rfl (by decide) (by omega) v7 [] r _ _ _ (fun _ => True) (fun _ => False) rfl rfl ?aO ?aR (fun _ _ h => h) (fun _ h => h.elim) ?aF ?aB ?aS ?aL ?_; (case aO => exact HO7.out); (case aR => exact Kd.C_below HR.out (below_then HT.out HT.out.size HB7.out)); (case aF => exact fun _ _ => trivial); (case aB => exact HB7.out); (case aS => exact HB7.out.size); (case aL => have := HL.out; rw [List.length_nil]; omega); intro v8 w8 hr8 hb8 hg8 ha8; rw [List.nil_append] at hr8; obtain ⟨gr, cr, rfl, hbr, hlr, _⟩ := Kd.R_form hr8 (by omega); have RP := row_put (d := d) ⟨t, n, s⟩ hr8 d0 d1; have HRC := Aside0.mk (Kd.R_reads' hr8).2.1; have HBR := Aside0.mk hbr; have HB8 := Aside0.mk hb8; have pI := blk_below HIt.out HB8.out; have pZ := blk_below HZt.out HB8.out; have i1 := (blk_cell pI 1).trans rfl; have z0 := (blk_cell pZ 0).trans rfl; have z1 := (blk_cell pZ 1).trans rfl; have z2 := (blk_cell pZ 2).trans rfl; obtain ⟨_, q0⟩ := RP.c0; obtain ⟨_, q1⟩ := RP.c1; obtain ⟨_, q2⟩ := RP.c2; have q3 := RP.z0; have q4 := RP.z1; have q5 := RP.z2; (try dsimp only at q1 q2 q4 q5); have RPK := Aside0.mk RP.k; have RPO := Aside0.mk RP.old; clear hr8 hb8 hg8 ha8 pI pZ RP hbr hlr)))
    go_ret3
    exact did_put rfl HRC.out HC3.out RPK.out HG.out (RPO.out _ _ (below_then HT.out HT.out.size HB8.out) (Nat.le_trans HT.out.size HBR.out)) HD.out
  · have i2 := (blk_cell HI.out 2).trans rfl
    have z0 := (blk_cell HZ.out 0).trans rfl
    have z1 := (blk_cell HZ.out 1).trans rfl
    have z2 := (blk_cell HZ.out 2).trans rfl
    have y0 := blk_frozen HZ.out 0
    have y1 := blk_frozen HZ.out 1
    have y2 := blk_frozen HZ.out 2
    obtain ⟨a0, a1⟩ := hk.a (.inl rfl)
    dsimp only at a0 a1
    have hd : doesK O ups ons ⟨2, d, a, b, wd, ⟨t, n, s⟩⟩ r g = some (r.set d.toNat (rd_T37 r a), g) := rfl
    have HD := Aside0.mk hd
    clear hd
    obtain ⟨ad, e, e0, e1, e2⟩ := at_T37 HR.out a a0 a1
    subst e
    have f0 := (HA.out.cell (World.block_lt_of_cell? w _ e0)).trans e0
    have f1 := (HA.out.cell (World.block_lt_of_cell? w _ e1)).trans e1
    have f2 := (HA.out.cell (World.block_lt_of_cell? w _ e2)).trans e2
    clear e0 e1 e2
    generalize rd_T37 r a = v at f0 f1 f2 HD
    go_upto_region 32 with fail
    clear i2 z0 z1 z2 y0 y1 y2 f0 f1 f2

    have hT : Below w.heap.size w (((w1.setCell ⟨gb + 1 + 1, 0, none⟩ (.int .u8 v.f0)).setCell ⟨gb + 1 + 1, 1, none⟩ (.int .i64 v.f1)).setCell ⟨gb + 1 + 1, 2, none⟩ (.string v.f2)) := (((HA.out).setCell (p := ⟨gb + 1 + 1, 0, none⟩) (by have := HGB.out; show w.heap.size ≤ gb + 1 + 1; omega) _).setCell (p := ⟨gb + 1 + 1, 1, none⟩) (by have := HGB.out; show w.heap.size ≤ gb + 1 + 1; omega) _).setCell (p := ⟨gb + 1 + 1, 2, none⟩) (by have := HGB.out; show w.heap.size ≤ gb + 1 + 1; omega) _
    have hI : (((w1.setCell ⟨gb + 1 + 1, 0, none⟩ (.int .u8 v.f0)).setCell ⟨gb + 1 + 1, 1, none⟩ (.int .i64 v.f1)).setCell ⟨gb + 1 + 1, 2, none⟩ (.string v.f2)).heap[gb]? = some (.cells #[.int .u8 2, .int .i64 d, .int .i64 a, .int .i64 b, .string wd, .int .u8 t, .int .i64 n, .string s] 39 (0, 0)) := blk_far (blk_far (blk_far HI.out (p := ⟨gb + 1 + 1, 0, none⟩) (by show gb ≠ gb + 1 + 1; omega) _) (p := ⟨gb + 1 + 1, 1, none⟩) (by show gb ≠ gb + 1 + 1; omega) _) (p := ⟨gb + 1 + 1, 2, none⟩) (by show gb ≠ gb + 1 + 1; omega) _
    have hZ : (((w1.setCell ⟨gb + 1 + 1, 0, none⟩ (.int .u8 v.f0)).setCell ⟨gb + 1 + 1, 1, none⟩ (.int .i64 v.f1)).setCell ⟨gb + 1 + 1, 2, none⟩ (.string v.f2)).heap[gb + 1 + 1]? = some (.cells #[.int .u8 v.f0, .int .i64 v.f1, .string v.f2] 37 (0, 0)) := blk_put (blk_put (blk_put HZ.out 0 _ rfl) 1 _ rfl) 2 _ rfl
    obtain ⟨wt, hwt⟩ : ∃ wt, (((w1.setCell ⟨gb + 1 + 1, 0, none⟩ (.int .u8 v.f0)).setCell ⟨gb + 1 + 1, 1, none⟩ (.int .i64 v.f1)).setCell ⟨gb + 1 + 1, 2, none⟩ (.string v.f2)) = wt := ⟨_, rfl⟩
    rw [hwt] at hT hI hZ ⊢
    have HT := Aside0.mk hT
    have HIt := Aside0.mk hI
    have HZt := Aside0.mk hZ
    clear hT hI hZ hwt
    obtain ⟨d0, d1⟩ := hk.dst (by show (2 : Int) ≠ 6; omega) (by show (2 : Int) ≠ 8; omega)
    dsimp only at d0 d1
    go_wp2_with (first
      | ((with_reducible refine gate_dst (N := 159) rfl ?_); refine Kd.R_lit k37 (w0 := wt) wt.heap.size 37 ?hg (N := 159) ?hd (xs := ([] : List S37)) (inner := []) (ok := fun _ => True) (okp := fun _ => True) ?hr ?hp (fun _ hk => hk) trivial (Below.refl _ _) (Nat.le_refl _) (by simp) ?_; (case hd => rfl); (case hg => rfl); (case hr => first | (go_simp; done) | (go_simp; rfl)); (case hp => exact Reps.none _ _); intro v7 w7 ho7 hb7 hg7 hn7; have HO7 := Aside0.mk ho7; have HB7 := Aside0.mk hb7; clear ho7 hb7 hg7 hn7)
      | ((with_reducible refine gate_builtin (b := .append) (xs := #[.tmp 159, .tmp 160]) rfl ?_); at_builtin; go_loud (refine Kd.R_append_rows k37 (w0 := wt) wt.heap.size rfl (.tmp 159) (.tmp 160) 26 37 (.agg #[(.int .u8 0), (.int .i64 0), (.string ⟨#[]⟩)]) 32 rfl Try.underlying26 info37 rfl (by decide) (by omega) v7 [] r _ _ _ (fun _ => True) (fun _ => False) rfl rfl ?aO ?aR (fun _ _ h => h) (fun _ h => h.elim) ?aF ?aB ?aS ?aL ?_; (case aO => exact HO7.out); (case aR => exact Kd.C_below HR.out (below_then HT.out HT.out.size HB7.out)); (case aF => exact fun _ _ => trivial); (case aB => exact HB7.out); (case aS => exact HB7.out.size); (case aL => have := HL.out; rw [List.length_nil]; omega); intro v8 w8 hr8 hb8 hg8 ha8; rw [List.nil_append] at hr8; obtain ⟨gr, cr, rfl, hbr, hlr, _⟩ := Kd.R_form hr8 (by omega); have RP := row_put (d := d) v hr8 d0 d1; have HRC := Aside0.mk (Kd.R_reads' hr8).2.1; have HBR := Aside0.mk hbr; have HB8 := Aside0.mk hb8; have pI := blk_below HIt.out HB8.out; have pZ := blk_below HZt.out HB8.out; have i1 := (blk_cell pI 1).trans rfl; have z0 := (blk_cell pZ 0).trans rfl; have z1 := (blk_cell pZ 1).trans rfl; have z2 := (blk_cell pZ 2).trans rfl; obtain ⟨_, q0⟩ := RP.c0; obtain ⟨_, q1⟩ := RP.c1; obtain ⟨_, q2⟩ := RP.c2; have q3 := RP.z0; have q4 := RP.z1; have q5 := RP.z2; (try dsimp only at q1 q2 q4 q5); have RPK := Aside0.mk RP.k; have RPO := Aside0.mk RP.old; clear hr8 hb8 hg8 ha8 pI pZ RP hbr hlr)))
    go_ret3
    exact did_put rfl HRC.out HC3.out RPK.out HG.out (RPO.out _ _ (below_then HT.out HT.out.size HB8.out) (Nat.le_trans HT.out.size HBR.out)) HD.out
  · have i2 := (blk_cell HI.out 2).trans rfl
    have i4 := (blk_cell HI.out 4).trans rfl
    obtain ⟨a0, a1⟩ := hk.a (.inr (.inl rfl))
    dsimp only at a0 a1
    have hpv := HP.out _ (mem_rd a0 a1)
    have hd : doesK O ups ons ⟨3, d, a, b, wd, ⟨t, n, s⟩⟩ r g = (O.one wd (rd_T37 r a)).map fun v => (r.set d.toNat v, g) := rfl
    have HD := Aside0.mk hd
    clear hd
    obtain ⟨ad, e, ea0, ea1, ea2⟩ := at_T37 HR.out a a0 a1
    subst e
    have fa0 := (HA.out.cell (World.block_lt_of_cell? w _ ea0)).trans ea0
    have fa1 := (HA.out.cell (World.block_lt_of_cell? w _ ea1)).trans ea1
    have fa2 := (HA.out.cell (World.block_lt_of_cell? w _ ea2)).trans ea2
    clear ea0 ea1 ea2
    generalize rd_T37 r a = v at fa0 fa1 fa2 HD hpv
    obtain ⟨rr, er, hcall, hon, hpr⟩ := hO.one wd v hpv
    rw [hon] at HD
    have HC := Aside0.mk hcall
    clear hcall hon hpr hpv
    go_wp2_with fail
    go_cut [12, 13] from 35 to 45 (fun p e wx => ∃ gc, p = .pointer (some ⟨gc, 0, none⟩) ∧ e = .int .i64 er ∧ Aside0 (Below w1.heap.size w1 wx) ∧ Aside0 (w1.heap.size ≤ gc) ∧ Aside0 (wx.heap[gc]? = some (.cells #[.int .u8 rr.f0, .int .i64 rr.f1, .string rr.f2] 37 (0, 0))))
    case first =>
      have hbA := below_alloc (Below.refl w1.heap.size w1) (.cells #[.int .u8 0, .int .i64 0, .string ⟨#[]⟩] 37)
      have S0 : w1.cell? ⟨gb, 2, none⟩ = some (.int .i64 a) ∧ w1.cell? ⟨gb, 4, none⟩ = some (.string wd) ∧ w1.cell? (ad.add (a.toNat * 3)) = some (.int .u8 v.f0) ∧ w1.cell? (⟨(ad.add (a.toNat * 3)).block, (ad.add (a.toNat * 3)).off + 1, none⟩) = some (.int .i64 v.f1) ∧ w1.cell? (⟨(ad.add (a.toNat * 3)).block, (ad.add (a.toNat * 3)).off + 2, none⟩) = some (.string v.f2) := ⟨i2, i4, fa0, fa1, fa2⟩
      have SA : (w1.alloc (.cells #[.int .u8 0, .int .i64 0, .string ⟨#[]⟩] 37)).cell? ⟨gb, 2, none⟩ = some (.int .i64 a) ∧ (w1.alloc (.cells #[.int .u8 0, .int .i64 0, .string ⟨#[]⟩] 37)).cell? ⟨gb, 4, none⟩ = some (.string wd) ∧ (w1.alloc (.cells #[.int .u8 0, .int .i64 0, .string ⟨#[]⟩] 37)).cell? (ad.add (a.toNat * 3)) = some (.int .u8 v.f0) ∧ (w1.alloc (.cells #[.int .u8 0, .int .i64 0, .string ⟨#[]⟩] 37)).cell? (⟨(ad.add (a.toNat * 3)).block, (ad.add (a.toNat * 3)).off + 1, none⟩) = some (.int .i64 v.f1) ∧ (w1.alloc (.cells #[.int .u8 0, .int .i64 0, .string ⟨#[]⟩] 37)).cell? (⟨(ad.add (a.toNat * 3)).block, (ad.add (a.toNat * 3)).off + 2, none⟩) = some (.string v.f2) := ⟨(blk_cell (blk_alloc HI.out (.cells #[.int .u8 0, .int .i64 0, .string ⟨#[]⟩] 37)) 2).trans rfl, (blk_cell (blk_alloc HI.out (.cells #[.int .u8 0, .int .i64 0, .string ⟨#[]⟩] 37)) 4).trans rfl, (hbA.cell (World.block_lt_of_cell? w1 _ fa0)).trans fa0, (hbA.cell (World.block_lt_of_cell? w1 _ fa1)).trans fa1, (hbA.cell (World.block_lt_of_cell? w1 _ fa2)).trans fa2⟩
      go_region_held3 (fun W' => W'.cell? ⟨gb, 2, none⟩ = some (.int .i64 a) ∧ W'.cell? ⟨gb, 4, none⟩ = some (.string wd) ∧ W'.cell? (ad.add (a.toNat * 3)) = some (.int .u8 v.f0) ∧ W'.cell? (⟨(ad.add (a.toNat * 3)).block, (ad.add (a.toNat * 3)).off + 1, none⟩) = some (.int .i64 v.f1) ∧ W'.cell? (⟨(ad.add (a.toNat * 3)).block, (ad.add (a.toNat * 3)).off + 2, none⟩) = some (.string v.f2)) (first | exact S0 | exact SA | exact S2 | exact S3 _ | exact S5 | fail)
        (first
        | (go_at_call 74; (with_reducible refine (HC.out (w1.alloc (.cells #[.int .u8 0, .int .i64 0, .string ⟨#[]⟩] 37)).drew).mono ?_); rintro e w2 ⟨rfl, hb2⟩; have hn := blk_below (blk_drew (blk_new w1 (.cells #[.int .u8 0, .int .i64 0, .string ⟨#[]⟩] 37))) hb2; have q0 := (blk_cell hn 0).trans rfl; have q1 := (blk_cell hn 1).trans rfl; have q2 := (blk_cell hn 2).trans rfl; have g0 := blk_frozen hn 0; have g1 := blk_frozen hn 1; have g2 := blk_frozen hn 2; have HN := Aside0.mk hn; have S2 : w2.cell? ⟨gb, 2, none⟩ = some (.int .i64 a) ∧ w2.cell? ⟨gb, 4, none⟩ = some (.string wd) ∧ w2.cell? (ad.add (a.toNat * 3)) = some (.int .u8 v.f0) ∧ w2.cell? (⟨(ad.add (a.toNat * 3)).block, (ad.add (a.toNat * 3)).off + 1, none⟩) = some (.int .i64 v.f1) ∧ w2.cell? (⟨(ad.add (a.toNat * 3)).block, (ad.add (a.toNat * 3)).off + 2, none⟩) = some (.string v.f2) := (by exact ⟨(Below.cell ((below_drew (Below.refl _ (w1.alloc (.cells #[.int .u8 0, .int .i64 0, .string ⟨#[]⟩] 37)))).trans hb2) (World.block_lt_of_cell? _ _ SA.1)).trans SA.1, (Below.cell ((below_drew (Below.refl _ (w1.alloc (.cells #[.int .u8 0, .int .i64 0, .string ⟨#[]⟩] 37)))).trans hb2) (World.block_lt_of_cell? _ _ SA.2.1)).trans SA.2.1, (Below.cell ((below_drew (Below.refl _ (w1.alloc (.cells #[.int .u8 0, .int .i64 0, .string ⟨#[]⟩] 37)))).trans hb2) (World.block_lt_of_cell? _ _ SA.2.2.1)).trans SA.2.2.1, (Below.cell ((below_drew (Below.refl _ (w1.alloc (.cells #[.int .u8 0, .int .i64 0, .string ⟨#[]⟩] 37)))).trans hb2) (World.block_lt_of_cell? _ _ SA.2.2.2.1)).trans SA.2.2.2.1, (Below.cell ((below_drew (Below.refl _ (w1.alloc (.cells #[.int .u8 0, .int .i64 0, .string ⟨#[]⟩] 37)))).trans hb2) (World.block_lt_of_cell? _ _ SA.2.2.2.2)).trans SA.2.2.2.2⟩); have HB2 := Aside0.mk (below_then (below_drew (below_alloc (Below.refl w1.heap.size w1) (.cells #[.int .u8 0, .int .i64 0, .string ⟨#[]⟩] 37))) (by show w1.heap.size ≤ (w1.alloc (.cells #[.int .u8 0, .int .i64 0, .string ⟨#[]⟩] 37)).heap.size; rw [World.size_alloc]; omega) hb2); have HBX := Aside0.mk (((HB2.out.setCell (p := ⟨w1.heap.size, 0, none⟩) (Nat.le_refl _) (.int .u8 rr.f0)).setCell (p := ⟨w1.heap.size, 1, none⟩) (Nat.le_refl _) (.int .i64 rr.f1)).setCell (p := ⟨w1.heap.size, 2, none⟩) (Nat.le_refl _) (.string rr.f2)); have S5 : (((w2.setCell ⟨w1.heap.size, 0, none⟩ (.int .u8 rr.f0)).setCell ⟨w1.heap.size, 1, none⟩ (.int .i64 rr.f1)).setCell ⟨w1.heap.size, 2, none⟩ (.string rr.f2)).cell? ⟨gb, 2, none⟩ = some (.int .i64 a) ∧ (((w2.setCell ⟨w1.heap.size, 0, none⟩ (.int .u8 rr.f0)).setCell ⟨w1.heap.size, 1, none⟩ (.int .i64 rr.f1)).setCell ⟨w1.heap.size, 2, none⟩ (.string rr.f2)).cell? ⟨gb, 4, none⟩ = some (.string wd) ∧ (((w2.setCell ⟨w1.heap.size, 0, none⟩ (.int .u8 rr.f0)).setCell ⟨w1.heap.size, 1, none⟩ (.int .i64 rr.f1)).setCell ⟨w1.heap.size, 2, none⟩ (.string rr.f2)).cell? (ad.add (a.toNat * 3)) = some (.int .u8 v.f0) ∧ (((w2.setCell ⟨w1.heap.size, 0, none⟩ (.int .u8 rr.f0)).setCell ⟨w1.heap.size, 1, none⟩ (.int .i64 rr.f1)).setCell ⟨w1.heap.size, 2, none⟩ (.string rr.f2)).cell? (⟨(ad.add (a.toNat * 3)).block, (ad.add (a.toNat * 3)).off + 1, none⟩) = some (.int .i64 v.f1) ∧ (((w2.setCell ⟨w1.heap.size, 0, none⟩ (.int .u8 rr.f0)).setCell ⟨w1.heap.size, 1, none⟩ (.int .i64 rr.f1)).setCell ⟨w1.heap.size, 2, none⟩ (.string rr.f2)).cell? (⟨(ad.add (a.toNat * 3)).block, (ad.add (a.toNat * 3)).off + 2, none⟩) = some (.string v.f2) := (by exact ⟨(HBX.out.cell (World.block_lt_of_cell? w1 _ i2)).trans i2, (HBX.out.cell (World.block_lt_of_cell? w1 _ i4)).trans i4, (HBX.out.cell (World.block_lt_of_cell? w1 _ fa0)).trans fa0, (HBX.out.cell (World.block_lt_of_cell? w1 _ fa1)).trans fa1, (HBX.out.cell (World.block_lt_of_cell? w1 _ fa2)).trans fa2⟩); clear hn hb2)
        | (go_at_call 74; (with_reducible refine (HC.out w1.drew).mono ?_); rintro e w2 ⟨rfl, hb2⟩; have HB2 := Aside0.mk ((below_drew (Below.refl w1.heap.size w1)).trans hb2); have S2 : w2.cell? ⟨gb, 2, none⟩ = some (.int .i64 a) ∧ w2.cell? ⟨gb, 4, none⟩ = some (.string wd) ∧ w2.cell? (ad.add (a.toNat * 3)) = some (.int .u8 v.f0) ∧ w2.cell? (⟨(ad.add (a.toNat * 3)).block, (ad.add (a.toNat * 3)).off + 1, none⟩) = some (.int .i64 v.f1) ∧ w2.cell? (⟨(ad.add (a.toNat * 3)).block, (ad.add (a.toNat * 3)).off + 2, none⟩) = some (.string v.f2) := (by exact ⟨(HB2.out.cell (World.block_lt_of_cell? w1 _ i2)).trans i2, (HB2.out.cell (World.block_lt_of_cell? w1 _ i4)).trans i4, (HB2.out.cell (World.block_lt_of_cell? w1 _ fa0)).trans fa0, (HB2.out.cell (World.block_lt_of_cell? w1 _ fa1)).trans fa1, (HB2.out.cell (World.block_lt_of_cell? w1 _ fa2)).trans fa2⟩); have S3 : ∀ o : Obj, (w2.alloc o).cell? ⟨gb, 2, none⟩ = some (.int .i64 a) ∧ (w2.alloc o).cell? ⟨gb, 4, none⟩ = some (.string wd) ∧ (w2.alloc o).cell? (ad.add (a.toNat * 3)) = some (.int .u8 v.f0) ∧ (w2.alloc o).cell? (⟨(ad.add (a.toNat * 3)).block, (ad.add (a.toNat * 3)).off + 1, none⟩) = some (.int .i64 v.f1) ∧ (w2.alloc o).cell? (⟨(ad.add (a.toNat * 3)).block, (ad.add (a.toNat * 3)).off + 2, none⟩) = some (.string v.f2) := (fun o => ⟨(Below.cell (below_alloc (Below.refl _ w2) o) (World.block_lt_of_cell? _ _ S2.1)).trans S2.1, (Below.cell (below_alloc (Below.refl _ w2) o) (World.block_lt_of_cell? _ _ S2.2.1)).trans S2.2.1, (Below.cell (below_alloc (Below.refl _ w2) o) (World.block_lt_of_cell? _ _ S2.2.2.1)).trans S2.2.2.1, (Below.cell (below_alloc (Below.refl _ w2) o) (World.block_lt_of_cell? _ _ S2.2.2.2.1)).trans S2.2.2.2.1, (Below.cell (below_alloc (Below.refl _ w2) o) (World.block_lt_of_cell? _ _ S2.2.2.2.2)).trans S2.2.2.2.2⟩); clear hb2))
      all_goals (go_wp2_with fail; go_meet; case rel => first | exact ⟨w2.heap.size, rfl, rfl, ⟨below_alloc HB2.out _⟩, ⟨HB2.out.size⟩, ⟨blk_new w2 _⟩⟩ | exact ⟨w1.heap.size, rfl, rfl, ⟨((HB2.out.setCell (p := ⟨w1.heap.size, 0, none⟩) (Nat.le_refl _) _).setCell (p := ⟨w1.heap.size, 1, none⟩) (Nat.le_refl _) _).setCell (p := ⟨w1.heap.size, 2, none⟩) (Nat.le_refl _) _⟩, ⟨Nat.le_refl _⟩, ⟨blk_put (blk_put (blk_put HN.out 0 _ rfl) 1 _ rfl) 2 _ rfl⟩⟩)
    case rest =>
      obtain ⟨gc, rfl, rfl, HBc, HGc, HCc⟩ := hcut
      clear HC i2 i4 fa0 fa1 fa2
      by_cases he : er = 0
      · have hd := HD.out
        rw [if_pos he] at hd
        replace HD := Aside0.mk hd
        clear hd
        have h0 : (er != 0) = false := by rw [he]; rfl
        have k0 := (blk_cell HCc.out 0).trans rfl
        have k1 := (blk_cell HCc.out 1).trans rfl
        have k2 := (blk_cell HCc.out 2).trans rfl
        have HZc := Aside0.mk (blk_below HZ.out HBc.out)
        have z0 := (blk_cell HZc.out 0).trans rfl
        have z1 := (blk_cell HZc.out 1).trans rfl
        have z2 := (blk_cell HZc.out 2).trans rfl
        have y0 := blk_frozen HZc.out 0
        have y1 := blk_frozen HZc.out 1
        have y2 := blk_frozen HZc.out 2
        go_upto_region 32 with fail
        clear k0 k1 k2 z0 z1 z2 y0 y1 y2 h0
        have hT : Below w.heap.size w (((wc.setCell ⟨gb + 1 + 1, 0, none⟩ (.int .u8 rr.f0)).setCell ⟨gb + 1 + 1, 1, none⟩ (.int .i64 rr.f1)).setCell ⟨gb + 1 + 1, 2, none⟩ (.string rr.f2)) := (((below_then HA.out HA.out.size HBc.out).setCell (p := ⟨gb + 1 + 1, 0, none⟩) (by have := HGB.out; show w.heap.size ≤ gb + 1 + 1; omega) _).setCell (p := ⟨gb + 1 + 1, 1, none⟩) (by have := HGB.out; show w.heap.size ≤ gb + 1 + 1; omega) _).setCell (p := ⟨gb + 1 + 1, 2, none⟩) (by have := HGB.out; show w.heap.size ≤ gb + 1 + 1; omega) _
        have hI : (((wc.setCell ⟨gb + 1 + 1, 0, none⟩ (.int .u8 rr.f0)).setCell ⟨gb + 1 + 1, 1, none⟩ (.int .i64 rr.f1)).setCell ⟨gb + 1 + 1, 2, none⟩ (.string rr.f2)).heap[gb]? = some (.cells #[.int .u8 3, .int .i64 d, .int .i64 a, .int .i64 b, .string wd, .int .u8 t, .int .i64 n, .string s] 39 (0, 0)) := blk_far (blk_far (blk_far (blk_below HI.out HBc.out) (p := ⟨gb + 1 + 1, 0, none⟩) (by show gb ≠ gb + 1 + 1; omega) _) (p := ⟨gb + 1 + 1, 1, none⟩) (by show gb ≠ gb + 1 + 1; omega) _) (p := ⟨gb + 1 + 1, 2, none⟩) (by show gb ≠ gb + 1 + 1; omega) _
        have hZ : (((wc.setCell ⟨gb + 1 + 1, 0, none⟩ (.int .u8 rr.f0)).setCell ⟨gb + 1 + 1, 1, none⟩ (.int .i64 rr.f1)).setCell ⟨gb + 1 + 1, 2, none⟩ (.string rr.f2)).heap[gb + 1 + 1]? = some (.cells #[.int .u8 rr.f0, .int .i64 rr.f1, .string rr.f2] 37 (0, 0)) := blk_put (blk_put (blk_put HZc.out 0 _ rfl) 1 _ rfl) 2 _ rfl
        obtain ⟨wt, hwt⟩ : ∃ wt, (((wc.setCell ⟨gb + 1 + 1, 0, none⟩ (.int .u8 rr.f0)).setCell ⟨gb + 1 + 1, 1, none⟩ (.int .i64 rr.f1)).setCell ⟨gb + 1 + 1, 2, none⟩ (.string rr.f2)) = wt := ⟨_, rfl⟩
        rw [hwt] at hT hI hZ ⊢
        have HT := Aside0.mk hT
        have HIt := Aside0.mk hI
        have HZt := Aside0.mk hZ
        clear hT hI hZ hwt
        obtain ⟨d0, d1⟩ := hk.dst (by show (3 : Int) ≠ 6; omega) (by show (3 : Int) ≠ 8; omega)
        dsimp only at d0 d1
        go_wp2_with (first
          | ((with_reducible refine gate_dst (N := 159) rfl ?_); refine Kd.R_lit k37 (w0 := wt) wt.heap.size 37 ?hg (N := 159) ?hd (xs := ([] : List S37)) (inner := []) (ok := fun _ => True) (okp := fun _ => True) ?hr ?hp (fun _ hk => hk) trivial (Below.refl _ _) (Nat.le_refl _) (by simp) ?_; (case hd => rfl); (case hg => rfl); (case hr => first | (go_simp; done) | (go_simp; rfl)); (case hp => exact Reps.none _ _); intro v7 w7 ho7 hb7 hg7 hn7; have HO7 := Aside0.mk ho7; have HB7 := Aside0.mk hb7; clear ho7 hb7 hg7 hn7)
          | ((with_reducible refine gate_builtin (b := .append) (xs := #[.tmp 159, .tmp 160]) rfl ?_); at_builtin; go_loud (refine Kd.R_append_rows k37 (w0 := wt) wt.heap.size rfl (.tmp 159) (.tmp 160) 26 37 (.agg #[(.int .u8 0), (.int .i64 0), (.string ⟨#[]⟩)]) 32 rfl Try.underlying26 info37 rfl (by decide) (by omega) v7 [] r _ _ _ (fun _ => True) (fun _ => False) rfl rfl ?aO ?aR (fun _ _ h => h) (fun _ h => h.elim) ?aF ?aB ?aS ?aL ?_; (case aO => exact HO7.out); (case aR => exact Kd.C_below HR.out (below_then HT.out HT.out.size HB7.out)); (case aF => exact fun _ _ => trivial); (case aB => exact HB7.out); (case aS => exact HB7.out.size); (case aL => have := HL.out; rw [List.length_nil]; omega); intro v8 w8 hr8 hb8 hg8 ha8; rw [List.nil_append] at hr8; obtain ⟨gr, cr, rfl, hbr, hlr, _⟩ := Kd.R_form hr8 (by omega); have RP := row_put (d := d) rr hr8 d0 d1; have HRC := Aside0.mk (Kd.R_reads' hr8).2.1; have HBR := Aside0.mk hbr; have HB8 := Aside0.mk hb8; have pI := blk_below HIt.out HB8.out; have pZ := blk_below HZt.out HB8.out; have i1 := (blk_cell pI 1).trans rfl; have z0 := (blk_cell pZ 0).trans rfl; have z1 := (blk_cell pZ 1).trans rfl; have z2 := (blk_cell pZ 2).trans rfl; obtain ⟨_, q0⟩ := RP.c0; obtain ⟨_, q1⟩ := RP.c1; obtain ⟨_, q2⟩ := RP.c2; have q3 := RP.z0; have q4 := RP.z1; have q5 := RP.z2; (try dsimp only at q1 q2 q4 q5); have RPK := Aside0.mk RP.k; have RPO := Aside0.mk RP.old; clear hr8 hb8 hg8 ha8 pI pZ RP hbr hlr)))
        go_ret3
        exact did_put rfl HRC.out HC3.out RPK.out HG.out (RPO.out _ _ (below_then HT.out HT.out.size HB8.out) (Nat.le_trans HT.out.size HBR.out)) HD.out
      · have hd := HD.out
        rw [if_neg he] at hd
        replace HD := Aside0.mk hd
        clear hd
        have h0 : (er != 0) = true := by simpa using he
        go_wp2_with fail
        go_ret3
        exact did_not HC1.out HC3.out HR.out HG.out (below_then HA.out HA.out.size HBc.out) HD.out
  · have i2 := (blk_cell HI.out 2).trans rfl
    have i3 := (blk_cell HI.out 3).trans rfl
    have i4 := (blk_cell HI.out 4).trans rfl
    obtain ⟨a0, a1⟩ := hk.a (.inr (.inr (.inl rfl)))
    obtain ⟨b0, b1⟩ := hk.b rfl
    dsimp only at a0 a1 b0 b1
    have hpv := HP.out _ (mem_rd a0 a1)
    have hpu := HP.out _ (mem_rd b0 b1)
    have hd : doesK O ups ons ⟨4, d, a, b, wd, ⟨t, n, s⟩⟩ r g = (O.two wd (rd_T37 r a) (rd_T37 r b)).map fun v => (r.set d.toNat v, g) := rfl
    have HD := Aside0.mk hd
    clear hd
    obtain ⟨ad, e, ea0, ea1, ea2⟩ := at_T37 HR.out a a0 a1
    obtain ⟨ad2, e2, eb0, eb1, eb2⟩ := at_T37 HR.out b b0 b1
    subst e
    injection e2 with e2
    subst e2
    have fa0 := (HA.out.cell (World.block_lt_of_cell? w _ ea0)).trans ea0
    have fa1 := (HA.out.cell (World.block_lt_of_cell? w _ ea1)).trans ea1
    have fa2 := (HA.out.cell (World.block_lt_of_cell? w _ ea2)).trans ea2
    clear ea0 ea1 ea2
    have fb0 := (HA.out.cell (World.block_lt_of_cell? w _ eb0)).trans eb0
    have fb1 := (HA.out.cell (World.block_lt_of_cell? w _ eb1)).trans eb1
    have fb2 := (HA.out.cell (World.block_lt_of_cell? w _ eb2)).trans eb2
    clear eb0 eb1 eb2
    generalize rd_T37 r a = v at fa0 fa1 fa2 HD hpv
    generalize rd_T37 r b = v2 at fb0 fb1 fb2 HD hpu
    obtain ⟨rr, er, hcall, hon, hpr⟩ := hO.two wd v v2 hpv hpu
    rw [hon] at HD
    have HC := Aside0.mk hcall
    clear hcall hon hpr hpv hpu
    go_wp2_with fail
    go_cut [14, 15] from 53 to 68 (fun p e wx => ∃ gc, p = .pointer (some ⟨gc, 0, none⟩) ∧ e = .int .i64 er ∧ Aside0 (Below w1.heap.size w1 wx) ∧ Aside0 (w1.heap.size ≤ gc) ∧ Aside0 (wx.heap[gc]? = some (.cells #[.int .u8 rr.f0, .int .i64 rr.f1, .string rr.f2] 37 (0, 0))))
    case first =>
      have hbA := below_alloc (Below.refl w1.heap.size w1) (.cells #[.int .u8 0, .int .i64 0, .string ⟨#[]⟩] 37)
      have S0 : w1.cell? ⟨gb, 2, none⟩ = some (.int .i64 a) ∧ w1.cell? ⟨gb, 3, none⟩ = some (.int .i64 b) ∧ w1.cell? ⟨gb, 4, none⟩ = some (.string wd) ∧ w1.cell? (ad.add (a.toNat * 3)) = some (.int .u8 v.f0) ∧ w1.cell? (⟨(ad.add (a.toNat * 3)).block, (ad.add (a.toNat * 3)).off + 1, none⟩) = some (.int .i64 v.f1) ∧ w1.cell? (⟨(ad.add (a.toNat * 3)).block, (ad.add (a.toNat * 3)).off + 2, none⟩) = some (.string v.f2) ∧ w1.cell? (ad.add (b.toNat * 3)) = some (.int .u8 v2.f0) ∧ w1.cell? (⟨(ad.add (b.toNat * 3)).block, (ad.add (b.toNat * 3)).off + 1, none⟩) = some (.int .i64 v2.f1) ∧ w1.cell? (⟨(ad.add (b.toNat * 3)).block, (ad.add (b.toNat * 3)).off + 2, none⟩) = some (.string v2.f2) := ⟨i2, i3, i4, fa0, fa1, fa2, fb0, fb1, fb2⟩
      have SA : (w1.alloc (.cells #[.int .u8 0, .int .i64 0, .string ⟨#[]⟩] 37)).cell? ⟨gb, 2, none⟩ = some (.int .i64 a) ∧ (w1.alloc (.cells #[.int .u8 0, .int .i64 0, .string ⟨#[]⟩] 37)).cell? ⟨gb, 3, none⟩ = some (.int .i64 b) ∧ (w1.alloc (.cells #[.int .u8 0, .int .i64 0, .string ⟨#[]⟩] 37)).cell? ⟨gb, 4, none⟩ = some (.string wd) ∧ (w1.alloc (.cells #[.int .u8 0, .int .i64 0, .string ⟨#[]⟩] 37)).cell? (ad.add (a.toNat * 3)) = some (.int .u8 v.f0) ∧ (w1.alloc (.cells #[.int .u8 0, .int .i64 0, .string ⟨#[]⟩] 37)).cell? (⟨(ad.add (a.toNat * 3)).block, (ad.add (a.toNat * 3)).off + 1, none⟩) = some (.int .i64 v.f1) ∧ (w1.alloc (.cells #[.int .u8 0, .int .i64 0, .string ⟨#[]⟩] 37)).cell? (⟨(ad.add (a.toNat * 3)).block, (ad.add (a.toNat * 3)).off + 2, none⟩) = some (.string v.f2) ∧ (w1.alloc (.cells #[.int .u8 0, .int .i64 0, .string ⟨#[]⟩] 37)).cell? (ad.add (b.toNat * 3)) = some (.int .u8 v2.f0) ∧ (w1.alloc (.cells #[.int .u8 0, .int .i64 0, .string ⟨#[]⟩] 37)).cell? (⟨(ad.add (b.toNat * 3)).block, (ad.add (b.toNat * 3)).off + 1, none⟩) = some (.int .i64 v2.f1) ∧ (w1.alloc (.cells #[.int .u8 0, .int .i64 0, .string ⟨#[]⟩] 37)).cell? (⟨(ad.add (b.toNat * 3)).block, (ad.add (b.toNat * 3)).off + 2, none⟩) = some (.string v2.f2) := ⟨(blk_cell (blk_alloc HI.out (.cells #[.int .u8 0, .int .i64 0, .string ⟨#[]⟩] 37)) 2).trans rfl, (blk_cell (blk_alloc HI.out (.cells #[.int .u8 0, .int .i64 0, .string ⟨#[]⟩] 37)) 3).trans rfl, (blk_cell (blk_alloc HI.out (.cells #[.int .u8 0, .int .i64 0, .string ⟨#[]⟩] 37)) 4).trans rfl, (hbA.cell (World.block_lt_of_cell? w1 _ fa0)).trans fa0, (hbA.cell (World.block_lt_of_cell? w1 _ fa1)).trans fa1, (hbA.cell (World.block_lt_of_cell? w1 _ fa2)).trans fa2, (hbA.cell (World.block_lt_of_cell? w1 _ fb0)).trans fb0, (hbA.cell (World.block_lt_of_cell? w1 _ fb1)).trans fb1, (hbA.cell (World.block_lt_of_cell? w1 _ fb2)).trans fb2⟩
      go_region_held3 (fun W' => W'.cell? ⟨gb, 2, none⟩ = some (.int .i64 a) ∧ W'.cell? ⟨gb, 3, none⟩ = some (.int .i64 b) ∧ W'.cell? ⟨gb, 4, none⟩ = some (.string wd) ∧ W'.cell? (ad.add (a.toNat * 3)) = some (.int .u8 v.f0) ∧ W'.cell? (⟨(ad.add (a.toNat * 3)).block, (ad.add (a.toNat * 3)).off + 1, none⟩) = some (.int .i64 v.f1) ∧ W'.cell? (⟨(ad.add (a.toNat * 3)).block, (ad.add (a.toNat * 3)).off + 2, none⟩) = some (.string v.f2) ∧ W'.cell? (ad.add (b.toNat * 3)) = some (.int .u8 v2.f0) ∧ W'.cell? (⟨(ad.add (b.toNat * 3)).block, (ad.add (b.toNat * 3)).off + 1, none⟩) = some (.int .i64 v2.f1) ∧ W'.cell? (⟨(ad.add (b.toNat * 3)).block, (ad.add (b.toNat * 3)).off + 2, none⟩) = some (.string v2.f2)) (first | exact S0 | exact SA | exact S2 | exact S3 _ | exact S5 | fail)
        (first
        | (go_at_call 75; (with_reducible refine (HC.out (w1.alloc (.cells #[.int .u8 0, .int .i64 0, .string ⟨#[]⟩] 37)).drew).mono ?_); rintro e w2 ⟨rfl, hb2⟩; have hn := blk_below (blk_drew (blk_new w1 (.cells #[.int .u8 0, .int .i64 0, .string ⟨#[]⟩] 37))) hb2; have q0 := (blk_cell hn 0).trans rfl; have q1 := (blk_cell hn 1).trans rfl; have q2 := (blk_cell hn 2).trans rfl; have g0 := blk_frozen hn 0; have g1 := blk_frozen hn 1; have g2 := blk_frozen hn 2; have HN := Aside0.mk hn; have S2 : w2.cell? ⟨gb, 2, none⟩ = some (.int .i64 a) ∧ w2.cell? ⟨gb, 3, none⟩ = some (.int .i64 b) ∧ w2.cell? ⟨gb, 4, none⟩ = some (.string wd) ∧ w2.cell? (ad.add (a.toNat * 3)) = some (.int .u8 v.f0) ∧ w2.cell? (⟨(ad.add (a.toNat * 3)).block, (ad.add (a.toNat * 3)).off + 1, none⟩) = some (.int .i64 v.f1) ∧ w2.cell? (⟨(ad.add (a.toNat * 3)).block, (ad.add (a.toNat * 3)).off + 2, none⟩) = some (.string v.f2) ∧ w2.cell? (ad.add (b.toNat * 3)) = some (.int .u8 v2.f0) ∧ w2.cell? (⟨(ad.add (b.toNat * 3)).block, (ad.add (b.toNat * 3)).off + 1, none⟩) = some (.int .i64 v2.f1) ∧ w2.cell? (⟨(ad.add (b.toNat * 3)).block, (ad.add (b.toNat * 3)).off + 2, none⟩) = some (.string v2.f2) := (by exact ⟨(Below.cell ((below_drew (Below.refl _ (w1.alloc (.cells #[.int .u8 0, .int .i64 0, .string ⟨#[]⟩] 37)))).trans hb2) (World.block_lt_of_cell? _ _ SA.1)).trans SA.1, (Below.cell ((below_drew (Below.refl _ (w1.alloc (.cells #[.int .u8 0, .int .i64 0, .string ⟨#[]⟩] 37)))).trans hb2) (World.block_lt_of_cell? _ _ SA.2.1)).trans SA.2.1, (Below.cell ((below_drew (Below.refl _ (w1.alloc (.cells #[.int .u8 0, .int .i64 0, .string ⟨#[]⟩] 37)))).trans hb2) (World.block_lt_of_cell? _ _ SA.2.2.1)).trans SA.2.2.1, (Below.cell ((below_drew (Below.refl _ (w1.alloc (.cells #[.int .u8 0, .int .i64 0, .string ⟨#[]⟩] 37)))).trans hb2) (World.block_lt_of_cell? _ _ SA.2.2.2.1)).trans SA.2.2.2.1, (Below.cell ((below_drew (Below.refl _ (w1.alloc (.cells #[.int .u8 0, .int .i64 0, .string ⟨#[]⟩] 37)))).trans hb2) (World.block_lt_of_cell? _ _ SA.2.2.2.2.1)).trans SA.2.2.2.2.1, (Below.cell ((below_drew (Below.refl _ (w1.alloc (.cells #[.int .u8 0, .int .i64 0, .string ⟨#[]⟩] 37)))).trans hb2) (World.block_lt_of_cell? _ _ SA.2.2.2.2.2.1)).trans SA.2.2.2.2.2.1, (Below.cell ((below_drew (Below.refl _ (w1.alloc (.cells #[.int .u8 0, .int .i64 0, .string ⟨#[]⟩] 37)))).trans hb2) (World.block_lt_of_cell? _ _ SA.2.2.2.2.2.2.1)).trans SA.2.2.2.2.2.2.1, (Below.cell ((below_drew (Below.refl _ (w1.alloc (.cells #[.int .u8 0, .int .i64 0, .string ⟨#[]⟩] 37)))).trans hb2) (World.block_lt_of_cell? _ _ SA.2.2.2.2.2.2.2.1)).trans SA.2.2.2.2.2.2.2.1, (Below.cell ((below_drew (Below.refl _ (w1.alloc (.cells #[.int .u8 0, .int .i64 0, .string ⟨#[]⟩] 37)))).trans hb2) (World.block_lt_of_cell? _ _ SA.2.2.2.2.2.2.2.2)).trans SA.2.2.2.2.2.2.2.2⟩); have HB2 := Aside0.mk (below_then (below_drew (below_alloc (Below.refl w1.heap.size w1) (.cells #[.int .u8 0, .int .i64 0, .string ⟨#[]⟩] 37))) (by show w1.heap.size ≤ (w1.alloc (.cells #[.int .u8 0, .int .i64 0, .string ⟨#[]⟩] 37)).heap.size; rw [World.size_alloc]; omega) hb2); have HBX := Aside0.mk (((HB2.out.setCell (p := ⟨w1.heap.size, 0, none⟩) (Nat.le_refl _) (.int .u8 rr.f0)).setCell (p := ⟨w1.heap.size, 1, none⟩) (Nat.le_refl _) (.int .i64 rr.f1)).setCell (p := ⟨w1.heap.size, 2, none⟩) (Nat.le_refl _) (.string rr.f2)); have S5 : (((w2.setCell ⟨w1.heap.size, 0, none⟩ (.int .u8 rr.f0)).setCell ⟨w1.heap.size, 1, none⟩ (.int .i64 rr.f1)).setCell ⟨w1.heap.size, 2, none⟩ (.string rr.f2)).cell? ⟨gb, 2, none⟩ = some (.int .i64 a) ∧ (((w2.setCell ⟨w1.heap.size, 0, none⟩ (.int .u8 rr.f0)).setCell ⟨w1.heap.size, 1, none⟩ (.int .i64 rr.f1)).setCell ⟨w1.heap.size, 2, none⟩ (.string rr.f2)).cell? ⟨gb, 3, none⟩ = some (.int .i64 b) ∧ (((w2.setCell ⟨w1.heap.size, 0, none⟩ (.int .u8 rr.f0)).setCell ⟨w1.heap.size, 1, none⟩ (.int .i64 rr.f1)).setCell ⟨w1.heap.size, 2, none⟩ (.string rr.f2)).cell? ⟨gb, 4, none⟩ = some (.string wd) ∧ (((w2.setCell ⟨w1.heap.size, 0, none⟩ (.int .u8 rr.f0)).setCell ⟨w1.heap.size, 1, none⟩ (.int .i64 rr.f1)).setCell ⟨w1.heap.size, 2, none⟩ (.string rr.f2)).cell? (ad.add (a.toNat * 3)) = some (.int .u8 v.f0) ∧ (((w2.setCell ⟨w1.heap.size, 0, none⟩ (.int .u8 rr.f0)).setCell ⟨w1.heap.size, 1, none⟩ (.int .i64 rr.f1)).setCell ⟨w1.heap.size, 2, none⟩ (.string rr.f2)).cell? (⟨(ad.add (a.toNat * 3)).block, (ad.add (a.toNat * 3)).off + 1, none⟩) = some (.int .i64 v.f1) ∧ (((w2.setCell ⟨w1.heap.size, 0, none⟩ (.int .u8 rr.f0)).setCell ⟨w1.heap.size, 1, none⟩ (.int .i64 rr.f1)).setCell ⟨w1.heap.size, 2, none⟩ (.string rr.f2)).cell? (⟨(ad.add (a.toNat * 3)).block, (ad.add (a.toNat * 3)).off + 2, none⟩) = some (.string v.f2) ∧ (((w2.setCell ⟨w1.heap.size, 0, none⟩ (.int .u8 rr.f0)).setCell ⟨w1.heap.size, 1, none⟩ (.int .i64 rr.f1)).setCell ⟨w1.heap.size, 2, none⟩ (.string rr.f2)).cell? (ad.add (b.toNat * 3)) = some (.int .u8 v2.f0) ∧ (((w2.setCell ⟨w1.heap.size, 0, none⟩ (.int .u8 rr.f0)).setCell ⟨w1.heap.size, 1, none⟩ (.int .i64 rr.f1)).setCell ⟨w1.heap.size, 2, none⟩ (.string rr.f2)).cell? (⟨(ad.add (b.toNat * 3)).block, (ad.add (b.toNat * 3)).off + 1, none⟩) = some (.int .i64 v2.f1) ∧ (((w2.setCell ⟨w1.heap.size, 0, none⟩ (.int .u8 rr.f0)).setCell ⟨w1.heap.size, 1, none⟩ (.int .i64 rr.f1)).setCell ⟨w1.heap.size, 2, none⟩ (.string rr.f2)).cell? (⟨(ad.add (b.toNat * 3)).block, (ad.add (b.toNat * 3)).off + 2, none⟩) = some (.string v2.f2) := (by exact ⟨(HBX.out.cell (World.block_lt_of_cell? w1 _ i2)).trans i2, (HBX.out.cell (World.block_lt_of_cell? w1 _ i3)).trans i3, (HBX.out.cell (World.block_lt_of_cell? w1 _ i4)).trans i4, (HBX.out.cell (World.block_lt_of_cell? w1 _ fa0)).trans fa0, (HBX.out.cell (World.block_lt_of_cell? w1 _ fa1)).trans fa1, (HBX.out.cell (World.block_lt_of_cell? w1 _ fa2)).trans fa2, (HBX.out.cell (World.block_lt_of_cell? w1 _ fb0)).trans fb0, (HBX.out.cell (World.block_lt_of_cell? w1 _ fb1)).trans fb1, (HBX.out.cell (World.block_lt_of_cell? w1 _ fb2)).trans fb2⟩); clear hn hb2)
        | (go_at_call 75; (with_reducible refine (HC.out w1.drew).mono ?_); rintro e w2 ⟨rfl, hb2⟩; have HB2 := Aside0.mk ((below_drew (Below.refl w1.heap.size w1)).trans hb2); have S2 : w2.cell? ⟨gb, 2, none⟩ = some (.int .i64 a) ∧ w2.cell? ⟨gb, 3, none⟩ = some (.int .i64 b) ∧ w2.cell? ⟨gb, 4, none⟩ = some (.string wd) ∧ w2.cell? (ad.add (a.toNat * 3)) = some (.int .u8 v.f0) ∧ w2.cell? (⟨(ad.add (a.toNat * 3)).block, (ad.add (a.toNat * 3)).off + 1, none⟩) = some (.int .i64 v.f1) ∧ w2.cell? (⟨(ad.add (a.toNat * 3)).block, (ad.add (a.toNat * 3)).off + 2, none⟩) = some (.string v.f2) ∧ w2.cell? (ad.add (b.toNat * 3)) = some (.int .u8 v2.f0) ∧ w2.cell? (⟨(ad.add (b.toNat * 3)).block, (ad.add (b.toNat * 3)).off + 1, none⟩) = some (.int .i64 v2.f1) ∧ w2.cell? (⟨(ad.add (b.toNat * 3)).block, (ad.add (b.toNat * 3)).off + 2, none⟩) = some (.string v2.f2) := (by exact ⟨(HB2.out.cell (World.block_lt_of_cell? w1 _ i2)).trans i2, (HB2.out.cell (World.block_lt_of_cell? w1 _ i3)).trans i3, (HB2.out.cell (World.block_lt_of_cell? w1 _ i4)).trans i4, (HB2.out.cell (World.block_lt_of_cell? w1 _ fa0)).trans fa0, (HB2.out.cell (World.block_lt_of_cell? w1 _ fa1)).trans fa1, (HB2.out.cell (World.block_lt_of_cell? w1 _ fa2)).trans fa2, (HB2.out.cell (World.block_lt_of_cell? w1 _ fb0)).trans fb0, (HB2.out.cell (World.block_lt_of_cell? w1 _ fb1)).trans fb1, (HB2.out.cell (World.block_lt_of_cell? w1 _ fb2)).trans fb2⟩); have S3 : ∀ o : Obj, (w2.alloc o).cell? ⟨gb, 2, none⟩ = some (.int .i64 a) ∧ (w2.alloc o).cell? ⟨gb, 3, none⟩ = some (.int .i64 b) ∧ (w2.alloc o).cell? ⟨gb, 4, none⟩ = some (.string wd) ∧ (w2.alloc o).cell? (ad.add (a.toNat * 3)) = some (.int .u8 v.f0) ∧ (w2.alloc o).cell? (⟨(ad.add (a.toNat * 3)).block, (ad.add (a.toNat * 3)).off + 1, none⟩) = some (.int .i64 v.f1) ∧ (w2.alloc o).cell? (⟨(ad.add (a.toNat * 3)).block, (ad.add (a.toNat * 3)).off + 2, none⟩) = some (.string v.f2) ∧ (w2.alloc o).cell? (ad.add (b.toNat * 3)) = some (.int .u8 v2.f0) ∧ (w2.alloc o).cell? (⟨(ad.add (b.toNat * 3)).block, (ad.add (b.toNat * 3)).off + 1, none⟩) = some (.int .i64 v2.f1) ∧ (w2.alloc o).cell? (⟨(ad.add (b.toNat * 3)).block, (ad.add (b.toNat * 3)).off + 2, none⟩) = some (.string v2.f2) := (fun o => ⟨(Below.cell (below_alloc (Below.refl _ w2) o) (World.block_lt_of_cell? _ _ S2.1)).trans S2.1, (Below.cell (below_alloc (Below.refl _ w2) o) (World.block_lt_of_cell? _ _ S2.2.1)).trans S2.2.1, (Below.cell (below_alloc (Below.refl _ w2) o) (World.block_lt_of_cell? _ _ S2.2.2.1)).trans S2.2.2.1, (Below.cell (below_alloc (Below.refl _ w2) o) (World.block_lt_of_cell? _ _ S2.2.2.2.1)).trans S2.2.2.2.1, (Below.cell (below_alloc (Below.refl _ w2) o) (World.block_lt_of_cell? _ _ S2.2.2.2.2.1)).trans S2.2.2.2.2.1, (Below.cell (below_alloc (Below.refl _ w2) o) (World.block_lt_of_cell? _ _ S2.2.2.2.2.2.1)).trans S2.2.2.2.2.2.1, (Below.cell (below_alloc (Below.refl _ w2) o) (World.block_lt_of_cell? _ _ S2.2.2.2.2.2.2.1)).trans S2.2.2.2.2.2.2.1, (Below.cell (below_alloc (Below.refl _ w2) o) (World.block_lt_of_cell? _ _ S2.2.2.2.2.2.2.2.1)).trans S2.2.2.2.2.2.2.2.1, (Below.cell (below_alloc (Below.refl _ w2) o) (World.block_lt_of_cell? _ _ S2.2.2.2.2.2.2.2.2)).trans S2.2.2.2.2.2.2.2.2⟩); clear hb2))
      all_goals (go_wp2_with fail; go_meet; case rel => first | exact ⟨w2.heap.size, rfl, rfl, ⟨below_alloc HB2.out _⟩, ⟨HB2.out.size⟩, ⟨blk_new w2 _⟩⟩ | exact ⟨w1.heap.size, rfl, rfl, ⟨((HB2.out.setCell (p := ⟨w1.heap.size, 0, none⟩) (Nat.le_refl _) _).setCell (p := ⟨w1.heap.size, 1, none⟩) (Nat.le_refl _) _).setCell (p := ⟨w1.heap.size, 2, none⟩) (Nat.le_refl _) _⟩, ⟨Nat.le_refl _⟩, ⟨blk_put (blk_put (blk_put HN.out 0 _ rfl) 1 _ rfl) 2 _ rfl⟩⟩)
    case rest =>
      obtain ⟨gc, rfl, rfl, HBc, HGc, HCc⟩ := hcut
      clear HC i2 i3 i4 fa0 fa1 fa2 fb0 fb1 fb2
      by_cases he : er = 0
      · have hd := HD.out
        rw [if_pos he] at hd
        replace HD := Aside0.mk hd
        clear hd
        have h0 : (er != 0) = false := by rw [he]; rfl
        have k0 := (blk_cell HCc.out 0).trans rfl
        have k1 := (blk_cell HCc.out 1).trans rfl
        have k2 := (blk_cell HCc.out 2).trans rfl
        have HZc := Aside0.mk (blk_below HZ.out HBc.out)
        have z0 := (blk_cell HZc.out 0).trans rfl
        have z1 := (blk_cell HZc.out 1).trans rfl
        have z2 := (blk_cell HZc.out 2).trans rfl
        have y0 := blk_frozen HZc.out 0
        have y1 := blk_frozen HZc.out 1
        have y2 := blk_frozen HZc.out 2
        go_upto_region 32 with fail
        clear k0 k1 k2 z0 z1 z2 y0 y1 y2 h0
        have hT : Below w.heap.size w (((wc.setCell ⟨gb + 1 + 1, 0, none⟩ (.int .u8 rr.f0)).setCell ⟨gb + 1 + 1, 1, none⟩ (.int .i64 rr.f1)).setCell ⟨gb + 1 + 1, 2, none⟩ (.string rr.f2)) := (((below_then HA.out HA.out.size HBc.out).setCell (p := ⟨gb + 1 + 1, 0, none⟩) (by have := HGB.out; show w.heap.size ≤ gb + 1 + 1; omega) _).setCell (p := ⟨gb + 1 + 1, 1, none⟩) (by have := HGB.out; show w.heap.size ≤ gb + 1 + 1; omega) _).setCell (p := ⟨gb + 1 + 1, 2, none⟩) (by have := HGB.out; show w.heap.size ≤ gb + 1 + 1; omega) _
        have hI : (((wc.setCell ⟨gb + 1 + 1, 0, none⟩ (.int .u8 rr.f0)).setCell ⟨gb + 1 + 1, 1, none⟩ (.int .i64 rr.f1)).setCell ⟨gb + 1 + 1, 2, none⟩ (.string rr.f2)).heap[gb]? = some (.cells #[.int .u8 4, .int .i64 d, .int .i64 a, .int .i64 b, .string wd, .int .u8 t, .int .i64 n, .string s] 39 (0, 0)) := blk_far (blk_far (blk_far (blk_below HI.out HBc.out) (p := ⟨gb + 1 + 1, 0, none⟩) (by show gb ≠ gb + 1 + 1; omega) _) (p := ⟨gb + 1 + 1, 1, none⟩) (by show gb ≠ gb + 1 + 1; omega) _) (p := ⟨gb + 1 + 1, 2, none⟩) (by show gb ≠ gb + 1 + 1; omega) _
        have hZ : (((wc.setCell ⟨gb + 1 + 1, 0, none⟩ (.int .u8 rr.f0)).setCell ⟨gb + 1 + 1, 1, none⟩ (.int .i64 rr.f1)).setCell ⟨gb + 1 + 1, 2, none⟩ (.string rr.f2)).heap[gb + 1 + 1]? = some (.cells #[.int .u8 rr.f0, .int .i64 rr.f1, .string rr.f2] 37 (0, 0)) := blk_put (blk_put (blk_put HZc.out 0 _ rfl) 1 _ rfl) 2 _ rfl
        obtain ⟨wt, hwt⟩ : ∃ wt, (((wc.setCell ⟨gb + 1 + 1, 0, none⟩ (.int .u8 rr.f0)).setCell ⟨gb + 1 + 1, 1, none⟩ (.int .i64 rr.f1)).setCell ⟨gb + 1 + 1, 2, none⟩ (.string rr.f2)) = wt := ⟨_, rfl⟩
        rw [hwt] at hT hI hZ ⊢
        have HT := Aside0.mk hT
        have HIt := Aside0.mk hI
        have HZt := Aside0.mk hZ
        clear hT hI hZ hwt
        obtain ⟨d0, d1⟩ := hk.dst (by show (4 : Int) ≠ 6; omega) (by show (4 : Int) ≠ 8; omega)
        dsimp only at d0 d1
        go_wp2_with (first
          | ((with_reducible refine gate_dst (N := 159) rfl ?_); refine Kd.R_lit k37 (w0 := wt) wt.heap.size 37 ?hg (N := 159) ?hd (xs := ([] : List S37)) (inner := []) (ok := fun _ => True) (okp := fun _ => True) ?hr ?hp (fun _ hk => hk) trivial (Below.refl _ _) (Nat.le_refl _) (by simp) ?_; (case hd => rfl); (case hg => rfl); (case hr => first | (go_simp; done) | (go_simp; rfl)); (case hp => exact Reps.none _ _); intro v7 w7 ho7 hb7 hg7 hn7; have HO7 := Aside0.mk ho7; have HB7 := Aside0.mk hb7; clear ho7 hb7 hg7 hn7)
          | ((with_reducible refine gate_builtin (b := .append) (xs := #[.tmp 159, .tmp 160]) rfl ?_); at_builtin; go_loud (refine Kd.R_append_rows k37 (w0 := wt) wt.heap.size rfl (.tmp 159) (.tmp 160) 26 37 (.agg #[(.int .u8 0), (.int .i64 0), (.string ⟨#[]⟩)]) 32 rfl Try.underlying26 info37 rfl (by decide) (by omega) v7 [] r _ _ _ (fun _ => True) (fun _ => False) rfl rfl ?aO ?aR (fun _ _ h => h) (fun _ h => h.elim) ?aF ?aB ?aS ?aL ?_; (case aO => exact HO7.out); (case aR => exact Kd.C_below HR.out (below_then HT.out HT.out.size HB7.out)); (case aF => exact fun _ _ => trivial); (case aB => exact HB7.out); (case aS => exact HB7.out.size); (case aL => have := HL.out; rw [List.length_nil]; omega); intro v8 w8 hr8 hb8 hg8 ha8; rw [List.nil_append] at hr8; obtain ⟨gr, cr, rfl, hbr, hlr, _⟩ := Kd.R_form hr8 (by omega); have RP := row_put (d := d) rr hr8 d0 d1; have HRC := Aside0.mk (Kd.R_reads' hr8).2.1; have HBR := Aside0.mk hbr; have HB8 := Aside0.mk hb8; have pI := blk_below HIt.out HB8.out; have pZ := blk_below HZt.out HB8.out; have i1 := (blk_cell pI 1).trans rfl; have z0 := (blk_cell pZ 0).trans rfl; have z1 := (blk_cell pZ 1).trans rfl; have z2 := (blk_cell pZ 2).trans rfl; obtain ⟨_, q0⟩ := RP.c0; obtain ⟨_, q1⟩ := RP.c1; obtain ⟨_, q2⟩ := RP.c2; have q3 := RP.z0; have q4 := RP.z1; have q5 := RP.z2; (try dsimp only at q1 q2 q4 q5); have RPK := Aside0.mk RP.k; have RPO := Aside0.mk RP.old; clear hr8 hb8 hg8 ha8 pI pZ RP hbr hlr)))
        go_ret3
        exact did_put rfl HRC.out HC3.out RPK.out HG.out (RPO.out _ _ (below_then HT.out HT.out.size HB8.out) (Nat.le_trans HT.out.size HBR.out)) HD.out
      · have hd := HD.out
        rw [if_neg he] at hd
        replace HD := Aside0.mk hd
        clear hd
        have h0 : (er != 0) = true := by simpa using he
        go_wp2_with fail
        go_ret3
        exact did_not HC1.out HC3.out HR.out HG.out (below_then HA.out HA.out.size HBc.out) HD.out
  · have i2 := (blk_cell HI.out 2).trans rfl
    have z0 := (blk_cell HZ.out 0).trans rfl
    have z1 := (blk_cell HZ.out 1).trans rfl
    have z2 := (blk_cell HZ.out 2).trans rfl
    have y0 := blk_frozen HZ.out 0
    have y1 := blk_frozen HZ.out 1
    have y2 := blk_frozen HZ.out 2
    have p0 := (blk_cell HV.out 0).trans rfl
    have a0 := hk.up (.inl rfl)
    dsimp only at a0
    by_cases hlt : a < ups.length
    · have hd : doesK O ups ons ⟨5, d, a, b, wd, ⟨t, n, s⟩⟩ r g = some (r.set d.toNat (rd_T37 ups a), g) := by
        show Option.map _ (if a < (ups.length : Int) then some (rd_T37 ups a) else none) = _
        rw [if_pos hlt]; rfl
      have HD := Aside0.mk hd
      clear hd
      obtain ⟨ad, e, e0, e1, e2⟩ := at_T37 HU.out a a0 hlt
      subst e
      have f0 := (HA.out.cell (World.block_lt_of_cell? w _ e0)).trans e0
      have f1 := (HA.out.cell (World.block_lt_of_cell? w _ e1)).trans e1
      have f2 := (HA.out.cell (World.block_lt_of_cell? w _ e2)).trans e2
      clear e0 e1 e2
      generalize rd_T37 ups a = v at f0 f1 f2 HD
      have hge : decide ((ups.length : Int) ≤ a) = false := decide_eq_false (by omega)
      go_upto_region 32 with fail
      clear i2 z0 z1 z2 y0 y1 y2 f0 f1 f2 p0 hge
      have hT : Below w.heap.size w (((w1.setCell ⟨gb + 1 + 1, 0, none⟩ (.int .u8 v.f0)).setCell ⟨gb + 1 + 1, 1, none⟩ (.int .i64 v.f1)).setCell ⟨gb + 1 + 1, 2, none⟩ (.string v.f2)) := (((HA.out).setCell (p := ⟨gb + 1 + 1, 0, none⟩) (by have := HGB.out; show w.heap.size ≤ gb + 1 + 1; omega) _).setCell (p := ⟨gb + 1 + 1, 1, none⟩) (by have := HGB.out; show w.heap.size ≤ gb + 1 + 1; omega) _).setCell (p := ⟨gb + 1 + 1, 2, none⟩) (by have := HGB.out; show w.heap.size ≤ gb + 1 + 1; omega) _
      have hI : (((w1.setCell ⟨gb + 1 + 1, 0, none⟩ (.int .u8 v.f0)).setCell ⟨gb + 1 + 1, 1, none⟩ (.int .i64 v.f1)).setCell ⟨gb + 1 + 1, 2, none⟩ (.string v.f2)).heap[gb]? = some (.cells #[.int .u8 5, .int .i64 d, .int .i64 a, .int .i64 b, .string wd, .int .u8 t, .int .i64 n, .string s] 39 (0, 0)) := blk_far (blk_far (blk_far HI.out (p := ⟨gb + 1 + 1, 0, none⟩) (by show gb ≠ gb + 1 + 1; omega) _) (p := ⟨gb + 1 + 1, 1, none⟩) (by show gb ≠ gb + 1 + 1; omega) _) (p := ⟨gb + 1 + 1, 2, none⟩) (by show gb ≠ gb + 1 + 1; omega) _
      have hZ : (((w1.setCell ⟨gb + 1 + 1, 0, none⟩ (.int .u8 v.f0)).setCell ⟨gb + 1 + 1, 1, none⟩ (.int .i64 v.f1)).setCell ⟨gb + 1 + 1, 2, none⟩ (.string v.f2)).heap[gb + 1 + 1]? = some (.cells #[.int .u8 v.f0, .int .i64 v.f1, .string v.f2] 37 (0, 0)) := blk_put (blk_put (blk_put HZ.out 0 _ rfl) 1 _ rfl) 2 _ rfl
      obtain ⟨wt, hwt⟩ : ∃ wt, (((w1.setCell ⟨gb + 1 + 1, 0, none⟩ (.int .u8 v.f0)).setCell ⟨gb + 1 + 1, 1, none⟩ (.int .i64 v.f1)).setCell ⟨gb + 1 + 1, 2, none⟩ (.string v.f2)) = wt := ⟨_, rfl⟩
      rw [hwt] at hT hI hZ ⊢
      have HT := Aside0.mk hT
      have HIt := Aside0.mk hI
      have HZt := Aside0.mk hZ
      clear hT hI hZ hwt
      obtain ⟨d0, d1⟩ := hk.dst (by show (5 : Int) ≠ 6; omega) (by show (5 : Int) ≠ 8; omega)
      dsimp only at d0 d1
      go_wp2_with (first
        | ((with_reducible refine gate_dst (N := 159) rfl ?_); refine Kd.R_lit k37 (w0 := wt) wt.heap.size 37 ?hg (N := 159) ?hd (xs := ([] : List S37)) (inner := []) (ok := fun _ => True) (okp := fun _ => True) ?hr ?hp (fun _ hk => hk) trivial (Below.refl _ _) (Nat.le_refl _) (by simp) ?_; (case hd => rfl); (case hg => rfl); (case hr => first | (go_simp; done) | (go_simp; rfl)); (case hp => exact Reps.none _ _); intro v7 w7 ho7 hb7 hg7 hn7; have HO7 := Aside0.mk ho7; have HB7 := Aside0.mk hb7; clear ho7 hb7 hg7 hn7)
        | ((with_reducible refine gate_builtin (b := .append) (xs := #[.tmp 159, .tmp 160]) rfl ?_); at_builtin; go_loud (refine Kd.R_append_rows k37 (w0 := wt) wt.heap.size rfl (.tmp 159) (.tmp 160) 26 37 (.agg #[(.int .u8 0), (.int .i64 0), (.string ⟨#[]⟩)]) 32 rfl Try.underlying26 info37 rfl (by decide) (by omega) v7 [] r _ _ _ (fun _ => True) (fun _ => False) rfl rfl ?aO ?aR (fun _ _ h => h) (fun _ h => h.elim) ?aF ?aB ?aS ?aL ?_; (case aO => exact HO7.out); (case aR => exact Kd.C_below HR.out (below_then HT.out HT.out.size HB7.out)); (case aF => exact fun _ _ => trivial); (case aB => exact HB7.out); (case aS => exact HB7.out.size); (case aL => have := HL.out; rw [List.length_nil]; omega); intro v8 w8 hr8 hb8 hg8 ha8; rw [List.nil_append] at hr8; obtain ⟨gr, cr, rfl, hbr, hlr, _⟩ := Kd.R_form hr8 (by omega); have RP := row_put (d := d) v hr8 d0 d1; have HRC := Aside0.mk (Kd.R_reads' hr8).2.1; have HBR := Aside0.mk hbr; have HB8 := Aside0.mk hb8; have pI := blk_below HIt.out HB8.out; have pZ := blk_below HZt.out HB8.out; have i1 := (blk_cell pI 1).trans rfl; have z0 := (blk_cell pZ 0).trans rfl; have z1 := (blk_cell pZ 1).trans rfl; have z2 := (blk_cell pZ 2).trans rfl; obtain ⟨_, q0⟩ := RP.c0; obtain ⟨_, q1⟩ := RP.c1; obtain ⟨_, q2⟩ := RP.c2; have q3 := RP.z0; have q4 := RP.z1; have q5 := RP.z2; (try dsimp only at q1 q2 q4 q5); have RPK := Aside0.mk RP.k; have RPO := Aside0.mk RP.old; clear hr8 hb8 hg8 ha8 pI pZ RP hbr hlr)))
      go_ret3
      exact did_put rfl HRC.out HC3.out RPK.out HG.out (RPO.out _ _ (below_then HT.out HT.out.size HB8.out) (Nat.le_trans HT.out.size HBR.out)) HD.out
    · have hge : decide ((ups.length : Int) ≤ a) = true := decide_eq_true (by omega)
      have hd : doesK O ups ons ⟨5, d, a, b, wd, ⟨t, n, s⟩⟩ r g = none := by
        show Option.map _ (if a < (ups.length : Int) then some (rd_T37 ups a) else none) = _
        rw [if_neg hlt]; rfl
      have HD := Aside0.mk hd
      clear hd
      go_wp2_with fail
      go_ret3
      exact did_not HC1.out HC3.out HR.out HG.out HA.out HD.out
  · have i4 := (blk_cell HI.out 4).trans rfl
    have p0 := (blk_cell HV.out 0).trans rfl
    have p1 := (blk_cell HV.out 1).trans rfl
    have HONC := Aside0.mk (on_calls A0 ups.length c0 A2 c2 ons wd w1 (Kd.C_below HON.out HA.out))
    have hd : doesK O ups ons ⟨6, d, a, b, wd, ⟨t, n, s⟩⟩ r g = (if (onF ons wd).2 = true then (if (onF ons wd).1.f1 = a then (if (onF ons wd).1.f2 = b then some (onF ons wd).1 else none) else none) else none).map fun o => (r, g ++ [o]) := rfl
    have HD := Aside0.mk hd
    clear hd
    generalize hof : onF ons wd = of at HONC HD
    obtain ⟨o, fo⟩ := of
    dsimp only at HONC HD
    clear hof
    go_upto_region 23 with (first | (go_at_call 76; (refine HONC.out.mono ?_); rintro e w2 ⟨AO, co, rfl, ho2, hb2⟩; have HO2 := Aside0.mk ho2; have HB2 := Aside0.mk hb2; have HI2 := Aside0.mk (blk_below HI.out hb2); clear i4 p0 p1 ho2 hb2))
    have HW3 := Aside0.mk (below_alloc (Below.refl w2.heap.size w2) (.cells #[.string o.f0, .int .i64 o.f1, .int .i64 o.f2, .slice AO o.f3.length co] 54))
    have HA3 := Aside0.mk (below_then (below_then HA.out HA.out.size HB2.out) (Nat.le_trans HA.out.size HB2.out.size) HW3.out)
    have HI3 := Aside0.mk (blk_below HI2.out HW3.out)
    have HQ3 := Aside0.mk (blk_new w2 (.cells #[.string o.f0, .int .i64 o.f1, .int .i64 o.f2, .slice AO o.f3.length co] 54))
    have HGQ := Aside0.mk (Nat.le_trans HA.out.size HB2.out.size)
    generalize hw3 : w2.alloc (.cells #[.string o.f0, .int .i64 o.f1, .int .i64 o.f2, .slice AO o.f3.length co] 54) = w3 at HW3 HA3 HI3 HQ3 ⊢
    clear hw3
    generalize hgq : w2.heap.size = gq at HQ3 HGQ ⊢
    have HGQE := Aside0.mk hgq
    clear hgq
    have i2 := (blk_cell HI3.out 2).trans rfl
    have i3 := (blk_cell HI3.out 3).trans rfl
    have o0 := (blk_cell HQ3.out 0).trans rfl
    have o1 := (blk_cell HQ3.out 1).trans rfl
    have o2 := (blk_cell HQ3.out 2).trans rfl
    have o3 := (blk_cell HQ3.out 3).trans rfl
    cases fo with
    | false =>
      have hd := HD.out
      rw [if_neg (by decide)] at hd
      replace HD := Aside0.mk hd
      clear hd
      go_wp2_with fail
      go_ret3
      exact did_not HC1.out HC3.out HR.out HG.out HA3.out HD.out
    | true =>
      have hd := HD.out
      rw [if_pos rfl] at hd
      replace HD := Aside0.mk hd
      clear hd
      by_cases h1 : o.f1 = a
      case neg =>
        have hd := HD.out
        rw [if_neg h1] at hd
        replace HD := Aside0.mk hd
        clear hd
        have h1b : (o.f1 != a) = true := by simpa using h1
        go_wp2_with fail
        go_ret3
        exact did_not HC1.out HC3.out HR.out HG.out HA3.out HD.out
      case pos =>
        have hd := HD.out
        rw [if_pos h1] at hd
        replace HD := Aside0.mk hd
        clear hd
        have h1b : (o.f1 != a) = false := by simpa using h1
        by_cases h2 : o.f2 = b
        case neg =>
          have hd := HD.out
          rw [if_neg h2] at hd
          replace HD := Aside0.mk hd
          clear hd h1
          have h2b : (o.f2 != b) = true := by simpa using h2
          go_wp2_with fail
          go_ret3
          exact did_not HC1.out HC3.out HR.out HG.out HA3.out HD.out
        case pos =>
          have hd := HD.out
          rw [if_pos h2] at hd
          replace HD := Aside0.mk hd
          have h2b : (o.f2 != b) = false := by simpa using h2
          clear hd h1 h2
          go_wp2_with fail
          clear i2 i3 h1b h2b
          have hs3 := blk_lt HQ3.out
          have hf3 : Kd.F k37 w3 (fun k => k < gq) AO o.f3.length o.f3 := by
            have h1 := Kd.C_F k37_heap HO2.out.2
            have h2 := HW3.out
            rw [HGQE.out] at h1 h2
            exact Kd.F_step h1 (fun k hk _ => h2.block k hk)
          have HF3 := Aside0.mk hf3
          clear hf3
          have HX3A := Aside0.mk (below_drew (below_alloc (Below.refl w3.heap.size w3) (.cells #[] 54)))
          have HX3B := Aside0.mk (below_drew (below_alloc (below_alloc (Below.refl w3.heap.size w3) (.cells #[] 54)) (.cells #[.string o.f0, .int .i64 o.f1, .int .i64 o.f2, .slice AO o.f3.length co] 54)))
          have HX3C := Aside0.mk (below_drew (below_alloc (below_alloc (Below.refl w3.heap.size w3) (.cells #[.string o.f0, .int .i64 o.f1, .int .i64 o.f2, .slice AO o.f3.length co] 54)) (.cells #[] 54)))
          have HEA := Aside0.mk (blk_drew (blk_new w3 (.cells #[] 54)))
          have HEB := Aside0.mk (blk_drew (blk_alloc (blk_new w3 (.cells #[] 54)) (.cells #[.string o.f0, .int .i64 o.f1, .int .i64 o.f2, .slice AO o.f3.length co] 54)))
          have HLB := Aside0.mk (blk_drew (blk_new2 w3 (.cells #[] 54) (.cells #[.string o.f0, .int .i64 o.f1, .int .i64 o.f2, .slice AO o.f3.length co] 54)))
          have HEC := Aside0.mk (blk_drew (blk_new2 w3 (.cells #[.string o.f0, .int .i64 o.f1, .int .i64 o.f2, .slice AO o.f3.length co] 54) (.cells #[] 54)))
          have HLC := Aside0.mk (blk_drew (blk_alloc (blk_new w3 (.cells #[.string o.f0, .int .i64 o.f1, .int .i64 o.f2, .slice AO o.f3.length co] 54)) (.cells #[] 54)))
          have e0 := (blk_cell (blk_alloc HQ3.out (.cells #[] 54)) 0).trans rfl
          have e1 := (blk_cell (blk_alloc HQ3.out (.cells #[] 54)) 1).trans rfl
          have e2 := (blk_cell (blk_alloc HQ3.out (.cells #[] 54)) 2).trans rfl
          have e3 := (blk_cell (blk_alloc HQ3.out (.cells #[] 54)) 3).trans rfl
          have l0 := (blk_cell (blk_alloc HQ3.out (.cells #[.string o.f0, .int .i64 o.f1, .int .i64 o.f2, .slice AO o.f3.length co] 54)) 0).trans rfl
          have l1 := (blk_cell (blk_alloc HQ3.out (.cells #[.string o.f0, .int .i64 o.f1, .int .i64 o.f2, .slice AO o.f3.length co] 54)) 1).trans rfl
          have l2 := (blk_cell (blk_alloc HQ3.out (.cells #[.string o.f0, .int .i64 o.f1, .int .i64 o.f2, .slice AO o.f3.length co] 54)) 2).trans rfl
          have l3 := (blk_cell (blk_alloc HQ3.out (.cells #[.string o.f0, .int .i64 o.f1, .int .i64 o.f2, .slice AO o.f3.length co] 54)) 3).trans rfl
          have hwE : (w3.alloc (.cells #[] 54)).heap.size = w3.heap.size + 1 := World.size_alloc ..
          have hwL : (w3.alloc (.cells #[.string o.f0, .int .i64 o.f1, .int .i64 o.f2, .slice AO o.f3.length co] 54)).heap.size = w3.heap.size + 1 := World.size_alloc ..
          have HWE := Aside0.mk hwE
          have HWL := Aside0.mk hwL
          clear hwE hwL
          go_region_law (first
            | ((refine push_g (w := w) (W := (w3.alloc (.cells #[] 54)).drew) (e0 := w3.heap.size) (by simp [Region.wanted]) (.tmp 118) (.tmp 119) rfl HG.out HL.out.2 (below_then HA3.out HA3.out.size HX3A.out) HEA.out HA3.out.size rfl rfl ?_); intro v1 y1 hn hb hg hat; have HY := Aside0.mk (below_grown (n := w3.heap.size) HX3A.out hg (Nat.le_refl _) HX3A.out.size); have HN1 := Aside0.mk hn; have HB1 := Aside0.mk hb; have HAT := Aside0.mk (fun k (hk : v1.ownBlock = some k) => (own_from hat hk : k = w3.heap.size ∨ ((w3.alloc (.cells #[] 54)).drew).heap.size ≤ k)); have qb := blk_below HQ3.out HY.out; have r0 := (blk_cell qb 0).trans rfl; have r1 := (blk_cell qb 1).trans rfl; have r2 := (blk_cell qb 2).trans rfl; have r3 := (blk_cell qb 3).trans rfl; clear hn hb hg hat qb)
            | ((refine push_g (w := w) (W := ((w3.alloc (.cells #[] 54)).alloc (.cells #[.string o.f0, .int .i64 o.f1, .int .i64 o.f2, .slice AO o.f3.length co] 54)).drew) (e0 := w3.heap.size) (by simp [Region.wanted]) (.tmp 118) (.tmp 119) rfl HG.out HL.out.2 (below_then HA3.out HA3.out.size HX3B.out) HEB.out HA3.out.size rfl rfl ?_); intro v1 y1 hn hb hg hat; have HY := Aside0.mk (below_grown (n := w3.heap.size) HX3B.out hg (Nat.le_refl _) HX3B.out.size); have HN1 := Aside0.mk hn; have HB1 := Aside0.mk hb; have HAT := Aside0.mk (fun k (hk : v1.ownBlock = some k) => (own_from hat hk : k = w3.heap.size ∨ (((w3.alloc (.cells #[] 54)).alloc (.cells #[.string o.f0, .int .i64 o.f1, .int .i64 o.f2, .slice AO o.f3.length co] 54)).drew).heap.size ≤ k)); have qb := blk_below HQ3.out HY.out; have r0 := (blk_cell qb 0).trans rfl; have r1 := (blk_cell qb 1).trans rfl; have r2 := (blk_cell qb 2).trans rfl; have r3 := (blk_cell qb 3).trans rfl; have HL1 := Aside0.mk (blk_grown HLB.out hg (by intro e; injection e with e; omega)); clear hn hb hg hat qb)
            | ((refine push_g (w := w) (W := ((w3.alloc (.cells #[.string o.f0, .int .i64 o.f1, .int .i64 o.f2, .slice AO o.f3.length co] 54)).alloc (.cells #[] 54)).drew) (e0 := w3.heap.size + 1) (by simp [Region.wanted]) (.tmp 118) (.tmp 119) rfl HG.out HL.out.2 (below_then HA3.out HA3.out.size HX3C.out) HEC.out (Nat.le_trans HA3.out.size (Nat.le_succ _)) rfl rfl ?_); intro v1 y1 hn hb hg hat; have HY := Aside0.mk (below_grown (n := w3.heap.size) HX3C.out hg (Nat.le_succ _) HX3C.out.size); have HN1 := Aside0.mk hn; have HB1 := Aside0.mk hb; have HAT := Aside0.mk (fun k (hk : v1.ownBlock = some k) => (own_from hat hk : k = w3.heap.size + 1 ∨ (((w3.alloc (.cells #[.string o.f0, .int .i64 o.f1, .int .i64 o.f2, .slice AO o.f3.length co] 54)).alloc (.cells #[] 54)).drew).heap.size ≤ k)); have qb := blk_below HQ3.out HY.out; have r0 := (blk_cell qb 0).trans rfl; have r1 := (blk_cell qb 1).trans rfl; have r2 := (blk_cell qb 2).trans rfl; have r3 := (blk_cell qb 3).trans rfl; have HL1 := Aside0.mk (blk_grown HLC.out hg (by intro e; injection e with e; omega)); clear hn hb hg hat qb)
            | ((refine push_o (w := w) (W := (y1.alloc (.cells #[.string o.f0, .int .i64 o.f1, .int .i64 o.f2, .slice AO o.f3.length co] 54))) (q := o) (AO := AO) (co := co) (l0 := y1.heap.size) (n := gq) (g := g) (v1 := v1) (by simp [Region.wanted]) (.tmp 120) (.tmp 122) rfl HL.out.2 (Kd.N_alloc HN1.out _) (below_then HB1.out HB1.out.size (below_alloc (Below.refl _ y1) _)) (blk_new y1 _) (by intro e; have := Kd.N_lt HN1.out _ e.symm; omega) HO2.out.1 (Kd.F_alloc (Kd.F_below HF3.out HY.out) _) (fun k hk => by have h9 := HAT.out k hk; have := HX3A.out.size; have := HWL.out; omega) rfl rfl ?_); intro B9 b9 w9 hb9 hc9 hl9; have H9 := Aside0.mk hb9; have C9 := Aside0.mk hc9; have L9 := Aside0.mk hl9; clear hb9 hc9 hl9)
            | ((refine push_o (w := w) (W := y1) (q := o) (AO := AO) (co := co) (l0 := w3.heap.size + 1) (n := gq) (g := g) (v1 := v1) (by simp [Region.wanted]) (.tmp 120) (.tmp 122) rfl HL.out.2 HN1.out HB1.out HL1.out (by intro e; have h9 := HAT.out _ e.symm; have := HWE.out; have h8 : (((w3.alloc (.cells #[] 54)).alloc (.cells #[.string o.f0, .int .i64 o.f1, .int .i64 o.f2, .slice AO o.f3.length co] 54)).drew).heap.size = (w3.alloc (.cells #[] 54)).heap.size + 1 := World.size_alloc ..; omega) HO2.out.1 (Kd.F_below HF3.out HY.out) (fun k hk => by have h9 := HAT.out k hk; have := HX3B.out.size; have := HWL.out; omega) rfl rfl ?_); intro B9 b9 w9 hb9 hc9 hl9; have H9 := Aside0.mk hb9; have C9 := Aside0.mk hc9; have L9 := Aside0.mk hl9; clear hb9 hc9 hl9)
            | ((refine push_o (w := w) (W := y1) (q := o) (AO := AO) (co := co) (l0 := w3.heap.size) (n := gq) (g := g) (v1 := v1) (by simp [Region.wanted]) (.tmp 120) (.tmp 122) rfl HL.out.2 HN1.out HB1.out HL1.out (by intro e; have h9 := HAT.out _ e.symm; have := HWL.out; have h8 : (((w3.alloc (.cells #[.string o.f0, .int .i64 o.f1, .int .i64 o.f2, .slice AO o.f3.length co] 54)).alloc (.cells #[] 54)).drew).heap.size = (w3.alloc (.cells #[.string o.f0, .int .i64 o.f1, .int .i64 o.f2, .slice AO o.f3.length co] 54)).heap.size + 1 := World.size_alloc ..; omega) HO2.out.1 (Kd.F_below HF3.out HY.out) (fun k hk => by have h9 := HAT.out k hk; have := HX3C.out.size; have := HWL.out; omega) rfl rfl ?_); intro B9 b9 w9 hb9 hc9 hl9; have H9 := Aside0.mk hb9; have C9 := Aside0.mk hc9; have L9 := Aside0.mk hl9; clear hb9 hc9 hl9))
          all_goals
            go_wp2_with fail
            go_ret3
            exact ⟨true, r, g ++ [o], A1, c1, B9, b9, (by first | (simp [Act.put, Act.eval]; done) | (go_simp; done)), HC1.out, H9.out, Kd.C_below HR.out L9.out, C9.out, L9.out, HD.out.trans (if_pos rfl).symm⟩
  · have i2 := (blk_cell HI.out 2).trans rfl
    have i3 := (blk_cell HI.out 3).trans rfl
    have z0 := (blk_cell HZ.out 0).trans rfl
    have z1 := (blk_cell HZ.out 1).trans rfl
    have z2 := (blk_cell HZ.out 2).trans rfl
    have y0 := blk_frozen HZ.out 0
    have y1 := blk_frozen HZ.out 1
    have y2 := blk_frozen HZ.out 2
    have a0 := hk.up (.inr rfl)
    obtain ⟨b0, b1⟩ := hk.gd rfl
    dsimp only at a0 b0 b1
    have hd : doesK O ups ons ⟨7, d, a, b, wd, ⟨t, n, s⟩⟩ r g = (if a < (rd_T54 g b).f3.length then some (rd_T37 (rd_T54 g b).f3 a) else none).map fun v => (r.set d.toNat v, g) := rfl
    have HD := Aside0.mk hd
    clear hd
    obtain ⟨ag, Af, cf, e, _, _, _, eg, hlf, hrf⟩ := at_T54 HG.out b b0 b1
    subst e
    have fg := (HA.out.cell (World.block_lt_of_cell? w _ eg)).trans eg
    have HEG := Aside0.mk eg
    clear eg
    generalize rd_T54 g b = q at fg HEG HD hlf hrf
    obtain ⟨q0, q1, q2, l⟩ := q
    dsimp only at fg HEG HD hlf hrf
    have hlm := Kd.C_max hrf
    by_cases hlt : a < l.length
    · have hd := HD.out
      rw [if_pos hlt] at hd
      replace HD := Aside0.mk (hd.trans (Option.map_some ..))
      clear hd
      obtain ⟨ad, e, e0, e1, e2⟩ := at_T37 hrf a a0 hlt
      subst e
      have f0 := (HA.out.cell (World.block_lt_of_cell? w _ e0)).trans e0
      have f1 := (HA.out.cell (World.block_lt_of_cell? w _ e1)).trans e1
      have f2 := (HA.out.cell (World.block_lt_of_cell? w _ e2)).trans e2
      have HE0 := Aside0.mk e0
      have HE1 := Aside0.mk e1
      have HE2 := Aside0.mk e2
      clear e0 e1 e2 hrf
      generalize rd_T37 l a = v at f0 f1 f2 HE0 HE1 HE2 HD
      have hge : decide ((l.length : Int) ≤ a) = false := decide_eq_false (by omega)
      go_wp2_with fail
      go_quiet (fail)
      go_wp2_with fail
      clear i2 i3 z0 z1 z2 y0 y1 y2 fg f0 f1 f2 hge
      obtain ⟨wn, hwn⟩ : ∃ wn, w1.drewN nq = wn := ⟨_, rfl⟩
      have HAn := Aside0.mk (pw_below_drewN HA.out nq)
      have HIn := Aside0.mk (blk_drewN HI.out nq)
      have HZn := Aside0.mk (blk_drewN HZ.out nq)
      rw [hwn] at HAn HIn HZn ⊢
      clear hwn
      have i2 := (blk_cell HIn.out 2).trans rfl
      have i3 := (blk_cell HIn.out 3).trans rfl
      have z0 := (blk_cell HZn.out 0).trans rfl
      have z1 := (blk_cell HZn.out 1).trans rfl
      have z2 := (blk_cell HZn.out 2).trans rfl
      have y0 := blk_frozen HZn.out 0
      have y1 := blk_frozen HZn.out 1
      have y2 := blk_frozen HZn.out 2
      have fg := (HAn.out.cell (World.block_lt_of_cell? w _ HEG.out)).trans HEG.out
      have f0 := (HAn.out.cell (World.block_lt_of_cell? w _ HE0.out)).trans HE0.out
      have f1 := (HAn.out.cell (World.block_lt_of_cell? w _ HE1.out)).trans HE1.out
      have f2 := (HAn.out.cell (World.block_lt_of_cell? w _ HE2.out)).trans HE2.out
      have HT := Aside0.mk (((HAn.out.setCell (p := ⟨gb + 1 + 1, 0, none⟩) (by have := HGB.out; show w.heap.size ≤ gb + 1 + 1; omega) (.int .u8 v.f0)).setCell (p := ⟨gb + 1 + 1, 1, none⟩) (by have := HGB.out; show w.heap.size ≤ gb + 1 + 1; omega) (.int .i64 v.f1)).setCell (p := ⟨gb + 1 + 1, 2, none⟩) (by have := HGB.out; show w.heap.size ≤ gb + 1 + 1; omega) (.string v.f2)).drew
      have HIt := Aside0.mk (blk_drew (blk_far (blk_far (blk_far HIn.out (p := ⟨gb + 1 + 1, 0, none⟩) (by show gb ≠ gb + 1 + 1; omega) (.int .u8 v.f0)) (p := ⟨gb + 1 + 1, 1, none⟩) (by show gb ≠ gb + 1 + 1; omega) (.int .i64 v.f1)) (p := ⟨gb + 1 + 1, 2, none⟩) (by show gb ≠ gb + 1 + 1; omega) (.string v.f2)))
      have HZt := Aside0.mk (blk_drew (blk_put (blk_put (blk_put HZn.out 0 (.int .u8 v.f0) rfl) 1 (.int .i64 v.f1) rfl) 2 (.string v.f2) rfl))
      obtain ⟨d0, d1⟩ := hk.dst (by show (7 : Int) ≠ 6; omega) (by show (7 : Int) ≠ 8; omega)
      dsimp only at d0 d1
      first
      | (go_region_law (go_simp))
      | fail
      all_goals
        clear i2 i3 z0 z1 z2 y0 y1 y2 fg f0 f1 f2 HAn HIn HZn
        go_upto_region 32 with fail
        generalize (((wn.setCell ⟨gb + 1 + 1, 0, none⟩ (.int .u8 v.f0)).setCell ⟨gb + 1 + 1, 1, none⟩ (.int .i64 v.f1)).setCell ⟨gb + 1 + 1, 2, none⟩ (.string v.f2)).drew = wt at HT HIt HZt ⊢
        go_wp2_with (first
          | ((with_reducible refine gate_dst (N := 159) rfl ?_); refine Kd.R_lit k37 (w0 := wt) wt.heap.size 37 ?hg (N := 159) ?hd (xs := ([] : List S37)) (inner := []) (ok := fun _ => True) (okp := fun _ => True) ?hr ?hp (fun _ hk => hk) trivial (Below.refl _ _) (Nat.le_refl _) (by simp) ?_; (case hd => rfl); (case hg => rfl); (case hr => first | (go_simp; done) | (go_simp; rfl)); (case hp => exact Reps.none _ _); intro v7 w7 ho7 hb7 hg7 hn7; have HO7 := Aside0.mk ho7; have HB7 := Aside0.mk hb7; clear ho7 hb7 hg7 hn7)
          | ((with_reducible refine gate_builtin (b := .append) (xs := #[.tmp 159, .tmp 160]) rfl ?_); at_builtin; go_loud (refine Kd.R_append_rows k37 (w0 := wt) wt.heap.size rfl (.tmp 159) (.tmp 160) 26 37 (.agg #[(.int .u8 0), (.int .i64 0), (.string ⟨#[]⟩)]) 32 rfl Try.underlying26 info37 rfl (by decide) (by omega) v7 [] r _ _ _ (fun _ => True) (fun _ => False) rfl rfl ?aO ?aR (fun _ _ h => h) (fun _ h => h.elim) ?aF ?aB ?aS ?aL ?_; (case aO => exact HO7.out); (case aR => exact Kd.C_below HR.out (below_then HT.out HT.out.size HB7.out)); (case aF => exact fun _ _ => trivial); (case aB => exact HB7.out); (case aS => exact HB7.out.size); (case aL => have := HL.out; rw [List.length_nil]; omega); intro v8 w8 hr8 hb8 hg8 ha8; rw [List.nil_append] at hr8; obtain ⟨gr, cr, rfl, hbr, hlr, _⟩ := Kd.R_form hr8 (by omega); have RP := row_put (d := d) v hr8 d0 d1; have HRC := Aside0.mk (Kd.R_reads' hr8).2.1; have HBR := Aside0.mk hbr; have HB8 := Aside0.mk hb8; have pI := blk_below HIt.out HB8.out; have pZ := blk_below HZt.out HB8.out; have i1 := (blk_cell pI 1).trans rfl; have z0 := (blk_cell pZ 0).trans rfl; have z1 := (blk_cell pZ 1).trans rfl; have z2 := (blk_cell pZ 2).trans rfl; obtain ⟨_, q0⟩ := RP.c0; obtain ⟨_, q1⟩ := RP.c1; obtain ⟨_, q2⟩ := RP.c2; have q3 := RP.z0; have q4 := RP.z1; have q5 := RP.z2; (try dsimp only at q1 q2 q4 q5); have RPK := Aside0.mk RP.k; have RPO := Aside0.mk RP.old; clear hr8 hb8 hg8 ha8 pI pZ RP hbr hlr)))
        go_ret3
        exact did_put rfl HRC.out HC3.out RPK.out HG.out (RPO.out _ _ (below_then HT.out HT.out.size HB8.out) (Nat.le_trans HT.out.size HBR.out)) HD.out
    · have hge : decide ((l.length : Int) ≤ a) = true := decide_eq_true (by omega)
      have hd := HD.out
      rw [if_neg hlt] at hd
      replace HD := Aside0.mk hd
      clear hd hrf
      go_wp2_with fail
      go_quiet (fail)
      go_wp2_with fail
      go_ret3
      exact did_not HC1.out HC3.out HR.out HG.out (pw_below_drewN HA.out _) HD.out
  · have i2 := (blk_cell HI.out 2).trans rfl
    obtain ⟨a0, a1⟩ := hk.a (.inr (.inr (.inr rfl)))
    dsimp only at a0 a1
    have hd : doesK O ups ons ⟨8, d, a, b, wd, ⟨t, n, s⟩⟩ r g = if (rd_T37 r a).f0 = 2 then some (r, g) else none := rfl
    have HD := Aside0.mk hd
    clear hd
    obtain ⟨ad, e, e0, _, _⟩ := at_T37 HR.out a a0 a1
    subst e
    have f0 := (HA.out.cell (World.block_lt_of_cell? w _ e0)).trans e0
    clear e0
    generalize rd_T37 r a = v at f0 HD
    go_wp2_with fail
    go_quiet (fail)
    go_wp2_with fail
    go_ret3
    exact did_same HC1.out HC3.out HR.out HG.out (pw_below_drewN HA.out _) (HD.out.trans (by by_cases h : v.f0 = 2 <;> simp [h]))
end Go.Proofs.Ytjkjbfhhfdbnoaa.NW
