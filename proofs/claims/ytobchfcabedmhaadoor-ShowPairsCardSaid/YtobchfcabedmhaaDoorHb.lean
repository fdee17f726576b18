/- strings.Builder inside the shower: copyCheck, WriteByte, WriteString, String. -/
import Derived.Test.YtobchfcabedmhaaDoorHa
import Derived.Shelf.Strings.BuilderX
import Derived.Lib.Builder
import Derived.Lib.AppendStr
import Derived.Lib.UnsafeStr
import Derived.Lib.MakeNoZero
import Derived.Laws.Externs
import Derived.Maps.AppendAt
namespace Go.Proofs.YtobchfcabedmhaaDoor.NW
open Go.RowKit Go.Proofs.YtobchfcabedmhaaDoorW.PrintWords
set_option linter.unusedVariables false
set_option linter.unusedSimpArgs false
theorem cell_same {W W' : World} {p : Addr} {v : Value} (h : W'.heap[p.block]? = W.heap[p.block]?) (hc : W.cell? p = some v) : W'.cell? p = some v := by simpa [World.cell?, h] using hc
/-- the shower, where it lies: what it asks of pairs, its builder's own address once it has written, its bytes -/
structure ShAt (B g : Nat) (hv v : Value) (l : List UInt8) (w : World) : Prop where
  le : B ≤ g
  ex : ∃ p, (p = .pointer none ∨ p = .pointer (some ⟨g, 1, none⟩)) ∧ w.heap[g]? = some (.cells #[hv, p, v] 58 (0, 0))
  own : w.ownsRow B 5 1 v l.length (Lib.byteCells l)
  ne : v.ownBlock ≠ some g
/-- what a write leaves -/
def Wrote (B g : Nat) (hv v : Value) (l' : List UInt8) (w w' : World) : Prop :=
  ∃ v', ShAt B g hv v' l' w' ∧ Fr w w' g v.ownBlock ∧ (v'.ownBlock = v.ownBlock ∨ ∃ k, v'.ownBlock = some k ∧ w.heap.size ≤ k)
section
variable {B g : Nat} {hv v : Value} {l l' : List UInt8} {w w' w1 : World}
theorem ShAt.lt (h : ShAt B g hv v l w) : g < w.heap.size := by obtain ⟨p, _, hb⟩ := h.ex; exact blk_lt hb
theorem ShAt.row (h : ShAt B g hv v l w) {k : Nat} (hk : v.ownBlock = some k) : B ≤ k ∧ k < w.heap.size := h.own.lt k hk
theorem Fr.below_ {row : Option Nat} (h : Fr w w' g row) (hg : B ≤ g) (hr : ∀ k, row = some k → B ≤ k) (hB : B ≤ w.heap.size) : Below B w w' :=
  ⟨h.os, h.tape, h.output, h.size, fun k hk => h.block k (by omega) (by omega) (fun e => by have := hr k e.symm; omega)⟩
theorem Wrote.below (h : Wrote B g hv v l' w w') (hs : ShAt B g hv v l w) : Below B w w' := by
  obtain ⟨v', h1, h2, _⟩ := h
  exact h2.below_ hs.le (fun k hk => (hs.row hk).1) (by have := hs.lt; have := hs.le; omega)
theorem ShAt.below (h : ShAt B g hv v l w) (hb : Below w.heap.size w w') : ShAt B g hv v l w' := by
  obtain ⟨p, hp, hk⟩ := h.ex
  exact ⟨h.le, ⟨p, hp, blk_below hk hb⟩, h.own.kept (row := none) ⟨hb.os, hb.tape, hb.output, hb.size, fun k hk _ => hb.block k hk⟩ (by cases v.ownBlock <;> simp), h.ne⟩
/-- a write behind new blocks -/
theorem Wrote.pre (hb : Below w.heap.size w w1) (h : Wrote B g hv v l' w1 w') : Wrote B g hv v l' w w' := by
  obtain ⟨v', h1, h2, h3⟩ := h
  refine ⟨v', h1, Fr.pre hb h2, ?_⟩
  rcases h3 with h3 | ⟨k, h3, h4⟩
  · exact .inl h3
  · exact .inr ⟨k, h3, Nat.le_trans hb.size h4⟩
/-- a write, then another -/
theorem Wrote.then_ {v1 : Value} {l1 : List UInt8} {w2 : World} (h1 : ShAt B g hv v1 l1 w1) (hf : Fr w w1 g v.ownBlock) (ha : v1.ownBlock = v.ownBlock ∨ ∃ k, v1.ownBlock = some k ∧ w.heap.size ≤ k) (h : Wrote B g hv v1 l' w1 w2) : Wrote B g hv v l' w w2 := by
  obtain ⟨v2, k1, k2, k3⟩ := h
  refine ⟨v2, k1, ⟨k2.os.trans hf.os, k2.tape.trans hf.tape, k2.output.trans hf.output, Nat.le_trans hf.size k2.size, fun k hk hg hr => ?_⟩, ?_⟩
  · refine (k2.block k (Nat.lt_of_lt_of_le hk hf.size) hg ?_).trans (hf.block k hk hg hr)
    rcases ha with ha | ⟨j, ha, hj⟩
    · rw [ha]; exact hr
    · rw [ha]; intro e; injection e with e; omega
  · rcases k3 with k3 | ⟨j, k3, hj⟩
    · rw [k3]; exact ha
    · exact .inr ⟨j, k3, Nat.le_trans hf.size hj⟩
/-- new blocks behind a write -/
theorem Wrote.post (h : Wrote B g hv v l' w w1) (hb : Below w1.heap.size w1 w') : Wrote B g hv v l' w w' := by
  obtain ⟨v', h1, h2, h3⟩ := h
  refine Wrote.then_ h1 h2 h3 ⟨v', h1.below hb, ⟨hb.os, hb.tape, hb.output, hb.size, fun k hk _ _ => hb.block k hk⟩, .inl rfl⟩
end
theorem info5 : (Tryd.prog.info? 5).map (fun i => (i.zero, i.size, i.bytes)) = some (some (.int .u8 0), 1, 1) := by kernel_rfl
theorem size56 : (Tryd.prog.info? 56).map (·.size) = some 2 := by kernel_rfl
theorem lies56 : liesAt Tryd.prog Tryd.prog.depth 58 (3 / Tryd.prog.cellsOf 58) 1 56 1 = true := by kernel_rfl
set_option maxHeartbeats 1600000 in
set_option maxRecDepth 1000000 in
theorem copyCheck_used (g : Nat) (w : World) (h0 : w.cell? ⟨g, 1, none⟩ = some (.pointer (some ⟨g, 1, none⟩))) :
    Calls Tryd.prog 28 #[.pointer (some ⟨g, 1, none⟩)] w fun e w' => e = .returned (.tuple #[]) ∧ w' = w := by
  obtain ⟨j, hj, _⟩ := Option.map_eq_some_iff.1 size56
  have hne := Lib.run_neq_ptr_same w (⟨g, 1, none⟩ : Addr) Tryd.underlying53 hj
  go_enter Tryd.func28, Tryd.ntmps28
  go_wp2_with fail
  go_end0
  exact ⟨rfl, rfl⟩
set_option maxHeartbeats 1600000 in
set_option maxRecDepth 1000000 in
theorem copyCheck_fresh (g : Nat) (w : World) (h0 : w.cell? ⟨g, 1, none⟩ = some (.pointer none)) (hsh : w.shape? g = some (58, 3)) (hfz : w.frozen? ⟨g, 1, none⟩ = false) :
    Calls Tryd.prog 28 #[.pointer (some ⟨g, 1, none⟩)] w fun e w' => e = .returned (.tuple #[]) ∧ w' = w.setCell ⟨g, 1, none⟩ (.pointer (some ⟨g, 1, none⟩)) := by
  obtain ⟨j, hj, hjs⟩ := Option.map_eq_some_iff.1 size56
  have h1 := Lib.run_to_unsafe w ⟨g, 1, none⟩ Tryd.underlying53 Tryd.underlying76 hj (by rw [hjs]; decide) hsh (by show 1 < 3; decide)
  have h2 := Lib.run_from_unsafe w ⟨g, 1, none⟩ Tryd.underlying76 Tryd.underlying53 hj hsh lies56
  go_enter Tryd.func28, Tryd.ntmps28
  go_wp2_with fail
  rw [run_callFunc_extern Tryd.func31 (by kernel_rfl) (by kernel_rfl) (by kernel_rfl) (e := Extern.AbiNoEscape.same) (by kernel_rfl)]
  rw [Lib.run_noEscape]
  simp only [Result.andThen]
  rw [Oper.upon_value]
  go_wp2_with fail
  go_end0
  exact ⟨rfl, rfl⟩
section
variable {B g : Nat} {hv v : Value} {l : List UInt8} {w : World}
/-- a builder whose address is its own -/
structure Used (B g : Nat) (hv v : Value) (l : List UInt8) (w : World) : Prop where
  le : B ≤ g
  blk : w.heap[g]? = some (.cells #[hv, .pointer (some ⟨g, 1, none⟩), v] 58 (0, 0))
  own : w.ownsRow B 5 1 v l.length (Lib.byteCells l)
  ne : v.ownBlock ≠ some g
theorem Used.at_ (h : Used B g hv v l w) : ShAt B g hv v l w := ⟨h.le, ⟨_, .inr rfl, h.blk⟩, h.own, h.ne⟩
theorem copyCheck_any (h : ShAt B g hv v l w) :
    Calls Tryd.prog 28 #[.pointer (some ⟨g, 1, none⟩)] w fun e w' => e = .returned (.tuple #[]) ∧ Used B g hv v l w' ∧ Fr w w' g none := by
  obtain ⟨p, rfl | rfl, hb⟩ := h.ex
  · refine (copyCheck_fresh g w ((blk_cell hb 1).trans rfl) (by simp [World.shape?, hb]) (blk_frozen hb 1)).mono ?_
    rintro e w' ⟨rfl, rfl⟩
    exact ⟨rfl, ⟨h.le, blk_put hb 1 _ rfl, own_far h.own h.ne 1 _, h.ne⟩, ⟨rfl, rfl, rfl, by simp [World.setCell], fun k hk hg _ => Below.heap_setCell _ _ _ k hg⟩⟩
  · refine (copyCheck_used g w ((blk_cell hb 1).trans rfl)).mono ?_
    rintro e w' ⟨rfl, rfl⟩
    exact ⟨rfl, ⟨h.le, hb, h.own, h.ne⟩, ⟨rfl, rfl, rfl, Nat.le_refl _, fun _ _ _ _ => rfl⟩⟩
theorem Used.wrote {w2 w3 : World} {v' : Value} {l' : List UInt8} (H : Used B g hv v l w2) (hf : Fr w w2 g none) (ho : w3.ownsRow B 5 1 v' l'.length (Lib.byteCells l')) (hg : w2.grownBy w3 v.ownBlock) (ha : v'.ownBlock = v.ownBlock ∨ ∃ k, v'.ownBlock = some k ∧ w2.heap.size ≤ k) :
    Wrote B g hv v l' w (w3.setCell ⟨g, 2, none⟩ v') := by
  have hlt := blk_lt H.blk
  have hb3 : w3.heap[g]? = _ := (hg.block g hlt (fun e => H.ne e.symm)).trans H.blk
  have hne : v'.ownBlock ≠ some g := by
    rcases ha with ha | ⟨k, ha, hk⟩
    · rw [ha]; exact H.ne
    · rw [ha]; intro e; injection e with e; omega
  refine ⟨v', ⟨H.le, ⟨_, .inr rfl, blk_put hb3 2 v' rfl⟩, own_far ho hne 2 _, hne⟩, ⟨hg.os.trans hf.os, hg.tape.trans hf.tape, hg.output.trans hf.output, by have := hg.size; have := hf.size; simp [World.setCell]; omega, fun k hk h1 h2 => ?_⟩, ?_⟩
  · exact (Below.heap_setCell _ _ _ k h1).trans ((hg.block k (Nat.lt_of_lt_of_le hk hf.size) h2).trans (hf.block k hk h1 (by simp)))
  · rcases ha with ha | ⟨k, ha, hk⟩
    · exact .inl ha
    · exact .inr ⟨k, ha, Nat.le_trans hf.size hk⟩
end
theorem wpList_append_at5 {w : World} {ops : Array Oper} {rest : List Oper} {o : Oper} {a : Act} {Q : Exit → Act → World → Prop} (hgd : o.guard = none) (s x : Operand)
    (ho : o.op = .call { callee := .builtin .append, args := #[s, x], argTypes := #[54, 54] })
    (base : Nat) (v : Value) (n : Nat) (xs : List Value) (hs : a.eval s = v) (hown : w.ownsRow base 5 1 v n xs)
    (ad : Addr) (m c : Nat) (news : List Value) (hx : a.eval x = .slice (some ad) m c) (hl : news.length = m * 1) (hnews : ∀ j u, news[j]? = some u → w.cell? (ad.add j) = some u) (h1 : ∀ u ∈ news, u.oneCell' = true)
    (hbytes : (n + m) ≤ 2000000000) (hbase : base ≤ w.heap.size)
    (h : ∀ v' w', w'.ownsRow base 5 1 v' (n + m) (xs ++ news) → w.grownBy w' v.ownBlock → (v'.ownBlock = v.ownBlock ∨ v'.ownBlock = some w.heap.size) → wpList Tryd.prog ops Q rest (a.put o.dst v') w') : wpList Tryd.prog ops Q (o :: rest) a w := by
  obtain ⟨i0, hi, hzz⟩ := Option.map_eq_some_iff.1 info5
  simp only [Prod.mk.injEq] at hzz
  refine wpList_plain hgd fun K hK => ?_
  obtain ⟨v', w', hr, h2, h3, h4, h5⟩ := run_append_own_at (P := Tryd.prog) w base 54 o.type 5 i0 (.int .u8 0) 1 1 Tryd.underlying54 hi hzz.1 hzz.2.1 hzz.2.2 rfl (by decide) v n xs hown ad m c news hl hnews h1 (by unfold maxLen; omega) (by omega) hbase
  unfold Oper.wp execOp
  simp only [ho, resolve, invoke, builtin, Sem.run_bind, Sem.run_pure, Result.andThen_ok, List.map_toArray, List.map_cons, List.map_nil, hs, hx, hr]
  exact hK _ _ (h v' w' h2 h3 h5)
set_option maxHeartbeats 1600000 in
set_option maxRecDepth 1000000 in
theorem writeByte_calls {B g : Nat} {hv v : Value} {l : List UInt8} {w : World} (h : ShAt B g hv v l w) (c : Int) (c0 : 0 ≤ c) (c1 : c < 256) (hl : l.length ≤ 1000000000) :
    Calls Tryd.prog 27 #[.pointer (some ⟨g, 1, none⟩), .int .u8 c] w fun e w' => e = .returned .nilIface ∧ Wrote B g hv v (l ++ [c.toNat.toUInt8]) w w' := by
  obtain ⟨i0, hi, hzz⟩ := Option.map_eq_some_iff.1 info5
  simp only [Prod.mk.injEq] at hzz
  have H := Aside0.mk h
  have HL := Aside0.mk hl
  have HC := Aside0.mk (show Lib.byteCells (l ++ [c.toNat.toUInt8]) = Lib.byteCells l ++ [.int .u8 c] by
    simp [Lib.byteCells, UInt8.toNat_ofNat']; omega)
  clear h hl
  have hrl : Aside0 (i0.zero = some (.int .u8 0) ∧ i0.size = 1 ∧ i0.bytes = 1) := ⟨hzz⟩
  have HI := Aside0.mk hi
  clear hzz hi
  go_enter Tryd.func27, Tryd.ntmps27
  go_upto_region 2 with (first | (go_at_call 28; (with_reducible refine (copyCheck_any H.out).mono ?_); rintro e w2 ⟨rfl, hu, hf⟩; have HU := Aside0.mk hu; have HF := Aside0.mk hf; clear hu hf))
  have hg2 := blk_lt HU.out.blk
  have hBw := Aside0.mk (show B ≤ w2.heap.size by have := HU.out.le; omega)
  have c2 := (blk_cell HU.out.blk 2).trans rfl
  obtain ⟨ao, n, cap, rfl⟩ : ∃ ao n cap, v = .slice ao n cap := by
    rcases HU.out.own.2 with ⟨hv, _⟩ | ⟨g, cap, cur, hv, _⟩
    · exact ⟨_, _, _, hv⟩
    · exact ⟨_, _, _, hv⟩
  go_wp2_with (at_builtin; refine wpList_append_at5 (w := w2.alloc (.cells #[.int .u8 c] 5)) rfl (.tmp 11) (.tmp 13) rfl B (.slice ao n cap) l.length (Lib.byteCells l) rfl (HU.out.own.alloc _) ⟨w2.heap.size, 0, none⟩ 1 1 [.int .u8 c] rfl rfl ?c1 ?c2 ?c3 ?c5 ?_)
  case c1 =>
    intro j u hj
    match j, hj with
    | 0, hj =>
      simp at hj
      subst hj
      exact (blk_cell (blk_new w2 (.cells #[.int .u8 c] 5)) 0).trans rfl
  case c2 => intro u hu; simp at hu; subst hu; rfl
  case c3 => have := HL.out; omega
  case c5 => have := hBw.out; rw [World.size_alloc]; omega
  intro v' w3 hown hgrow hat
  have HW := Aside0.mk (show Wrote B g hv (.slice ao n cap) (l ++ [c.toNat.toUInt8]) w (w3.setCell ⟨g, 2, none⟩ v') from by
    refine Used.wrote (w := w) (w2 := w2.alloc (.cells #[.int .u8 c] 5)) ⟨HU.out.le, blk_alloc HU.out.blk _, HU.out.own.alloc _, HU.out.ne⟩ ⟨HF.out.os, HF.out.tape, HF.out.output, by have := HF.out.size; rw [World.size_alloc]; omega, fun k hk h1 h2 => (Below.heap_alloc _ _ k (Nat.lt_of_lt_of_le hk HF.out.size)).trans (HF.out.block k hk h1 h2)⟩ ?_ hgrow ?_
    · rw [HC.out, List.length_append]; exact hown
    · rcases hat with hat | hat
      · exact .inl hat
      · exact .inr ⟨_, hat, by rw [World.size_alloc]; exact Nat.le_refl _⟩)
  have hb3 := (hgrow.block g (by rw [World.size_alloc]; omega) (fun e => HU.out.ne e.symm)).trans (blk_alloc HU.out.blk _)
  have d2 := (blk_cell hb3 2).trans rfl
  have f2 := blk_frozen hb3 2
  obtain ⟨g', cap', rfl⟩ : ∃ g' cap', v' = .slice (some ⟨g', 0, none⟩) (l.length + 1) cap' := by
    rcases hown.2 with ⟨_, h0⟩ | ⟨g, cap, cur, hv, _⟩
    · omega
    · exact ⟨g, cap, hv⟩
  clear hown hgrow hat hb3
  go_wp2_with fail
  go_ret
  exact ⟨rfl, HW.out⟩
theorem wpList_append_str5 {w : World} {ops : Array Oper} {rest : List Oper} {o : Oper} {a : Act} {Q : Exit → Act → World → Prop} (hgd : o.guard = none) (s x : Operand)
    (ho : o.op = .call { callee := .builtin .append, args := #[s, x], argTypes := #[54, 9] })
    (base : Nat) (v : Value) (n : Nat) (xs : List Value) (hs : a.eval s = v) (hown : w.ownsRow base 5 1 v n xs) (y : ByteArray) (hx : a.eval x = .string y)
    (hbytes : n + y.size ≤ 2000000000) (hbase : base ≤ w.heap.size)
    (h : ∀ v' w', w'.ownsRow base 5 1 v' (n + y.size) (xs ++ Lib.strCells y) → w.grownBy w' v.ownBlock → (v'.ownBlock = v.ownBlock ∨ ∃ k, v'.ownBlock = some k ∧ w.heap.size ≤ k) → wpList Tryd.prog ops Q rest (a.put o.dst v') w') : wpList Tryd.prog ops Q (o :: rest) a w := by
  obtain ⟨i0, hi, hzz⟩ := Option.map_eq_some_iff.1 info5
  simp only [Prod.mk.injEq] at hzz
  refine wpList_plain hgd fun K hK => ?_
  obtain ⟨v', w', hr, h2, h3, h4⟩ := Lib.run_append_own_string (P := Tryd.prog) w base 54 9 o.type 5 i0 Tryd.underlying54 Tryd.underlying9 hi hzz.1 hzz.2.1 hzz.2.2 v n xs hown y (by unfold maxLen; omega) (by omega) hbase
  have h5 : v'.ownBlock = v.ownBlock ∨ ∃ k, v'.ownBlock = some k ∧ w.heap.size ≤ k := by
    have hxl : xs.length = n := by simpa using hown.1
    rcases hown.2 with ⟨rfl, rfl⟩ | ⟨gv, cap, cur, rfl, hgv, hh, hc, hcm, hcs, htk⟩
    · by_cases hm : y.size = 0
      · exact .inl (by rw [h4.2 ⟨rfl, hm⟩])
      · have e := hr.symm.trans (run_append_nil_string (P := Tryd.prog) w 54 9 o.type 5 i0 (.int .u8 0) Tryd.underlying54 Tryd.underlying9 hi hzz.1 y (by omega) (by omega) (by rw [hzz.2.2]; omega))
        injection e with e1 e2
        exact .inr ⟨w.heap.size, by rw [e1]; rfl, Nat.le_refl _⟩
    · by_cases hroom : n + y.size ≤ cap
      · have e := hr.symm.trans (Lib.run_append_room_string (P := Tryd.prog) w 54 9 o.type 5 i0 Tryd.underlying54 Tryd.underlying9 hi hzz.2.1 gv n cap cur hh y hroom (by rw [hcs]; omega))
        injection e with e1 e2
        exact .inl (by rw [e1]; rfl)
      · have holds : ∀ j u, xs[j]? = some u → w.cell? ((⟨gv, 0, none⟩ : Addr).add j) = some u := hown.cells (g := gv) rfl
        have e := hr.symm.trans (Lib.run_append_grow_string (P := Tryd.prog) w 54 9 o.type 5 i0 (.int .u8 0) Tryd.underlying54 Tryd.underlying9 hi hzz.1 ⟨gv, 0, none⟩ n cap xs (by rw [hzz.2.1]; omega) holds y (by omega) (by omega) (by rw [hzz.2.2]; exact growslice_fits (by omega) (by omega)))
        injection e with e1 e2
        exact .inr ⟨w.heap.size, by rw [e1]; rfl, Nat.le_refl _⟩
  unfold Oper.wp execOp
  simp only [ho, resolve, invoke, builtin, Sem.run_bind, Sem.run_pure, Result.andThen_ok, List.map_toArray, List.map_cons, List.map_nil, hs, hx, hr]
  exact hK _ _ (h v' w' h2 h3 h5)
set_option maxHeartbeats 1600000 in
set_option maxRecDepth 1000000 in
theorem writeString_calls {B g : Nat} {hv v : Value} {l : List UInt8} {w : World} (h : ShAt B g hv v l w) (s : ByteArray) (hs : s.size ≤ 1000000) (hl : l.length ≤ 1000000000) :
    Calls Tryd.prog 23 #[.pointer (some ⟨g, 1, none⟩), .string s] w fun e w' => (∃ r, e = .returned r) ∧ Wrote B g hv v (l ++ s.data.toList) w w' := by
  have H := Aside0.mk h
  have HL := Aside0.mk hl
  have HS := Aside0.mk hs
  have HC := Aside0.mk (show Lib.byteCells (l ++ s.data.toList) = Lib.byteCells l ++ Lib.strCells s by
    rw [Lib.byteCells_append, Lib.strCells_eq])
  clear h hl hs
  go_enter Tryd.func23, Tryd.ntmps23
  go_upto_region 2 with (first | (go_at_call 28; (with_reducible refine (copyCheck_any H.out).mono ?_); rintro e w2 ⟨rfl, hu, hf⟩; have HU := Aside0.mk hu; have HF := Aside0.mk hf; clear hu hf))
  have hg2 := blk_lt HU.out.blk
  have hBw := Aside0.mk (show B ≤ w2.heap.size by have := HU.out.le; omega)
  have c2 := (blk_cell HU.out.blk 2).trans rfl
  obtain ⟨ao, n, cap, rfl⟩ : ∃ ao n cap, v = .slice ao n cap := by
    rcases HU.out.own.2 with ⟨hv, _⟩ | ⟨g, cap, cur, hv, _⟩
    · exact ⟨_, _, _, hv⟩
    · exact ⟨_, _, _, hv⟩
  go_wp2_with (at_builtin; refine wpList_append_str5 (w := w2) rfl (.tmp 12) (.tmp 13) rfl B (.slice ao n cap) l.length (Lib.byteCells l) rfl HU.out.own s rfl ?c3 ?c5 ?_)
  case c3 => have := HL.out; have := HS.out; omega
  case c5 => exact hBw.out
  intro v' w3 hown hgrow hat
  have HW := Aside0.mk (show Wrote B g hv (.slice ao n cap) (l ++ s.data.toList) w (w3.setCell ⟨g, 2, none⟩ v') from by
    refine Used.wrote (w := w) (w2 := w2) HU.out HF.out ?_ hgrow hat
    rw [HC.out, List.length_append]; exact hown)
  have hb3 := (hgrow.block g hg2 (fun e => HU.out.ne e.symm)).trans HU.out.blk
  have d2 := (blk_cell hb3 2).trans rfl
  have f2 := blk_frozen hb3 2
  obtain ⟨ao', n', cap', rfl⟩ : ∃ ao' n' cap', v' = .slice ao' n' cap' := by
    rcases hown.2 with ⟨hv, _⟩ | ⟨g, cap, cur, hv, _⟩
    · exact ⟨_, _, _, hv⟩
    · exact ⟨_, _, _, hv⟩
  clear hown hgrow hat hb3
  go_wp2_with fail
  go_ret2
  exact ⟨⟨_, rfl⟩, HW.out⟩
set_option maxHeartbeats 1600000 in
set_option maxRecDepth 1000000 in
theorem string_calls {B g : Nat} {hv v : Value} {l : List UInt8} {w : World} (h : ShAt B g hv v l w) (h0 : l ≠ []) :
    Calls Tryd.prog 19 #[.pointer (some ⟨g, 1, none⟩)] w fun e w' => e = .returned (.string ⟨l.toArray⟩) ∧ Below B w w' := by
  obtain ⟨p, hp, hbk⟩ := h.ex
  have hl0 : l.length ≠ 0 := by simpa using h0
  have hown := h.own
  obtain ⟨gv, cap, cur, rfl, hbg, hg, hnc, hcm, hcs, htake⟩ : ∃ gv cap cur, v = .slice (some ⟨gv, 0, none⟩) l.length cap ∧ B ≤ gv ∧ w.heap[gv]? = some (.cells cur 5 (0, 0)) ∧ l.length ≤ cap ∧ cap ≤ maxLen ∧ cur.size = cap * 1 ∧ cur.toList.take (l.length * 1) = Lib.byteCells l := by
    rcases hown.2 with ⟨_, hz⟩ | ⟨g, cap, cur, hv, r⟩
    · exact absurd hz hl0
    · exact ⟨g, cap, cur, hv, r⟩
  have c1 : w.drew.cell? ⟨g, 2, none⟩ = some (.slice (some ⟨gv, 0, none⟩) l.length cap) := (blk_cell (blk_drew hbk) 2).trans rfl
  have hSD : (Builtin.unsafeSliceData_ #[54] 72 #[.slice (some ⟨gv, 0, none⟩) l.length cap]).run Tryd.prog w.drew = .ok (.pointer (some ⟨gv, 0, none⟩)) w.drew :=
    Lib.run_unsafeSliceData_row _ _ _ _ _ _ (by omega)
  have hUS : (Builtin.unsafeString_ #[72, 3] 9 #[.pointer (some ⟨gv, 0, none⟩), .int .i64 l.length]).run Tryd.prog w.drew = .ok (.string ⟨l.toArray⟩) (w.drew.freeze ⟨gv, 0, none⟩ l.length) := by
    refine Lib.run_unsafeString_row w.drew 72 3 9 5 Tryd.underlying72 (by kernel_rfl) gv cur.size (by have hg' : w.drew.heap[gv]? = some (.cells cur 5 (0, 0)) := hg; simp [World.shape?, hg']) l h0 (by omega) (by unfold maxLen at hcm; omega) ?_
    intro j x hx
    exact hown.cells (g := gv) rfl j (.int .u8 x.toNat) (by simp [Lib.byteCells, hx])
  have HBG := Aside0.mk hbg
  clear hown hg hnc hcm hcs htake h h0 hl0 hbg hp hbk
  go_enter Tryd.func19, Tryd.ntmps19
  go_wp2_with fail
  go_region
  all_goals (go_wp2_with fail; go_ret; exact ⟨rfl, Lib.below_freeze (Below.drew (Below.refl B w)) (p := ⟨gv, 0, none⟩) HBG.out _⟩)
end Go.Proofs.YtobchfcabedmhaaDoor.NW
