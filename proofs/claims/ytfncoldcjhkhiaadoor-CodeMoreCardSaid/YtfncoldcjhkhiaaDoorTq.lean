/- A module that may be may still be with a number, a text, a table and a function more that nobody uses. -/
import Derived.Test.YtfncoldcjhkhiaaDoorTi
import Derived.Test.YtfncoldcjhkhiaaDoorPCx14
import Derived.Test.YtfncoldcjhkhiaaDoorPCx4
import Derived.Test.YtfncoldcjhkhiaaDoorQd
import Derived.Test.YtfncoldcjhkhiaaDoorQh
import Derived.Test.YtfncoldcjhkhiaaDoorTb
namespace Go.Proofs.YtfncoldcjhkhiaaDoor.NW
open Go.RowKit Go.Proofs.YtfncoldcjhkhiaaDoorW.PrintWords Go.Proofs.YtfncoldcjhkhiaaDoorW.PrintMore Go.Proofs.YtfncoldcjhkhiaaDoor.PC
set_option linter.unusedVariables false
set_option linter.unusedSimpArgs false
/-- an empty row, just made -/
theorem emp_N {α : Type} (d : Kd α) (e : Nat) (W : World) (base B : Nat) (hB : B = W.heap.size) (hb : base ≤ W.heap.size) (ok : Nat → Prop) (hok : ok W.heap.size) : Kd.N d e (W.alloc (.cells #[] e)) base ok (.slice (some ⟨B, 0, none⟩) 0 0) [] := by
  subst hB
  have h2 := World.ownsRow_lit (base := base) (e := e) (size := d.sz) W #[] 0 hb (by unfold maxLen; omega) (by simp)
  exact Kd.R_N ⟨fun k hk => by simp [Value.ownBlock] at hk; rw [← hk]; exact hok, [], h2, Reps.none _ _⟩
theorem k44_heap : Kd.Heap k44 := Kd.heap_iso _ (Kd.heap_pair (Kd.heap_int _) (Kd.heap_pair (Kd.heap_int _) (Kd.heap_pair (Kd.heap_int _) (Kd.heap_slice _ (Kd.heap_iso _ (Kd.heap_pair (Kd.heap_int _) (Kd.heap_int _)))))))
theorem k41_heap : Kd.Heap k41 := Kd.heap_iso _ (Kd.heap_pair (Kd.heap_slice _ (Kd.heap_int _)) (Kd.heap_pair Kd.heap_bool Kd.heap_bool))
/-- while a module grows: its box, the elder one's box -/
structure MoreIs (w W : World) (g : Nat) (mc kc : Array Value) : Prop where
  old : Below w.heap.size w W
  mb : W.heap[w.heap.size]? = some (.cells mc 30 (0, 0))
  kb : W.heap[g]? = some (.cells kc 30 (0, 0))
  gl : w.heap.size < g
theorem MoreIs.ne_new {w W : World} {g : Nat} {mc kc : Array Value} (h : MoreIs w W g mc kc) : W.heap.size ≠ g := by have := blk_lt h.kb; omega
theorem MoreIs.apart1 {w W : World} {g B : Nat} {mc kc : Array Value} (h : MoreIs w W g mc kc) (hB : B = W.heap.size) (k : Nat) (hk : k < w.heap.size) : k ≠ g ∧ some k ≠ (Value.slice (some ⟨B, 0, none⟩) 0 0).ownBlock := by
  have := h.gl
  have := h.old.size
  exact ⟨by omega, by simp [Value.ownBlock]; omega⟩
theorem MoreIs.far1 {w W : World} {g : Nat} {mc kc : Array Value} {o : Obj} (h : MoreIs w W g mc kc) (k : Nat) (hk : (W.alloc o).heap.size ≤ k) : k ≠ g := by have := blk_lt h.kb; rw [World.size_alloc] at hk; omega
theorem MoreIs.far2 {w W W1 : World} {g : Nat} {mc kc : Array Value} (h : MoreIs w W g mc kc) (hs : W.heap.size ≤ W1.heap.size) (k : Nat) (hk : W1.heap.size ≤ k) : k ≠ g := by have := blk_lt h.kb; omega
/-- one field more: all that is elder stays, but the box -/
theorem MoreIs.phase {w W w1 w1' w2 : World} {g i B : Nat} {mc kc kc' : Array Value} {o : Obj} {v0 v1 u v : Value} (h : MoreIs w W g mc kc) (hB : B = W.heap.size) (hv : v0.ownBlock = some B) (hg1 : (W.alloc o).grownBy w1 v0.ownBlock) (hat1 : v1.ownBlock = v0.ownBlock ∨ ∃ b, v1.ownBlock = some b ∧ (W.alloc o).heap.size ≤ b)
    (hx : ∀ k, k < w1.heap.size → w1'.heap[k]? = w1.heap[k]?) (hxs : w1.heap.size ≤ w1'.heap.size) (hg2 : w1'.grownBy w2 v1.ownBlock) (hb2 : Below w.heap.size w w2) (hkc : kc[i]? = some u) (hkc' : kc.setIfInBounds i v = kc') :
    w2.cell? ⟨g, i, none⟩ = some u ∧ w2.frozen? ⟨g, i, none⟩ = false ∧ MoreIs w (w2.setCell ⟨g, i, none⟩ v) g mc kc' ∧ ∀ {α : Type} (d : Kd α) (A : Option Addr) (n : Nat) (xs : List α), Kd.F d W (fun k => k ≠ g) A n xs → Kd.F d (w2.setCell ⟨g, i, none⟩ v) (fun k => k ≠ g) A n xs := by
  subst hB
  have hs1 : W.heap.size + 1 ≤ w1.heap.size := by have := hg1.size; rwa [World.size_alloc] at this
  have hkeep : ∀ k, k < W.heap.size → w2.heap[k]? = W.heap[k]? := by
    intro k hk
    have e1 : w1.heap[k]? = W.heap[k]? := (hg1.block k (by rw [World.size_alloc]; omega) (by rw [hv]; intro e; injection e with e; omega)).trans (Below.heap_alloc W o k hk)
    have e2 : w2.heap[k]? = w1'.heap[k]? := hg2.block k (by omega) (by
      rcases hat1 with e | ⟨b, e, hb⟩
      · rw [e, hv]; intro e; injection e with e; omega
      · rw [e]; intro e; injection e with e; rw [World.size_alloc] at hb; omega)
    exact e2.trans ((hx k (by omega)).trans e1)
  have hgl := blk_lt h.kb
  have hwl := blk_lt h.mb
  have kb : w2.heap[g]? = some (.cells kc 30 (0, 0)) := (hkeep g hgl).trans h.kb
  have mb : w2.heap[w.heap.size]? = some (.cells mc 30 (0, 0)) := (hkeep _ hwl).trans h.mb
  have := h.gl
  refine ⟨(blk_cell kb i).trans hkc, blk_frozen kb i, ⟨hb2.setCell (p := ⟨g, i, none⟩) (by show w.heap.size ≤ g; omega) v, blk_far mb (p := ⟨g, i, none⟩) (by show w.heap.size ≠ g; omega) v, blk_put kb i v hkc', h.gl⟩, fun d A n xs hF => ?_⟩
  exact Kd.F_step (Kd.F_step hF (fun k _ hk => hkeep k hk)) (fun k hk _ => Below.heap_setCell w2 ⟨g, i, none⟩ v k hk)
theorem new_F {α : Type} {d : Kd α} {e base g i : Nat} {w2 : World} {v2 u : Value} {xs : List α} (h : Kd.N d e w2 base (fun k => k ≠ g) v2 xs) : ∃ A m c, v2 = .slice A m c ∧ m = xs.length ∧ m ≤ c ∧ Kd.F d (w2.setCell ⟨g, i, none⟩ u) (fun k => k ≠ g) A m xs := by
  obtain ⟨A, c, rfl⟩ := Kd.N_slice h
  obtain ⟨_, hle, _⟩ := Kd.N_reads' h
  exact ⟨A, _, c, rfl, rfl, hle, Kd.F_step (Kd.N_F h) (fun k hk _ => Below.heap_setCell w2 ⟨g, i, none⟩ u k hk)⟩
theorem lit_R17 (W : World) (xs : List S32) (cs : Array Value) (hcs : cs.toList = xs.flatMap fun x => [.int .u8 x.f0, .int .i64 x.f1]) (hn : xs.length ≤ 1000) (base : Nat) (hb : base ≤ W.heap.size) (ok : Nat → Prop) (hok : ok W.heap.size) :
    Kd.R k32 32 (W.alloc (.cells cs 32)) base ok (.slice (some ⟨W.heap.size, 0, none⟩) xs.length xs.length) xs := by
  have hlen : ∀ l : List S32, (l.flatMap fun x => [Value.int .u8 x.f0, Value.int .i64 x.f1]).length = l.length * 2 := fun l => by
    induction l with
    | nil => rfl
    | cons x l ih => rw [List.flatMap_cons, List.length_append, ih]; simp; omega
  have hat : ∀ (l : List S32) (j : Nat) (p : S32), l[j]? = some p → ((l.flatMap fun x => [Value.int .u8 x.f0, Value.int .i64 x.f1]).drop (j * 2)).take 2 = [.int .u8 p.f0, .int .i64 p.f1] := fun l => by
    induction l with
    | nil => intro j p h; simp at h
    | cons x l ih =>
      intro j p h
      rcases j with _ | j
      · simp only [List.getElem?_cons_zero, Option.some.injEq] at h
        subst h; rfl
      · rw [List.getElem?_cons_succ] at h
        rw [List.flatMap_cons, show (j + 1) * 2 = j * 2 + 1 + 1 by omega]
        exact ih j p h
  have hsz : cs.size = xs.length * 2 := by rw [← Array.length_toList, hcs, hlen]
  have h2 := World.ownsRow_lit (base := base) (e := 32) (size := 2) W cs xs.length hb (by unfold maxLen; omega) hsz
  refine ⟨fun k hk => by simp [Value.ownBlock] at hk; rw [← hk]; exact hok, cs.toList, h2, ?_, fun j p hj => ?_⟩
  · show cs.toList.length = xs.length * 2
    rw [hcs, hlen]
  · have := hat xs j p hj
    rw [hcs]
    show k32.M _ _ _ p (((xs.flatMap fun x => [Value.int .u8 x.f0, Value.int .i64 x.f1]).drop (j * 2)).take 2)
    rw [this]; exact k32_mkM _ _ _ p
theorem lit_F (W : World) : Kd.F k32 (W.alloc (.cells #[.int .u8 3, .int .i64 0] 32 (0, 0))) (fun q => q = W.heap.size) (some ⟨W.heap.size, 0, none⟩) 1 [⟨3, 0⟩] :=
  Kd.R_F (lit_R17 W [⟨3, 0⟩] #[.int .u8 3, .int .i64 0] rfl (by decide) W.heap.size (Nat.le_refl _) (fun q => q = W.heap.size) rfl)
theorem nil_F {α : Type} (d : Kd α) (W : World) (ok : Nat → Prop) : Kd.F d W ok none ([] : List α).length [] := fun W' _ => Kd.C_nil d W'
section
variable {A0 : Option Addr} {c0 : Nat} {l0 : List Int} {A1 : Option Addr} {c1 : Nat} {l1 : List ByteArray} {A2 : Option Addr} {c2 : Nat} {l2 : List S44} {A3 : Option Addr} {c3 : Nat} {l3 : List S41}
variable {B0 B1 B2 B3 : Option Addr} {d0 d1 d2 d3 m0 m1 m2 m3 : Nat} {n : Int} {s : ByteArray}
theorem mod_F {W : World} {ok : Nat → Prop} (f0 : Kd.F (Kd.int .i64) W ok B0 m0 l0) (e0 : m0 = l0.length) (k0 : m0 ≤ d0) (f1 : Kd.F Kd.string W ok B1 m1 l1) (e1 : m1 = l1.length) (k1 : m1 ≤ d1) (f2 : Kd.F k44 W ok B2 m2 l2) (e2 : m2 = l2.length) (k2 : m2 ≤ d2) (f3 : Kd.F k41 W ok B3 m3 l3) (e3 : m3 = l3.length) (k3 : m3 ≤ d3) :
    ModIs W B0 d0 l0 B1 d1 l1 B2 d2 l2 B3 d3 l3 := by
  subst e0 e1 e2 e3
  exact ⟨Kd.F_now f0, k0, Kd.F_now f1, k1, Kd.F_now f2, k2, Kd.F_now f3, k3⟩
theorem more_may {W : World} (hk : ModIs W B0 d0 (l0 ++ [n]) B1 d1 (l1 ++ [s]) B2 d2 (l2 ++ [Pure.pNew]) B3 d3 (l3 ++ [Pure.tNew])) (e0 : m0 = (l0 ++ [n]).length) (e1 : m1 = (l1 ++ [s]).length) (e2 : m2 = (l2 ++ [Pure.pNew]).length) (e3 : m3 = (l3 ++ [Pure.tNew]).length)
    (h : Pure.FitM l0 l1 l2 l3) (hsz : ∀ t ∈ l1, t.size ≤ reachBytes) (hs : s.size ≤ 1000) (h0 : l0.length ≤ 300) (h1 : l1.length ≤ 300) (h2 : l2.length ≤ 300) (h3 : l3.length ≤ 300) (hmay : mayS (Pure.insM l0 l1 l2 l3) l0 l1 l2 l3 = true) (hM : MaxOk W) :
    Calls Tryd.prog 24 #[.agg #[.slice B0 m0 d0, .slice B1 m1 d1, .slice B2 m2 d2, .slice B3 m3 d3]] W fun e w' => e = .returned (.bool true) ∧ Below W.heap.size W w' := by
  subst e0 e1 e2 e3
  have hc := Pure.May_calls W (Pure.fit_more n s h h0 h1 h2 h3) (fun t ht => by
    rcases List.mem_append.1 ht with ht | ht
    · exact hsz t ht
    · rw [List.mem_singleton] at ht; subst ht; unfold reachBytes; omega) hM hk
  rw [Pure.may_more n s hmay hs h0 h1 h2 h3] at hc
  exact hc
theorem more_same {W : World} (hmd : ModIs W A0 c0 l0 A1 c1 l1 A2 c2 l2 A3 c3 l3) (hk : ModIs W B0 d0 (l0 ++ [n]) B1 d1 (l1 ++ [s]) B2 d2 (l2 ++ [Pure.pNew]) B3 d3 (l3 ++ [Pure.tNew])) (e0 : m0 = (l0 ++ [n]).length) (e1 : m1 = (l1 ++ [s]).length) (e2 : m2 = (l2 ++ [Pure.pNew]).length) (e3 : m3 = (l3 ++ [Pure.tNew]).length)
    (h : Pure.FitM l0 l1 l2 l3) :
    Calls Tryd.prog 26 #[.agg #[.slice A0 l0.length c0, .slice A1 l1.length c1, .slice A2 l2.length c2, .slice A3 l3.length c3], .agg #[.slice B0 m0 d0, .slice B1 m1 d1, .slice B2 m2 d2, .slice B3 m3 d3]] W fun e w' => e = .returned (.bool false) ∧ Below W.heap.size W w' := by
  subst e0 e1 e2 e3
  have hc := Pure.Same_calls W h hmd hk
  rw [Pure.same_more n s] at hc
  exact hc
end
section
variable {A0 : Option Addr} {c0 : Nat} {l0 : List Int} {A1 : Option Addr} {c1 : Nat} {l1 : List ByteArray} {A2 : Option Addr} {c2 : Nat} {l2 : List S44} {A3 : Option Addr} {c3 : Nat} {l3 : List S41}
theorem fitM_of (Q : ModW l0 l1 l2 l3) : Pure.FitM l0 l1 l2 l3 := by
  have r : reachBytes ≤ 140737488355328 := by unfold reachBytes; omega
  refine ⟨⟨fun t ht => ?_⟩, fun p hp x hx => i64_b ((Q.w2 p hp).2.2.2.1 x hx).2, ?_, ?_, ?_, ?_, fun p hp => ?_⟩
  · have := (Q.w3 t ht).2; omega
  · have := Q.m0; omega
  · have := Q.m1; omega
  · have := Q.m2; omega
  · have := Q.m3; omega
  · have := (Q.w2 p hp).2.2.2.2; omega
/-- the reference's May answers as the document says -/
theorem refMay25 (w : World) (h : Pure.FitM l0 l1 l2 l3) (hmd : ModIs w A0 c0 l0 A1 c1 l1 A2 c2 l2 A3 c3 l3) :
    Calls Tryd.prog 25 #[.agg #[.slice A0 l0.length c0, .slice A1 l1.length c1, .slice A2 l2.length c2, .slice A3 l3.length c3]] w fun e w' => e = .returned (.bool (mayS (Pure.insM l0 l1 l2 l3) l0 l1 l2 l3)) ∧ Below w.heap.size w w' := by
  obtain ⟨N, hN⟩ := Pure.may_ref l0 l1 l2 l3 h
  exact sacristanref09_May.calls N A0 c0 l0 A1 c1 l1 A2 c2 l2 A3 c3 l3 _ w hmd.r0 hmd.h0 hmd.r1 hmd.h1 hmd.r2 hmd.h2 hmd.r3 hmd.h3 (hN N (Nat.le_refl _))
theorem refGreat19 (w : World) (hmd : ModIs w A0 c0 l0 A1 c1 l1 A2 c2 l2 A3 c3 l3) :
    Calls Tryd.prog 19 #[.agg #[.slice A0 l0.length c0, .slice A1 l1.length c1, .slice A2 l2.length c2, .slice A3 l3.length c3]] w fun e w' => e = .returned (.bool (Pure.greatS l0 l1 l2 l3)) ∧ Below w.heap.size w w' :=
  (sacristanref09_Great.calls 1001 A0 c0 l0 A1 c1 l1 A2 c2 l2 A3 c3 l3 _ w hmd.r0 hmd.h0 hmd.r1 hmd.h1 hmd.r2 hmd.h2 hmd.r3 hmd.h3 (Pure.great_f l0 l1 l2 l3 1001 (by omega))).mono fun e w' h => h
set_option maxHeartbeats 3200000 in
set_option maxRecDepth 1000000 in
theorem codeMore_calls (n : Int) (s : ByteArray) (w : World) (hmd : ModIs w A0 c0 l0 A1 c1 l1 A2 c2 l2 A3 c3 l3) (hM : MaxOk w) (h : Pure.FitM l0 l1 l2 l3) (hsz : ∀ t ∈ l1, t.size ≤ reachBytes) (hg : Pure.greatS l0 l1 l2 l3 = false) (hmay : mayS (Pure.insM l0 l1 l2 l3) l0 l1 l2 l3 = true) (hs : s.size ≤ 1000) :
    Calls Tryd.prog 6 #[.agg #[.slice A0 l0.length c0, .slice A1 l1.length c1, .slice A2 l2.length c2, .slice A3 l3.length c3], .int .i64 n, .string s] w fun e w' => e = .returned (.bool true) ∧ Below w.heap.size w w' := by
  have hA := (Below.refl w.heap.size w).alloc (Nat.le_refl _) (.cells #[.slice A0 l0.length c0, .slice A1 l1.length c1, .slice A2 l2.length c2, .slice A3 l3.length c3] 30 (0, 0))
  have hG := blk_new w (.cells #[.slice A0 l0.length c0, .slice A1 l1.length c1, .slice A2 l2.length c2, .slice A3 l3.length c3] 30 (0, 0))
  have g0 := (blk_cell hG 0).trans rfl
  have g1 := (blk_cell hG 1).trans rfl
  have g2 := (blk_cell hG 2).trans rfl
  have g3 := (blk_cell hG 3).trans rfl
  have HA := Aside0.mk hA
  have HG := Aside0.mk hG
  have HH := Aside0.mk h
  have HMX := Aside0.mk hM
  have HMD := Aside0.mk hmd
  have HGR := Aside0.mk hg
  have HMAY := Aside0.mk hmay
  have d1 : decide ((1000 : Int) < (s.size : Int)) = false := decide_eq_false (by omega)
  have HS := Aside0.mk hs
  have hlen : l0.length ≤ 300 ∧ l1.length ≤ 300 ∧ l2.length ≤ 300 ∧ l3.length ≤ 300 := by
    unfold Pure.greatS at hg
    have := of_decide_eq_false hg
    omega
  have HL0 := Aside0.mk hlen.1
  have HL1 := Aside0.mk hlen.2.1
  have HL2 := Aside0.mk hlen.2.2.1
  have HL3 := Aside0.mk hlen.2.2.2
  have HSZ := Aside0.mk hsz
  clear hG hA h hM hmd hg hmay hs hsz hlen
  go_enter Tryd.func6, Tryd.ntmps6
  go_wp2_with (first
    | (go_at_call 19; go_loud (refine (refGreat19 _ (HMD.out.below HA.out)).mono ?_); rintro e w1 ⟨rfl, hb1⟩; rw [HGR.out]; have HB1 := Aside0.mk (below_then HA.out HA.out.size hb1); have HG1 := Aside0.mk (blk_below HG.out hb1); have z0 := (blk_cell HG1.out 0).trans rfl; have z1 := (blk_cell HG1.out 1).trans rfl; have z2 := (blk_cell HG1.out 2).trans rfl; have z3 := (blk_cell HG1.out 3).trans rfl; clear hb1)
    | (go_at_call 25; go_loud (refine (refMay25 _ HH.out (HMD.out.below HB1.out)).mono ?_); rintro e w2 ⟨rfl, hb2⟩; rw [HMAY.out]; have HB2 := Aside0.mk (below_then HB1.out HB1.out.size hb2); have HG2 := Aside0.mk (blk_below HG1.out hb2); have y0 := (blk_cell HG2.out 0).trans rfl; have y1 := (blk_cell HG2.out 1).trans rfl; have y2 := (blk_cell HG2.out 2).trans rfl; have y3 := (blk_cell HG2.out 3).trans rfl; have hgl := blk_lt HG2.out; have HM0 := Aside0.mk (show MoreIs w (w2.alloc (.cells #[.slice A0 l0.length c0, .slice A1 l1.length c1, .slice A2 l2.length c2, .slice A3 l3.length c3] 30 (0, 0))) w2.heap.size #[.slice A0 l0.length c0, .slice A1 l1.length c1, .slice A2 l2.length c2, .slice A3 l3.length c3] #[.slice A0 l0.length c0, .slice A1 l1.length c1, .slice A2 l2.length c2, .slice A3 l3.length c3] from ⟨below_alloc HB2.out _, blk_alloc HG2.out _, blk_new w2 _, hgl⟩); have qq : ((w2.alloc (.cells #[.slice A0 l0.length c0, .slice A1 l1.length c1, .slice A2 l2.length c2, .slice A3 l3.length c3] 30 (0, 0))).alloc (.cells #[] 2 (0, 0))).cell? ⟨w.heap.size, 0, none⟩ = some (.slice A0 l0.length c0) := (blk_cell (blk_alloc HM0.out.mb _) 0).trans rfl; clear hb2 hgl)
    | ((with_reducible refine gate_builtin (b := .append) (xs := #[.tmp 22, .tmp 24]) rfl ?_); at_builtin; go_loud (refine Kd.N_append_rows (Kd.int .i64) (w0 := w) w.heap.size rfl (.tmp 22) (.tmp 24) 26 2 (.int .i64 0) 8 rfl Tryd.underlying26 info2 rfl (by decide) (by omega) (.slice (some ⟨w2.heap.size + 1, 0, none⟩) 0 0) [] l0 A0 l0.length c0 (fun q => q ≠ w2.heap.size) (fun q => q < w.heap.size) rfl rfl ?aO ?aR ?aK ?aF ?aB ?aS ?aL ?_; (case aO => exact emp_N (Kd.int .i64) 2 _ _ _ (by simp [World.setCell]) HM0.out.old.size _ HM0.out.ne_new); (case aR => exact Kd.F_below (Kd.F_below (Kd.C_F (Kd.heap_int _) HMD.out.r0) HM0.out.old) (below_alloc (Below.refl _ _) _)); (case aK => exact HM0.out.apart1 (by simp [World.setCell])); (case aF => exact HM0.out.far1); (case aB => exact HM0.out.old.alloc HM0.out.old.size _); (case aS => exact (HM0.out.old.alloc HM0.out.old.size _).size); (case aL => have := HL0.out; simp only [List.length_nil, Nat.zero_add]; omega); intro v0 x0 hn hb hg hat; have HN0 := Aside0.mk hn; have HBx0 := Aside0.mk hb; have HGx0 := Aside0.mk hg; have HAx0 := Aside0.mk hat; clear hn hb hg hat))
    | ((with_reducible refine gate_builtin (b := .append) (xs := #[.tmp 25, .tmp 27]) rfl ?_); at_builtin; go_loud (refine Kd.N_append (Kd.int .i64) (w0 := w) (W := x0) w.heap.size rfl (.tmp 25) (.tmp 27) 26 2 (.int .i64 0) 8 rfl Tryd.underlying26 info2 rfl (by decide) (by omega) v0 ([] ++ l0) n [.int .i64 n] (fun q => q ≠ w2.heap.size) (fun _ => False) rfl ?aX ?aP ?aK ?aF ?aO ?aB ?aS ?aL ?_; (case aX => (first | exact rfl | (simp [Act.eval, World.size_alloc]))); (case aP => exact fun _ _ => rfl); (case aK => exact fun _ hk => hk.elim); (case aF => exact HM0.out.far2 (by have := HGx0.out.size; rw [World.size_alloc] at this; omega)); (case aO => exact HN0.out); (case aB => exact HBx0.out); (case aS => exact HBx0.out.size); (case aL => have := HL0.out; simp only [List.nil_append]; omega); intro u0 y0 hn hb hg hat); go_loud (obtain ⟨A'0, m'0, c'0, ev, hm, hle, hF⟩ := new_F (i := 0) (u := u0) hn; obtain ⟨z0, zf0, hM', hFF⟩ := HM0.out.phase (i := 0) (v0 := .slice (some ⟨w2.heap.size + 1, 0, none⟩) 0 0) (v1 := v0) (v := u0) (kc' := #[u0, .slice A1 l1.length c1, .slice A2 l2.length c2, .slice A3 l3.length c3]) (by simp [World.setCell]) rfl HGx0.out HAx0.out (fun _ _ => rfl) (Nat.le_refl _) hg hb rfl (by rw [ev]; rfl); subst ev; have HM1 := Aside0.mk hM'; have HF0 := Aside0.mk hF; have HFF0 := Aside0.mk (fun {α : Type} (d : Kd α) A n xs h => hFF d A n xs h); have HE0 := Aside0.mk hm; have HLE0 := Aside0.mk hle; have q0 : ((y0.setCell ⟨w2.heap.size, 0, none⟩ (.slice A'0 m'0 c'0)).alloc (.cells #[] 9 (0, 0))).cell? ⟨w.heap.size, 1, none⟩ = some (.slice A1 l1.length c1) := (blk_cell (blk_alloc hM'.mb _) 1).trans rfl; clear hn hb hg hat hm hle hF hFF hM'))
    | ((with_reducible refine gate_builtin (b := .append) (xs := #[.tmp 30, .tmp 32]) rfl ?_); at_builtin; go_loud (refine Kd.N_append_rows Kd.string (w0 := w) w.heap.size rfl (.tmp 30) (.tmp 32) 22 9 (.string ⟨#[]⟩) 16 rfl Tryd.underlying22 info9 rfl (by decide) (by omega) (.slice (some ⟨y0.heap.size, 0, none⟩) 0 0) [] l1 A1 l1.length c1 (fun q => q ≠ w2.heap.size) (fun q => q < w.heap.size) rfl rfl ?aO ?aR ?aK ?aF ?aB ?aS ?aL ?_; (case aO => exact emp_N Kd.string 9 _ _ _ (by simp [World.setCell]) HM1.out.old.size _ HM1.out.ne_new); (case aR => exact Kd.F_below (Kd.F_below (Kd.C_F Kd.heap_string HMD.out.r1) HM1.out.old) (below_alloc (Below.refl _ _) _)); (case aK => exact HM1.out.apart1 (by simp [World.setCell])); (case aF => exact HM1.out.far1); (case aB => exact HM1.out.old.alloc HM1.out.old.size _); (case aS => exact (HM1.out.old.alloc HM1.out.old.size _).size); (case aL => have := HL1.out; simp only [List.length_nil, Nat.zero_add]; omega); intro v1 x1 hn hb hg hat; have HN1 := Aside0.mk hn; have HBx1 := Aside0.mk hb; have HGx1 := Aside0.mk hg; have HAx1 := Aside0.mk hat; clear hn hb hg hat))
    | ((with_reducible refine gate_builtin (b := .append) (xs := #[.tmp 33, .tmp 35]) rfl ?_); at_builtin; go_loud (refine Kd.N_append Kd.string (w0 := w) (W := x1) w.heap.size rfl (.tmp 33) (.tmp 35) 22 9 (.string ⟨#[]⟩) 16 rfl Tryd.underlying22 info9 rfl (by decide) (by omega) v1 ([] ++ l1) s [.string s] (fun q => q ≠ w2.heap.size) (fun _ => False) rfl ?aX ?aP ?aK ?aF ?aO ?aB ?aS ?aL ?_; (case aX => (first | exact rfl | (simp [Act.eval, World.size_alloc]))); (case aP => exact fun _ _ => rfl); (case aK => exact fun _ hk => hk.elim); (case aF => exact HM1.out.far2 (by have := HGx1.out.size; rw [World.size_alloc] at this; omega)); (case aO => exact HN1.out); (case aB => exact HBx1.out); (case aS => exact HBx1.out.size); (case aL => have := HL1.out; simp only [List.nil_append]; omega); intro u1 y1 hn hb hg hat); go_loud (obtain ⟨A'1, m'1, c'1, ev, hm, hle, hF⟩ := new_F (i := 1) (u := u1) hn; obtain ⟨z1, zf1, hM', hFF⟩ := HM1.out.phase (i := 1) (v0 := .slice (some ⟨y0.heap.size, 0, none⟩) 0 0) (v1 := v1) (v := u1) (kc' := #[.slice A'0 m'0 c'0, u1, .slice A2 l2.length c2, .slice A3 l3.length c3]) (by simp [World.setCell]) rfl HGx1.out HAx1.out (fun _ _ => rfl) (Nat.le_refl _) hg hb rfl (by rw [ev]; rfl); subst ev; have HM2 := Aside0.mk hM'; have HF1 := Aside0.mk hF; have HFF1 := Aside0.mk (fun {α : Type} (d : Kd α) A n xs h => hFF d A n xs h); have HE1 := Aside0.mk hm; have HLE1 := Aside0.mk hle; have q1 : ((y1.setCell ⟨w2.heap.size, 1, none⟩ (.slice A'1 m'1 c'1)).alloc (.cells #[] 41 (0, 0))).cell? ⟨w.heap.size, 3, none⟩ = some (.slice A3 l3.length c3) := (blk_cell (blk_alloc hM'.mb _) 3).trans rfl; clear hn hb hg hat hm hle hF hFF hM'))
    | ((with_reducible refine gate_builtin (b := .append) (xs := #[.tmp 38, .tmp 40]) rfl ?_); at_builtin; go_loud (refine Kd.N_append_rows k41 (w0 := w) w.heap.size rfl (.tmp 38) (.tmp 40) 28 41 (.agg #[(.slice none 0 0), (.bool false), (.bool false)]) 32 rfl Tryd.underlying28 info41 rfl (by decide) (by omega) (.slice (some ⟨y1.heap.size, 0, none⟩) 0 0) [] l3 A3 l3.length c3 (fun q => q ≠ w2.heap.size) (fun q => q < w.heap.size) rfl rfl ?aO ?aR ?aK ?aF ?aB ?aS ?aL ?_; (case aO => exact emp_N k41 41 _ _ _ (by simp [World.setCell]) HM2.out.old.size _ HM2.out.ne_new); (case aR => exact Kd.F_below (Kd.F_below (Kd.C_F k41_heap HMD.out.r3) HM2.out.old) (below_alloc (Below.refl _ _) _)); (case aK => exact HM2.out.apart1 (by simp [World.setCell])); (case aF => exact HM2.out.far1); (case aB => exact HM2.out.old.alloc HM2.out.old.size _); (case aS => exact (HM2.out.old.alloc HM2.out.old.size _).size); (case aL => have := HL3.out; simp only [List.length_nil, Nat.zero_add]; omega); intro v2 x2 hn hb hg hat; have HN2 := Aside0.mk hn; have HBx2 := Aside0.mk hb; have HGx2 := Aside0.mk hg; have HAx2 := Aside0.mk hat; clear hn hb hg hat))
    | ((with_reducible refine gate_builtin (b := .append) (xs := #[.tmp 41, .tmp 43]) rfl ?_); at_builtin; go_loud (refine Kd.N_append k41 (w0 := w) (W := x2) w.heap.size rfl (.tmp 41) (.tmp 43) 28 41 (.agg #[(.slice none 0 0), (.bool false), (.bool false)]) 32 rfl Tryd.underlying28 info41 rfl (by decide) (by omega) v2 ([] ++ l3) Pure.tNew [.slice none 0 0, .bool false, .bool false] (fun q => q ≠ w2.heap.size) (fun _ => False) rfl ?aX ?aP ?aK ?aF ?aO ?aB ?aS ?aL ?_; (case aX => (first | exact rfl | (simp [Act.eval, World.size_alloc]))); (case aP => exact k41_mkF _ _ Pure.tNew (Nat.le_refl _) (nil_F _ _ _)); (case aK => exact fun _ hk => hk.elim); (case aF => exact HM2.out.far2 (by have := HGx2.out.size; rw [World.size_alloc] at this; omega)); (case aO => exact HN2.out); (case aB => exact HBx2.out); (case aS => exact HBx2.out.size); (case aL => have := HL3.out; simp only [List.nil_append]; omega); intro u2 y2 hn hb hg hat); go_loud (obtain ⟨A'2, m'2, c'2, ev, hm, hle, hF⟩ := new_F (i := 3) (u := u2) hn; obtain ⟨z2, zf2, hM', hFF⟩ := HM2.out.phase (i := 3) (v0 := .slice (some ⟨y1.heap.size, 0, none⟩) 0 0) (v1 := v2) (v := u2) (kc' := #[.slice A'0 m'0 c'0, .slice A'1 m'1 c'1, .slice A2 l2.length c2, u2]) (by simp [World.setCell]) rfl HGx2.out HAx2.out (fun _ _ => rfl) (Nat.le_refl _) hg hb rfl (by rw [ev]; rfl); subst ev; have HM3 := Aside0.mk hM'; have HF2 := Aside0.mk hF; have HFF2 := Aside0.mk (fun {α : Type} (d : Kd α) A n xs h => hFF d A n xs h); have HE2 := Aside0.mk hm; have HLE2 := Aside0.mk hle; have q2 : ((y2.setCell ⟨w2.heap.size, 3, none⟩ (.slice A'2 m'2 c'2)).alloc (.cells #[] 44 (0, 0))).cell? ⟨w.heap.size, 2, none⟩ = some (.slice A2 l2.length c2) := (blk_cell (blk_alloc hM'.mb _) 2).trans rfl; clear hn hb hg hat hm hle hF hFF hM'))
    | ((with_reducible refine gate_builtin (b := .append) (xs := #[.tmp 46, .tmp 48]) rfl ?_); at_builtin; go_loud (refine Kd.N_append_rows k44 (w0 := w) w.heap.size rfl (.tmp 46) (.tmp 48) 27 44 (.agg #[(.int .i64 0), (.int .i64 0), (.int .i64 0), (.slice none 0 0)]) 48 rfl Tryd.underlying27 info44 rfl (by decide) (by omega) (.slice (some ⟨y2.heap.size, 0, none⟩) 0 0) [] l2 A2 l2.length c2 (fun q => q ≠ w2.heap.size) (fun q => q < w.heap.size) rfl rfl ?aO ?aR ?aK ?aF ?aB ?aS ?aL ?_; (case aO => exact emp_N k44 44 _ _ _ (by simp [World.setCell]) HM3.out.old.size _ HM3.out.ne_new); (case aR => exact Kd.F_below (Kd.F_below (Kd.C_F k44_heap HMD.out.r2) HM3.out.old) (below_alloc (Below.refl _ _) _)); (case aK => exact HM3.out.apart1 (by simp [World.setCell])); (case aF => exact HM3.out.far1); (case aB => exact HM3.out.old.alloc HM3.out.old.size _); (case aS => exact (HM3.out.old.alloc HM3.out.old.size _).size); (case aL => have := HL2.out; simp only [List.length_nil, Nat.zero_add]; omega); intro v3 x3 hn hb hg hat; have HN3 := Aside0.mk hn; have HBx3 := Aside0.mk hb; have HGx3 := Aside0.mk hg; have HAx3 := Aside0.mk hat; clear hn hb hg hat))
    | ((with_reducible refine gate_builtin (b := .append) (xs := #[.tmp 49, .tmp 53]) rfl ?_); at_builtin; go_loud (refine Kd.N_append k44 (w0 := w) (W := (x3.alloc (.cells #[.int .u8 3, .int .i64 0] 32 (0, 0)))) w.heap.size rfl (.tmp 49) (.tmp 53) 27 44 (.agg #[(.int .i64 0), (.int .i64 0), (.int .i64 0), (.slice none 0 0)]) 48 rfl Tryd.underlying27 info44 rfl (by decide) (by omega) v3 ([] ++ l2) Pure.pNew [.int .i64 0, .int .i64 1, .int .i64 0, .slice (some ⟨x3.heap.size, 0, none⟩) 1 1] (fun q => q ≠ w2.heap.size) (fun q => q = x3.heap.size) rfl ?aX ?aP ?aK ?aF ?aO ?aB ?aS ?aL ?_; (case aX => (first | exact rfl | (simp [Act.eval, World.size_alloc]))); (case aP => exact k44_mkF _ _ Pure.pNew (Nat.le_refl _) (lit_F x3)); (case aK => exact fun q hq => ⟨by rw [hq]; exact HM3.out.far2 (by have := HGx3.out.size; rw [World.size_alloc] at this; omega) _ (Nat.le_refl _), by rw [hq]; intro e; have := Kd.N_lt HN3.out _ e.symm; omega⟩); (case aF => exact HM3.out.far2 (by have := HGx3.out.size; rw [World.size_alloc] at this ⊢; omega)); (case aO => exact Kd.N_alloc HN3.out _); (case aB => exact HBx3.out.alloc HBx3.out.size _); (case aS => exact (HBx3.out.alloc HBx3.out.size _).size); (case aL => have := HL2.out; simp only [List.nil_append]; omega); intro u3 y3 hn hb hg hat); go_loud (obtain ⟨A'3, m'3, c'3, ev, hm, hle, hF⟩ := new_F (i := 2) (u := u3) hn; obtain ⟨z3, zf3, hM', hFF⟩ := HM3.out.phase (i := 2) (v0 := .slice (some ⟨y2.heap.size, 0, none⟩) 0 0) (v1 := v3) (v := u3) (kc' := #[.slice A'0 m'0 c'0, .slice A'1 m'1 c'1, u3, .slice A'2 m'2 c'2]) (by simp [World.setCell]) rfl HGx3.out HAx3.out (fun k hk => Below.heap_alloc x3 _ k hk) (by rw [World.size_alloc]; omega) hg hb rfl (by rw [ev]; rfl); subst ev; have HM4 := Aside0.mk hM'; have HF3 := Aside0.mk hF; have HFF3 := Aside0.mk (fun {α : Type} (d : Kd α) A n xs h => hFF d A n xs h); have HE3 := Aside0.mk hm; have HLE3 := Aside0.mk hle; have k0 : (y3.setCell ⟨w2.heap.size, 2, none⟩ (.slice A'3 m'3 c'3)).cell? ⟨w2.heap.size, 0, none⟩ = some (.slice A'0 m'0 c'0) := (blk_cell hM'.kb 0).trans rfl; have k1 : (y3.setCell ⟨w2.heap.size, 2, none⟩ (.slice A'3 m'3 c'3)).cell? ⟨w2.heap.size, 1, none⟩ = some (.slice A'1 m'1 c'1) := (blk_cell hM'.kb 1).trans rfl; have k2 : (y3.setCell ⟨w2.heap.size, 2, none⟩ (.slice A'3 m'3 c'3)).cell? ⟨w2.heap.size, 2, none⟩ = some (.slice A'3 m'3 c'3) := (blk_cell hM'.kb 2).trans rfl; have k3 : (y3.setCell ⟨w2.heap.size, 2, none⟩ (.slice A'3 m'3 c'3)).cell? ⟨w2.heap.size, 3, none⟩ = some (.slice A'2 m'2 c'2) := (blk_cell hM'.kb 3).trans rfl; have HMK := Aside0.mk (show ModIs (y3.setCell ⟨w2.heap.size, 2, none⟩ (.slice A'3 m'3 c'3)) A'0 c'0 (l0 ++ [n]) A'1 c'1 (l1 ++ [s]) A'3 c'3 (l2 ++ [Pure.pNew]) A'2 c'2 (l3 ++ [Pure.tNew]) from mod_F (hFF _ _ _ _ (HFF2.out _ _ _ _ (HFF1.out _ _ _ _ HF0.out))) HE0.out HLE0.out (hFF _ _ _ _ (HFF2.out _ _ _ _ HF1.out)) HE1.out HLE1.out hF hm hle (hFF _ _ _ _ HF2.out) HE2.out HLE2.out); have HCM := Aside0.mk (more_may HMK.out HE0.out HE1.out hm HE2.out HH.out HSZ.out HS.out HL0.out HL1.out HL2.out HL3.out HMAY.out (HMX.out.below hM'.old)); clear hn hb hg hat hm hle hF hFF hM'))
    | (go_at_call 24; go_loud (refine HCM.out.mono ?_); rintro e w5 ⟨rfl, hb5⟩; have HB5 := Aside0.mk (below_then HM4.out.old HM4.out.old.size hb5); have HK5 := Aside0.mk (HMK.out.below hb5); have a0 := (blk_cell (blk_below HM4.out.kb hb5) 0).trans rfl; have a1 := (blk_cell (blk_below HM4.out.kb hb5) 1).trans rfl; have a2 := (blk_cell (blk_below HM4.out.kb hb5) 2).trans rfl; have a3 := (blk_cell (blk_below HM4.out.kb hb5) 3).trans rfl; have b0 := (blk_cell (blk_below HM4.out.mb hb5) 0).trans rfl; have b1 := (blk_cell (blk_below HM4.out.mb hb5) 1).trans rfl; have b2 := (blk_cell (blk_below HM4.out.mb hb5) 2).trans rfl; have b3 := (blk_cell (blk_below HM4.out.mb hb5) 3).trans rfl; clear hb5)
    | (go_at_call 26; go_loud (refine (more_same (HMD.out.below HB5.out) HK5.out HE0.out HE1.out HE3.out HE2.out HH.out).mono ?_); rintro e w6 ⟨rfl, hb6⟩; have HB6 := Aside0.mk (below_then HB5.out HB5.out.size hb6); clear hb6)
    | (go_at_call 18; go_loud (refine (sacristanlaw09_awake.calls 10 true _ (HMX.out.below HB6.out) (Pure.awake_f 10 (by omega))).mono ?_); rintro e w7 ⟨rfl, hb7⟩))
  go_ret
  exact ⟨rfl, below_then HB6.out HB6.out.size hb7⟩
set_option maxHeartbeats 3200000 in
set_option maxRecDepth 1000000 in
theorem codeMore_bad (n : Int) (s : ByteArray) (w : World) (hmd : ModIs w A0 c0 l0 A1 c1 l1 A2 c2 l2 A3 c3 l3) (hM : MaxOk w) (h : Pure.FitM l0 l1 l2 l3) (hss : s.size ≤ maxLen) (hbad : Pure.greatS l0 l1 l2 l3 = true ∨ mayS (Pure.insM l0 l1 l2 l3) l0 l1 l2 l3 = false ∨ 1000 < s.size) :
    Calls Tryd.prog 6 #[.agg #[.slice A0 l0.length c0, .slice A1 l1.length c1, .slice A2 l2.length c2, .slice A3 l3.length c3], .int .i64 n, .string s] w fun e w' => e = .returned (.bool true) ∧ Below w.heap.size w w' := by
  have hA := (Below.refl w.heap.size w).alloc (Nat.le_refl _) (.cells #[.slice A0 l0.length c0, .slice A1 l1.length c1, .slice A2 l2.length c2, .slice A3 l3.length c3] 30 (0, 0))
  have hG := blk_new w (.cells #[.slice A0 l0.length c0, .slice A1 l1.length c1, .slice A2 l2.length c2, .slice A3 l3.length c3] 30 (0, 0))
  have g0 := (blk_cell hG 0).trans rfl
  have g1 := (blk_cell hG 1).trans rfl
  have g2 := (blk_cell hG 2).trans rfl
  have g3 := (blk_cell hG 3).trans rfl
  have HA := Aside0.mk hA
  have HG := Aside0.mk hG
  have HH := Aside0.mk h
  have HMX := Aside0.mk hM
  have HMD := Aside0.mk hmd
  have hsl : (s.size : Int) ≤ 9223372036854775807 := by unfold maxLen at hss; omega
  clear hG hA h hM hmd hss
  cases hg : Pure.greatS l0 l1 l2 l3 with
  | true =>
    have HGR := Aside0.mk hg
    clear hg hbad
    go_enter Tryd.func6, Tryd.ntmps6
    go_wp2_with (first | (go_at_call 19; go_loud (refine (refGreat19 _ (HMD.out.below HA.out)).mono ?_); rintro e w1 ⟨rfl, hb1⟩; rw [HGR.out]; have HB1 := Aside0.mk (below_then HA.out HA.out.size hb1); have HG1 := Aside0.mk (blk_below HG.out hb1); have z0 := (blk_cell HG1.out 0).trans rfl; have z1 := (blk_cell HG1.out 1).trans rfl; have z2 := (blk_cell HG1.out 2).trans rfl; have z3 := (blk_cell HG1.out 3).trans rfl; clear hb1) | (go_at_call 18; go_loud (refine (sacristanlaw09_awake.calls 10 true _ (HMX.out.below HB1.out) (Pure.awake_f 10 (by omega))).mono ?_); rintro e w7 ⟨rfl, hb7⟩))
    go_ret
    exact ⟨rfl, below_then HB1.out HB1.out.size hb7⟩
  | false =>
    have HGR := Aside0.mk hg
    cases hm : mayS (Pure.insM l0 l1 l2 l3) l0 l1 l2 l3 with
    | false =>
      have HMAY := Aside0.mk hm
      clear hg hbad hm
      go_enter Tryd.func6, Tryd.ntmps6
      go_wp2_with (first | (go_at_call 19; go_loud (refine (refGreat19 _ (HMD.out.below HA.out)).mono ?_); rintro e w1 ⟨rfl, hb1⟩; rw [HGR.out]; have HB1 := Aside0.mk (below_then HA.out HA.out.size hb1); have HG1 := Aside0.mk (blk_below HG.out hb1); have z0 := (blk_cell HG1.out 0).trans rfl; have z1 := (blk_cell HG1.out 1).trans rfl; have z2 := (blk_cell HG1.out 2).trans rfl; have z3 := (blk_cell HG1.out 3).trans rfl; clear hb1) | (go_at_call 25; go_loud (refine (refMay25 _ HH.out (HMD.out.below HB1.out)).mono ?_); rintro e w2 ⟨rfl, hb2⟩; rw [HMAY.out]; have HB2 := Aside0.mk (below_then HB1.out HB1.out.size hb2); clear hb2) | (go_at_call 18; go_loud (refine (sacristanlaw09_awake.calls 10 true _ (HMX.out.below HB2.out) (Pure.awake_f 10 (by omega))).mono ?_); rintro e w7 ⟨rfl, hb7⟩))
      go_ret
      exact ⟨rfl, below_then HB2.out HB2.out.size hb7⟩
    | true =>
      have HMAY := Aside0.mk hm
      have hls : 1000 < s.size := by
        rcases hbad with h | h | h
        · rw [hg] at h; cases h
        · rw [hm] at h; cases h
        · exact h
      have d1 : decide ((1000 : Int) < (s.size : Int)) = true := decide_eq_true (by omega)
      clear hg hbad hm hls
      go_enter Tryd.func6, Tryd.ntmps6
      go_wp2_with (first | (go_at_call 19; go_loud (refine (refGreat19 _ (HMD.out.below HA.out)).mono ?_); rintro e w1 ⟨rfl, hb1⟩; rw [HGR.out]; have HB1 := Aside0.mk (below_then HA.out HA.out.size hb1); have HG1 := Aside0.mk (blk_below HG.out hb1); have z0 := (blk_cell HG1.out 0).trans rfl; have z1 := (blk_cell HG1.out 1).trans rfl; have z2 := (blk_cell HG1.out 2).trans rfl; have z3 := (blk_cell HG1.out 3).trans rfl; clear hb1) | (go_at_call 25; go_loud (refine (refMay25 _ HH.out (HMD.out.below HB1.out)).mono ?_); rintro e w2 ⟨rfl, hb2⟩; rw [HMAY.out]; have HB2 := Aside0.mk (below_then HB1.out HB1.out.size hb2); clear hb2) | (go_at_call 18; go_loud (refine (sacristanlaw09_awake.calls 10 true _ (HMX.out.below HB2.out) (Pure.awake_f 10 (by omega))).mono ?_); rintro e w7 ⟨rfl, hb7⟩))
      go_ret
      exact ⟨rfl, below_then HB2.out HB2.out.size hb7⟩
theorem codeMore_all (n : Int) (s : ByteArray) (w : World) (hmd : ModIs w A0 c0 l0 A1 c1 l1 A2 c2 l2 A3 c3 l3) (hM : MaxOk w) (h : Pure.FitM l0 l1 l2 l3) (hsz : ∀ t ∈ l1, t.size ≤ reachBytes) (hss : s.size ≤ maxLen) :
    Calls Tryd.prog 6 #[.agg #[.slice A0 l0.length c0, .slice A1 l1.length c1, .slice A2 l2.length c2, .slice A3 l3.length c3], .int .i64 n, .string s] w fun e w' => e = .returned (.bool true) ∧ Below w.heap.size w w' := by
  by_cases hbad : Pure.greatS l0 l1 l2 l3 = true ∨ mayS (Pure.insM l0 l1 l2 l3) l0 l1 l2 l3 = false ∨ 1000 < s.size
  · exact codeMore_bad n s w hmd hM h hss hbad
  · have h1 : Pure.greatS l0 l1 l2 l3 = false := by cases e : Pure.greatS l0 l1 l2 l3 <;> simp_all
    have h2 : mayS (Pure.insM l0 l1 l2 l3) l0 l1 l2 l3 = true := by cases e : mayS (Pure.insM l0 l1 l2 l3) l0 l1 l2 l3 <;> simp_all
    exact codeMore_calls n s w hmd hM h hsz h1 h2 (Nat.le_of_not_lt fun e => hbad (.inr (.inr e)))
end
end Go.Proofs.YtfncoldcjhkhiaaDoor.NW
