/- The example. -/
import Derived.Test.YtfncoldcjhkhiaaDoorTw
import Derived.Test.YtfncoldcjhkhiaaDoorTb
namespace Go.Proofs.YtfncoldcjhkhiaaDoor.Pure
open Go.RowKit Go.Proofs.YtfncoldcjhkhiaaDoor.PC Go.Proofs.YtfncoldcjhkhiaaDoor.NW Go.Proofs.YtfncoldcjhkhiaaDoorW.PrintWords Go.Proofs.YtfncoldcjhkhiaaDoorW.PrintLast Go.Proofs.YtfncoldcjhkhiaaDoorW.PrintMore
set_option linter.unusedVariables false
set_option linter.unusedSimpArgs false
/-! the document's example -/
def q0 : S44 := ⟨0, 1, 0, [⟨3, 0⟩, ⟨12, 0⟩]⟩
def qC : S44 := ⟨2, 3, 0, [⟨6, 2⟩, ⟨6, 1⟩, ⟨22, 0⟩]⟩
theorem fit_Q : FitM [] [] [q0, qC] [] := by
  refine ⟨⟨fun t ht => by simp at ht⟩, fun q hq x hx => ?_, by simp, by simp, by simp, by simp, fun q hq => ?_⟩
  · simp only [List.mem_cons, List.not_mem_nil, or_false] at hq
    rcases hq with rfl | rfl
    · simp only [q0, List.mem_cons, List.not_mem_nil, or_false] at hx
      rcases hx with rfl | rfl <;> decide
    · simp only [qC, List.mem_cons, List.not_mem_nil, or_false] at hx
      rcases hx with rfl | rfl | rfl <;> decide
  · simp only [List.mem_cons, List.not_mem_nil, or_false] at hq
    rcases hq with rfl | rfl <;> decide
theorem may_Q : mayS (insM [] [] [q0, qC] []) [] [] [q0, qC] [] = true := by decide +kernel
theorem down_Q {a d : Int} (h : Flow.Reach (grf [] [] [q0, qC] [] qC) a d) : (a = 0 ∧ d = 0) ∨ (a = 1 ∧ d = 1) ∨ (a = 2 ∧ d = 2) := by
  induction h with
  | start => exact .inl ⟨rfl, rfl⟩
  | next hr hn hs hm ih =>
    rcases ih with ⟨rfl, rfl⟩ | ⟨rfl, rfl⟩ | ⟨rfl, rfl⟩
    · have e : (grf [] [] [q0, qC] [] qC).step 0 0 = some 1 := rfl
      have u : (grf [] [] [q0, qC] [] qC).succ 0 = [1] := rfl
      rw [e] at hs; injection hs with hs; subst hs
      rw [u, List.mem_singleton] at hm; exact .inr (.inl ⟨hm, rfl⟩)
    · have e : (grf [] [] [q0, qC] [] qC).step 1 1 = some 2 := rfl
      have u : (grf [] [] [q0, qC] [] qC).succ 1 = [2] := rfl
      rw [e] at hs; injection hs with hs; subst hs
      rw [u, List.mem_singleton] at hm; exact .inr (.inr ⟨hm, rfl⟩)
    · have u : (grf [] [] [q0, qC] [] qC).succ 2 = [] := rfl
      rw [u] at hm; simp at hm
theorem right_Q : Flow.Right (grf [] [] [q0, qC] [] qC) := by
  intro a d ha
  have hn : (grf [] [] [q0, qC] [] qC).n = 3 := rfl
  have huniq : ∀ e, Flow.Reach (grf [] [] [q0, qC] [] qC) a e → e = d := fun e he => by
    rcases down_Q ha with ⟨_, _⟩ | ⟨_, _⟩ | ⟨_, _⟩ <;> rcases down_Q he with ⟨_, _⟩ | ⟨_, _⟩ | ⟨_, _⟩ <;> omega
  rcases down_Q ha with ⟨rfl, rfl⟩ | ⟨rfl, rfl⟩ | ⟨rfl, rfl⟩
  · exact ⟨by omega, ⟨1, rfl⟩, huniq⟩
  · exact ⟨by omega, ⟨2, rfl⟩, huniq⟩
  · exact ⟨by omega, ⟨0, rfl⟩, huniq⟩
theorem way_Q : wayS [] [] [q0, qC] [] 1 = ([0, 1, 2], true) := by
  have hD := depths_right (l0 := []) (l1 := []) (l2 := [q0, qC]) (l3 := []) (a := 1) ⟨by decide, by decide⟩ may_Q (show Flow.Right (grf [] [] [q0, qC] [] qC) from right_Q)
  have hne : depthsS [] [] [q0, qC] [] 1 ≠ [] := fun e => by have := (has_len hD).2; rw [e] at this; simp at this
  have hw : wayL qC 200 [] 0 (slots0 qC) [] = ([0, 1, 2], true) := rfl
  have h' : refWay [] [] [q0, qC] [] 1 = ([0, 1, 2], true) := by
    unfold refWay
    rw [if_pos (show depthsS [] [] [q0, qC] [] 1 ≠ [] ∧ (rd_T44 [q0, qC] 1).f0 = 2 from ⟨hne, rfl⟩)]
    exact hw
  unfold wayS
  rw [h']
  rfl
end Go.Proofs.YtfncoldcjhkhiaaDoor.Pure
namespace Go.Proofs.YtfncoldcjhkhiaaDoor.NW
open Go.RowKit Go.Proofs.YtfncoldcjhkhiaaDoorW.PrintWords Go.Proofs.YtfncoldcjhkhiaaDoorW.PrintMore Go.Proofs.YtfncoldcjhkhiaaDoor.PC Go.Proofs.YtfncoldcjhkhiaaDoor.Pure
theorem add_plain19 (b o : Nat) : (Addr.add ⟨b, 0, none⟩ o) = ⟨b, o, none⟩ := by simp [Addr.add]; exact fun e => e.symm
theorem lit2 {W : World} {B : Nat} {x y : S32} (hb : W.heap[B]? = some (.cells #[.int .u8 x.f0, .int .i64 x.f1, .int .u8 y.f0, .int .i64 y.f1] 32 (0, 0))) : Kd.C k32 W (some ⟨B, 0, none⟩) 2 [x, y] := by
  refine ⟨rfl, by simp, fun _ => ⟨_, rfl, fun j q hj => ?_⟩⟩
  have key : ∀ (o : Nat) (z : S32), (∀ i u, ([.int .u8 z.f0, .int .i64 z.f1] : List Value)[i]? = some u → (#[.int .u8 x.f0, .int .i64 x.f1, .int .u8 y.f0, .int .i64 y.f1] : Array Value)[o * k32.sz + i]? = some u) → ∃ cs : List Value, cs.length = k32.sz ∧ k32.K W z cs ∧ ∀ i u, cs[i]? = some u → W.cell? ((⟨B, 0, none⟩ : Addr).add (o * k32.sz + i)) = some u := fun o z h => ⟨_, rfl, k32_mk W z, fun i u hi => by rw [add_plain19, blk_cell hb]; exact h i u hi⟩
  match j with
  | 0 => injection hj with hj; subst hj; exact key 0 _ fun i u hi => by match i with | 0 => exact hi | 1 => exact hi | i + 2 => cases hi
  | 1 => injection hj with hj; subst hj; exact key 1 _ fun i u hi => by match i with | 0 => exact hi | 1 => exact hi | i + 2 => cases hi
  | j + 2 => cases hj
theorem lit3 {W : World} {B : Nat} {x y z : S32} (hb : W.heap[B]? = some (.cells #[.int .u8 x.f0, .int .i64 x.f1, .int .u8 y.f0, .int .i64 y.f1, .int .u8 z.f0, .int .i64 z.f1] 32 (0, 0))) : Kd.C k32 W (some ⟨B, 0, none⟩) 3 [x, y, z] := by
  refine ⟨rfl, by simp, fun _ => ⟨_, rfl, fun j q hj => ?_⟩⟩
  have key : ∀ (o : Nat) (q : S32), (∀ i u, ([.int .u8 q.f0, .int .i64 q.f1] : List Value)[i]? = some u → (#[.int .u8 x.f0, .int .i64 x.f1, .int .u8 y.f0, .int .i64 y.f1, .int .u8 z.f0, .int .i64 z.f1] : Array Value)[o * k32.sz + i]? = some u) → ∃ cs : List Value, cs.length = k32.sz ∧ k32.K W q cs ∧ ∀ i u, cs[i]? = some u → W.cell? ((⟨B, 0, none⟩ : Addr).add (o * k32.sz + i)) = some u := fun o z h => ⟨_, rfl, k32_mk W z, fun i u hi => by rw [add_plain19, blk_cell hb]; exact h i u hi⟩
  match j with
  | 0 => injection hj with hj; subst hj; exact key 0 _ fun i u hi => by match i with | 0 => exact hi | 1 => exact hi | i + 2 => cases hi
  | 1 => injection hj with hj; subst hj; exact key 1 _ fun i u hi => by match i with | 0 => exact hi | 1 => exact hi | i + 2 => cases hi
  | 2 => injection hj with hj; subst hj; exact key 2 _ fun i u hi => by match i with | 0 => exact hi | 1 => exact hi | i + 2 => cases hi
  | j + 3 => cases hj
theorem two44 {W : World} {B : Nat} {p q : S44} {A D : Option Addr} {c d : Nat} (hb : W.heap[B]? = some (.cells #[.int .i64 p.f0, .int .i64 p.f1, .int .i64 p.f2, .slice A p.f3.length c, .int .i64 q.f0, .int .i64 q.f1, .int .i64 q.f2, .slice D q.f3.length d] 44 (0, 0))) (hc : p.f3.length ≤ c) (hd : q.f3.length ≤ d) (hp : Kd.C k32 W A p.f3.length p.f3) (hq : Kd.C k32 W D q.f3.length q.f3) : Kd.C k44 W (some ⟨B, 0, none⟩) 2 [p, q] := by
  refine ⟨rfl, by simp, fun _ => ⟨_, rfl, fun j r hj => ?_⟩⟩
  match j with
  | 0 =>
    injection hj with hj; subst hj
    refine ⟨_, rfl, k44_mk W _ hc hp, fun i u hi => ?_⟩
    rw [add_plain19, blk_cell hb]
    match i with
    | 0 => exact hi
    | 1 => exact hi
    | 2 => exact hi
    | 3 => exact hi
    | i + 4 => cases hi
  | 1 =>
    injection hj with hj; subst hj
    refine ⟨_, rfl, k44_mk W _ hd hq, fun i u hi => ?_⟩
    rw [add_plain19, blk_cell hb]
    match i with
    | 0 => exact hi
    | 1 => exact hi
    | 2 => exact hi
    | 3 => exact hi
    | i + 4 => cases hi
  | j + 2 => cases hj
set_option maxHeartbeats 1600000 in
set_option maxRecDepth 100000 in
theorem awake_calls19 (w : World) (hM : MaxOk w) : Calls Tryd.prog 34 #[] w fun e w' => e = .returned (.bool true) ∧ Below w.heap.size w w' := by
  obtain ⟨w1, h1⟩ : ∃ w1, w.alloc (.cells #[.int .u8 3, .int .i64 0, .int .u8 12, .int .i64 0] 32 (0, 0)) = w1 := ⟨_, rfl⟩
  obtain ⟨w2, h2⟩ : ∃ w2, w1.alloc (.cells #[.int .u8 6, .int .i64 2, .int .u8 6, .int .i64 1, .int .u8 22, .int .i64 0] 32 (0, 0)) = w2 := ⟨_, rfl⟩
  obtain ⟨w3, h3⟩ : ∃ w3, w2.alloc (.cells #[.int .i64 0, .int .i64 1, .int .i64 0, .slice (some ⟨w.heap.size, 0, none⟩) 2 2, .int .i64 2, .int .i64 3, .int .i64 0, .slice (some ⟨w.heap.size + 1, 0, none⟩) 3 3] 44 (0, 0)) = w3 := ⟨_, rfl⟩
  have s1 : w1.heap.size = w.heap.size + 1 := by rw [← h1, World.size_alloc]
  have s2 : w2.heap.size = w1.heap.size + 1 := by rw [← h2, World.size_alloc]
  have b1 : Below w.heap.size w w1 := by rw [← h1]; exact below_alloc (Below.refl _ _) _
  have b2 : Below w1.heap.size w1 w2 := by rw [← h2]; exact below_alloc (Below.refl _ _) _
  have b3 : Below w2.heap.size w2 w3 := by rw [← h3]; exact below_alloc (Below.refl _ _) _
  have b4 := below_alloc (Below.refl w3.heap.size w3) (.cells #[.slice none 0 0, .slice none 0 0, .slice (some ⟨w.heap.size + 1 + 1, 0, none⟩) 2 2, .slice none 0 0] 30 (0, 0))
  have x1 : w1.heap[w.heap.size]? = some (.cells #[.int .u8 3, .int .i64 0, .int .u8 12, .int .i64 0] 32 (0, 0)) := by rw [← h1]; exact blk_new w _
  have x2 : w2.heap[w.heap.size + 1]? = some (.cells #[.int .u8 6, .int .i64 2, .int .u8 6, .int .i64 1, .int .u8 22, .int .i64 0] 32 (0, 0)) := by rw [← h2, ← s1]; exact blk_new w1 _
  have x3 : w3.heap[w.heap.size + 1 + 1]? = some (.cells #[.int .i64 0, .int .i64 1, .int .i64 0, .slice (some ⟨w.heap.size, 0, none⟩) 2 2, .int .i64 2, .int .i64 3, .int .i64 0, .slice (some ⟨w.heap.size + 1, 0, none⟩) 3 3] 44 (0, 0)) := by rw [← h3, ← s1, ← s2]; exact blk_new w2 _
  have hb : Below w.heap.size w (w3.alloc (.cells #[.slice none 0 0, .slice none 0 0, .slice (some ⟨w.heap.size + 1 + 1, 0, none⟩) 2 2, .slice none 0 0] 30 (0, 0))) := below_then (below_then (below_then b1 (by omega) b2) (by omega) b3) (by have := b3.size; omega) b4
  have hm : ModIs (w3.alloc (.cells #[.slice none 0 0, .slice none 0 0, .slice (some ⟨w.heap.size + 1 + 1, 0, none⟩) 2 2, .slice none 0 0] 30 (0, 0))) none 0 [] none 0 [] (some ⟨w.heap.size + 1 + 1, 0, none⟩) 2 [q0, qC] none 0 [] :=
    ⟨Kd.C_nil _ _, Nat.le_refl _, Kd.C_nil _ _, Nat.le_refl _, two44 (p := q0) (q := qC) (blk_below x3 b4) (Nat.le_refl _) (Nat.le_refl _) (lit2 (x := ⟨3, 0⟩) (y := ⟨12, 0⟩) (blk_below (blk_below (blk_below x1 b2) b3) b4)) (lit3 (x := ⟨6, 2⟩) (y := ⟨6, 1⟩) (z := ⟨22, 0⟩) (blk_below (blk_below x2 b3) b4)), Nat.le_refl _, Kd.C_nil _ _, Nat.le_refl _⟩
  have HC := Aside0.mk (way_calls (l0 := []) (l1 := []) (l2 := [q0, qC]) (l3 := []) _ fit_Q (fun s hs => by simp at hs) (hM.below hb) hm 1)
  subst h3
  subst h2
  subst h1
  have HB := Aside0.mk hb
  clear hM b1 b2 b3 b4 x1 x2 x3 s1 s2 hm hb
  go_enter Tryd.func34, Tryd.ntmps34
  go_wp2_with (go_at_call 35; refine HC.out.mono ?_; rintro e w5 ⟨v, rfl, hr, hb5⟩; rw [way_Q] at hr ⊢; have hr' : Kd.R (Kd.int .i64) 3 w5 _ (fun _ => True) v [0, 1, 2] := hr; obtain ⟨gb, cap, ev, _⟩ := Kd.R_form hr' (by simp); subst ev; have c2 : w5.cell? ⟨gb, 2, none⟩ = some (.int .i64 2) := (Kd.R_cell 0 hr' 2 (by omega) (by simp)).1; have HB5 := Aside0.mk (below_then HB.out HB.out.size hb5); clear hr hr' hb5)
  go_ret
  exact ⟨rfl, HB5.out⟩
end Go.Proofs.YtfncoldcjhkhiaaDoor.NW
