/- What came in as a module or an instruction, as the rows that the walks read. -/
import Derived.Test.YtfncoldcjhkhiaaDoorPCx0
import Derived.WalkKit
import Derived.ProofKit
import Derived.OpenShut
import Derived.ShutString
import Derived.ChangeOld
import Derived.ChangeArms
import Derived.Below
import Derived.SizedLaws
import Derived.HandedShaped
import Derived.Lib.SmallJoins
import Derived.Carry
namespace Go.Proofs.YtfncoldcjhkhiaaDoor.NW
open Go.RowKit Go.ChangeShapes Go.WideShapes Go.ChangeAt Go.Joins Go.Proofs.YtfncoldcjhkhiaaDoorW.PrintWords Go.Proofs.YtfncoldcjhkhiaaDoorW.PrintMore Go.Proofs.YtfncoldcjhkhiaaDoor.PC
set_option linter.unusedVariables false
set_option linter.unusedSimpArgs false
section
variable {H : Type} {enc : TypeId × Value → H} {w : World} {base : Nat} {spare : Nat → Bool} {held : Bool}

def Light (t : Nat) (d : DataW H) : Prop := ∀ n ∈ d.weights Tryd.prog t, n ≤ reachBytes
theorem weightsAll_mem {e : Nat} : ∀ {es : List (DataW H)} {d : DataW H}, d ∈ es → ∀ n ∈ d.weights Tryd.prog e, n ∈ DataW.weightsAll Tryd.prog e es
  | x :: es, d, hd, n, hn => by
    simp only [DataW.weightsAll, List.mem_append]
    rcases List.mem_cons.1 hd with rfl | hd
    · exact .inl hn
    · exact .inr (weightsAll_mem hd n hn)
theorem light_slice {t e : Nat} {es rest : List (DataW H)} (ht : Tryd.prog.underlying t = some (.slice e)) (h : Light t (.slice es rest)) : es.length * Tryd.prog.bytesOf e ≤ reachBytes ∧ ∀ d ∈ es, Light e d := by
  refine ⟨?_, fun d hd n hn => h n ?_⟩
  · have := h ((es.length + rest.length) * Tryd.prog.bytesOf e) (by simp [DataW.weights, ht])
    exact Nat.le_trans (Nat.mul_le_mul_right _ (by omega)) this
  · simp only [DataW.weights, ht, List.mem_cons, List.mem_append]
    exact .inr (.inl (weightsAll_mem hd n hn))
theorem light_struct {t : Nat} {fs : Array Field} {ds : List (DataW H)} (ht : Tryd.prog.underlying t = some (.struct fs)) (h : Light t (.agg ds)) {i : Nat} {f : Nat} {d : DataW H} (hf : (fs.toList.map (·.type))[i]? = some f) (hd : ds[i]? = some d) : Light f d := fun n hn => h n (by
  simp only [DataW.weights, ht]
  exact DataW.weights_mem_each hf hd n hn)
theorem trC {α : Type} {t e : Nat} {d : Kd α} (Q : α → Prop) (ht : Tryd.prog.underlying t = some (.slice e)) (hC : Tryd.prog.cellsOf e = d.sz) {nb : Nat} (hnb : Tryd.prog.bytesOf e = nb)
    (hd : ∀ {fuel : Nat} {cs : List Value} {x : DataW H × List MemPlace}, DataW.trod enc Tryd.prog w base spare held fuel e cs = some x → Light e x.1 → ∃ a, d.K w a cs ∧ Q a)
    {fuel : Nat} {cs : List Value} {x : DataW H × List MemPlace} (h : DataW.trod enc Tryd.prog w base spare held fuel t cs = some x) (hw : Light t x.1) :
    ∃ A c xs, cs = [.slice A xs.length c] ∧ xs.length ≤ c ∧ d.C w A xs.length xs ∧ (∀ a ∈ xs, Q a) ∧ xs.length * nb ≤ reachBytes := by
  rcases DataW.trod_slice ht h with ⟨rfl, _⟩ | ⟨a, len, cap, elems, rest, n, _, rfl, hx, _, hl, hm, hel, hi, _, _⟩
  · exact ⟨none, 0, [], rfl, Nat.le_refl _, Kd.C_nil d w, fun a ha => by simp at ha, by simp⟩
  · rw [hx] at hw
    obtain ⟨hw1, hw2⟩ := light_slice ht hw
    rw [hnb, List.length_map, hel] at hw1
    have hone : ∀ i, i < len → ∃ a' cs', d.K w a' cs' ∧ Q a' ∧ cs'.length = d.sz ∧ ∀ j u, cs'[j]? = some u → w.cell? (a.add (i * d.sz + j)) = some u := by
      intro i hlt
      have h1 := hi i hlt
      rw [List.getElem?_eq_getElem (by omega), hC] at h1
      obtain ⟨cs', hc, ht'⟩ := Option.bind_eq_some_iff.1 h1
      obtain ⟨a', hK, hQ⟩ := hd ht' (hw2 _ (List.mem_map.2 ⟨_, List.getElem_mem _, rfl⟩))
      obtain ⟨_, hcl, hat⟩ := World.cells?_some hc
      refine ⟨a', cs', hK, hQ, hcl, fun j u hj => ?_⟩
      have hjl : j < d.sz := by have := (List.getElem?_eq_some_iff.1 hj).1; omega
      have h2 := (hat j hjl).trans hj
      rw [show a.add (i * d.sz + j) = (a.add (i * d.sz)).add j by by_cases z1 : i * d.sz = 0 <;> by_cases z2 : j = 0 <;> simp [Addr.add, z1, z2, Nat.add_assoc]]
      exact h2
    have hall : ∀ m, m ≤ len → ∃ xs : List α, xs.length = m ∧ (∀ a' ∈ xs, Q a') ∧ ∀ j p, xs[j]? = some p → ∃ c, c.length = d.sz ∧ d.K w p c ∧ ∀ i u, c[i]? = some u → w.cell? (a.add (j * d.sz + i)) = some u := by
      intro m
      induction m with
      | zero => exact fun _ => ⟨[], rfl, fun a ha => by simp at ha, fun j p hj => by simp at hj⟩
      | succ m ih =>
        intro hm1
        obtain ⟨xs, hxl, hxq, hxs⟩ := ih (by omega)
        obtain ⟨a', cs', hK, hQ, hcl, hcell⟩ := hone m (by omega)
        refine ⟨xs ++ [a'], by simp [hxl], fun b hb => ?_, fun j p hj => ?_⟩
        · rcases List.mem_append.1 hb with hb | hb
          · exact hxq b hb
          · rw [List.mem_singleton.1 hb]; exact hQ
        · rcases Nat.lt_or_ge j m with hlt | hge
          · rw [List.getElem?_append_left (by omega)] at hj
            exact hxs j p hj
          · rw [List.getElem?_append_right (by omega), hxl] at hj
            have hjm : j = m := by
              have := (List.getElem?_eq_some_iff.1 hj).1
              simp at this
              omega
            subst hjm
            simp at hj
            subst hj
            exact ⟨cs', hcl, hK, hcell⟩
    obtain ⟨xs, hxl, hxq, hxs⟩ := hall len (Nat.le_refl _)
    subst hxl
    exact ⟨some a, cap, xs, rfl, hl, ⟨rfl, by unfold maxLen at hm; omega, fun _ => ⟨a, rfl, hxs⟩⟩, hxq, hw1⟩

theorem trI {t : Nat} {k : IntKind} (ht : Tryd.prog.underlying t = some (.int k)) {fuel : Nat} {cs : List Value} {x : DataW H × List MemPlace} (h : DataW.trod enc Tryd.prog w base spare held fuel t cs = some x) :
    ∃ n, (Kd.int k).K w n cs ∧ (Lit.int k n).wf = true := by
  obtain ⟨n, rfl, _, hw⟩ := DataW.trod_int ht h
  exact ⟨n, rfl, hw⟩

theorem cz2 : Tryd.prog.cellsOf 2 = 1 := by kernel_rfl
theorem cz3 : Tryd.prog.cellsOf 3 = 1 := by kernel_rfl
theorem cz4 : Tryd.prog.cellsOf 4 = 1 := by kernel_rfl
theorem cz5 : Tryd.prog.cellsOf 5 = 1 := by kernel_rfl
theorem cz9 : Tryd.prog.cellsOf 9 = 1 := by kernel_rfl
theorem cz22 : Tryd.prog.cellsOf 22 = 1 := by kernel_rfl
theorem cz26 : Tryd.prog.cellsOf 26 = 1 := by kernel_rfl
theorem cz27 : Tryd.prog.cellsOf 27 = 1 := by kernel_rfl
theorem cz28 : Tryd.prog.cellsOf 28 = 1 := by kernel_rfl
theorem cz39 : Tryd.prog.cellsOf 39 = 1 := by kernel_rfl
theorem cz42 : Tryd.prog.cellsOf 42 = 1 := by kernel_rfl
theorem cz32 : Tryd.prog.cellsOf 32 = 2 := by kernel_rfl
theorem cz44 : Tryd.prog.cellsOf 44 = 4 := by kernel_rfl
theorem cz41 : Tryd.prog.cellsOf 41 = 3 := by kernel_rfl
theorem cz30 : Tryd.prog.cellsOf 30 = 4 := by kernel_rfl
theorem nb2 : Tryd.prog.bytesOf 2 = 8 := by kernel_rfl
theorem nb3 : Tryd.prog.bytesOf 3 = 8 := by kernel_rfl
theorem nb9 : Tryd.prog.bytesOf 9 = 16 := by kernel_rfl
theorem nb32 : Tryd.prog.bytesOf 32 = 16 := by kernel_rfl
theorem nb44 : Tryd.prog.bytesOf 44 = 48 := by kernel_rfl
theorem nb41 : Tryd.prog.bytesOf 41 = 32 := by kernel_rfl
theorem len2 {l : List Value} (h : l.length = 2) : ∃ c0 c1, l = [c0, c1] := by
  match l, h with
  | [c0, c1], _ => exact ⟨c0, c1, rfl⟩
theorem len3 {l : List Value} (h : l.length = 3) : ∃ c0 c1 c2, l = [c0, c1, c2] := by
  match l, h with
  | [c0, c1, c2], _ => exact ⟨c0, c1, c2, rfl⟩
theorem len4 {l : List Value} (h : l.length = 4) : ∃ c0 c1 c2 c3, l = [c0, c1, c2, c3] := by
  match l, h with
  | [c0, c1, c2, c3], _ => exact ⟨c0, c1, c2, c3, rfl⟩
theorem trS {fuel : Nat} {cs : List Value} {x : DataW H × List MemPlace} (h : DataW.trod enc Tryd.prog w base spare held fuel 9 cs = some x) (hw : Light 9 x.1) : ∃ a, Kd.string.K w a cs ∧ a.size ≤ reachBytes := by
  obtain ⟨n, rfl, hx, _⟩ := DataW.trod_string Tryd.underlying9 h
  refine ⟨n, rfl, ?_⟩
  rw [hx] at hw
  have := hw n.data.toList.length (by simp [DataW.weights])
  rw [show n.data.toList.length = n.size from by rw [Array.length_toList]; rfl] at this
  exact this
def W32 (a : S32) : Prop := (Lit.int .u8 a.f0).wf = true ∧ (Lit.int .i64 a.f1).wf = true
theorem tr32 {fuel : Nat} {cs : List Value} {x : DataW H × List MemPlace} (h : DataW.trod enc Tryd.prog w base spare held fuel 32 cs = some x) (hw : Light 32 x.1) : ∃ a : S32, k32.K w a cs ∧ W32 a := by
  obtain ⟨xs, n, _, hx, hl, hxl, hf⟩ := DataW.trod_struct Tryd.underlying32 h
  have hl2 : cs.length = 2 := hl.trans cz32
  obtain ⟨c0, c1, rfl⟩ := len2 hl2
  have e0 : DataW.trod enc Tryd.prog w base spare held n 5 (List.take (Tryd.prog.cellsOf 5) (List.drop 0 [c0, c1])) = xs[0]? := hf 0 _ rfl
  simp only [cz5, List.drop_zero, List.drop_succ_cons, List.take_succ_cons, List.take_zero] at e0
  have e1 : DataW.trod enc Tryd.prog w base spare held n 3 (List.take (Tryd.prog.cellsOf 3) (List.drop 1 [c0, c1])) = xs[1]? := hf 1 _ rfl
  simp only [cz3, List.drop_zero, List.drop_succ_cons, List.take_succ_cons, List.take_zero] at e1
  rw [hx] at hw
  have hx2 : xs.length = 2 := hxl
  rw [List.getElem?_eq_getElem (by omega)] at e0 e1
  have w0_ : Light 5 (xs[0]'(by omega)).1 := light_struct Tryd.underlying32 hw (i := 0) rfl (by rw [List.getElem?_map, List.getElem?_eq_getElem (by omega)]; rfl)
  have w1_ : Light 3 (xs[1]'(by omega)).1 := light_struct Tryd.underlying32 hw (i := 1) rfl (by rw [List.getElem?_map, List.getElem?_eq_getElem (by omega)]; rfl)
  obtain ⟨n0, g0, _, w0⟩ := DataW.trod_int Tryd.underlying5 e0
  obtain ⟨n1, g1, _, w1⟩ := DataW.trod_int Tryd.underlying3 e1
  simp only [List.cons.injEq, and_true] at g0 g1
  subst g0 g1
  exact ⟨⟨n0, n1⟩, k32_mk w ⟨n0, n1⟩, w0, w1⟩
def W44 (a : S44) : Prop := (Lit.int .i64 a.f0).wf = true ∧ (Lit.int .i64 a.f1).wf = true ∧ (Lit.int .i64 a.f2).wf = true ∧ (∀ i ∈ a.f3, W32 i) ∧ a.f3.length * 16 ≤ reachBytes
theorem tr44 {fuel : Nat} {cs : List Value} {x : DataW H × List MemPlace} (h : DataW.trod enc Tryd.prog w base spare held fuel 44 cs = some x) (hw : Light 44 x.1) : ∃ a : S44, k44.K w a cs ∧ W44 a := by
  obtain ⟨xs, n, _, hx, hl, hxl, hf⟩ := DataW.trod_struct Tryd.underlying44 h
  have hl4 : cs.length = 4 := hl.trans cz44
  obtain ⟨c0, c1, c2, c3, rfl⟩ := len4 hl4
  have e0 : DataW.trod enc Tryd.prog w base spare held n 3 (List.take (Tryd.prog.cellsOf 3) (List.drop 0 [c0, c1, c2, c3])) = xs[0]? := hf 0 _ rfl
  simp only [cz3, List.drop_zero, List.drop_succ_cons, List.take_succ_cons, List.take_zero] at e0
  have e1 : DataW.trod enc Tryd.prog w base spare held n 3 (List.take (Tryd.prog.cellsOf 3) (List.drop 1 [c0, c1, c2, c3])) = xs[1]? := hf 1 _ rfl
  simp only [cz3, List.drop_zero, List.drop_succ_cons, List.take_succ_cons, List.take_zero] at e1
  have e2 : DataW.trod enc Tryd.prog w base spare held n 3 (List.take (Tryd.prog.cellsOf 3) (List.drop 2 [c0, c1, c2, c3])) = xs[2]? := hf 2 _ rfl
  simp only [cz3, List.drop_zero, List.drop_succ_cons, List.take_succ_cons, List.take_zero] at e2
  have e3 : DataW.trod enc Tryd.prog w base spare held n 42 (List.take (Tryd.prog.cellsOf 42) (List.drop 3 [c0, c1, c2, c3])) = xs[3]? := hf 3 _ rfl
  simp only [cz42, List.drop_zero, List.drop_succ_cons, List.take_succ_cons, List.take_zero] at e3
  rw [hx] at hw
  have hx4 : xs.length = 4 := hxl
  rw [List.getElem?_eq_getElem (by omega)] at e0 e1 e2 e3
  have w0_ : Light 3 (xs[0]'(by omega)).1 := light_struct Tryd.underlying44 hw (i := 0) rfl (by rw [List.getElem?_map, List.getElem?_eq_getElem (by omega)]; rfl)
  have w1_ : Light 3 (xs[1]'(by omega)).1 := light_struct Tryd.underlying44 hw (i := 1) rfl (by rw [List.getElem?_map, List.getElem?_eq_getElem (by omega)]; rfl)
  have w2_ : Light 3 (xs[2]'(by omega)).1 := light_struct Tryd.underlying44 hw (i := 2) rfl (by rw [List.getElem?_map, List.getElem?_eq_getElem (by omega)]; rfl)
  have w3_ : Light 42 (xs[3]'(by omega)).1 := light_struct Tryd.underlying44 hw (i := 3) rfl (by rw [List.getElem?_map, List.getElem?_eq_getElem (by omega)]; rfl)
  obtain ⟨n0, g0, _, w0⟩ := DataW.trod_int Tryd.underlying3 e0
  obtain ⟨n1, g1, _, w1⟩ := DataW.trod_int Tryd.underlying3 e1
  obtain ⟨n2, g2, _, w2⟩ := DataW.trod_int Tryd.underlying3 e2
  obtain ⟨A3, d3, l3, g3, p3, q3, r3, m3⟩ := trC W32 Tryd.underlying42 cz32 nb32 tr32 e3 w3_
  simp only [List.cons.injEq, and_true] at g0 g1 g2 g3
  subst g0 g1 g2 g3
  exact ⟨⟨n0, n1, n2, l3⟩, k44_mk w ⟨n0, n1, n2, l3⟩ p3 q3, w0, w1, w2, r3, m3⟩
def W41 (a : S41) : Prop := (∀ i ∈ a.f0, (Lit.int .i64 i).wf = true) ∧ a.f0.length * 8 ≤ reachBytes
theorem tr41 {fuel : Nat} {cs : List Value} {x : DataW H × List MemPlace} (h : DataW.trod enc Tryd.prog w base spare held fuel 41 cs = some x) (hw : Light 41 x.1) : ∃ a : S41, k41.K w a cs ∧ W41 a := by
  obtain ⟨xs, n, _, hx, hl, hxl, hf⟩ := DataW.trod_struct Tryd.underlying41 h
  have hl3 : cs.length = 3 := hl.trans cz41
  obtain ⟨c0, c1, c2, rfl⟩ := len3 hl3
  have e0 : DataW.trod enc Tryd.prog w base spare held n 39 (List.take (Tryd.prog.cellsOf 39) (List.drop 0 [c0, c1, c2])) = xs[0]? := hf 0 _ rfl
  simp only [cz39, List.drop_zero, List.drop_succ_cons, List.take_succ_cons, List.take_zero] at e0
  have e1 : DataW.trod enc Tryd.prog w base spare held n 4 (List.take (Tryd.prog.cellsOf 4) (List.drop 1 [c0, c1, c2])) = xs[1]? := hf 1 _ rfl
  simp only [cz4, List.drop_zero, List.drop_succ_cons, List.take_succ_cons, List.take_zero] at e1
  have e2 : DataW.trod enc Tryd.prog w base spare held n 4 (List.take (Tryd.prog.cellsOf 4) (List.drop 2 [c0, c1, c2])) = xs[2]? := hf 2 _ rfl
  simp only [cz4, List.drop_zero, List.drop_succ_cons, List.take_succ_cons, List.take_zero] at e2
  rw [hx] at hw
  have hx3 : xs.length = 3 := hxl
  rw [List.getElem?_eq_getElem (by omega)] at e0 e1 e2
  have w0_ : Light 39 (xs[0]'(by omega)).1 := light_struct Tryd.underlying41 hw (i := 0) rfl (by rw [List.getElem?_map, List.getElem?_eq_getElem (by omega)]; rfl)
  have w1_ : Light 4 (xs[1]'(by omega)).1 := light_struct Tryd.underlying41 hw (i := 1) rfl (by rw [List.getElem?_map, List.getElem?_eq_getElem (by omega)]; rfl)
  have w2_ : Light 4 (xs[2]'(by omega)).1 := light_struct Tryd.underlying41 hw (i := 2) rfl (by rw [List.getElem?_map, List.getElem?_eq_getElem (by omega)]; rfl)
  obtain ⟨A0, d0, l0, g0, p0, q0, r0, m0⟩ := trC (d := Kd.int .i64) (fun n => (Lit.int .i64 n).wf = true) Tryd.underlying39 cz3 nb3 (fun h _ => trI Tryd.underlying3 h) e0 w0_
  obtain ⟨n1, g1, _⟩ := DataW.trod_bool Tryd.underlying4 e1
  obtain ⟨n2, g2, _⟩ := DataW.trod_bool Tryd.underlying4 e2
  simp only [List.cons.injEq, and_true] at g0 g1 g2
  subst g0 g1 g2
  exact ⟨⟨l0, n1, n2⟩, k41_mk w ⟨l0, n1, n2⟩ p0 q0, r0, m0⟩
/-- a module's rows, as they are read -/
structure ModIs (w : World) (A0 : Option Addr) (c0 : Nat) (l0 : List Int) (A1 : Option Addr) (c1 : Nat) (l1 : List ByteArray) (A2 : Option Addr) (c2 : Nat) (l2 : List S44) (A3 : Option Addr) (c3 : Nat) (l3 : List S41) : Prop where
  r0 : Kd.C (Kd.int .i64) w A0 l0.length l0
  h0 : l0.length ≤ c0
  r1 : Kd.C Kd.string w A1 l1.length l1
  h1 : l1.length ≤ c1
  r2 : Kd.C k44 w A2 l2.length l2
  h2 : l2.length ≤ c2
  r3 : Kd.C k41 w A3 l3.length l3
  h3 : l3.length ≤ c3
structure ModW (l0 : List Int) (l1 : List ByteArray) (l2 : List S44) (l3 : List S41) : Prop where
  w0 : ∀ i ∈ l0, (Lit.int .i64 i).wf = true
  w1 : ∀ s ∈ l1, s.size ≤ reachBytes
  w2 : ∀ p ∈ l2, W44 p
  w3 : ∀ t ∈ l3, W41 t
  m0 : l0.length * 8 ≤ reachBytes
  m1 : l1.length * 16 ≤ reachBytes
  m2 : l2.length * 48 ≤ reachBytes
  m3 : l3.length * 32 ≤ reachBytes
theorem tr30 {fuel : Nat} {cs : List Value} {x : DataW H × List MemPlace} (h : DataW.trod enc Tryd.prog w base spare held fuel 30 cs = some x) (hw : Light 30 x.1) :
    ∃ (A0 : Option Addr) (c0 : Nat) (l0 : List Int) (A1 : Option Addr) (c1 : Nat) (l1 : List ByteArray) (A2 : Option Addr) (c2 : Nat) (l2 : List S44) (A3 : Option Addr) (c3 : Nat) (l3 : List S41),
      cs = [.slice A0 l0.length c0, .slice A1 l1.length c1, .slice A2 l2.length c2, .slice A3 l3.length c3] ∧ ModIs w A0 c0 l0 A1 c1 l1 A2 c2 l2 A3 c3 l3 ∧ ModW l0 l1 l2 l3 := by
  obtain ⟨xs, n, _, hx, hl, hxl, hf⟩ := DataW.trod_struct Tryd.underlying30 h
  have hl4 : cs.length = 4 := hl.trans cz30
  obtain ⟨c0, c1, c2, c3, rfl⟩ := len4 hl4
  have e0 : DataW.trod enc Tryd.prog w base spare held n 26 (List.take (Tryd.prog.cellsOf 26) (List.drop 0 [c0, c1, c2, c3])) = xs[0]? := hf 0 _ rfl
  simp only [cz26, List.drop_zero, List.drop_succ_cons, List.take_succ_cons, List.take_zero] at e0
  have e1 : DataW.trod enc Tryd.prog w base spare held n 22 (List.take (Tryd.prog.cellsOf 22) (List.drop 1 [c0, c1, c2, c3])) = xs[1]? := hf 1 _ rfl
  simp only [cz22, List.drop_zero, List.drop_succ_cons, List.take_succ_cons, List.take_zero] at e1
  have e2 : DataW.trod enc Tryd.prog w base spare held n 27 (List.take (Tryd.prog.cellsOf 27) (List.drop 2 [c0, c1, c2, c3])) = xs[2]? := hf 2 _ rfl
  simp only [cz27, List.drop_zero, List.drop_succ_cons, List.take_succ_cons, List.take_zero] at e2
  have e3 : DataW.trod enc Tryd.prog w base spare held n 28 (List.take (Tryd.prog.cellsOf 28) (List.drop 3 [c0, c1, c2, c3])) = xs[3]? := hf 3 _ rfl
  simp only [cz28, List.drop_zero, List.drop_succ_cons, List.take_succ_cons, List.take_zero] at e3
  rw [hx] at hw
  have hx4 : xs.length = 4 := hxl
  rw [List.getElem?_eq_getElem (by omega)] at e0 e1 e2 e3
  have w0_ : Light 26 (xs[0]'(by omega)).1 := light_struct Tryd.underlying30 hw (i := 0) rfl (by rw [List.getElem?_map, List.getElem?_eq_getElem (by omega)]; rfl)
  have w1_ : Light 22 (xs[1]'(by omega)).1 := light_struct Tryd.underlying30 hw (i := 1) rfl (by rw [List.getElem?_map, List.getElem?_eq_getElem (by omega)]; rfl)
  have w2_ : Light 27 (xs[2]'(by omega)).1 := light_struct Tryd.underlying30 hw (i := 2) rfl (by rw [List.getElem?_map, List.getElem?_eq_getElem (by omega)]; rfl)
  have w3_ : Light 28 (xs[3]'(by omega)).1 := light_struct Tryd.underlying30 hw (i := 3) rfl (by rw [List.getElem?_map, List.getElem?_eq_getElem (by omega)]; rfl)
  obtain ⟨A0, d0, l0, g0, p0, q0, r0, m0⟩ := trC (d := Kd.int .i64) (fun n => (Lit.int .i64 n).wf = true) Tryd.underlying26 cz2 nb2 (fun h _ => trI Tryd.underlying2 h) e0 w0_
  obtain ⟨A1, d1, l1, g1, p1, q1, r1, m1⟩ := trC (d := Kd.string) (fun s => s.size ≤ reachBytes) Tryd.underlying22 cz9 nb9 trS e1 w1_
  obtain ⟨A2, d2, l2, g2, p2, q2, r2, m2⟩ := trC W44 Tryd.underlying27 cz44 nb44 tr44 e2 w2_
  obtain ⟨A3, d3, l3, g3, p3, q3, r3, m3⟩ := trC W41 Tryd.underlying28 cz41 nb41 tr41 e3 w3_
  simp only [List.cons.injEq, and_true] at g0 g1 g2 g3
  subst g0 g1 g2 g3
  exact ⟨A0, d0, l0, A1, d1, l1, A2, d2, l2, A3, d3, l3, rfl, ⟨q0, p0, q1, p1, q2, p2, q3, p3⟩, ⟨r0, r1, r2, r3, m0, m1, m2, m3⟩⟩
end
end Go.Proofs.YtfncoldcjhkhiaaDoor.NW
