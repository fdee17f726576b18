/- A copy of values over values. -/
import Derived.Test.YtjkjbfhhfdbnoaaTa
import Derived.Laws.CopyOwn
namespace Go.Proofs.Ytjkjbfhhfdbnoaa.NW
open Go.RowKit Go.Proofs.YtjkjbfhhfdbnoaaW.PrintWords Go.Proofs.YtjkjbfhhfdbnoaaW.PrintMore Go.Proofs.Ytjkjbfhhfdbnoaa.PB
set_option linter.unusedVariables false
set_option linter.unusedSimpArgs false
/-- the cells of values -/
def cellsOf : List S37 → List Value
  | [] => []
  | v :: l => .int .u8 v.f0 :: .int .i64 v.f1 :: .string v.f2 :: cellsOf l
theorem cellsOf_len : ∀ l : List S37, (cellsOf l).length = l.length * 3
  | [] => rfl
  | v :: l => by simp [cellsOf, cellsOf_len l]; omega
theorem cellsOf_app : ∀ l m : List S37, cellsOf (l ++ m) = cellsOf l ++ cellsOf m
  | [], m => rfl
  | v :: l, m => by simp [cellsOf, cellsOf_app l m]
theorem cellsOf_one : ∀ (l : List S37), ∀ u ∈ cellsOf l, u.oneCell' = true
  | [], u, h => by cases h
  | v :: l, u, h => by
    simp only [cellsOf, List.mem_cons] at h
    rcases h with rfl | rfl | rfl | h
    · rfl
    · rfl
    · rfl
    · exact cellsOf_one l u h
theorem cellsOf_drop : ∀ (l : List S37) (k : Nat), cellsOf (l.drop k) = (cellsOf l).drop (k * 3)
  | [], k => by simp [cellsOf]
  | v :: l, 0 => by simp
  | v :: l, k + 1 => by rw [List.drop_succ_cons, cellsOf_drop l k, cellsOf, Nat.succ_mul]; rfl
theorem cellsOf_take : ∀ (l : List S37) (k : Nat), cellsOf (l.take k) = (cellsOf l).take (k * 3)
  | [], k => by simp [cellsOf]
  | v :: l, 0 => by simp [cellsOf]
  | v :: l, k + 1 => by rw [List.take_succ_cons, cellsOf, cellsOf_take l k, cellsOf, Nat.succ_mul]; rfl
theorem cellsOf_seg (l : List S37) (j : Nat) (p : S37) (h : l[j]? = some p) : ((cellsOf l).drop (j * 3)).take 3 = [.int .u8 p.f0, .int .i64 p.f1, .string p.f2] := by
  rw [← cellsOf_drop]
  obtain ⟨hj, rfl⟩ := List.getElem?_eq_some_iff.1 h
  rw [List.drop_eq_getElem_cons hj]
  rfl
theorem made_cells (n : Nat) : madeCells #[.int .u8 0, .int .i64 0, .string ⟨#[]⟩] (n * 3) = (cellsOf (List.replicate n z37)).toArray := by
  apply Array.toList_inj.1
  show _ = cellsOf (List.replicate n z37)
  induction n with
  | zero => simp [madeCells, cellsOf]
  | succ n ih =>
    rw [show List.replicate (n + 1) z37 = List.replicate n z37 ++ [z37] from List.replicate_succ', cellsOf_app, ← ih]
    simp only [madeCells, Nat.succ_mul, Array.toList_map, Array.toList_range]
    rw [show n * 3 + 3 = (n * 3 + 1 + 1) + 1 from rfl, List.range_succ, List.range_succ, List.range_succ]
    simp only [List.map_append, List.map_cons, List.map_nil, List.append_assoc, List.cons_append, List.nil_append, cellsOf]
    have e0 : n * 3 % 3 = 0 := by omega
    have e1 : (n * 3 + 1) % 3 = 1 := by omega
    have e2 : (n * 3 + 1 + 1) % 3 = 2 := by omega
    simp [e0, e1, e2, z37]
theorem regs_of {W : World} {base g : Nat} {r : List S37} (h : W.heap[g]? = some (.cells (cellsOf r).toArray 37 (0, 0))) (hb : base ≤ g) (hl : r.length ≤ maxLen) : Kd.R k37 37 W base (fun _ => True) (.slice (some ⟨g, 0, none⟩) r.length r.length) r := by
  refine ⟨fun _ _ => trivial, cellsOf r, ⟨cellsOf_len r, .inr ⟨g, r.length, _, rfl, hb, h, Nat.le_refl _, hl, ?_, ?_⟩⟩, cellsOf_len r, fun j p hp => ?_⟩
  · rw [List.size_toArray]; exact cellsOf_len r
  · rw [List.toList_toArray, show r.length * k37.sz = (cellsOf r).length from (cellsOf_len r).symm]; exact List.take_length
  · rw [show k37.sz = 3 from rfl, cellsOf_seg r j p hp]; exact k37_mkM _ _ _ p
/-- values laid over others -/
def putAt (r : List S37) (off : Nat) (l : List S37) : List S37 := r.take off ++ l ++ r.drop (off + l.length)
theorem putAt_len {r : List S37} {off : Nat} {l : List S37} (h : off + l.length ≤ r.length) : (putAt r off l).length = r.length := by simp [putAt]; omega
theorem putAt_start (z2 : Int) (l7 l8 : List S37) (h : (l7.length : Int) + l8.length ≤ z2) : putAt (putAt (List.replicate z2.toNat z37) 0 l7) l7.length l8 = startK z2 l7 l8 := by
  unfold putAt startK
  simp only [List.take_zero, List.nil_append, Nat.zero_add, List.drop_replicate]
  rw [List.take_left, List.drop_append, List.drop_eq_nil_of_le (by omega), List.nil_append, List.drop_replicate, Nat.add_sub_cancel_left, Nat.sub_sub]
theorem cells_at {w : World} {A : Option Addr} {l : List S37} (h : k37.C w A l.length l) (hp : 0 < l.length) : ∃ ad, A = some ad ∧ ∀ j v, (cellsOf l)[j]? = some v → w.cell? (ad.add j) = some v := by
  obtain ⟨ad, e, hc⟩ := h.2.2 hp
  refine ⟨ad, e, fun j v hv => ?_⟩
  have hj : j < l.length * 3 := by rw [← cellsOf_len]; exact (List.getElem?_eq_some_iff.1 hv).1
  have hq : j / 3 < l.length := by omega
  obtain ⟨c, _, hk, hcc⟩ := hc (j / 3) _ (List.getElem?_eq_getElem hq)
  have := k37_open hk
  subst this
  have hs := cellsOf_seg l (j / 3) _ (List.getElem?_eq_getElem hq)
  have h3 := hcc (j % 3) v (by
    rw [← hs, List.getElem?_take, if_pos (Nat.mod_lt _ (by decide)), List.getElem?_drop, show j / 3 * 3 + j % 3 = j by omega]
    exact hv)
  rwa [show j / 3 * k37.sz + j % 3 = j by rw [show k37.sz = 3 from rfl]; omega] at h3
theorem run_copy37 (w : World) (ty : TypeId) (g off dLen dCap c : Nat) (A dp : Option Addr) (r l : List S37) (hg : w.heap[g]? = some (.cells (cellsOf r).toArray 37 (0, 0))) (hl : k37.C w A l.length l) (hd : l.length ≤ dLen) (hfit : off + l.length ≤ r.length)
    (hdp : 0 < l.length → dp = some ⟨g, off * 3, none⟩) :
    ∃ w', (Builtin.copy_ #[26, 26] ty #[.slice dp dLen dCap, .slice A l.length c]).run Try.prog w = .ok (goInt l.length) w' ∧ w'.heap[g]? = some (.cells (cellsOf (putAt r off l)).toArray 37 (0, 0)) ∧ (∀ (B : Nat) (w0 : World), Below B w0 w → B ≤ g → Below B w0 w') ∧ ∀ k, k ≠ g → w'.heap[k]? = w.heap[k]? := by
  obtain ⟨i0, hi0, hzz⟩ := Option.map_eq_some_iff.1 info37
  simp only [Prod.mk.injEq] at hzz
  have hi : i0.size = 3 := hzz.2.1
  have hmin : Nat.min l.length dLen = l.length := Nat.min_eq_left hd
  have hst0 : ∀ a w, (storeCells a [] 0).run Try.prog w = .ok () w := fun _ _ => rfl
  by_cases h0 : l.length = 0
  · have hn := List.eq_nil_of_length_eq_zero h0
    subst hn
    refine ⟨w, ?_, by simpa [putAt] using hg, fun _ _ hb _ => hb, fun _ _ => rfl⟩
    have hmin0 : Nat.min 0 dLen = 0 := Nat.zero_min _
    have hld : ∀ a : Addr, (loadCells a 0).run Try.prog w = .ok #[] w := fun a => run_loadCells_list (P := Try.prog) w a [] (fun j v h => by simp at h)
    cases A <;> cases dp <;> simp [Builtin.copy_, run_underlying Try.underlying26, Builtin.lenOf, Builtin.firstCells, sizeOf, typeInfo, hi0, hi, hmin0, hld, storeCells]
  · have hp : 0 < l.length := by omega
    obtain rfl := hdp hp
    obtain ⟨ad, rfl, hcell⟩ := cells_at hl hp
    have hll := run_loadCells_list (P := Try.prog) w ad (cellsOf l) hcell
    rw [cellsOf_len] at hll
    have hst := run_storeCells_at Try.prog g (off * 3) 37 (cellsOf l) 0 _ w hg (by rw [List.size_toArray, cellsOf_len, cellsOf_len]; omega) (cellsOf_one l)
    refine ⟨_, ?_, setRow_heap w g _ (cellsOf (putAt r off l)).toArray 37 _ hg, fun B w0 hb hB => below_setRow hb hB _, fun k hk => setRow_other w g k _ hk⟩
    have e : (cellsOf r).toArray.toList.take (off * 3 + 0) ++ cellsOf l ++ (cellsOf r).toArray.toList.drop (off * 3 + 0 + (cellsOf l).length) = cellsOf (putAt r off l) := by
      rw [List.toList_toArray, putAt, cellsOf_app, cellsOf_app, cellsOf_take, cellsOf_drop, cellsOf_len, Nat.add_zero, Nat.add_mul]
    rw [e] at hst
    simp [Builtin.copy_, run_underlying Try.underlying26, Builtin.lenOf, Builtin.firstCells, sizeOf, typeInfo, hi0, hi, hmin, hll, hst]
theorem wpList_copy37 {w : World} {ops : Array Oper} {rest : List Oper} {o : Oper} {a : Act} {Q : Exit → Act → World → Prop} (hgd : o.guard = none) (d s : Operand)
    (ho : o.op = .call { callee := .builtin .copy, args := #[d, s], argTypes := #[26, 26] }) (g off dLen dCap c : Nat) (A dp : Option Addr) (r l : List S37) (hd : a.eval d = .slice dp dLen dCap) (hs : a.eval s = .slice A l.length c)
    (hg : w.heap[g]? = some (.cells (cellsOf r).toArray 37 (0, 0))) (hl : k37.C w A l.length l) (hdl : l.length ≤ dLen) (hfit : off + l.length ≤ r.length) (hdp : 0 < l.length → dp = some ⟨g, off * 3, none⟩) (B : Nat) (w0 : World) (hb : Below B w0 w) (hBg : B ≤ g)
    (h : ∀ w', Hid (w'.heap[g]? = some (.cells (cellsOf (putAt r off l)).toArray 37 (0, 0))) → Below B w0 w' → (∀ k, k ≠ g → w'.heap[k]? = w.heap[k]?) → wpList Try.prog ops Q rest (a.put o.dst (goInt l.length)) w') :
    wpList Try.prog ops Q (o :: rest) a w := by
  refine wpList_plain hgd fun K hK => ?_
  obtain ⟨w', hrun, hh, hbb, hfar⟩ := run_copy37 w o.type g off dLen dCap c A dp r l hg hl hdl hfit hdp
  unfold Oper.wp
  simp [execOp, ho, resolve, invoke, builtin, hd, hs, hrun, Result.andThen]
  exact hK _ _ (h w' hh (hbb B w0 hb hBg) hfar)
theorem step_copy37 {ops : Array Oper} {o : Oper} {a : Act} {w : World} {K : Act → World → Prop} {Q : Exit → Act → World → Prop} {E : Prop} (hgd : o.guard = none) (d s : Operand)
    (ho : o.op = .call { callee := .builtin .copy, args := #[d, s], argTypes := #[26, 26] }) (g off dLen dCap c : Nat) (A dp : Option Addr) (r l : List S37) (hd : a.eval d = .slice dp dLen dCap) (hs : a.eval s = .slice A l.length c)
    (hg : w.heap[g]? = some (.cells (cellsOf r).toArray 37 (0, 0))) (hl : k37.C w A l.length l) (hdl : l.length ≤ dLen) (hfit : off + l.length ≤ r.length) (hdp : 0 < l.length → dp = some ⟨g, off * 3, none⟩) (B : Nat) (w0 : World) (hb : Below B w0 w) (hBg : B ≤ g)
    (h : ∀ w', Hid (w'.heap[g]? = some (.cells (cellsOf (putAt r off l)).toArray 37 (0, 0))) → Below B w0 w' → (∀ k, k ≠ g → w'.heap[k]? = w.heap[k]?) → K (a.put o.dst (goInt l.length)) w') :
    if Region.wanted o (yielded ops a.tmps) = true then Oper.wp Try.prog o a w K Q else E := by
  have hw : Region.wanted o (yielded ops a.tmps) = true := by simp [Region.wanted, hgd]
  rw [if_pos hw]
  obtain ⟨w', hrun, hh, hbb, hfar⟩ := run_copy37 w o.type g off dLen dCap c A dp r l hg hl hdl hfit hdp
  unfold Oper.wp
  simp [execOp, ho, resolve, invoke, builtin, hd, hs, hrun, Result.andThen]
  exact h w' hh (hbb B w0 hb hBg) hfar
end Go.Proofs.Ytjkjbfhhfdbnoaa.NW
