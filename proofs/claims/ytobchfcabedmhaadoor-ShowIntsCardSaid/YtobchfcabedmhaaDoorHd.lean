/- What is shown, plainly; pairs through the heap. -/
import Derived.Test.YtobchfcabedmhaaDoorHc
import Derived.Test.YtobchfcabedmhaaDoorPSx0
import Derived.Test.YtobchfcabedmhaaDoorShelf
namespace Go.Proofs.YtobchfcabedmhaaDoor.NW
open Go.RowKit Go.Proofs.YtobchfcabedmhaaDoorW.PrintWords Go.Proofs.YtobchfcabedmhaaDoor.PS
set_option linter.unusedVariables false
set_option linter.unusedSimpArgs false
/-! ### what is shown, plainly -/
def pairAt (ps : List (S24 × S24)) (n : Int) : Option (S24 × S24) := if 0 ≤ n ∧ n < ps.length then ps[n.toNat]? else none
def atomB (v : S24) (pr : List UInt8) : List UInt8 :=
  if v.f0 = 0 then [40, 41] else if v.f0 = 1 then Lib.itoa v.f1 else if v.f0 = 2 then (if v.f1 = 1 then [116, 114, 117, 101] else [102, 97, 108, 115, 101]) else if v.f0 = 3 then quoteB v.f2.data.toList
  else if v.f0 = 4 then pr else if v.f0 = 5 then [35, 99, 101, 108, 108] else if v.f0 = 6 then [35, 102, 117, 110] else [35, 99, 111, 110, 116]
def showF (ps : List (S24 × S24)) : Nat → S24 → List UInt8
  | 0, v => atomB v [46, 46]
  | f + 1, v => atomB v (match pairAt ps v.f1 with
    | none => [46, 46]
    | some p => [40] ++ showF ps f p.1 ++ [32, 46, 32] ++ showF ps f p.2 ++ [41])
structure Good (v : S24) : Prop where
  tag : 0 ≤ v.f0
  num : -9223372036854775808 ≤ v.f1 ∧ v.f1 ≤ 9223372036854775807
  str : v.f2.size ≤ 65536
  pr : v.f0 = 4 → v.f2 = ⟨#[]⟩
theorem decDigits_len (n : Nat) : ∀ k, n < 10 ^ (k + 1) → (Lib.decDigits n).length ≤ k + 1 := by
  intro k
  induction k generalizing n with
  | zero => intro h; rw [Lib.decDigits, dif_pos (by simpa using h)]; simp
  | succ k ih =>
    intro h
    rw [Lib.decDigits]
    split
    · simp
    · rw [List.length_append, List.length_singleton]
      have := ih (n / 10) (by rw [Nat.pow_succ] at h; omega)
      omega
theorem itoa_len (n : Int) (h : -9223372036854775808 ≤ n ∧ n ≤ 9223372036854775807) : (Lib.itoa n).length ≤ 20 := by
  unfold Lib.itoa
  split
  · have := decDigits_len n.natAbs 18 (by have : n.natAbs ≤ 9223372036854775808 := by omega
                                          calc n.natAbs ≤ 9223372036854775808 := this
                                            _ < 10 ^ 19 := by decide)
    rw [List.length_cons]; omega
  · have := decDigits_len n.toNat 18 (by have : n.toNat ≤ 9223372036854775807 := by omega
                                         calc n.toNat ≤ 9223372036854775807 := this
                                            _ < 10 ^ 19 := by decide)
    omega
theorem atom_len {v : S24} (hv : Good v) {pr : List UInt8} {m : Nat} (hm : 300000 ≤ m) (hp : pr.length ≤ m) : (atomB v pr).length ≤ m := by
  unfold atomB
  have h1 := itoa_len v.f1 hv.num
  have h2 : (quoteB v.f2.data.toList).length ≤ 300000 := by
    unfold quoteB
    have h3 := flat_len v.f2.data.toList
    have h4 : v.f2.data.toList.length = v.f2.size := rfl
    have := hv.str
    rw [List.length_append, List.length_cons, List.length_singleton]; omega
  repeat' split
  all_goals first | omega | (simp; omega)
theorem pairAt_mem {ps : List (S24 × S24)} {n : Int} {p : S24 × S24} (h : pairAt ps n = some p) : p ∈ ps := by
  unfold pairAt at h
  split at h
  · exact List.mem_of_getElem? h
  · cases h
theorem show_len {ps : List (S24 × S24)} (hps : ∀ p ∈ ps, Good p.1 ∧ Good p.2) : ∀ (f : Nat) (v : S24), Good v → (showF ps f v).length + 300000 ≤ 300000 * 2 ^ (f + 1)
  | 0, v, hv => by have := atom_len hv (pr := [46, 46]) (m := 300000) (Nat.le_refl _) (by simp); unfold showF; omega
  | f + 1, v, hv => by
    have h2 : 300000 * 2 ^ (f + 1 + 1) = 300000 * 2 ^ (f + 1) + 300000 * 2 ^ (f + 1) := by rw [Nat.pow_succ 2 (f + 1)]; omega
    have h3 : 300000 * 2 ≤ 300000 * 2 ^ (f + 1) := Nat.mul_le_mul_left _ (by have := Nat.pow_le_pow_right (show 0 < 2 by decide) (show 1 ≤ f + 1 by omega); simpa using this)
    unfold showF
    have := atom_len hv (pr := match pairAt ps v.f1 with
      | none => [46, 46]
      | some p => [40] ++ showF ps f p.1 ++ [32, 46, 32] ++ showF ps f p.2 ++ [41]) (m := 300000 * 2 ^ (f + 1 + 1) - 300000) (by omega) (by
        split
        · simp; omega
        · rename_i p hp
          obtain ⟨ga, gb⟩ := hps p (pairAt_mem hp)
          have k1 := show_len hps f p.1 ga
          have k2 := show_len hps f p.2 gb
          simp only [List.length_append, List.length_cons, List.length_nil]
          omega)
    omega
/-! ### pairs, through the interface -/
def pairCells (ps : List (S24 × S24)) : List Value := ps.flatMap fun p => [.int .u8 4, .int .u8 p.1.f0, .int .i64 p.1.f1, .string p.1.f2, .int .u8 p.2.f0, .int .i64 p.2.f1, .string p.2.f2, .int .i64 0]
theorem pairCells_at : ∀ (ps : List (S24 × S24)) (n : Nat) (p : S24 × S24), ps[n]? = some p → ∀ j, (pairCells ps)[n * 8 + j]? = if j < 8 then [Value.int .u8 4, .int .u8 p.1.f0, .int .i64 p.1.f1, .string p.1.f2, .int .u8 p.2.f0, .int .i64 p.2.f1, .string p.2.f2, .int .i64 0][j]? else (pairCells ps)[n * 8 + j]?
  | [], n, p, h, j => by simp at h
  | q :: ps, 0, p, h, j => by
    simp at h
    subst h
    split
    · rename_i hj
      rw [pairCells, List.flatMap_cons, Nat.zero_mul, Nat.zero_add, List.getElem?_append_left (by simpa using hj)]
    · rfl
  | q :: ps, n + 1, p, h, j => by
    have ih := pairCells_at ps n p (by simpa using h) j
    have e : ∀ j, (pairCells (q :: ps))[(n + 1) * 8 + j]? = (pairCells ps)[n * 8 + j]? := fun j => by
      rw [pairCells, List.flatMap_cons, List.getElem?_append_right (by simp; omega)]
      congr 1
      simp; omega
    rw [e]; exact ih
theorem pairCells_len (ps : List (S24 × S24)) : (pairCells ps).length = ps.length * 8 := by
  induction ps with
  | nil => rfl
  | cons p ps ih => rw [pairCells, List.flatMap_cons, List.length_append, ← pairCells, ih]; simp; omega
def fstOf (ps : List (S24 × S24)) (n : Int) : S24 × Int := match pairAt ps n with | none => (z24, 2) | some p => (p.1, 0)
def sndOf (ps : List (S24 × S24)) (n : Int) : S24 × Int := match pairAt ps n with | none => (z24, 2) | some p => (p.2, 0)
section
variable {w0 w : World} {base gh : Nat} {ps : List (S24 × S24)} {limit : Int} {vv : Value}
theorem at_pair (H : HeapIs w0 base gh ps.length (pairCells ps) limit vv) (hW : Below w0.heap.size w0 w) (n : Int) :
    (pairAt ps n = none ∧ AtNone (.pointer (some ⟨gh, 0, none⟩)) 4 n ⟨#[]⟩ w) ∨ (∃ p q o, pairAt ps n = some p ∧ AtHit (.pointer (some ⟨gh, 0, none⟩)) 4 n ⟨#[]⟩ q o w ∧ w.cell? ⟨q, o, none⟩ = some (.int .u8 4) ∧ (w.cell? ⟨q, o + 1, none⟩ = some (.int .u8 p.1.f0) ∧ w.cell? ⟨q, o + 2, none⟩ = some (.int .i64 p.1.f1) ∧ w.cell? ⟨q, o + 3, none⟩ = some (.string p.1.f2)) ∧ w.cell? ⟨q, o + 4, none⟩ = some (.int .u8 p.2.f0) ∧ w.cell? ⟨q, o + 5, none⟩ = some (.int .i64 p.2.f1) ∧ w.cell? ⟨q, o + 6, none⟩ = some (.string p.2.f2)) := by
  have H' := H.below hW
  by_cases hn : 0 ≤ n ∧ n < ps.length
  · right
    obtain ⟨m, rfl⟩ : ∃ m : Nat, n = m := ⟨n.toNat, by omega⟩
    have hm : m < ps.length := by omega
    have hp : ps[m]? = some ps[m] := List.getElem?_eq_getElem hm
    generalize ps[m] = p at hp
    obtain ⟨gv, cap, rfl, hgv, hgg, hcap, hcell⟩ := H'.cell hm
    have hc := pairCells_at ps m p hp
    have hk : ∀ j u, j < 8 → [Value.int .u8 4, .int .u8 p.1.f0, .int .i64 p.1.f1, .string p.1.f2, .int .u8 p.2.f0, .int .i64 p.2.f1, .string p.2.f2, .int .i64 0][j]? = some u → w.cell? ⟨gv, m * 8 + j, none⟩ = some u := fun j u hj hu => (hcell j u (by rw [hc j, if_pos hj]; exact hu)).1
    refine ⟨p, gv, m * 8, ?_, at_hit H' 4 m hm ?_, hk 0 _ (by decide) rfl, ⟨hk 1 _ (by decide) rfl, hk 2 _ (by decide) rfl, hk 3 _ (by decide) rfl⟩, hk 4 _ (by decide) rfl, hk 5 _ (by decide) rfl, hk 6 _ (by decide) rfl⟩
    · unfold pairAt; rw [if_pos hn]; exact hp
    · have := hc 0; rw [if_pos (by decide)] at this; exact this
  · left
    exact ⟨by unfold pairAt; rw [if_neg hn], at_out H' 4 n ⟨#[]⟩ (by omega)⟩
theorem fst_calls (H : HeapIs w0 base gh ps.length (pairCells ps) limit vv) (hW : Below w0.heap.size w0 w) (n : Int) :
    Calls Tryd.prog 58 #[.pointer (some ⟨gh, 0, none⟩), .agg #[.int .u8 4, .int .i64 n, .string ⟨#[]⟩]] w fun e w' => e = .returned (.tuple #[.agg #[.int .u8 (fstOf ps n).1.f0, .int .i64 (fstOf ps n).1.f1, .string (fstOf ps n).1.f2], .int .i64 (fstOf ps n).2]) ∧ Below w.heap.size w w' := by
  rcases at_pair H hW n with ⟨h1, h2⟩ | ⟨p, q, o, h1, h2, h3, ⟨h4, h5, h6⟩, h7⟩
  · unfold fstOf; rw [h1]; exact Fst_bad h2
  · unfold fstOf; rw [h1]; exact Fst_hit h2 h3 h4 h5 h6
theorem snd_calls (H : HeapIs w0 base gh ps.length (pairCells ps) limit vv) (hW : Below w0.heap.size w0 w) (n : Int) :
    Calls Tryd.prog 60 #[.pointer (some ⟨gh, 0, none⟩), .agg #[.int .u8 4, .int .i64 n, .string ⟨#[]⟩]] w fun e w' => e = .returned (.tuple #[.agg #[.int .u8 (sndOf ps n).1.f0, .int .i64 (sndOf ps n).1.f1, .string (sndOf ps n).1.f2], .int .i64 (sndOf ps n).2]) ∧ Below w.heap.size w w' := by
  rcases at_pair H hW n with ⟨h1, h2⟩ | ⟨p, q, o, h1, h2, h3, _, h4, h5, h6⟩
  · unfold sndOf; rw [h1]; exact Snd_bad h2
  · unfold sndOf; rw [h1]; exact Snd_hit h2 h3 h4 h5 h6
end
end Go.Proofs.YtobchfcabedmhaaDoor.NW
