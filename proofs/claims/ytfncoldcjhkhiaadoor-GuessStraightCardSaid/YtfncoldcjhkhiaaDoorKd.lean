/- A function whose instructions stand one behind the other, plainly. -/
import Derived.Test.YtfncoldcjhkhiaaDoorKc
import Derived.Test.YtfncoldcjhkhiaaDoorTb
namespace Go.Proofs.YtfncoldcjhkhiaaDoor.Flow
set_option linter.unusedVariables false
/-- one place behind the other -/
structure Line (g : G) (D : Nat → Int) : Prop where
  ne : 0 < g.n
  zero : D 0 = 0
  step : ∀ i : Nat, i < g.n → ∃ e, g.step i (D i) = some e ∧ (g.succ i = [] ∨ (g.succ i = [(i : Int) + 1] ∧ i + 1 < g.n ∧ D (i + 1) = e))
theorem Line.down {g : G} {D : Nat → Int} (S : Line g D) {a d : Int} (h : Reach g a d) : ∃ i : Nat, i < g.n ∧ a = i ∧ d = D i := by
  induction h with
  | start => exact ⟨0, S.ne, rfl, S.zero.symm⟩
  | @next a d e s hr hn hs hm ih =>
    obtain ⟨i, hi, rfl, rfl⟩ := ih
    obtain ⟨e', h1, h2⟩ := S.step i hi
    rw [hs] at h1
    injection h1 with h1
    subst h1
    rcases h2 with h2 | ⟨h2, h3, h4⟩
    · rw [h2] at hm; simp at hm
    · rw [h2, List.mem_singleton] at hm
      exact ⟨i + 1, h3, by rw [hm]; omega, h4.symm⟩
theorem Line.right {g : G} {D : Nat → Int} (S : Line g D) : Right g := by
  intro a d h
  obtain ⟨i, hi, rfl, rfl⟩ := S.down h
  refine ⟨by omega, ?_, fun e he => ?_⟩
  · obtain ⟨e, h1, _⟩ := S.step i hi
    exact ⟨e, h1⟩
  · obtain ⟨j, hj, e1, e2⟩ := S.down he
    obtain rfl : i = j := by omega
    exact e2
end Go.Proofs.YtfncoldcjhkhiaaDoor.Flow
namespace Go.Proofs.YtfncoldcjhkhiaaDoor.Pure
open Go.RowKit Go.Proofs.YtfncoldcjhkhiaaDoor.PC Go.Proofs.YtfncoldcjhkhiaaDoor.NW Go.Proofs.YtfncoldcjhkhiaaDoorW.PrintWords Go.Proofs.YtfncoldcjhkhiaaDoorW.PrintLast Go.Proofs.YtfncoldcjhkhiaaDoorW.PrintMore
set_option linter.unusedVariables false
set_option linter.unusedSimpArgs false
/-- a continuation, a value, sums, perhaps one that isn't right there, and an OpAgain -/
def strC (k : Nat) (bad : List S32) : List S32 := [⟨6, 2⟩, ⟨6, 1⟩] ++ (List.replicate k [(⟨1, 0⟩ : S32), ⟨16, 15⟩]).flatten ++ bad ++ [⟨22, 0⟩]
def sums (k : Nat) : List S32 := (List.replicate k [(⟨1, 0⟩ : S32), ⟨16, 15⟩]).flatten
theorem sums_len (k : Nat) : (sums k).length = 2 * k := by
  unfold sums
  induction k with
  | zero => rfl
  | succ k ih => rw [List.replicate_succ, List.flatten_cons, List.length_append, ih]; simp; omega
theorem sums_at (k i : Nat) (h : i < 2 * k) : (sums k)[i]? = some (if i % 2 = 0 then (⟨1, 0⟩ : S32) else ⟨16, 15⟩) := by
  unfold sums
  induction k generalizing i with
  | zero => omega
  | succ k ih =>
    rw [List.replicate_succ, List.flatten_cons]
    match i with
    | 0 => rfl
    | 1 => rfl
    | i + 2 =>
      have := ih i (by omega)
      rw [show (i + 2) % 2 = i % 2 by omega, ← this]
      rfl
theorem strC_len (k : Nat) (bad : List S32) : (strC k bad).length = 2 * k + bad.length + 3 := by
  unfold strC
  have := sums_len k
  unfold sums at this
  simp only [List.length_append, this, List.length_cons, List.length_nil]
  omega
theorem rd32_some {l : List S32} {i : Nat} {x : S32} (h : l[i]? = some x) : rd_T32 l (i : Int) = x := by
  rw [rd_T32, Int.toNat_natCast, List.getD_eq_getElem?_getD, h]; rfl
theorem strC_0 (k : Nat) (bad : List S32) : rd_T32 (strC k bad) 0 = ⟨6, 2⟩ := rfl
theorem strC_1 (k : Nat) (bad : List S32) : rd_T32 (strC k bad) 1 = ⟨6, 1⟩ := rfl
theorem strC_mid (k : Nat) (bad : List S32) (i : Nat) (h : i < 2 * k) : rd_T32 (strC k bad) ((i + 2 : Nat) : Int) = if i % 2 = 0 then ⟨1, 0⟩ else ⟨16, 15⟩ := by
  refine rd32_some ?_
  have hs := sums_at k i h
  show ((⟨6, 2⟩ : S32) :: ⟨6, 1⟩ :: (sums k ++ bad ++ [⟨22, 0⟩]))[i + 2]? = _
  rw [List.getElem?_cons_succ, List.getElem?_cons_succ, List.append_assoc, List.getElem?_append_left (by rw [sums_len]; exact h), hs]
theorem strC_bad (k : Nat) (x : S32) : rd_T32 (strC k [x]) ((2 * k + 2 : Nat) : Int) = x := by
  refine rd32_some ?_
  show ((⟨6, 2⟩ : S32) :: ⟨6, 1⟩ :: (sums k ++ [x] ++ [⟨22, 0⟩]))[2 * k + 2]? = _
  rw [List.getElem?_cons_succ, List.getElem?_cons_succ, List.append_assoc, List.getElem?_append_right (by rw [sums_len]; omega), sums_len, Nat.sub_self]
  rfl
theorem strC_end (k : Nat) (bad : List S32) : rd_T32 (strC k bad) ((2 * k + bad.length + 2 : Nat) : Int) = ⟨22, 0⟩ := by
  refine rd32_some ?_
  show ((⟨6, 2⟩ : S32) :: ⟨6, 1⟩ :: (sums k ++ bad ++ [⟨22, 0⟩]))[2 * k + bad.length + 2]? = _
  rw [List.getElem?_cons_succ, List.getElem?_cons_succ, List.getElem?_append_right (by rw [List.length_append, sums_len]; omega), List.length_append, sums_len, Nat.sub_self]
  rfl
/-- what may stand there that isn't right -/
def Bad (x : S32) : Prop := x = ⟨16, 14⟩ ∨ x = ⟨17, 0⟩ ∨ x = ⟨10, 0⟩ ∨ x = ⟨16, 11⟩
def fp (c : List S32) : S44 := ⟨2, 3, 0, c⟩
def p0 : S44 := ⟨0, 1, 0, [⟨3, 0⟩, ⟨12, 0⟩]⟩
def Allowed (x : S32) : Prop := x = ⟨6, 2⟩ ∨ x = ⟨6, 1⟩ ∨ x = ⟨1, 0⟩ ∨ x = ⟨16, 15⟩ ∨ Bad x ∨ x = ⟨22, 0⟩
theorem strC_all (k : Nat) (bad : List S32) (hb : ∀ x ∈ bad, Bad x) : ∀ x ∈ strC k bad, Allowed x := by
  intro x hx
  unfold strC at hx
  simp only [List.mem_append, List.mem_cons, List.not_mem_nil, or_false, List.mem_flatten] at hx
  rcases hx with (((rfl | rfl) | ⟨l, hl, hx⟩) | hx) | rfl
  · exact .inl rfl
  · exact .inr (.inl rfl)
  · have := List.eq_of_mem_replicate hl
    subst this
    simp only [List.mem_cons, List.not_mem_nil, or_false] at hx
    rcases hx with rfl | rfl
    · exact .inr (.inr (.inl rfl))
    · exact .inr (.inr (.inr (.inl rfl)))
  · exact .inr (.inr (.inr (.inr (.inl (hb x hx)))))
  · exact .inr (.inr (.inr (.inr (.inr rfl))))
def askL : List ByteArray := [⟨#[65, 115, 107]⟩]
theorem ins_ok (c : List S32) (x : S32) (h : Allowed x) : insM [1] askL [p0, fp c] [] (fp c) x = true := by
  have hp : Bad x → insM [1] askL [p0, fp c] [] (fp c) x = true := by
    rintro (rfl | rfl | rfl | rfl) <;> rfl
  rcases h with rfl | rfl | rfl | rfl | h | rfl
  · rfl
  · rfl
  · rfl
  · rfl
  · exact hp h
  · rfl
theorem str_may (c : List S32) (hl : c.length ≠ 0 ∧ c.length ≤ 16384) (hc : ∀ x ∈ c, Allowed x) : mayS (insM [1] askL [p0, fp c] []) [1] askL [p0, fp c] [] = true := by
  have h2 : protoS (insM [1] askL [p0, fp c] [] (fp c)) (fp c) = true := by
    unfold protoS
    rw [if_pos ⟨(by decide : (0 : Int) ≤ 2 ∧ (2 : Int) < 201), (by decide : (0 : Int) ≤ 0 ∧ (0 : Int) < 201), (by decide : (2 : Int) < 3), (by decide : (3 : Int) ≤ 256), hl.1, hl.2⟩, Bool.not_eq_true', List.any_eq_false]
    intro x hx
    rw [ins_ok c x (hc x hx)]
    decide
  have h1 : protoS (insM [1] askL [p0, fp c] [] p0) p0 = true := rfl
  unfold mayS
  rw [dif_pos ⟨by simp [askL], by simp⟩, if_pos (by simp [p0])]
  simp only [List.any_cons, List.any_nil, h1, h2, Bool.not_true, Bool.or_false, Bool.not_false, Bool.and_true]
  decide
theorem tw15 : takesW 15 = 2 := by decide +kernel
theorem tw14 : takesW 14 = 1 := by decide +kernel
theorem tw11 : takesW 11 = 1 := by decide +kernel
theorem eff16 (a : Int) (n0 n1 : Nat) (l2 : List S44) (l3 : List S41) : effS 16 a n0 n1 l2 l3 = okS (takesW a) 1 (placeB a 32) := by unfold effS; simp
/-- how many values there are at a place -/
def strD (k : Nat) (i : Nat) : Int := if i = 0 then 0 else if i = 1 then 1 else if i < 2 * k + 2 ∧ i % 2 = 1 then 3 else 2
theorem eff_bad (c : List S32) (x : S32) (h : Bad x) : (effS x.f0 x.f1 1 1 [p0, fp c] []).1 = 1 ∧ (effS x.f0 x.f1 1 1 [p0, fp c] []).2.1 = 1 ∧ endsB x.f0 = false ∧ x.f0 ≠ 13 ∧ x.f0 ≠ 14 := by
  rcases h with rfl | rfl | rfl | rfl
  · exact ⟨by rw [eff16, tw14]; rfl, by rw [eff16, tw14]; rfl, rfl, by decide, by decide⟩
  · exact ⟨rfl, rfl, rfl, by decide, by decide⟩
  · exact ⟨rfl, rfl, rfl, by decide, by decide⟩
  · exact ⟨by rw [eff16, tw11]; rfl, by rw [eff16, tw11]; rfl, rfl, by decide, by decide⟩
theorem str_line (k : Nat) (bad : List S32) (hb : ∀ x ∈ bad, Bad x) (h1 : bad.length ≤ 1) : Flow.Line (grf [1] askL [p0, fp (strC k bad)] [] (fp (strC k bad))) (strD k) := by
  have hn : (grf [1] askL [p0, fp (strC k bad)] [] (fp (strC k bad))).n = 2 * k + bad.length + 3 := strC_len k bad
  have hl := strC_len k bad
  -- a step where nothing jumps
  have one : ∀ (i : Nat) (x : S32) (t l d : Int), rd_T32 (strC k bad) (i : Int) = x → (effS x.f0 x.f1 1 1 [p0, fp (strC k bad)] []).1 = t → (effS x.f0 x.f1 1 1 [p0, fp (strC k bad)] []).2.1 = l → x.f0 ≠ 13 → x.f0 ≠ 14 → endsB x.f0 = false → strD k i = d → t ≤ d → d + (l - t) ≤ 256 → strD k (i + 1) = d + (l - t) → i + 1 < 2 * k + bad.length + 3 →
      ∃ e, (grf [1] askL [p0, fp (strC k bad)] [] (fp (strC k bad))).step i (strD k i) = some e ∧ ((grf [1] askL [p0, fp (strC k bad)] [] (fp (strC k bad))).succ i = [] ∨ ((grf [1] askL [p0, fp (strC k bad)] [] (fp (strC k bad))).succ i = [(i : Int) + 1] ∧ i + 1 < (grf [1] askL [p0, fp (strC k bad)] [] (fp (strC k bad))).n ∧ strD k (i + 1) = e)) := by
    intro i x t l d hx ht hl' n13 n14 hends hd h2 h3 h4 h5
    refine ⟨d + (l - t), ?_, .inr ⟨?_, by rw [hn]; exact h5, h4⟩⟩
    · show stepS (effS (rd_T32 (strC k bad) (i : Int)).f0 (rd_T32 (strC k bad) (i : Int)).f1 1 1 [p0, fp (strC k bad)] []).1 (effS (rd_T32 (strC k bad) (i : Int)).f0 (rd_T32 (strC k bad) (i : Int)).f1 1 1 [p0, fp (strC k bad)] []).2.1 (strD k i) = _
      rw [hx, ht, hl', hd]
      unfold stepS
      rw [if_pos ⟨h2, h3⟩]
    · show succS (rd_T32 (strC k bad) (i : Int)).f0 (rd_T32 (strC k bad) (i : Int)).f1 (i : Int) (endsB (rd_T32 (strC k bad) (i : Int)).f0) = _
      rw [hx, hends]
      unfold succS
      rw [if_neg (by omega), if_neg (by decide)]
      rfl
  refine ⟨by rw [hn]; omega, rfl, fun i hi => ?_⟩
  rw [hn] at hi
  match i, hi with
  | 0, hi => exact one 0 ⟨6, 2⟩ 0 1 0 rfl rfl rfl (by decide) (by decide) rfl rfl (by decide) (by decide) rfl (by omega)
  | 1, hi =>
    refine one 1 ⟨6, 1⟩ 0 1 1 rfl rfl rfl (by decide) (by decide) rfl rfl (by decide) (by decide) ?_ (by omega)
    unfold strD
    rw [if_neg (by omega), if_neg (by omega), if_neg (by omega)]; rfl
  | i + 2, hi =>
    by_cases hm : i < 2 * k
    · have hx := strC_mid k bad i hm
      by_cases he : i % 2 = 0
      · rw [if_pos he] at hx
        refine one (i + 2) ⟨1, 0⟩ 0 1 2 hx rfl rfl (by decide) (by decide) rfl ?_ (by decide) (by decide) ?_ (by omega)
        · unfold strD; rw [if_neg (by omega), if_neg (by omega), if_neg (by omega)]
        · unfold strD; rw [if_neg (by omega), if_neg (by omega), if_pos (by omega)]; rfl
      · rw [if_neg he] at hx
        refine one (i + 2) ⟨16, 15⟩ 2 1 3 hx (by rw [eff16, tw15]; rfl) (by rw [eff16, tw15]; rfl) (by decide) (by decide) rfl ?_ (by decide) (by decide) ?_ (by omega)
        · unfold strD; rw [if_neg (by omega), if_neg (by omega), if_pos (by omega)]
        · unfold strD; rw [if_neg (by omega), if_neg (by omega), if_neg (by omega)]; rfl
    · have hd : strD k (i + 2) = 2 := by unfold strD; rw [if_neg (by omega), if_neg (by omega), if_neg (by omega)]
      by_cases hend : i = 2 * k + bad.length
      · have hx := strC_end k bad
        rw [← hend] at hx
        refine ⟨0, ?_, .inl ?_⟩
        · show stepS (effS (rd_T32 (strC k bad) ((i + 2 : Nat) : Int)).f0 (rd_T32 (strC k bad) ((i + 2 : Nat) : Int)).f1 1 1 [p0, fp (strC k bad)] []).1 (effS (rd_T32 (strC k bad) ((i + 2 : Nat) : Int)).f0 (rd_T32 (strC k bad) ((i + 2 : Nat) : Int)).f1 1 1 [p0, fp (strC k bad)] []).2.1 (strD k (i + 2)) = _
          rw [hx, hd]
          rfl
        · show succS (rd_T32 (strC k bad) ((i + 2 : Nat) : Int)).f0 (rd_T32 (strC k bad) ((i + 2 : Nat) : Int)).f1 ((i + 2 : Nat) : Int) (endsB (rd_T32 (strC k bad) ((i + 2 : Nat) : Int)).f0) = _
          rw [hx]
          rfl
      · match bad, h1, hb, hi, hend, one with
        | [], _, _, hi, hend, _ => simp at hi hend; omega
        | x :: _ :: _, h1, _, _, _, _ => simp at h1
        | [x], _, hb, hi, hend, one =>
          obtain rfl : i = 2 * k := by simp at hi hend; omega
          have hx := strC_bad k x
          obtain ⟨e1, e2, e3, e4, e5⟩ := eff_bad (strC k [x]) x (hb x (by simp))
          refine one (2 * k + 2) x 1 1 2 hx e1 e2 e4 e5 e3 ?_ (by decide) (by decide) ?_ (by simp)
          · unfold strD; rw [if_neg (by omega), if_neg (by omega), if_neg (by omega)]
          · unfold strD; rw [if_neg (by omega), if_neg (by omega), if_neg (by omega)]; rfl
/-- the places so far -/
def upto (m : Nat) : List Int := (List.range m).map (fun i : Nat => (i : Int))
theorem upto_succ (m : Nat) : upto (m + 1) = upto m ++ [(m : Int)] := by unfold upto; rw [List.range_succ, List.map_append]; rfl
theorem upto_not (m : Nat) : (upto m).contains (m : Int) = false := by
  rw [Bool.eq_false_iff]
  intro h
  rw [List.contains_iff_mem] at h
  unfold upto at h
  obtain ⟨i, hi, he⟩ := List.mem_map.1 h
  have := List.mem_range.1 hi
  omega
/-- ONE STEP of a way -/
theorem way_step {p : S44} {f m : Nat} {s st s' st' : List Bool} {nx : Int} (h : goP p (m : Int) s st = ⟨nx, true, s', st'⟩) (h0 : 0 ≤ nx) : wayL p (f + 1) (upto m) (m : Int) s st = wayL p f (upto (m + 1)) nx s' st' := by
  rw [wayL, if_neg (by rw [upto_not]; decide), h, if_neg (show ¬ (true = false) by decide), if_neg (show ¬ nx < 0 by omega), ← upto_succ]
theorem sums_way (k : Nat) (bad : List S32) : ∀ (j f : Nat), j ≤ k → wayL (fp (strC k bad)) (f + 2 * j) (upto (2 + 2 * (k - j))) ((2 + 2 * (k - j) : Nat) : Int) [false, false, true] [true, false] = wayL (fp (strC k bad)) f (upto (2 + 2 * k)) ((2 + 2 * k : Nat) : Int) [false, false, true] [true, false] := by
  intro j
  induction j with
  | zero => intro f _; rfl
  | succ j ih =>
    intro f hj
    have hx1 := strC_mid k bad (2 * (k - (j + 1))) (by omega)
    rw [if_pos (by omega)] at hx1
    have hx2 := strC_mid k bad (2 * (k - (j + 1)) + 1) (by omega)
    rw [if_neg (by omega)] at hx2
    have e1 : goP (fp (strC k bad)) ((2 + 2 * (k - (j + 1)) : Nat) : Int) [false, false, true] [true, false] = ⟨((2 + 2 * (k - (j + 1)) : Nat) : Int) + 1, true, [false, false, true], [true, false, false]⟩ := by
      unfold goP
      rw [show rd_T32 (fp (strC k bad)).f3 ((2 + 2 * (k - (j + 1)) : Nat) : Int) = ⟨1, 0⟩ from by rw [Nat.add_comm]; exact hx1]
      rfl
    have e2 : goP (fp (strC k bad)) ((2 + 2 * (k - (j + 1)) + 1 : Nat) : Int) [false, false, true] [true, false, false] = ⟨((2 + 2 * (k - (j + 1)) + 1 : Nat) : Int) + 1, true, [false, false, true], [true, false]⟩ := by
      unfold goP
      rw [show rd_T32 (fp (strC k bad)).f3 ((2 + 2 * (k - (j + 1)) + 1 : Nat) : Int) = ⟨16, 15⟩ from by rw [show 2 + 2 * (k - (j + 1)) + 1 = 2 * (k - (j + 1)) + 1 + 2 by omega]; exact hx2]
      show (⟨_, pureW 15 && freeS [true, false, false] (takesW 15).toNat, [false, false, true], (if pureW 15 = true then [true, false, false].take (3 - (takesW 15).toNat) else [true, false, false]) ++ [false]⟩ : GoR) = _
      rw [tw15]
      rfl
    rw [show f + 2 * (j + 1) = f + 2 * j + 1 + 1 by omega, way_step e1 (by omega), show ((2 + 2 * (k - (j + 1)) : Nat) : Int) + 1 = ((2 + 2 * (k - (j + 1)) + 1 : Nat) : Int) by omega, way_step e2 (by omega), show ((2 + 2 * (k - (j + 1)) + 1 : Nat) : Int) + 1 = ((2 + 2 * (k - j) : Nat) : Int) by omega, show 2 + 2 * (k - (j + 1)) + 1 + 1 = 2 + 2 * (k - j) by omega]
    exact ih f (by omega)
theorem str_way (k : Nat) (hk : k ≤ 50) (bad : List S32) (hb : ∀ x ∈ bad, Bad x) (h1 : bad.length ≤ 1) : wayL (fp (strC k bad)) 200 [] 0 (slots0 (fp (strC k bad))) [] = if bad = [] then (upto (2 * k + 3), true) else ([], false) := by
  have e0 : goP (fp (strC k bad)) ((0 : Nat) : Int) (slots0 (fp (strC k bad))) [] = ⟨1, true, [false, false, true], [true]⟩ := rfl
  have e1 : goP (fp (strC k bad)) ((1 : Nat) : Int) [false, false, true] [true] = ⟨2, true, [false, false, true], [true, false]⟩ := rfl
  have s0 := way_step (f := 199) (m := 0) e0 (by decide)
  have s1 := way_step (f := 198) (m := 1) e1 (by decide)
  have s2 := sums_way k bad k (198 - 2 * k) (Nat.le_refl _)
  rw [Nat.sub_self, show 198 - 2 * k + 2 * k = 198 by omega] at s2
  have s12 : wayL (fp (strC k bad)) 199 (upto 1) 1 [false, false, true] [true] = _ := s1.trans s2
  have s012 : wayL (fp (strC k bad)) 200 [] 0 (slots0 (fp (strC k bad))) [] = _ := s0.trans s12
  rw [s012]
  obtain ⟨f, hf⟩ : ∃ f, 198 - 2 * k = f + 1 := ⟨197 - 2 * k, by omega⟩
  rw [hf, wayL, if_neg (by rw [upto_not]; decide)]
  match bad, h1, hb with
  | [], _, _ =>
    have hx := strC_end k []
    have hg : goP (fp (strC k [])) ((2 + 2 * k : Nat) : Int) [false, false, true] [true, false] = ⟨-1, true, [false, false, true], []⟩ := by
      unfold goP
      rw [show rd_T32 (fp (strC k [])).f3 ((2 + 2 * k : Nat) : Int) = ⟨22, 0⟩ from by rw [show 2 + 2 * k = 2 * k + ([] : List S32).length + 2 by simp; omega]; exact hx]
      rfl
    rw [hg, if_neg (show ¬ (true = false) by decide), if_pos (show (-1 : Int) < 0 by decide), ← upto_succ, if_pos rfl, show 2 + 2 * k + 1 = 2 * k + 3 by omega]
  | [x], _, hb =>
    have hx := strC_bad k x
    have hx' : rd_T32 (fp (strC k [x])).f3 ((2 + 2 * k : Nat) : Int) = x := by rw [show 2 + 2 * k = 2 * k + 2 by omega]; exact hx
    have hg : (goP (fp (strC k [x])) ((2 + 2 * k : Nat) : Int) [false, false, true] [true, false]).ok = false := by
      unfold goP
      rw [hx']
      rcases hb x (by simp) with rfl | rfl | rfl | rfl <;> rfl
    have h22 : x.f0 ≠ 22 := by rcases hb x (by simp) with rfl | rfl | rfl | rfl <;> decide
    rw [if_pos hg, if_neg (by rw [hx']; exact h22), if_neg (by simp)]
  | x :: y :: _, h1, _ => simp at h1
end Go.Proofs.YtfncoldcjhkhiaaDoor.Pure
