/- Functions whose instructions stand one behind the other, plainly. -/
import Derived.Test.YtfncoldcjhkhiaaDoorKe
import Derived.Test.YtfncoldcjhkhiaaDoorPCe6
namespace Go.Proofs.YtfncoldcjhkhiaaDoor.Pure
open Go.RowKit Go.Proofs.YtfncoldcjhkhiaaDoor.PC Go.Proofs.YtfncoldcjhkhiaaDoor.NW Go.Proofs.YtfncoldcjhkhiaaDoorW.PrintWords Go.Proofs.YtfncoldcjhkhiaaDoorW.PrintLast Go.Proofs.YtfncoldcjhkhiaaDoorW.PrintMore
set_option linter.unusedVariables false
set_option linter.unusedSimpArgs false
theorem allowed_b {x : S32} (h : Allowed x) : -9223372036854775808 ≤ x.f1 ∧ x.f1 ≤ 9223372036854775807 := by
  rcases h with rfl | rfl | rfl | rfl | (rfl | rfl | rfl | rfl) | rfl <;> decide
theorem fit_str (c : List S32) (hl : c.length ≤ 16384) (hc : ∀ x ∈ c, Allowed x) : FitM [1] askL [p0, fp c] [] := by
  refine ⟨⟨fun t ht => by simp at ht⟩, fun q hq x hx => ?_, by simp, by simp [askL], by simp, by simp, fun q hq => ?_⟩
  · simp only [List.mem_cons, List.not_mem_nil, or_false] at hq
    rcases hq with rfl | rfl
    · simp only [p0, List.mem_cons, List.not_mem_nil, or_false] at hx
      rcases hx with rfl | rfl <;> decide
    · exact allowed_b (hc x hx)
  · simp only [List.mem_cons, List.not_mem_nil, or_false] at hq
    rcases hq with rfl | rfl
    · decide
    · show c.length ≤ _; omega
theorem upto_len (m : Nat) : (upto m).length = m := by unfold upto; simp
theorem str_wayS (k : Nat) (hk : k ≤ 50) (bad : List S32) (hb : ∀ x ∈ bad, Bad x) (h1 : bad.length ≤ 1) : guess_Way.f [1] askL [p0, fp (strC k bad)] [] 1 = some (if bad = [] then (upto (2 * k + 3), true) else ([], false)) := by
  have hall := strC_all k bad hb
  have hlen := strC_len k bad
  have hm := str_may (strC k bad) ⟨by omega, by omega⟩ hall
  have h := refWay_of (l0 := [1]) (l1 := askL) (l2 := [p0, fp (strC k bad)]) (l3 := []) (a := 1) ⟨by decide, by simp⟩ hm (show Flow.Right (grf [1] askL [p0, fp (strC k bad)] [] (fp (strC k bad))) from (str_line k bad hb h1).right) rfl
  have h' : refWay [1] askL [p0, fp (strC k bad)] [] 1 = _ := h.trans (str_way k hk bad hb h1)
  rw [guessWay_f (fit_str _ (by omega) hall) (fun s hs => by simp only [askL, List.mem_cons, List.not_mem_nil, or_false] at hs; subst hs; decide) 1]
  unfold wayS
  rw [h']
  by_cases hn : bad = []
  · rw [if_pos hn, if_pos rfl]
  · rw [if_neg hn]; rfl
theorem straight_j1 (k : Nat) (hk : k ≤ 50) (bad : List S32) (hb : ∀ x ∈ bad, Bad x) (h1 : bad.length ≤ 1) (m : Nat) (x1 : Int) (hx : (Int.tmod x1 5 == 0) = decide (bad = [])) : sacristanlaw19_GuessStraight.j1 (m + 1) x1 ([⟨6, 2⟩, ⟨6, 1⟩] ++ sums k ++ bad) = some true := by
  have hlen := strC_len k bad
  have hL : ([⟨6, 2⟩, ⟨6, 1⟩] ++ sums k ++ bad : List S32).length < 8796093022208 := by
    have := sums_len k
    simp only [List.length_append, this, List.length_cons, List.length_nil]; omega
  have hw := str_wayS k hk bad hb h1
  have e : ([⟨6, 2⟩, ⟨6, 1⟩] ++ sums k ++ bad ++ [(⟨22, 0⟩ : S32)] : List S32) = strC k bad := rfl
  rw [sacristanlaw19_GuessStraight.j1, if_pos hL, Option.bind_some, e]
  have hw' : guess_Way.f (([1] : List Int)) (([(⟨#[65, 115, 107]⟩ : ByteArray)] : List ByteArray)) (([(⟨0, 1, 0, (([(⟨3, 0⟩ : S32), (⟨12, 0⟩ : S32)] : List (S32)))⟩ : S44), (⟨2, 3, 0, strC k bad⟩ : S44)] : List (S44))) ([] : List (S41)) 1 = _ := hw
  rw [hw', Option.bind_some, hx]
  by_cases hn : bad = []
  · rw [if_pos hn, decide_eq_true hn]
    show (if ((upto (2 * k + 3)).length : Int) = ((strC k bad).length : Int) then (sacristanlaw19_awake.f.bind fun t714 => some t714) else some false) = some true
    rw [upto_len, strC_len, hn, if_pos (by simp), awake19]
    rfl
  · rw [if_neg hn, decide_eq_false hn]
    show (sacristanlaw19_awake.f.bind fun t715 => some t715) = some true
    rw [awake19]
    rfl
theorem straight_l0 (x0 x1 : Int) (h0 : 0 ≤ x0) (h0' : x0 ≤ 255) (h1 : 0 ≤ x1) (h1' : x1 ≤ 255) : ∀ (d i : Nat), (x0 % 50).toNat - i = d → i ≤ (x0 % 50).toNat → sacristanlaw19_GuessStraight.l0 (d + 2) x0 x1 ([⟨6, 2⟩, ⟨6, 1⟩] ++ sums i) (i : Int) = some true := by
  have et : Int.tmod x0 50 = x0 % 50 := Int.tmod_eq_emod_of_nonneg h0
  have et1 : Int.tmod x1 5 = x1 % 5 := Int.tmod_eq_emod_of_nonneg h1
  have ew : wrap64 (x0 % 50) = x0 % 50 := by unfold wrap64; omega
  intro d
  induction d with
  | zero =>
    intro i hd hi
    have hk : i ≤ 50 := by omega
    have hL : ([⟨6, 2⟩, ⟨6, 1⟩] ++ sums i : List S32).length < 8796093022208 := by
      have := sums_len i
      simp only [List.length_append, this, List.length_cons, List.length_nil]; omega
    rw [sacristanlaw19_GuessStraight.l0, et, ew, if_neg (by omega), Option.bind_some, et1]
    by_cases hp : x1 % 5 > 0
    · obtain ⟨b, hb, hbb⟩ : ∃ b : S32, Bad b ∧ (⟨(rd_T32 ([(⟨16, 14⟩ : S32), (⟨17, 0⟩ : S32), (⟨10, 0⟩ : S32), (⟨16, 11⟩ : S32)] : List S32) (((x1 % 5) - 1) % 256)).f0, (rd_T32 ([(⟨16, 14⟩ : S32), (⟨17, 0⟩ : S32), (⟨10, 0⟩ : S32), (⟨16, 11⟩ : S32)] : List S32) (((x1 % 5) - 1) % 256)).f1⟩ : S32) = b := by
        have hc : x1 % 5 = 1 ∨ x1 % 5 = 2 ∨ x1 % 5 = 3 ∨ x1 % 5 = 4 := by omega
        rcases hc with hc | hc | hc | hc <;> rw [hc]
        · exact ⟨_, .inl rfl, rfl⟩
        · exact ⟨_, .inr (.inl rfl), rfl⟩
        · exact ⟨_, .inr (.inr (.inl rfl)), rfl⟩
        · exact ⟨_, .inr (.inr (.inr rfl)), rfl⟩
      rw [if_pos hp, if_pos (by omega), if_pos (by simp only [List.length_cons, List.length_nil]; omega), if_pos hL, hbb]
      refine straight_j1 i hk [b] (fun x hx => by rw [List.mem_singleton] at hx; subst hx; exact hb) (by simp) 0 x1 ?_
      rw [et1, beq_eq_false_iff_ne.2 (show x1 % 5 ≠ 0 by omega)]; rfl
    · rw [if_neg hp]
      have := straight_j1 i hk [] (fun x hx => by simp at hx) (by simp) 0 x1 (by rw [et1, show x1 % 5 = 0 by omega]; rfl)
      rw [List.append_nil] at this
      exact this
  | succ d ih =>
    intro i hd hi
    have hL : ([⟨6, 2⟩, ⟨6, 1⟩] ++ sums i : List S32).length = 2 * i + 2 := by
      have := sums_len i
      simp only [List.length_append, this, List.length_cons, List.length_nil]; omega
    rw [sacristanlaw19_GuessStraight.l0, et, ew, if_pos (by omega), Option.bind_some, if_pos (by rw [hL]; simp only [List.length_cons, List.length_nil]; omega), show wrap64 ((i : Int) + 1) = ((i + 1 : Nat) : Int) by unfold wrap64; omega]
    have e : ([⟨6, 2⟩, ⟨6, 1⟩] ++ sums i ++ [(⟨1, 0⟩ : S32), (⟨16, 15⟩ : S32)] : List S32) = [⟨6, 2⟩, ⟨6, 1⟩] ++ sums (i + 1) := by
      unfold sums
      rw [List.append_assoc, List.replicate_succ', List.flatten_append]
      simp
    rw [e]
    exact ih (i + 1) (by omega) (by omega)
theorem GuessStraight : sacristanlaw19_GuessStraight.Pure := by
  intro a0 a1 h0 h1
  have b0 := NW.u8_b h0
  have b1 := NW.u8_b h1
  exact ⟨(a0 % 50).toNat + 2, straight_l0 a0 a1 b0.1 b0.2 b1.1 b1.2 _ 0 (by omega) (by omega)⟩
end Go.Proofs.YtfncoldcjhkhiaaDoor.Pure
