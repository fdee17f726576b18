/- Texts are put together in any order of doing so, their lengths add up, bytes stand where they stood: for every input. -/
import Derived.Test.YtahcnpjgbhpbeaaVe
import Derived.Test.YtahcnpjgbhpbeaaVf
import Derived.Test.YtahcnpjgbhpbeaaPVx16
namespace Go.Proofs.Ytahcnpjgbhpbeaa.Pure
open Go.RowKit Go.Proofs.Ytahcnpjgbhpbeaa.PV Go.Proofs.YtahcnpjgbhpbeaaW.PrintWords Go.Proofs.YtahcnpjgbhpbeaaW.PrintLast Go.Proofs.YtahcnpjgbhpbeaaW.PrintMore Go.Proofs.YtahcnpjgbhpbeaaW.Own
set_option linter.unusedVariables false
set_option linter.unusedSimpArgs false
/-! ### Cats -/
theorem two_cat (s t : ByteArray) (h : s.size + t.size ≤ 65536) : twoR (⟨#[99, 97, 116]⟩ : ByteArray).toList 3 0 s 3 0 t = (3, 0, s ++ t, 0) := by
  rw [ByteArray.toList_eq]
  unfold twoR
  rw [if_neg (by decide), if_neg (by decide), if_neg (by decide), if_pos rfl, if_pos ⟨rfl, rfl⟩, if_neg (by omega)]
theorem two_at (s : ByteArray) (b : Int) : twoR (⟨#[97, 116]⟩ : ByteArray).toList 3 0 s 1 b ⟨#[]⟩ = if b < 0 ∨ b ≥ s.size then er 5 else okv (bt s b) := by
  rw [ByteArray.toList_eq]
  unfold twoR
  rw [if_neg (by decide), if_neg (by decide), if_neg (by decide), if_neg (by decide), if_pos rfl, if_pos ⟨rfl, rfl⟩]
theorem cats_j1 (a0 a1 a2 S : ByteArray) (hS : a0 ++ a1 ++ a2 = S) (c0 : a0.size ≤ 1000) (c1 : a1.size ≤ 1000) (c2 : a2.size ≤ 1000) (a3 : Int) (i3 : I64 a3) (t : Int) (s : ByteArray) (k : Nat) :
    sacristanlaw01_ValueCats.j1 (k + 12) a0 a1 a2 a3 false 3 0 S t (S.size : Int) s = some true := by
  have z1 : (a0 ++ a1).size = a0.size + a1.size := ByteArray.size_append
  have z3 : S.size = a0.size + a1.size + a2.size := by rw [← hS, ByteArray.size_append, z1]
  simp only [sacristanlaw01_ValueCats.j1, Bool.false_eq_true, if_false, value_Of.f, Option.bind_some]
  rw [vtwo _ 3 0 _ 1 a3 _ (fits_str _ (by omega)) (fits_int a3 i3) (k + 2), two_at]
  simp only [Option.bind_some]
  by_cases d : a3 < 0
  · rw [if_pos d, if_pos (.inl d)]
    simp only [sacristanlaw01_ValueCats.j2, if_true]
    rw [if_pos (show (er 5).2.2.2 = 5 from rfl), awake_f (k + 1)]; rfl
  · rw [if_neg d]
    by_cases d2 : a3 ≥ (S.size : Int)
    · rw [if_pos (.inr d2), decide_eq_true d2]
      simp only [sacristanlaw01_ValueCats.j2, if_true]
      rw [if_pos (show (er 5).2.2.2 = 5 from rfl), awake_f (k + 1)]; rfl
    · rw [if_neg (by omega), decide_eq_false d2]
      simp only [sacristanlaw01_ValueCats.j2, Bool.false_eq_true, if_false]
      rw [hS, z1, if_pos (show (okv (bt S a3)).2.2.2 = 0 from rfl), if_pos (by omega), if_pos (by omega), if_pos (by omega), if_pos (by omega), if_pos (show (okv (bt S a3)).2.1 = wrap64 (bt S a3) from (w64 (bt_I64 _ _)).symm), awake_f (k + 1)]; rfl
theorem bind_of {α β : Type} {x : Option α} {a : α} (f : α → Option β) (h : x = some a) : x.bind f = f a := by rw [h]; rfl
theorem text_f (s : ByteArray) : value_Text.f s = some (3, 0, s) := rfl
theorem cat2 (s t : ByteArray) (h : s.size + t.size ≤ 65536) (k : Nat) : value_Two.f (k + 9) (⟨#[99, 97, 116]⟩ : ByteArray) 3 0 s 3 0 t = some (3, 0, s ++ t, 0) := by
  rw [vtwo _ 3 0 _ 3 0 _ (fits_str s (by omega)) (fits_str t (by omega)) k, two_cat s t h]
theorem len1 (s : ByteArray) (h : s.size ≤ 65536) (k : Nat) : value_One.f (k + 3) (⟨#[108, 101, 110]⟩ : ByteArray) 3 0 s = some (1, (s.size : Int), ⟨#[]⟩, 0) := by
  rw [vone _ 3 0 _ (fits_str s (by omega)) k, oneR_len (show (⟨#[108, 101, 110]⟩ : ByteArray).toList = [108, 101, 110] by rw [ByteArray.toList_eq]), if_pos rfl]; rfl
theorem cats_j0 (a0 a1 a2 : ByteArray) (a3 : Int) (c0 : a0.size ≤ 1000) (c1 : a1.size ≤ 1000) (c2 : a2.size ≤ 1000) (i3 : I64 a3) (k : Nat) : sacristanlaw01_ValueCats.j0 (k + 13) a0 a1 a2 a3 false = some true := by
  obtain ⟨x, hx⟩ : ∃ x, a0 ++ a1 = x := ⟨_, rfl⟩
  obtain ⟨y, hy⟩ : ∃ y, a1 ++ a2 = y := ⟨_, rfl⟩
  obtain ⟨S, hS⟩ : ∃ S, x ++ a2 = S := ⟨_, rfl⟩
  have z1 : x.size = a0.size + a1.size := by rw [← hx]; exact ByteArray.size_append
  have z2 : y.size = a1.size + a2.size := by rw [← hy]; exact ByteArray.size_append
  have z3 : S.size = a0.size + a1.size + a2.size := by rw [← hS, ByteArray.size_append, z1]
  have assoc : a0 ++ y = S := by rw [← hS, ← hx, ← hy]; exact (ByteArray.append_assoc).symm
  have f1 := cat2 a0 a1 (by omega) (k + 3)
  have f2 := cat2 x a2 (by omega) (k + 3)
  have f3 := cat2 a1 a2 (by omega) (k + 3)
  have f4 := cat2 a0 y (by omega) (k + 3)
  have f5 := len1 S (by omega) (k + 9)
  rw [hx] at f1; rw [hS] at f2; rw [hy] at f3; rw [assoc] at f4
  have e : (S.size : Int) = wrap64 (wrap64 ((a0.size : Int) + a1.size) + a2.size) := by
    rw [z3, w64 (show I64 ((a0.size : Int) + a1.size) by unfold I64; omega), w64 (by unfold I64; omega)]; omega
  have g := cats_j1 a0 a1 a2 S (by rw [hx, hS]) c0 c1 c2 a3 i3 1 ⟨#[]⟩ k
  rw [sacristanlaw01_ValueCats.j0, if_neg (by decide)]
  have hb : ¬ (!((3 : Int) == 3) || (!((0 : Int) == 0) || (!(S.toList == S.toList)))) = true := by simp
  rw [bind_of _ (text_f a0)]
  dsimp only
  rw [bind_of _ (text_f a1)]
  dsimp only
  rw [bind_of _ f1]
  dsimp only
  rw [bind_of _ (text_f a2)]
  dsimp only
  rw [bind_of _ f2]
  dsimp only
  rw [bind_of _ (text_f a1)]
  dsimp only
  rw [bind_of _ (text_f a2)]
  dsimp only
  rw [bind_of _ f3]
  dsimp only
  rw [bind_of _ (text_f a0)]
  dsimp only
  rw [bind_of _ f4]
  dsimp only
  rw [bind_of _ f5]
  dsimp only
  rw [if_pos rfl, if_pos rfl, if_pos rfl, if_neg hb, ← e, bne_self_eq_false]
  exact g
theorem ValueCats : sacristanlaw01_ValueCats.Pure := by
  intro a0 a1 a2 a3 h0 h1 h2 h3
  have i3 := I64.of_wf h3
  refine ⟨13 + 13, ?_⟩
  have wake : sacristanlaw01_ValueCats.j0 (13 + 13) a0 a1 a2 a3 true = some true := by
    rw [sacristanlaw01_ValueCats.j0, if_pos rfl, awake_f 16]; rfl
  unfold sacristanlaw01_ValueCats.f
  by_cases c : (a0.size : Int) > 1000
  · rw [if_pos c]; exact wake
  · rw [if_neg c]
    by_cases c2 : (a1.size : Int) > 1000
    · rw [if_pos c2]; exact wake
    · rw [if_neg c2]
      by_cases c3 : (a2.size : Int) > 1000
      · rw [decide_eq_true c3]; exact wake
      · rw [decide_eq_false c3]; exact cats_j0 a0 a1 a2 a3 (by omega) (by omega) (by omega) i3 13
end Go.Proofs.Ytahcnpjgbhpbeaa.Pure
