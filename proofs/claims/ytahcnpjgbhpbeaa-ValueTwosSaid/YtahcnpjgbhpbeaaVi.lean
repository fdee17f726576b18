/- The law on two values, over the plain functions. -/
import Derived.Test.YtahcnpjgbhpbeaaVd
import Derived.Test.YtahcnpjgbhpbeaaVe
import Derived.Test.YtahcnpjgbhpbeaaVh
import Derived.Test.YtahcnpjgbhpbeaaPVx9
namespace Go.Proofs.Ytahcnpjgbhpbeaa.Pure
open Go.RowKit Go.Proofs.Ytahcnpjgbhpbeaa.PV Go.Proofs.YtahcnpjgbhpbeaaW.PrintWords Go.Proofs.YtahcnpjgbhpbeaaW.PrintLast Go.Proofs.YtahcnpjgbhpbeaaW.PrintMore Go.Proofs.YtahcnpjgbhpbeaaW.Own
set_option linter.unusedVariables false
set_option linter.unusedSimpArgs false
theorem bind_of {α β : Type} {x : Option α} {a : α} (f : α → Option β) (h : x = some a) : x.bind f = f a := by rw [h]; rfl

def Good (r : Res) : Prop := r = er 1 ∨ r = er 2 ∨ r = er 3 ∨ r = er 4 ∨ r = er 5 ∨ (∃ n, r = okv n) ∨ (∃ b, r = okb b) ∨ ∃ s : ByteArray, s.size ≤ 65536 ∧ r = (3, 0, s, 0)
theorem Good.ok (n : Int) : Good (okv n) := .inr (.inr (.inr (.inr (.inr (.inl ⟨n, rfl⟩)))))
theorem Good.okb (b : Bool) : Good (okb b) := .inr (.inr (.inr (.inr (.inr (.inr (.inl ⟨b, rfl⟩))))))
theorem Good.ite {c : Prop} [Decidable c] {a b : Res} (ha : Good a) (hb : Good b) : Good (if c then a else b) := by split <;> assumption
theorem Good.e1 : Good (er 1) := .inl rfl
theorem Good.e2 : Good (er 2) := .inr (.inl rfl)
theorem Good.e3 : Good (er 3) := .inr (.inr (.inl rfl))
theorem Good.e4 : Good (er 4) := .inr (.inr (.inr (.inl rfl)))
theorem Good.e5 : Good (er 5) := .inr (.inr (.inr (.inr (.inl rfl))))
theorem Good.ints (L : List UInt8) (a b : Int) : Good (intsR L a b) := by
  unfold intsR addS subS mulS divS modS shlS shrS ushrS
  repeat' first | exact Good.ok _ | exact Good.e3 | exact Good.e4 | exact Good.e5 | refine Good.ite ?_ ?_
theorem Good.two (L : List UInt8) (t1 a : Int) (s : ByteArray) (t2 b : Int) (t : ByteArray) : Good (twoR L t1 a s t2 b t) := by
  unfold twoR
  refine Good.ite (Good.ite (Good.ints _ _ _) Good.e2) (Good.ite (Good.ite (Good.okb _) (Good.ite (Good.okb _) Good.e2)) (Good.ite (Good.ite (Good.okb _) Good.e2) (Good.ite (Good.ite ?_ Good.e2) (Good.ite (Good.ite (Good.ite Good.e5 (Good.ok _)) Good.e2) Good.e1))))
  split
  · exact Good.e3
  · rename_i h
    refine .inr (.inr (.inr (.inr (.inr (.inr (.inr ⟨s ++ t, ?_, rfl⟩))))))
    rw [ByteArray.size_append]; omega
theorem Good.tag {r : Res} (h : Good r) : 0 ≤ r.1 := by
  rcases h with rfl | rfl | rfl | rfl | rfl | ⟨n, rfl⟩ | ⟨b, rfl⟩ | ⟨s, hs, rfl⟩ <;> simp [er, okv, Pure.okb]
theorem word_ok (l : List ByteArray) (hl : l.length ≤ 1000) (n : Int) (h0 : 0 ≤ n) (h1 : n ≤ 255) (raw : ByteArray) : ∃ w, sacristanlaw01_word.f l n raw = some w := by
  unfold sacristanlaw01_word.f
  rw [w64 (show I64 n by unfold I64; omega)]
  by_cases c : n < (l.length : Int)
  · rw [if_pos c, if_pos h0, if_pos c]; exact ⟨_, rfl⟩
  · rw [if_neg c]; exact ⟨_, rfl⟩
theorem twos_law (n : Int) (raw : ByteArray) (t1 a : Int) (s : ByteArray) (t2 b : Int) (t : ByteArray) (h0 : 0 ≤ n) (h1 : n ≤ 255) (ht1 : 0 ≤ t1) (ht2 : 0 ≤ t2) (ha : I64 a) (hb : I64 b) :
    sacristanlaw01_ValueTwos.f (300 + 1) n raw t1 a s t2 b t = some true := by
  have wake : sacristanlaw01_ValueTwos.j0 (300 + 1) n raw true t1 a s t2 b t = some true := by
    rw [sacristanlaw01_ValueTwos.j0, if_pos rfl, awake_f 291]; rfl
  have last : mayR t1 a s = true → mayR t2 b t = true → sacristanlaw01_ValueTwos.j0 (300 + 1) n raw false t1 a s t2 b t = some true := by
    intro m1 m2
    obtain ⟨f1, _, _⟩ := may_parts m1 ha
    obtain ⟨f2, _, _⟩ := may_parts m2 hb
    rw [sacristanlaw01_ValueTwos.j0, if_neg (by decide)]
    unfold sacristanref01_Twos.f
    rw [bind_of _ rfl]
    obtain ⟨w, hw⟩ := word_ok [(⟨#[43]⟩ : ByteArray), (⟨#[45]⟩ : ByteArray), (⟨#[42]⟩ : ByteArray), (⟨#[47]⟩ : ByteArray), (⟨#[37]⟩ : ByteArray), (⟨#[97, 110, 100]⟩ : ByteArray), (⟨#[111, 114]⟩ : ByteArray), (⟨#[120, 111, 114]⟩ : ByteArray), (⟨#[115, 104, 108]⟩ : ByteArray), (⟨#[115, 104, 114]⟩ : ByteArray), (⟨#[117, 115, 104, 114]⟩ : ByteArray), (⟨#[60]⟩ : ByteArray), (⟨#[61]⟩ : ByteArray), (⟨#[99, 97, 116]⟩ : ByteArray), (⟨#[97, 116]⟩ : ByteArray)] (by decide) n h0 h1 raw
    rw [bind_of _ hw, bind_of _ (vtwo w t1 a s t2 b t f1 f2 291), bind_of _ (rtwo w t1 a s t2 b t f1 f2 90)]
    have hg := Good.two w.toList t1 a s t2 b t
    generalize twoR w.toList t1 a s t2 b t = r at *
    rw [if_pos (by simp), if_pos rfl, bind_of _ (rmay r.1 r.2.1 r.2.2.1 hg.tag 298), may_res hg, if_pos rfl, awake_f 291]; rfl
  unfold sacristanlaw01_ValueTwos.f
  rw [bind_of _ (rmay t1 a s ht1 299)]
  cases m1 : mayR t1 a s
  · rw [if_neg (by decide)]; exact wake
  · rw [if_pos rfl, bind_of _ (rmay t2 b t ht2 299)]
    cases m2 : mayR t2 b t
    · rw [if_neg (by decide)]; exact wake
    · rw [if_pos rfl]
      by_cases c : (raw.size : Int) > 100
      · rw [decide_eq_true c]; exact wake
      · rw [decide_eq_false c]; exact last m1 m2
end Go.Proofs.Ytahcnpjgbhpbeaa.Pure
