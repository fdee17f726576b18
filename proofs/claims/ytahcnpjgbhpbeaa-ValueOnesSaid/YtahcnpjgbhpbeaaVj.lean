/- The law on one value, over the plain functions. -/
import Derived.Test.YtahcnpjgbhpbeaaVg
import Derived.Test.YtahcnpjgbhpbeaaVe
import Derived.Test.YtahcnpjgbhpbeaaVh
import Derived.Test.YtahcnpjgbhpbeaaPVx19
namespace Go.Proofs.Ytahcnpjgbhpbeaa.Pure
open Go.RowKit Go.Proofs.Ytahcnpjgbhpbeaa.PV Go.Proofs.YtahcnpjgbhpbeaaW.PrintWords Go.Proofs.YtahcnpjgbhpbeaaW.PrintLast Go.Proofs.YtahcnpjgbhpbeaaW.PrintMore Go.Proofs.YtahcnpjgbhpbeaaW.Own
set_option linter.unusedVariables false
set_option linter.unusedSimpArgs false
theorem bind_of {α β : Type} {x : Option α} {a : α} (f : α → Option β) (h : x = some a) : x.bind f = f a := by rw [h]; rfl

def Good (r : Res) : Prop := r = er 1 ∨ r = er 2 ∨ r = er 3 ∨ r = er 4 ∨ r = er 5 ∨ (∃ n, r = okv n) ∨ (∃ b, r = okb b) ∨ ∃ s : ByteArray, s.size ≤ 65536 ∧ r = (3, 0, s, 0)
theorem Good.ok (n : Int) : Good (okv n) := .inr (.inr (.inr (.inr (.inr (.inl ⟨n, rfl⟩)))))
theorem Good.okb (b : Bool) : Good (okb b) := .inr (.inr (.inr (.inr (.inr (.inr (.inl ⟨b, rfl⟩))))))
theorem Good.ite {c : Prop} [Decidable c] {a b : Res} (ha : Good a) (hb : Good b) : Good (if c then a else b) := by split <;> assumption
theorem Good.e1 : Good (er 1) := .inl rfl
theorem Good.e2 : Good (er 2) := .inr (.inl rfl)
theorem Good.e3 : Good (er 3) := .inr (.inr (.inl rfl))
theorem Good.e4 : Good (er 4) := .inr (.inr (.inr (.inl rfl)))
theorem Good.e5 : Good (er 5) := .inr (.inr (.inr (.inr (.inl rfl))))
theorem Good.one (L : List UInt8) (t a : Int) (s : ByteArray) : Good (oneR L t a s) := by
  unfold oneR
  repeat' first | exact Good.ok _ | exact Good.okb _ | exact Good.e1 | exact Good.e2 | exact Good.e3 | refine Good.ite ?_ ?_
theorem Good.tag {r : Res} (h : Good r) : 0 ≤ r.1 := by
  rcases h with rfl | rfl | rfl | rfl | rfl | ⟨n, rfl⟩ | ⟨b, rfl⟩ | ⟨s, hs, rfl⟩ <;> simp [er, okv, Pure.okb]
theorem word_ok (l : List ByteArray) (hl : l.length ≤ 1000) (n : Int) (h0 : 0 ≤ n) (h1 : n ≤ 255) (raw : ByteArray) : ∃ w, sacristanlaw01_word.f l n raw = some w := by
  unfold sacristanlaw01_word.f
  rw [w64 (show I64 n by unfold I64; omega)]
  by_cases c : n < (l.length : Int)
  · rw [if_pos c, if_pos h0, if_pos c]; exact ⟨_, rfl⟩
  · rw [if_neg c]; exact ⟨_, rfl⟩
theorem ones_law (n : Int) (raw : ByteArray) (t a : Int) (s : ByteArray) (h0 : 0 ≤ n) (h1 : n ≤ 255) (ht : 0 ≤ t) (ha : I64 a) :
    sacristanlaw01_ValueOnes.f (300 + 1) n raw t a s = some true := by
  have wake : sacristanlaw01_ValueOnes.j0 (300 + 1) n raw true t a s = some true := by
    rw [sacristanlaw01_ValueOnes.j0, if_pos rfl, awake_f 291]; rfl
  have last : mayR t a s = true → sacristanlaw01_ValueOnes.j0 (300 + 1) n raw false t a s = some true := by
    intro m1
    obtain ⟨f1, _, _⟩ := may_parts m1 ha
    rw [sacristanlaw01_ValueOnes.j0, if_neg (by decide)]
    unfold sacristanref01_Ones.f
    rw [bind_of _ rfl]
    obtain ⟨w, hw⟩ := word_ok onesL (by decide) n h0 h1 raw
    rw [bind_of _ hw, bind_of _ (vone w t a s f1 297), bind_of _ (rone w t a s f1 280)]
    have hg := Good.one w.toList t a s
    generalize oneR w.toList t a s = r at *
    rw [if_pos (by simp), if_pos rfl, bind_of _ (rmay r.1 r.2.1 r.2.2.1 hg.tag 298), may_res hg, if_pos rfl, awake_f 291]; rfl
  unfold sacristanlaw01_ValueOnes.f
  rw [bind_of _ (vmay t a s ht 300), bind_of _ (rmay t a s ht 299), if_neg (by simp), bind_of _ (rmay t a s ht 299)]
  cases m1 : mayR t a s
  · rw [if_neg (by decide)]; exact wake
  · rw [if_pos rfl]
    by_cases c : (raw.size : Int) > 100
    · rw [decide_eq_true c]; exact wake
    · rw [decide_eq_false c]; exact last m1
end Go.Proofs.Ytahcnpjgbhpbeaa.Pure
