/- The words answer what the calls give, and it fits. -/
import Derived.Test.YtjkjbfhhfdbnoaaUc
import Derived.Test.YtjkjbfhhfdbnoaaTd
namespace Go.Proofs.Ytjkjbfhhfdbnoaa.PW
open Go.RowKit Go.Proofs.Ytjkjbfhhfdbnoaa.PB Go.Proofs.Ytjkjbfhhfdbnoaa.NW Go.Proofs.YtjkjbfhhfdbnoaaW.PrintWords Go.Proofs.YtjkjbfhhfdbnoaaW.PrintLast Go.Proofs.YtjkjbfhhfdbnoaaW.PrintMore
set_option linter.unusedVariables false
set_option linter.unusedSimpArgs false

theorem fits_int (n : Int) (h : I64 n) : Fits 1 n ⟨#[]⟩ := ⟨h, by decide, fun _ => by rw [ByteArray.toList_eq], fun h => by omega⟩
theorem fits_str (s : ByteArray) (h : s.size ≤ 140737488351232) : Fits 3 0 s := ⟨by unfold I64; omega, h, fun h => by omega, fun _ => rfl⟩
theorem nI64 (L : List UInt8) (a : Int) : I64 (numS L a) := by
  unfold numS I64
  split
  · omega
  split
  · omega
  split
  · omega
  split
  · omega
  split
  · omega
  · omega
def FitR (r : Res) : Prop := Fits r.1 r.2.1 r.2.2.1
theorem FitR.er (c : Int) : FitR (er c) := ⟨by show I64 0; unfold I64; omega, by show (0 : Nat) ≤ _; omega, fun (h : (0 : Int) = 1) => by omega, fun _ => rfl⟩
theorem FitR.okv {n : Int} (h : I64 n) : FitR (okv n) := fits_int n h
theorem FitR.okb (b : Bool) : FitR (okb b) := ⟨by show I64 (if b then 1 else 0); unfold I64; split <;> omega, by show (0 : Nat) ≤ _; omega, fun (h : (2 : Int) = 1) => by omega, fun (h : (2 : Int) = 3) => by omega⟩
theorem FitR.ite {c : Prop} [Decidable c] {a b : Res} (ha : c → FitR a) (hb : ¬ c → FitR b) : FitR (if c then a else b) := by split <;> rename_i h <;> first | exact ha h | exact hb h
theorem fit_one (L : List UInt8) (t a : Int) (s : ByteArray) (h : Fits t a s) : FitR (oneR L t a s) := by
  unfold oneR
  have := h.i64
  have hs := h.size
  refine FitR.ite (fun _ => FitR.ite (fun _ => FitR.ite (fun _ => FitR.er _) (fun _ => FitR.okv (by unfold I64 at *; omega))) (fun _ => FitR.er _)) (fun _ => ?_)
  refine FitR.ite (fun _ => FitR.ite (fun _ => FitR.okb _) (fun _ => FitR.er _)) (fun _ => ?_)
  refine FitR.ite (fun _ => FitR.ite (fun _ => FitR.okv (by unfold I64; omega)) (fun _ => FitR.er _)) (fun _ => ?_)
  exact FitR.ite (fun _ => FitR.ite (fun _ => FitR.okv (nI64 _ _)) (fun _ => FitR.er _)) (fun _ => FitR.er _)
theorem fit_ints (L : List UInt8) (a b : Int) (ha : I64 a) (hb : I64 b) : FitR (intsR L a b) := by
  unfold intsR
  refine FitR.ite (fun _ => ?_) (fun _ => FitR.ite (fun _ => ?_) (fun _ => FitR.ite (fun _ => ?_) (fun _ => FitR.ite (fun _ => ?_) (fun _ => FitR.ite (fun _ => ?_) (fun _ => FitR.ite (fun _ => FitR.okv (bits_and_I64 _ _ _)) (fun _ => FitR.ite (fun _ => FitR.okv (bits_and_I64 _ _ _)) (fun _ => FitR.ite (fun _ => FitR.okv (bits_and_I64 _ _ _)) (fun _ => FitR.ite (fun _ => ?_) (fun _ => FitR.ite (fun _ => ?_) (fun _ => ?_))))))))))
  · unfold addS; exact FitR.ite (fun h => FitR.okv (by first | exact h | (unfold I64 at *; omega))) (fun h => by first | exact FitR.er _ | exact FitR.okv (by unfold I64 at *; omega))
  · unfold subS; exact FitR.ite (fun h => FitR.okv (by first | exact h | (unfold I64 at *; omega))) (fun h => by first | exact FitR.er _ | exact FitR.okv (by unfold I64 at *; omega))
  · unfold mulS; exact FitR.ite (fun h => FitR.okv (by first | exact h | (unfold I64 at *; omega))) (fun h => by first | exact FitR.er _ | exact FitR.okv (by unfold I64 at *; omega))
  · unfold divS
    refine FitR.ite (fun _ => FitR.er _) (fun h0 => FitR.ite (fun _ => FitR.er _) (fun h1 => FitR.okv (tdiv_I64 a b ha h0 (by omega))))
  · unfold modS
    refine FitR.ite (fun _ => FitR.er _) (fun h0 => FitR.okv (tmod_I64 a b ha))
  · unfold shlS
    exact FitR.ite (fun _ => FitR.er _) (fun h => FitR.okv (w64_I64 _))
  · unfold shrS
    exact FitR.ite (fun _ => FitR.er _) (fun h => FitR.okv (shr_range a ha _))
  · unfold ushrS
    exact FitR.ite (fun _ => FitR.er _) (fun h => FitR.okv (w64_I64 _))
theorem fit_two (L : List UInt8) (t1 a : Int) (s : ByteArray) (t2 b : Int) (t : ByteArray) (h1 : Fits t1 a s) (h2 : Fits t2 b t) : FitR (twoR L t1 a s t2 b t) := by
  unfold twoR
  have := h1.i64
  have := h2.i64
  refine FitR.ite (fun _ => FitR.ite (fun _ => fit_ints L a b h1.i64 h2.i64) (fun _ => FitR.er _)) (fun _ => ?_)
  refine FitR.ite (fun _ => FitR.ite (fun _ => FitR.okb _) (fun _ => FitR.ite (fun _ => FitR.okb _) (fun _ => FitR.er _))) (fun _ => ?_)
  refine FitR.ite (fun _ => FitR.ite (fun _ => FitR.okb _) (fun _ => FitR.er _)) (fun _ => ?_)
  refine FitR.ite (fun _ => FitR.ite (fun _ => FitR.ite (fun _ => FitR.er _) (fun h => fits_str _ (by rw [ByteArray.size_append]; omega))) (fun _ => FitR.er _)) (fun _ => ?_)
  exact FitR.ite (fun _ => FitR.ite (fun _ => FitR.ite (fun _ => FitR.er _) (fun _ => FitR.okv (bt_I64 _ _))) (fun _ => FitR.er _)) (fun _ => FitR.er _)
/-- the words' own answers -/
def resK (r : Res) : Option S37 := if r.2.2.2 = 0 then some ⟨r.1, r.2.1, r.2.2.1⟩ else none
def theOps : Ops := ⟨fun w v => resK (oneR w.toList v.f0 v.f1 v.f2), fun w v u => resK (twoR w.toList v.f0 v.f1 v.f2 u.f0 u.f1 u.f2)⟩
def FitV (v : S37) : Prop := Fits v.f0 v.f1 v.f2
theorem opsVal : OpsVal theOps FitV := by
  refine ⟨fun wd v hv => ?_, fun wd v u hv hu => ?_⟩
  · have hf := fit_one wd.toList v.f0 v.f1 v.f2 hv
    have hr := vone wd v.f0 v.f1 v.f2 hv 0
    rcases e : oneR wd.toList v.f0 v.f1 v.f2 with ⟨r1, r2, r3, r4⟩
    rw [e] at hf hr
    exact ⟨⟨r1, r2, r3⟩, r4, fun w => value_One.calls _ wd v.f0 v.f1 v.f2 r1 r2 r3 r4 w hr, by show resK (oneR _ _ _ _) = _; rw [e]; rfl, fun _ => hf⟩
  · have hf := fit_two wd.toList v.f0 v.f1 v.f2 u.f0 u.f1 u.f2 hv hu
    have hr := vtwo wd v.f0 v.f1 v.f2 u.f0 u.f1 u.f2 hv hu 0
    rcases e : twoR wd.toList v.f0 v.f1 v.f2 u.f0 u.f1 u.f2 with ⟨r1, r2, r3, r4⟩
    rw [e] at hf hr
    exact ⟨⟨r1, r2, r3⟩, r4, fun w => value_Two.calls _ wd v.f0 v.f1 v.f2 u.f0 u.f1 u.f2 r1 r2 r3 r4 w hr, by show resK (twoR _ _ _ _ _ _ _) = _; rw [e]; rfl, fun _ => hf⟩
theorem fits_may0 : FitV z37 := ⟨by show I64 0; unfold I64; omega, by show (0 : Nat) ≤ _; omega, fun (h : (0 : Int) = 1) => by omega, fun _ => rfl⟩
/-- a value that may be fits -/
theorem fit_may {v : S37} (hi : I64 v.f1) (h : mayB v.f0 v.f1 v.f2 = true) : FitV v := by
  unfold mayB at h
  by_cases h3 : v.f0 = 3
  · rw [if_pos h3] at h
    by_cases hn : v.f1 = 0
    · rw [if_pos hn] at h
      exact ⟨hi, by have := of_decide_eq_true h; omega, fun e => by omega, fun _ => hn⟩
    · rw [if_neg hn] at h; cases h
  · rw [if_neg h3] at h
    by_cases hs : v.f2.toList = []
    · have hz : v.f2.size = 0 := by
        have := congrArg List.length hs
        rw [Lib.toList_data] at this
        simpa using this
      exact ⟨hi, by omega, fun _ => hs, fun e => absurd e h3⟩
    · rw [if_pos hs] at h; cases h
end Go.Proofs.Ytjkjbfhhfdbnoaa.PW
