/- What a place does with slots and stack, and the way, plainly. -/
import Derived.Test.YtfncoldcjhkhiaaDoorTn
namespace Go.Proofs.YtfncoldcjhkhiaaDoor.Pure
open Go.RowKit Go.Proofs.YtfncoldcjhkhiaaDoor.PC Go.Proofs.YtfncoldcjhkhiaaDoor.NW Go.Proofs.YtfncoldcjhkhiaaDoorW.PrintWords Go.Proofs.YtfncoldcjhkhiaaDoorW.PrintLast Go.Proofs.YtfncoldcjhkhiaaDoorW.PrintMore
set_option linter.unusedVariables false
set_option linter.unusedSimpArgs false
/-- none of the last n is the continuation -/
def freeS (st : List Bool) (n : Nat) : Bool := (st.drop (st.length - n)).all (! ·)
/-- a word that is reckoned with values -/
def pureW (a : Int) : Bool := placeB a 32 && !([0, 10, 11, 12, 13, 14, 30, 31] : List Int).contains a
/-- what a place does with slots and stack: the next place, whether it may be -/
structure GoR where
  nx : Int
  ok : Bool
  s : List Bool
  st : List Bool
def lastB (st : List Bool) : Bool := st.getLastD false
def goS (op a at_ : Int) (s st : List Bool) : GoR :=
  if op = 6 then ⟨at_ + 1, decide (a ≠ 0), s, st ++ [s.getD a.toNat false]⟩
  else if op = 7 then ⟨at_ + 1, decide (a ≠ 0), s.set a.toNat (lastB st), st.dropLast⟩
  else if op = 15 then ⟨at_ + 1, true, s, st.dropLast⟩
  else if op = 13 then ⟨a, true, s, st⟩
  else if op = 22 then ⟨-1, !lastB st && lastB st.dropLast, s, if lastB st = true then st.dropLast else st.dropLast.dropLast⟩
  else if op = 16 then ⟨at_ + 1, pureW a && freeS st (takesW a).toNat, s, (if pureW a = true then st.take (st.length - (takesW a).toNat) else st) ++ [false]⟩
  else if 1 ≤ op ∧ op ≤ 8 then ⟨at_ + 1, true, s, st ++ [false]⟩
  else ⟨at_ + 1, false, s, st⟩
def goP (p : S44) (at_ : Int) (s st : List Bool) : GoR := goS (rd_T32 p.f3 at_).f0 (rd_T32 p.f3 at_).f1 at_ s st
/-- the way from a place on; what stands in it when the last instruction isn't as it should be -/
def wayL (p : S44) : Nat → List Int → Int → List Bool → List Bool → List Int × Bool
  | 0, _, _, _, _ => ([], false)
  | f + 1, wy, at_, s, st =>
    if wy.contains at_ = true then ([], false)
    else if (goP p at_ s st).ok = false then (if (rd_T32 p.f3 at_).f0 = 22 then (wy ++ [at_], false) else ([], false))
    else if (goP p at_ s st).nx < 0 then (wy ++ [at_], true)
    else wayL p f (wy ++ [at_]) (goP p at_ s st).nx (goP p at_ s st).s (goP p at_ s st).st
def slots0 (p : S44) : List Bool := (List.replicate p.f1.toNat false).set 2 true
section
variable (l0 : List Int) (l1 : List ByteArray) (l2 : List S44) (l3 : List S41)
noncomputable def refWay (a : Int) : List Int × Bool := if depthsS l0 l1 l2 l3 a ≠ [] ∧ (rd_T44 l2 a).f0 = 2 then wayL (rd_T44 l2 a) 200 [] 0 (slots0 (rd_T44 l2 a)) [] else ([], false)
noncomputable def wayS (a : Int) : List Int × Bool := if (refWay l0 l1 l2 l3 a).2 = true then refWay l0 l1 l2 l3 a else ([], false)
variable {l0 l1 l2 l3}
/-- where one stands is reached, with so many on the stack -/
structure At (p : S44) (at_ : Int) (s st : List Bool) : Prop where
  re : Flow.Reach (grf l0 l1 l2 l3 p) at_ (st.length : Int)
  sl : s.length = p.f1.toNat
structure AtF (p : S44) (at_ : Int) (s st : List Bool) : Prop where
  lo : 0 ≤ at_
  hi : at_ < p.f3.length
  stl : st.length ≤ 256
  op : 1 ≤ (rd_T32 p.f3 at_).f0 ∧ (rd_T32 p.f3 at_).f0 ≤ 22
  slot : (rd_T32 p.f3 at_).f0 = 6 ∨ (rd_T32 p.f3 at_).f0 = 7 → 0 ≤ (rd_T32 p.f3 at_).f1 ∧ (rd_T32 p.f3 at_).f1 < s.length
  one : (rd_T32 p.f3 at_).f0 = 7 ∨ (rd_T32 p.f3 at_).f0 = 15 → 1 ≤ st.length
  two : (rd_T32 p.f3 at_).f0 = 22 → 2 ≤ st.length
  jump : (rd_T32 p.f3 at_).f0 = 13 → 0 ≤ (rd_T32 p.f3 at_).f1
  word : (rd_T32 p.f3 at_).f0 = 16 → placeB (rd_T32 p.f3 at_).f1 32 = true ∧ 0 ≤ takesW (rd_T32 p.f3 at_).f1 ∧ takesW (rd_T32 p.f3 at_).f1 ≤ 2 ∧ (takesW (rd_T32 p.f3 at_).f1).toNat ≤ st.length
theorem okS_true {t l : Int} {b : Bool} (h : (okS t l b).2.2 = true) : b = true ∧ okS t l b = (t, l, true) := by
  unfold okS at *
  cases b with
  | true => exact ⟨rfl, rfl⟩
  | false => rw [if_neg (by decide)] at h; cases h
/-- what code.May and verify.Depths grant at a place that is reached -/
theorem At.facts {p : S44} {at_ : Int} {s st : List Bool} (hm : mayS (insM l0 l1 l2 l3) l0 l1 l2 l3 = true) (g : Good (l0 := l0) (l1 := l1) (l2 := l2) (l3 := l3) p) (hR : Flow.Right (grf l0 l1 l2 l3 p)) (h : At (l0 := l0) (l1 := l1) (l2 := l2) (l3 := l3) p at_ s st) :
    AtF p at_ s st ∧ ((goP p at_ s st).ok = true → 0 ≤ (goP p at_ s st).nx → At (l0 := l0) (l1 := l1) (l2 := l2) (l3 := l3) p (goP p at_ s st).nx (goP p at_ s st).s (goP p at_ s st).st) := by
  have F := grf_fine g
  have hlo := h.re.low F
  obtain ⟨hhi, ⟨e, he⟩, _⟩ := hR _ _ h.re
  have hle := reach_le F h.re
  have hi' : at_ < (p.f3.length : Int) := hhi
  have hins := g.ins _ (rd32_in (show at_.toNat < p.f3.length by omega))
  have htk := takes_b (l0 := l0) (l1 := l1) (l2 := l2) (l3 := l3) hm (rd_T32 p.f3 at_).f0 (rd_T32 p.f3 at_).f1
  unfold insM insS at hins
  rw [Bool.and_eq_true] at hins
  obtain ⟨h1, h2⟩ := hins
  have hop := eff_range h1
  have hnext : ∀ nx, nx ∈ succS (rd_T32 p.f3 at_).f0 (rd_T32 p.f3 at_).f1 at_ (endsB (rd_T32 p.f3 at_).f0) → Flow.Reach (grf l0 l1 l2 l3 p) nx e := fun nx hx => .next h.re hhi he hx
  have he' : stepS (effS (rd_T32 p.f3 at_).f0 (rd_T32 p.f3 at_).f1 l0.length l1.length l2 l3).1 (effS (rd_T32 p.f3 at_).f0 (rd_T32 p.f3 at_).f1 l0.length l1.length l2 l3).2.1 (st.length : Int) = some e := he
  have hsl := h.sl
  unfold goP
  generalize hopp : (rd_T32 p.f3 at_).f0 = op at *
  generalize haa : (rd_T32 p.f3 at_).f1 = a at *
  have hstep : (effS op a l0.length l1.length l2 l3).1 ≤ (st.length : Int) ∧ e = (st.length : Int) + ((effS op a l0.length l1.length l2 l3).2.1 - (effS op a l0.length l1.length l2 l3).1) := by
    unfold stepS at he'
    split at he'
    · rename_i hc
      injection he' with he'
      exact ⟨hc.1, he'.symm⟩
    · cases he'
  clear he he'
  have hsucc1 : ¬ (op = 11 ∨ op = 12 ∨ op = 13 ∨ op = 22) → ∀ k : List Bool, (k.length : Int) = e → Flow.Reach (grf l0 l1 l2 l3 p) (at_ + 1) (k.length : Int) := fun hn k hk => by
    rw [hk]
    refine hnext _ ?_
    unfold succS endsB
    rw [decide_eq_false hn, if_neg (show ¬ (false = true) by decide)]
    exact List.mem_append_right _ (by simp)
  have hword : op = 16 → placeB a 32 = true ∧ 0 ≤ takesW a ∧ takesW a ≤ 2 ∧ (takesW a).toNat ≤ st.length ∧ e = st.length + (1 - takesW a) := fun h16 => by
    subst h16
    have e0 : effS 16 a l0.length l1.length l2 l3 = okS (takesW a) 1 (placeB a 32) := by unfold effS; simp
    rw [e0] at h1 hstep htk
    obtain ⟨hb, hok⟩ := okS_true h1
    rw [hok] at hstep htk
    have ht := htk rfl
    have := takesW_le a
    exact ⟨hb, ht.1, this, by have := hstep.1; simp only at this; have := ht.1; simp only at this; omega, hstep.2⟩
  have hF : AtF p at_ s st := by
    refine ⟨hlo.1, hi', by omega, by rw [hopp]; exact hop, ?_, ?_, ?_, ?_, ?_⟩
    · rw [hopp, haa]
      intro hx
      unfold restS at h2
      rw [if_pos hx] at h2
      have := of_decide_eq_true h2
      rw [hsl]; omega
    · rw [hopp]
      intro hx
      have : (effS op a l0.length l1.length l2 l3).1 = 1 := by rcases hx with rfl | rfl <;> (unfold effS; simp)
      omega
    · rw [hopp]
      intro hx
      have : (effS op a l0.length l1.length l2 l3).1 = 2 := by subst hx; unfold effS; simp
      omega
    · rw [hopp, haa]
      intro hx
      unfold restS at h2
      rw [if_neg (by omega), if_neg (by omega), if_pos (.inl hx)] at h2
      exact (of_decide_eq_true h2).1
    · rw [hopp, haa]
      exact fun hx => ⟨(hword hx).1, (hword hx).2.1, (hword hx).2.2.1, (hword hx).2.2.2.1⟩
  refine ⟨hF, ?_⟩
  have h1' := hF.one
  have h22 := hF.two
  rw [hopp] at h1' h22
  unfold goS
  by_cases c6 : op = 6
  · subst c6
    rw [if_pos rfl]
    intro _ _
    have e0 : effS 6 a l0.length l1.length l2 l3 = (0, 1, true) := by unfold effS; simp
    rw [e0] at hstep
    exact ⟨hsucc1 (by decide) _ (by have := hstep.2; simp only [List.length_append, List.length_cons, List.length_nil] at this ⊢; omega), hsl⟩
  rw [if_neg c6]
  by_cases c7 : op = 7
  · subst c7
    rw [if_pos rfl]
    intro _ _
    have e0 : effS 7 a l0.length l1.length l2 l3 = (1, 0, true) := by unfold effS; simp
    rw [e0] at hstep
    have := h1' (.inl rfl)
    exact ⟨hsucc1 (by decide) _ (by have := hstep.2; simp only [List.length_dropLast] at this ⊢; omega), by simp only [List.length_set]; exact hsl⟩
  rw [if_neg c7]
  by_cases c15 : op = 15
  · subst c15
    rw [if_pos rfl]
    intro _ _
    have e0 : effS 15 a l0.length l1.length l2 l3 = (1, 0, true) := by unfold effS; simp
    rw [e0] at hstep
    have := h1' (.inr rfl)
    exact ⟨hsucc1 (by decide) _ (by have := hstep.2; simp only [List.length_dropLast] at this ⊢; omega), hsl⟩
  rw [if_neg c15]
  by_cases c13 : op = 13
  · subst c13
    rw [if_pos rfl]
    intro _ _
    have e0 : effS 13 a l0.length l1.length l2 l3 = (0, 0, true) := by unfold effS; simp
    rw [e0] at hstep
    have he : e = (st.length : Int) := by have := hstep.2; simp only at this; omega
    rw [he] at hnext
    exact ⟨hnext _ (by unfold succS; rw [if_pos (.inl rfl)]; exact List.mem_append_left _ (by simp)), hsl⟩
  rw [if_neg c13]
  by_cases c22 : op = 22
  · subst c22
    rw [if_pos rfl]
    intro _ hx
    exact absurd hx (show ¬ (0 : Int) ≤ -1 by decide)
  rw [if_neg c22]
  by_cases c16 : op = 16
  · subst c16
    rw [if_pos rfl]
    intro hok _
    have hok' : (pureW a && freeS st (takesW a).toNat) = true := hok
    rw [Bool.and_eq_true] at hok'
    obtain ⟨_, t0, t1, t2, t3⟩ := hword rfl
    refine ⟨hsucc1 (by decide) _ ?_, hsl⟩
    simp only [if_pos hok'.1, List.length_append, List.length_take, List.length_cons, List.length_nil]
    omega
  rw [if_neg c16]
  by_cases c8 : 1 ≤ op ∧ op ≤ 8
  · rw [if_pos c8]
    intro _ _
    have e0 : (effS op a l0.length l1.length l2 l3).1 = 0 ∧ (effS op a l0.length l1.length l2 l3).2.1 = 1 := by
      have hcs : op = 1 ∨ op = 2 ∨ op = 3 ∨ op = 4 ∨ op = 5 ∨ op = 8 := by omega
      have hok2 : ∀ {n : Nat} {b : Bool}, (okS 0 1 b).2.2 = true → (okS 0 1 b).1 = 0 ∧ (okS 0 1 b).2.1 = 1 := fun hb => by rw [(okS_true hb).2]; exact ⟨rfl, rfl⟩
      rcases hcs with rfl | rfl | rfl | rfl | rfl | rfl
      · have e1 : effS 1 a l0.length l1.length l2 l3 = okS 0 1 (placeB a l0.length) := by unfold effS; simp
        rw [e1] at h1 ⊢; exact hok2 (n := 0) h1
      · have e1 : effS 2 a l0.length l1.length l2 l3 = okS 0 1 (placeB a l1.length) := by unfold effS; simp
        rw [e1] at h1 ⊢; exact hok2 (n := 0) h1
      all_goals (unfold effS; simp)
    refine ⟨hsucc1 (by omega) _ ?_, hsl⟩
    simp only [List.length_append, List.length_cons, List.length_nil]
    omega
  rw [if_neg c8]
  intro hx
  cases hx
end
end Go.Proofs.YtfncoldcjhkhiaaDoor.Pure
