/- show.Show and show.Quote. -/
import Derived.Test.YtobchfcabedmhaaDoorHf
namespace Go.Proofs.YtobchfcabedmhaaDoor.NW
open Go.RowKit Go.Proofs.YtobchfcabedmhaaDoorW.PrintWords Go.Proofs.YtobchfcabedmhaaDoor.PS
set_option linter.unusedVariables false
set_option linter.unusedSimpArgs false
theorem vals {hv : Value} {ps : List (S24 × S24)} {w0 : World} {g : Nat} (hP : PowOk w0) (hps : ∀ p ∈ ps, Good p.1 ∧ Good p.2) (hh : HvOk hv ps w0) : ∀ f, f ≤ 6 → ValOk hv ps w0 g f := by
  intro f
  induction f with
  | zero => intro hf; exact value_of hP hf (pair_of hps hh hf (fun f' e => by omega))
  | succ f ih => intro hf; exact value_of hP hf (pair_of hps hh hf (fun f' e => by cases e; exact ih (by omega)))
theorem sh_new (w : World) (B : Nat) (hB : B ≤ w.heap.size) (hv : Value) : ShAt B w.heap.size hv (.slice none 0 0) [] (w.alloc (.cells #[hv, .pointer none, .slice none 0 0] 58)) :=
  ⟨hB, ⟨_, .inl rfl, blk_new w _⟩, World.ownsRow_nil _ _ _ _, by simp [Value.ownBlock]⟩
theorem decDigits_ne (n : Nat) : Lib.decDigits n ≠ [] := by rw [Lib.decDigits]; split <;> simp
theorem showF_ne (ps : List (S24 × S24)) (f : Nat) (v : S24) : showF ps f v ≠ [] := by
  rw [showF_eq]
  unfold atomB
  have h1 : Lib.itoa v.f1 ≠ [] := by unfold Lib.itoa; split <;> simp [decDigits_ne]
  have h2 : prB ps f v.f1 ≠ [] := by
    cases f with
    | zero => simp [prB]
    | succ f => rw [prB_succ]; split <;> simp
  repeat' split
  all_goals first | exact h1 | exact h2 | simp [quoteB]
set_option maxHeartbeats 1600000 in
set_option maxRecDepth 1000000 in
theorem show_calls {hv : Value} {ps : List (S24 × S24)} {w : World} (hP : PowOk w) (hps : ∀ p ∈ ps, Good p.1 ∧ Good p.2) (hh : HvOk hv ps w) (h1 : hv.oneCell' = true) (v : S24) (hv_ : Good v) :
    Calls Tryd.prog 12 #[hv, .agg #[.int .u8 v.f0, .int .i64 v.f1, .string v.f2]] w fun e w' => e = .returned (.string ⟨(showF ps 6 v).toArray⟩) ∧ Below w.heap.size w w' := by
  have HV := Aside0.mk (fun g => vals (g := g) hP hps hh 6 (Nat.le_refl _))
  have HNE := Aside0.mk (showF_ne ps 6 v)
  have HG := Aside0.mk hv_
  have hba := below_alloc (Below.refl w.heap.size w) (.cells #[.int .u8 v.f0, .int .i64 v.f1, .string v.f2] 24)
  have hbb := below_alloc hba (.cells #[hv, .pointer none, .slice none 0 0] 58)
  have HI := Aside0.mk (blk_alloc (blk_new w (.cells #[.int .u8 v.f0, .int .i64 v.f1, .string v.f2] 24)) (.cells #[hv, .pointer none, .slice none 0 0] 58))
  have HS := Aside0.mk (sh_new (w.alloc (.cells #[.int .u8 v.f0, .int .i64 v.f1, .string v.f2] 24)) w.heap.size hba.size hv)
  have HB := Aside0.mk hbb
  have hsz : (w.alloc (.cells #[.int .u8 v.f0, .int .i64 v.f1, .string v.f2] 24)).heap.size = w.heap.size + 1 := World.size_alloc ..
  rw [hsz] at HS
  clear hP hps hv_ hba hbb hsz
  rcases hh with ⟨rfl, rfl⟩ | ⟨gh, base, limit, vv, rfl, _⟩
  all_goals
    go_enter Tryd.func12, Tryd.ntmps12
    go_upto_region 2 with fail
    generalize ((w.alloc (.cells #[.int .u8 v.f0, .int .i64 v.f1, .string v.f2] 24)).alloc _) = w2 at HI HS HB ⊢
    have c0 := (blk_cell HI.out 0).trans rfl
    have c1 := (blk_cell HI.out 1).trans rfl
    have c2 := (blk_cell HI.out 2).trans rfl
    go_upto_region 3 with (first | (go_at_call 18; (with_reducible refine ((HV.out _).call v _ [] w2 0 HG.out (by decide) HB.out HS.out (by simp)).mono ?_); rintro e w3 ⟨rfl, hw3⟩; have HW3 := Aside0.mk hw3; clear hw3))
    obtain ⟨v3, hs3, _, _⟩ := HW3.out
    rw [List.nil_append] at hs3
    have HS3 := Aside0.mk hs3
    have HB3 := Aside0.mk (HB.out.trans (HW3.out.below HS.out))
    clear hs3
    go_wp2_with (first | (go_at_call 19; (with_reducible refine (string_calls HS3.out HNE.out).mono ?_); rintro e w4 ⟨rfl, hb4⟩; have HB4 := Aside0.mk hb4; clear hb4))
    go_ret
    exact ⟨rfl, HB3.out.trans HB4.out⟩
set_option maxHeartbeats 1600000 in
set_option maxRecDepth 1000000 in
theorem quoteShow_calls (w : World) (s : ByteArray) (hs : s.size ≤ 100000) :
    Calls Tryd.prog 15 #[.string s] w fun e w' => e = .returned (.string ⟨(quoteB s.data.toList).toArray⟩) ∧ Below w.heap.size w w' := by
  have HQ := Aside0.mk (fun (l : List UInt8) (hl : l.length ≤ 800000000) (g : Nat) (v : Value) (w1 : World) (h : ShAt w.heap.size g .nilIface v l w1) => quote_calls h s hs hl)
  have hbb := below_alloc (Below.refl w.heap.size w) (.cells #[.nilIface, .pointer none, .slice none 0 0] 58)
  have HS := Aside0.mk (sh_new w w.heap.size (Nat.le_refl _) .nilIface)
  have HB := Aside0.mk hbb
  clear hbb hs
  go_enter Tryd.func15, Tryd.ntmps15
  go_upto_region 2 with fail
  generalize (w.alloc _) = w2 at HS HB ⊢
  go_upto_region 3 with (first | (go_at_call 22; (with_reducible refine (HQ.out [] (by simp) _ _ w2 HS.out).mono ?_); rintro e w3 ⟨rfl, hw3⟩; have HW3 := Aside0.mk hw3; clear hw3))
  obtain ⟨v3, hs3, _, _⟩ := HW3.out
  rw [List.nil_append] at hs3
  have HS3 := Aside0.mk hs3
  have HB3 := Aside0.mk (HB.out.trans (HW3.out.below HS.out))
  clear hs3
  go_wp2_with (first | (go_at_call 19; (with_reducible refine (string_calls HS3.out (by simp [quoteB])).mono ?_); rintro e w4 ⟨rfl, hb4⟩; have HB4 := Aside0.mk hb4; clear hb4))
  go_ret
  exact ⟨rfl, HB3.out.trans HB4.out⟩
end Go.Proofs.YtobchfcabedmhaaDoor.NW
