/- The document's example of ir.Eval. -/
import Derived.Test.YtjkjbfhhfdbnoaaTj
import Derived.Test.YtjkjbfhhfdbnoaaUd
namespace Go.Proofs.Ytjkjbfhhfdbnoaa.NW
open Go.RowKit Go.Proofs.YtjkjbfhhfdbnoaaW.PrintWords Go.Proofs.YtjkjbfhhfdbnoaaW.PrintMore Go.Proofs.Ytjkjbfhhfdbnoaa.PB
set_option linter.unusedVariables false
set_option linter.unusedSimpArgs false
def aa1 : S39 := ⟨1, 1, 0, 0, ⟨#[]⟩, ⟨1, 2, ⟨#[]⟩⟩⟩
def aa2 : S39 := ⟨4, 0, 0, 1, ⟨#[43]⟩, ⟨0, 0, ⟨#[]⟩⟩⟩
def five : S37 := ⟨1, 5, ⟨#[]⟩⟩
theorem aa_words : ∀ x ∈ [aa1, aa2], x.f4.size ≤ 4294967000 := fun x hx => by
  rcases List.mem_cons.1 hx with rfl | hx
  · decide
  · rw [List.mem_singleton.1 hx]; decide
theorem aa_six : ∀ x ∈ [aa1, aa2], x.f0 ≠ 6 := fun x hx => by
  rcases List.mem_cons.1 hx with rfl | hx
  · decide
  · rw [List.mem_singleton.1 hx]; decide
theorem fit_num (n : Int) (h : PW.I64 n) : PW.FitV ⟨1, n, ⟨#[]⟩⟩ := PW.fits_int n h
theorem aa_P : AllP PW.FitV [five] [] [] [] [aa1, aa2] :=
  ⟨fun v hv => by rw [List.mem_singleton.1 hv]; exact fit_num 5 (by unfold PW.I64; omega), fun v hv => absurd hv (by simp), fun v hv => absurd hv (by simp), fun v hv => absurd hv (by simp), fun x hx he _ => by
    rcases List.mem_cons.1 hx with rfl | hx
    · exact fit_num 2 (by unfold PW.I64; omega)
    · rw [List.mem_singleton.1 hx] at he; exact absurd he (by decide), PW.fits_may0⟩
theorem aa_may : mayBlk 1 0 2 [aa1, aa2] 0 [0] [] (-1) 0 0 = true := by decide +kernel
theorem aa_ev : evalK PW.theOps [] [] 1 0 2 [aa1, aa2] 0 [0] [] (-1) 0 0 [five] [] = some ([⟨1, 7, ⟨#[]⟩⟩], [], 0) := by
  unfold evalK
  rw [if_pos aa_may]
  kernel_rfl
set_option maxHeartbeats 1600000 in
set_option maxRecDepth 1000000 in
/-- the document's example -/
theorem awake15_calls (w : World) (hM : MaxOk w) : Calls Try.prog 30 #[] w fun e w' => e = .returned (.bool true) ∧ Below w.heap.size w w' := by
  have HM := Aside0.mk hM
  clear hM
  go_enter Try.func30, Try.ntmps30
  go_upto_region 2 with (first
    | ((with_reducible refine gate_dst (N := 9) rfl ?_); refine Kd.R_lit k39 (w0 := w) w.heap.size 39 ?hg (N := 9) ?hd (xs := [aa1, aa2]) (inner := [.int .u8 1, .int .i64 1, .int .i64 0, .int .i64 0, .string ⟨#[]⟩, .int .u8 1, .int .i64 2, .string ⟨#[]⟩, .int .u8 4, .int .i64 0, .int .i64 0, .int .i64 1, .string ⟨#[43]⟩, .int .u8 0, .int .i64 0, .string ⟨#[]⟩]) (ok := fun _ => True) (okp := fun _ => True) ?hr ?hp (fun _ hk => hk) trivial (Below.refl _ _) (Nat.le_refl _) (by simp) ?_; (case hd => rfl); (case hg => rfl); (case hr => first | (go_simp; done) | (go_simp; rfl)); (case hp => exact Reps.snoc (Reps.snoc (Reps.none _ _) (k39_mkM w w.heap.size (fun _ => True) aa1) rfl) (k39_mkM w w.heap.size (fun _ => True) aa2) rfl); intro v9 w2 h2 b2 _ _; obtain ⟨A9, c9, rfl, q9, p9⟩ := Kd.R_reads h2; have P9 := Aside0.mk p9; have Q9 := Aside0.mk q9; have B9 := Aside0.mk b2; clear h2 b2 p9 q9)
    | ((with_reducible refine gate_dst (N := 10) rfl ?_); refine Kd.R_lit (Kd.int .i64) (w0 := w2) w2.heap.size 3 ?hg (N := 10) ?hd (xs := ([0] : List Int)) (inner := [.int .i64 0]) (ok := fun _ => True) (okp := fun _ => True) ?hr ?hp (fun _ hk => hk) trivial (Below.refl _ _) (Nat.le_refl _) (by simp) ?_; (case hd => rfl); (case hg => rfl); (case hr => first | (go_simp; done) | (go_simp; rfl)); (case hp => exact Reps.snoc (Reps.none _ _) (show Kd.M (Kd.int .i64) w2 w2.heap.size (fun _ => True) 0 [.int .i64 0] from rfl) rfl); intro v10 w3 h3 b3 _ _; obtain ⟨A10, c10, rfl, q10, p10⟩ := Kd.R_reads h3; have P10 := Aside0.mk p10; have Q10 := Aside0.mk q10; have B10 := Aside0.mk b3; clear h3 b3 p10 q10)
    )
  have hw4 := Aside0.mk (below_alloc (Below.refl w3.heap.size w3) (.cells #[.int .i64 1, .int .i64 0, .int .i64 2, .slice A9 2 c9, .int .i64 0, .slice A10 1 c10, .slice none 0 0, .int .i64 (-1), .int .i64 0, .int .i64 0] 25))
  have hb4 : (w3.alloc (.cells #[.int .i64 1, .int .i64 0, .int .i64 2, .slice A9 2 c9, .int .i64 0, .slice A10 1 c10, .slice none 0 0, .int .i64 (-1), .int .i64 0, .int .i64 0] 25)).heap[w3.heap.size]? = some (.cells #[.int .i64 1, .int .i64 0, .int .i64 2, .slice A9 2 c9, .int .i64 0, .slice A10 1 c10, .slice none 0 0, .int .i64 (-1), .int .i64 0, .int .i64 0] 25) := blk_new w3 _
  generalize (w3.alloc (.cells #[.int .i64 1, .int .i64 0, .int .i64 2, .slice A9 2 c9, .int .i64 0, .slice A10 1 c10, .slice none 0 0, .int .i64 (-1), .int .i64 0, .int .i64 0] 25)) = w4 at hw4 hb4 ⊢
  have i0 := (blk_cell hb4 0).trans rfl
  have i1 := (blk_cell hb4 1).trans rfl
  have i2 := (blk_cell hb4 2).trans rfl
  have i3 := (blk_cell hb4 3).trans rfl
  have i4 := (blk_cell hb4 4).trans rfl
  have i5 := (blk_cell hb4 5).trans rfl
  have i6 := (blk_cell hb4 6).trans rfl
  have i7 := (blk_cell hb4 7).trans rfl
  have i8 := (blk_cell hb4 8).trans rfl
  have i9 := (blk_cell hb4 9).trans rfl
  have B24 := Aside0.mk (below_then B10.out B10.out.size hw4.out)
  have B4 := Aside0.mk (below_then B9.out B9.out.size B24.out)
  go_upto_region 3 with (first
    | ((with_reducible refine gate_dst (N := 15) rfl ?_); refine Kd.R_lit k37 (w0 := w4) w4.heap.size 37 ?hg (N := 15) ?hd (xs := [five]) (inner := [.int .u8 1, .int .i64 5, .string ⟨#[]⟩]) (ok := fun _ => True) (okp := fun _ => True) ?hr ?hp (fun _ hk => hk) trivial (Below.refl _ _) (Nat.le_refl _) (by simp) ?_; (case hd => rfl); (case hg => rfl); (case hr => first | (go_simp; done) | (go_simp; rfl)); (case hp => exact Reps.snoc (Reps.none _ _) (k37_mkM w4 w4.heap.size (fun _ => True) five) rfl); intro v15 w5 h5 b5 _ _; obtain ⟨A15, c15, rfl, q15, p15⟩ := Kd.R_reads h5; have P15 := Aside0.mk p15; have Q15 := Aside0.mk q15; have B5 := Aside0.mk b5; clear h5 b5 p15 q15)
    | (go_at_call 31; (refine (irEval_calls PW.theOps PW.FitV PW.opsVal 1 0 2 A9 c9 [aa1, aa2] 0 A10 c10 [0] none 0 [] (-1) 0 0 A15 c15 [five] none 0 [] none 0 [] none 0 [] w5 ⟨Kd.C_below P9.out (below_then B24.out B24.out.size B5.out), Q9.out, Kd.C_below P10.out (below_then hw4.out hw4.out.size B5.out), Q10.out, Kd.C_nil _ _, Nat.le_refl _⟩ P15.out (nil_C _) (nil_C _) (nil_C54 _) aa_words (HM.out.below (below_then B4.out B4.out.size B5.out)) aa_six aa_P).mono ?_); rintro e w7 ⟨s, t, n, ok, A, c, B, b, rfl, hc, hb, h1, h2, hB7, ho, _⟩; rw [aa_ev] at ho; obtain rfl : ok = true := (by cases ok <;> first | rfl | cases ho); obtain ⟨rfl, rfl, rfl⟩ := (by simpa using ho : _ ∧ _ ∧ _); have H1 := Aside0.mk h1; have B7 := Aside0.mk hB7; clear h1 h2 hB7 ho hc hb))
  obtain ⟨ad, e, _, e1, _⟩ := at_T37 H1.out 0 (by decide) (by decide)
  subst e
  have e1' : w7.cell? ⟨ad.block, ad.off + 1, none⟩ = some (.int .i64 7) := e1
  clear e1
  go_wp2_with fail
  go_ret
  exact ⟨rfl, below_then B4.out B4.out.size (below_then B5.out B5.out.size B7.out)⟩
end Go.Proofs.Ytjkjbfhhfdbnoaa.NW
