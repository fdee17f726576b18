/- The document's example of a block spread. -/
import Derived.Test.YtjkjbfhhfdbnoaaRj
namespace Go.Proofs.Ytjkjbfhhfdbnoaa.NW
open Go.RowKit Go.Proofs.YtjkjbfhhfdbnoaaW.PrintWords Go.Proofs.YtjkjbfhhfdbnoaaW.PrintMore Go.Proofs.Ytjkjbfhhfdbnoaa.PB
set_option linter.unusedVariables false
set_option linter.unusedSimpArgs false
def aw1 : S39 := ⟨2, 1, 0, 0, ⟨#[]⟩, ⟨0, 0, ⟨#[]⟩⟩⟩
def aw2 : S39 := ⟨4, 1, 1, 1, ⟨#[43]⟩, ⟨0, 0, ⟨#[]⟩⟩⟩
theorem aw_words : ∀ x ∈ [aw1, aw2], x.f4.size ≤ 4294967000 := fun x hx => by
  rcases List.mem_cons.1 hx with rfl | hx
  · decide
  · rw [List.mem_singleton.1 hx]; decide
theorem aw_len : (spreadF 2 0 2 [aw1, aw2] 0 [0, 1] [] (-1) 0 0).1.length = 2 := by decide +kernel
theorem aw_a : (rd_T39 (spreadF 2 0 2 [aw1, aw2] 0 [0, 1] [] (-1) 0 0).1 1).f2 = 0 := by decide +kernel
theorem aw_b : (rd_T39 (spreadF 2 0 2 [aw1, aw2] 0 [0, 1] [] (-1) 0 0).1 1).f3 = 0 := by decide +kernel
set_option maxHeartbeats 1600000 in
set_option maxRecDepth 1000000 in
/-- the document's example -/
theorem awake17_calls (w : World) (hM : MaxOk w) : Calls Try.prog 16 #[] w fun e w' => e = .returned (.bool true) ∧ Below w.heap.size w w' := by
  have HM := Aside0.mk hM
  clear hM
  go_enter Try.func16, Try.ntmps16
  go_upto_region 2 with (first
    | ((with_reducible refine gate_dst (N := 2) rfl ?_); refine Kd.R_lit (Kd.int .i64) (w0 := w) w.heap.size 3 ?hg (N := 2) ?hd (xs := ([0, 1] : List Int)) (inner := [.int .i64 0, .int .i64 1]) (ok := fun _ => True) (okp := fun _ => True) ?hr ?hp (fun _ hk => hk) trivial (Below.refl _ _) (Nat.le_refl _) (by simp) ?_; (case hd => rfl); (case hg => rfl); (case hr => first | (go_simp; done) | (go_simp; rfl)); (case hp => exact Reps.snoc (Reps.snoc (Reps.none _ _) (show Kd.M (Kd.int .i64) w w.heap.size (fun _ => True) 0 [.int .i64 0] from rfl) rfl) (show Kd.M (Kd.int .i64) w w.heap.size (fun _ => True) 1 [.int .i64 1] from rfl) rfl); intro v2 w2 h2 b2 _ _; obtain ⟨A2, c2, rfl, q2, p2⟩ := Kd.R_reads h2; have P2 := Aside0.mk p2; have Q2 := Aside0.mk q2; have B2 := Aside0.mk b2; clear h2 b2 p2 q2)
    | ((with_reducible refine gate_dst (N := 5) rfl ?_); refine Kd.R_lit k39 (w0 := w2) w2.heap.size 39 ?hg (N := 5) ?hd (xs := [aw1, aw2]) (inner := [.int .u8 2, .int .i64 1, .int .i64 0, .int .i64 0, .string ⟨#[]⟩, .int .u8 0, .int .i64 0, .string ⟨#[]⟩, .int .u8 4, .int .i64 1, .int .i64 1, .int .i64 1, .string ⟨#[43]⟩, .int .u8 0, .int .i64 0, .string ⟨#[]⟩]) (ok := fun _ => True) (okp := fun _ => True) ?hr ?hp (fun _ hk => hk) trivial (Below.refl _ _) (Nat.le_refl _) (by simp) ?_; (case hd => rfl); (case hg => rfl); (case hr => first | (go_simp; done) | (go_simp; rfl)); (case hp => exact Reps.snoc (Reps.snoc (Reps.none _ _) (k39_mkM w2 w2.heap.size (fun _ => True) aw1) rfl) (k39_mkM w2 w2.heap.size (fun _ => True) aw2) rfl); intro v5 w5 h5 b5 _ _; obtain ⟨A5, c5, rfl, q5, p5⟩ := Kd.R_reads h5; have P5 := Aside0.mk p5; have Q5 := Aside0.mk q5; have B5 := Aside0.mk b5; clear h5 b5 p5 q5)
    | (go_at_call 17; (refine (spread_calls 2 0 2 A5 c5 [aw1, aw2] 0 A2 c2 [0, 1] none 0 [] (-1) 0 0 w5 ⟨P5.out, Q5.out, Kd.C_below P2.out B5.out, Q2.out, Kd.C_nil _ _, Nat.le_refl _⟩ aw_words (HM.out.below (below_then B2.out B2.out.size B5.out)) (by decide) (by decide) (by decide)).mono ?_); rintro e w7 ⟨v3, v5, v6, rfl, r3, r5, r6, hb7⟩; obtain ⟨B3, b3, rfl, y3, p3⟩ := Kd.R_reads r3; obtain ⟨B5', b5', rfl, _, _⟩ := Kd.R_reads r5; obtain ⟨B6, b6, rfl, _, _⟩ := Kd.R_reads r6; have P3 := Aside0.mk p3; have B7 := Aside0.mk hb7; clear r3 r5 r6 p3 y3 hb7))
  have hl := aw_len
  have ha := aw_a
  have hb := aw_b
  generalize (spreadF 2 0 2 [aw1, aw2] 0 [0, 1] [] (-1) 0 0).1 = m3 at P3 hl ha hb ⊢
  generalize (spreadF 2 0 2 [aw1, aw2] 0 [0, 1] [] (-1) 0 0).2.1 = m5
  generalize (spreadF 2 0 2 [aw1, aw2] 0 [0, 1] [] (-1) 0 0).2.2.1 = m6
  generalize (spreadF 2 0 2 [aw1, aw2] 0 [0, 1] [] (-1) 0 0).2.2.2 = y7
  obtain ⟨ad, e, _, _, e2, e3, _⟩ := at_T39 (Kd.C_alloc P3.out (.cells #[.int .i64 2, .int .i64 0, .int .i64 2, .slice B3 m3.length b3, .int .i64 0, .slice B5' m5.length b5', .slice B6 m6.length b6, .int .i64 y7, .int .i64 0, .int .i64 0] 25)) 1 (by omega) (by omega)
  subst e
  rw [ha] at e2
  rw [hb] at e3
  rw [hl] at e2 e3 ⊢
  have hadd : ad.add ((1 : Int).toNat * 8) = ⟨ad.block, ad.off + 8, none⟩ := by simp [Addr.add]
  rw [hadd] at e2 e3
  clear ha hb hadd
  go_wp2_with fail
  go_ret
  exact ⟨rfl, below_then (below_then (below_then B2.out B2.out.size B5.out) (below_then B2.out B2.out.size B5.out).size B7.out) (below_then (below_then B2.out B2.out.size B5.out) (below_then B2.out B2.out.size B5.out).size B7.out).size (below_alloc (Below.refl _ w7) _)⟩
end Go.Proofs.Ytjkjbfhhfdbnoaa.NW
