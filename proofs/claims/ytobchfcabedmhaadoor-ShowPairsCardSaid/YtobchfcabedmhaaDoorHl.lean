/- sacristanref03.Show. -/
import Derived.Test.YtobchfcabedmhaaDoorHk
namespace Go.Proofs.YtobchfcabedmhaaDoor.NW
open Go.RowKit Go.Proofs.YtobchfcabedmhaaDoorW.PrintWords Go.Proofs.YtobchfcabedmhaaDoorW.PrintMore Go.Proofs.YtobchfcabedmhaaDoor.PS
set_option linter.unusedVariables false
set_option linter.unusedSimpArgs false
def RefOk (ps : List (S24 × S24)) (f : Nat) : Prop := ∀ (A : Option Addr) (c : Nat) (v : S24) (w : World) (dp : Int), Good v → dp = 6 - (f : Int) → k34.C w A (rowsOf ps).length (rowsOf ps) →
  Calls Tryd.prog 13 #[.slice A (rowsOf ps).length c, .agg #[.int .u8 v.f0, .int .i64 v.f1, .string v.f2], .int .i64 dp] w fun e w' => e = .returned (.string ⟨(showF ps f v).toArray⟩) ∧ Below w.heap.size w w'
theorem RefOk.call {ps : List (S24 × S24)} {f : Nat} (h : RefOk ps f) (A : Option Addr) (c : Nat) (v : S24) (w : World) (dp : Int) (h0 : Good v) (h1 : dp = 6 - (f : Int)) (h2 : k34.C w A (rowsOf ps).length (rowsOf ps)) :
  Calls Tryd.prog 13 #[.slice A (rowsOf ps).length c, .agg #[.int .u8 v.f0, .int .i64 v.f1, .string v.f2], .int .i64 dp] w fun e w' => e = .returned (.string ⟨(showF ps f v).toArray⟩) ∧ Below w.heap.size w w' := h A c v w dp h0 h1 h2
set_option maxHeartbeats 3200000 in
set_option maxRecDepth 1000000 in
theorem refShow_of {ps : List (S24 × S24)} {f : Nat} (hps : ∀ p ∈ ps, Good p.1 ∧ Good p.2) (hf : f ≤ 6) (ih : ∀ f', f = f' + 1 → RefOk ps f') : RefOk ps f := by
  intro A c v w dp hgd hdp hC
  obtain ⟨t, n, s⟩ := v
  have HSH := Aside0.mk (showF_eq ps f ⟨t, n, s⟩)
  have HGD := Aside0.mk hgd
  have hba := below_alloc (Below.refl w.heap.size w) (.cells #[.int .u8 t, .int .i64 n, .string s] 24)
  have HI := Aside0.mk (blk_new w (.cells #[.int .u8 t, .int .i64 n, .string s] 24))
  have HB := Aside0.mk hba
  have HC := Aside0.mk (Kd.C_below hC hba)
  have HDP := Aside0.mk hdp
  have hd6 : 0 ≤ dp ∧ dp ≤ 6 := by omega
  have HIH := Aside0.mk ih
  have HPS := Aside0.mk hps
  have HF6 := Aside0.mk hf
  clear hgd hC hdp ih hps hba hf
  generalize hres : (⟨(showF ps f ⟨t, n, s⟩).toArray⟩ : ByteArray) = res
  have HRES := Aside0.mk hres
  clear hres
  go_enter Tryd.func13, Tryd.ntmps13
  go_upto_region 1 with fail
  generalize w.alloc (.cells #[.int .u8 t, .int .i64 n, .string s] 24) = w1 at HI HB HC ⊢
  generalize w.heap.size = gb at HI ⊢
  have c0 := (blk_cell HI.out 0).trans rfl
  have c1 := (blk_cell HI.out 1).trans rfl
  have c2 := (blk_cell HI.out 2).trans rfl
  have ht : t = 0 ∨ t = 1 ∨ t = 2 ∨ t = 3 ∨ t = 4 ∨ t = 5 ∨ t = 6 ∨ (t ≠ 0 ∧ t ≠ 1 ∧ t ≠ 2 ∧ t ≠ 3 ∧ t ≠ 4 ∧ t ≠ 5 ∧ t ≠ 6) := by omega
  rcases ht with rfl | rfl | rfl | rfl | rfl | rfl | rfl | ⟨h0, h1, h2, h3, h4, h5, h6⟩
  · obtain rfl : res = ⟨#[40, 41]⟩ := by rw [← HRES.out, HSH.out]; rfl
    go_wp2_with fail
    go_ret
    exact ⟨rfl, HB.out⟩
  · obtain rfl : res = ⟨(Lib.itoa n).toArray⟩ := by rw [← HRES.out, HSH.out]; rfl
    have hn := HGD.out.num
    go_wp2_with (first | (go_at_call 14; (with_reducible refine (number_calls n hn.1 hn.2 w1).mono ?_); rintro e w2 ⟨rfl, hb2⟩; have HB2 := Aside0.mk (below_then HB.out HB.out.size hb2); clear hb2))
    go_ret
    exact ⟨rfl, HB2.out⟩
  · by_cases hn : n = 1
    · subst hn
      obtain rfl : res = ⟨#[116, 114, 117, 101]⟩ := by rw [← HRES.out, HSH.out]; rfl
      go_wp2_with fail
      go_ret
      exact ⟨rfl, HB.out⟩
    · have b1 : (n == 1) = false := by simpa using hn
      obtain rfl : res = ⟨#[102, 97, 108, 115, 101]⟩ := by rw [← HRES.out, HSH.out]; simp [atomB, hn]
      clear hn
      go_wp2_with fail
      go_ret
      exact ⟨rfl, HB.out⟩
  · obtain rfl : res = ⟨(quoteB s.data.toList).toArray⟩ := by rw [← HRES.out, HSH.out]; rfl
    go_wp2_with (first | (go_at_call 16; (with_reducible refine (refQuote_calls w1 s (by have := HGD.out.str; dsimp only at this; omega)).mono ?_); rintro e w2 ⟨rfl, hb2⟩; have HB2 := Aside0.mk (below_then HB.out HB.out.size hb2); clear hb2))
    go_ret
    exact ⟨rfl, HB2.out⟩
  · obtain rfl : s = ⟨#[]⟩ := HGD.out.pr rfl
    have hr0 : res = ⟨(prB ps f n).toArray⟩ := by rw [← HRES.out, HSH.out]; rfl
    have HR0 := Aside0.mk hr0
    clear hr0
    have HAT := Aside0.mk (at_calls ps A c n w1 HC.out)
    generalize hat : atOf ps n = q at HAT
    have HQ := Aside0.mk hat
    clear hat
    obtain ⟨x, ok⟩ := q
    dsimp only [aggT] at HAT
    cases hp : pairAt ps n with
    | none =>
      have hq := HQ.out
      unfold atOf at hq
      rw [hp] at hq
      injection hq with hx ho
      subst hx ho
      obtain rfl : res = ⟨#[46, 46]⟩ := by
        rw [HR0.out]
        cases f with
        | zero => rfl
        | succ f => rw [prB_succ, hp]
      clear hp HQ
      have HB3 := Aside0.mk (below_alloc (Below.refl w1.heap.size w1) (.cells #[] 34))
      go_wp2_with (first | (go_at_call 20; (with_reducible refine HAT.out.mono ?_); rintro e w2 ⟨rfl, hb2⟩; have HB2 := Aside0.mk hb2; clear hb2))
      go_ret
      exact ⟨rfl, below_then HB.out HB.out.size (below_alloc HB2.out _)⟩
    | some p =>
      have hq := HQ.out
      unfold atOf at hq
      rw [hp] at hq
      injection hq with hx ho
      subst hx ho
      clear HQ
      by_cases h6 : 6 ≤ dp
      · have d6 : decide (6 ≤ dp) = true := decide_eq_true h6
        obtain rfl : res = ⟨#[46, 46]⟩ := by
          obtain rfl : f = 0 := by have := HDP.out; omega
          rw [HR0.out]; rfl
        clear hp
        go_wp2_with (first | (go_at_call 20; (with_reducible refine HAT.out.mono ?_); rintro e w2 ⟨rfl, hb2⟩; have HB2 := Aside0.mk hb2; clear hb2))
        go_ret
        exact ⟨rfl, below_then HB.out HB.out.size (below_alloc HB2.out _)⟩
      · have d6 : decide (6 ≤ dp) = false := decide_eq_false h6
        obtain ⟨f', rfl⟩ : ∃ f', f = f' + 1 := ⟨f - 1, by have := HDP.out; omega⟩
        rw [prB_succ, hp] at HR0
        obtain ⟨ga, gb_⟩ := HPS.out p (pairAt_mem hp)
        have hla := show_len HPS.out f' p.1 ga
        have hlb := show_len HPS.out f' p.2 gb_
        have hpw : 2 ^ (f' + 1) ≤ 2 ^ 6 := Nat.pow_le_pow_right (by decide) (by have := HF6.out; omega)
        have hA := Aside0.mk (show ∀ W, Below w1.heap.size w1 W → Calls Tryd.prog 13 #[.slice A (rowsOf ps).length c, .agg #[.int .u8 p.1.f0, .int .i64 p.1.f1, .string p.1.f2], .int .i64 (dp + 1)] W fun e w' => e = .returned (.string ⟨(showF ps f' p.1).toArray⟩) ∧ Below W.heap.size W w' from fun W hW => (HIH.out f' rfl).call A c p.1 W (dp + 1) ga (by have := HDP.out; omega) (Kd.C_below HC.out hW))
        have hB := Aside0.mk (show ∀ W, Below w1.heap.size w1 W → Calls Tryd.prog 13 #[.slice A (rowsOf ps).length c, .agg #[.int .u8 p.2.f0, .int .i64 p.2.f1, .string p.2.f2], .int .i64 (dp + 1)] W fun e w' => e = .returned (.string ⟨(showF ps f' p.2).toArray⟩) ∧ Below W.heap.size W w' from fun W hW => (HIH.out f' rfl).call A c p.2 W (dp + 1) gb_ (by have := HDP.out; omega) (Kd.C_below HC.out hW))
        have hsa : (⟨(showF ps f' p.1).toArray⟩ : ByteArray).size ≤ 20000000 := by rw [bytes_size]; omega
        have hsb : (⟨(showF ps f' p.2).toArray⟩ : ByteArray).size ≤ 20000000 := by rw [bytes_size]; omega
        have HRE := Aside0.mk (show res = ((((⟨#[40]⟩ : ByteArray) ++ ⟨(showF ps f' p.1).toArray⟩) ++ ⟨#[32, 46, 32]⟩) ++ ⟨(showF ps f' p.2).toArray⟩) ++ ⟨#[41]⟩ by
          rw [HR0.out]
          rw [show (⟨#[40]⟩ : ByteArray) = ⟨[40].toArray⟩ from rfl, show (⟨#[32, 46, 32]⟩ : ByteArray) = ⟨[32, 46, 32].toArray⟩ from rfl, show (⟨#[41]⟩ : ByteArray) = ⟨[41].toArray⟩ from rfl, bytes_app, bytes_app, bytes_app, bytes_app])
        clear hla hlb hpw HR0 hp ga gb_ HRES HSH
        generalize (⟨(showF ps f' p.1).toArray⟩ : ByteArray) = SA at hA hsa HRE
        generalize (⟨(showF ps f' p.2).toArray⟩ : ByteArray) = SB at hB hsb HRE
        have hwr : IntKind.i64.wrap (dp + 1) = dp + 1 := by simp [IntKind.wrap, IntKind.signed, IntKind.bits]; omega
        have z1 : ¬ 9223372036854775807 < 1 + SA.size := by omega
        have z2 : ¬ 9223372036854775807 < 1 + SA.size + 3 := by omega
        have z3 : ¬ 9223372036854775807 < 1 + SA.size + 3 + SB.size := by omega
        have z4 : ¬ 9223372036854775807 < 1 + SA.size + 3 + SB.size + 1 := by omega
        go_upto_region 16 with (first | (go_at_call 20; (with_reducible refine HAT.out.mono ?_); rintro e w2 ⟨rfl, hb2⟩; have HB2 := Aside0.mk hb2; clear hb2))
        have hx3 := blk_new w2 (.cells #[.int .u8 4, .int .u8 p.1.f0, .int .i64 p.1.f1, .string p.1.f2, .int .u8 p.2.f0, .int .i64 p.2.f1, .string p.2.f2, .int .i64 0] 34)
        have hb3 := below_alloc HB2.out (.cells #[.int .u8 4, .int .u8 p.1.f0, .int .i64 p.1.f1, .string p.1.f2, .int .u8 p.2.f0, .int .i64 p.2.f1, .string p.2.f2, .int .i64 0] 34)
        generalize w2.alloc _ = w3 at hx3 hb3 ⊢
        generalize w2.heap.size = gx at hx3 ⊢
        have HB3 := Aside0.mk hb3
        have S0 : w3.cell? ⟨gx, 1, none⟩ = some (.int .u8 p.1.f0) ∧ w3.cell? ⟨gx, 2, none⟩ = some (.int .i64 p.1.f1) ∧ w3.cell? ⟨gx, 3, none⟩ = some (.string p.1.f2) ∧ w3.cell? ⟨gx, 4, none⟩ = some (.int .u8 p.2.f0) ∧ w3.cell? ⟨gx, 5, none⟩ = some (.int .i64 p.2.f1) ∧ w3.cell? ⟨gx, 6, none⟩ = some (.string p.2.f2) := ⟨(blk_cell hx3 1).trans rfl, (blk_cell hx3 2).trans rfl, (blk_cell hx3 3).trans rfl, (blk_cell hx3 4).trans rfl, (blk_cell hx3 5).trans rfl, (blk_cell hx3 6).trans rfl⟩
        clear hx3 hb3
        obtain ⟨x1, x2, x3, x4, x5, x6⟩ := S0
        have S0 : w3.cell? ⟨gx, 1, none⟩ = some (.int .u8 p.1.f0) ∧ w3.cell? ⟨gx, 2, none⟩ = some (.int .i64 p.1.f1) ∧ w3.cell? ⟨gx, 3, none⟩ = some (.string p.1.f2) ∧ w3.cell? ⟨gx, 4, none⟩ = some (.int .u8 p.2.f0) ∧ w3.cell? ⟨gx, 5, none⟩ = some (.int .i64 p.2.f1) ∧ w3.cell? ⟨gx, 6, none⟩ = some (.string p.2.f2) := ⟨x1, x2, x3, x4, x5, x6⟩
        have HS0 := Aside0.mk S0
        clear S0
        go_region_with
          (first
          | (go_at_call 13; (with_reducible refine (hA.out w3.drew (below_drew HB3.out)).mono ?_); rintro e w5 ⟨rfl, hb5⟩; have HB5 := Aside0.mk (below_then (below_drew HB3.out) HB3.out.size hb5); have S5 : w5.cell? ⟨gx, 1, none⟩ = some (.int .u8 p.1.f0) ∧ w5.cell? ⟨gx, 2, none⟩ = some (.int .i64 p.1.f1) ∧ w5.cell? ⟨gx, 3, none⟩ = some (.string p.1.f2) ∧ w5.cell? ⟨gx, 4, none⟩ = some (.int .u8 p.2.f0) ∧ w5.cell? ⟨gx, 5, none⟩ = some (.int .i64 p.2.f1) ∧ w5.cell? ⟨gx, 6, none⟩ = some (.string p.2.f2) := (by exact ⟨(hb5.cell (World.block_lt_of_cell? _ _ HS0.out.1)).trans HS0.out.1, (hb5.cell (World.block_lt_of_cell? _ _ HS0.out.2.1)).trans HS0.out.2.1, (hb5.cell (World.block_lt_of_cell? _ _ HS0.out.2.2.1)).trans HS0.out.2.2.1, (hb5.cell (World.block_lt_of_cell? _ _ HS0.out.2.2.2.1)).trans HS0.out.2.2.2.1, (hb5.cell (World.block_lt_of_cell? _ _ HS0.out.2.2.2.2.1)).trans HS0.out.2.2.2.2.1, (hb5.cell (World.block_lt_of_cell? _ _ HS0.out.2.2.2.2.2)).trans HS0.out.2.2.2.2.2⟩); obtain ⟨y1, y2, y3, y4, y5, y6⟩ := S5; clear hb5)
          | (go_at_call 13; (with_reducible refine (hB.out w5 HB5.out).mono ?_); rintro e w6 ⟨rfl, hb6⟩; have HB6 := Aside0.mk (below_then HB5.out HB5.out.size hb6); clear hb6)
          | (go_at_call 13; (with_reducible refine (hB.out w3.drew (below_drew HB3.out)).mono ?_); rintro e w5 ⟨rfl, hb5⟩; have HB5 := Aside0.mk (below_then (below_drew HB3.out) HB3.out.size hb5); have S5 : w5.cell? ⟨gx, 1, none⟩ = some (.int .u8 p.1.f0) ∧ w5.cell? ⟨gx, 2, none⟩ = some (.int .i64 p.1.f1) ∧ w5.cell? ⟨gx, 3, none⟩ = some (.string p.1.f2) ∧ w5.cell? ⟨gx, 4, none⟩ = some (.int .u8 p.2.f0) ∧ w5.cell? ⟨gx, 5, none⟩ = some (.int .i64 p.2.f1) ∧ w5.cell? ⟨gx, 6, none⟩ = some (.string p.2.f2) := (by exact ⟨(hb5.cell (World.block_lt_of_cell? _ _ HS0.out.1)).trans HS0.out.1, (hb5.cell (World.block_lt_of_cell? _ _ HS0.out.2.1)).trans HS0.out.2.1, (hb5.cell (World.block_lt_of_cell? _ _ HS0.out.2.2.1)).trans HS0.out.2.2.1, (hb5.cell (World.block_lt_of_cell? _ _ HS0.out.2.2.2.1)).trans HS0.out.2.2.2.1, (hb5.cell (World.block_lt_of_cell? _ _ HS0.out.2.2.2.2.1)).trans HS0.out.2.2.2.2.1, (hb5.cell (World.block_lt_of_cell? _ _ HS0.out.2.2.2.2.2)).trans HS0.out.2.2.2.2.2⟩); obtain ⟨y1, y2, y3, y4, y5, y6⟩ := S5; clear hb5)
          | (go_at_call 13; (with_reducible refine (hA.out w5 HB5.out).mono ?_); rintro e w6 ⟨rfl, hb6⟩; have HB6 := Aside0.mk (below_then HB5.out HB5.out.size hb6); clear hb6))
        all_goals
          go_wp2_with fail
          go_ret
          exact ⟨by rw [HRE.out]; rfl, below_then HB.out HB.out.size HB6.out⟩
  · obtain rfl : res = ⟨#[35, 99, 101, 108, 108]⟩ := by rw [← HRES.out, HSH.out]; rfl
    go_wp2_with fail
    go_ret
    exact ⟨rfl, HB.out⟩
  · obtain rfl : res = ⟨#[35, 102, 117, 110]⟩ := by rw [← HRES.out, HSH.out]; rfl
    go_wp2_with fail
    go_ret
    exact ⟨rfl, HB.out⟩
  · have b0 : (t == 0) = false := by simpa using h0
    have b1 : (t == 1) = false := by simpa using h1
    have b2 : (t == 2) = false := by simpa using h2
    have b3 : (t == 3) = false := by simpa using h3
    have b4 : (t == 4) = false := by simpa using h4
    have b5 : (t == 5) = false := by simpa using h5
    have b6 : (t == 6) = false := by simpa using h6
    obtain rfl : res = ⟨#[35, 99, 111, 110, 116]⟩ := by rw [← HRES.out, HSH.out]; simp [atomB, h0, h1, h2, h3, h4, h5, h6]
    clear h0 h1 h2 h3 h4 h5 h6
    go_wp2_with fail
    go_ret
    exact ⟨rfl, HB.out⟩
theorem refShows {ps : List (S24 × S24)} (hps : ∀ p ∈ ps, Good p.1 ∧ Good p.2) : ∀ f, f ≤ 6 → RefOk ps f := by
  intro f
  induction f with
  | zero => intro hf; exact refShow_of hps hf (fun f' e => by cases e)
  | succ f ih => intro hf; exact refShow_of hps hf (fun f' e => by cases e; exact ih (by omega))
end Go.Proofs.YtobchfcabedmhaaDoor.NW
