/- shower.value: what it writes. -/
import Derived.Test.YtobchfcabedmhaaDoorHd
import Derived.Lib.AppendIntMem
namespace Go.Proofs.YtobchfcabedmhaaDoor.NW
open Go.RowKit Go.Proofs.YtobchfcabedmhaaDoorW.PrintWords Go.Proofs.YtobchfcabedmhaaDoor.PS
set_option linter.unusedVariables false
set_option linter.unusedSimpArgs false
def PowOk (w : World) : Prop := Lib.TabIs Tryd.prog w "internal/strconv.uint64pow10" .u64 Lib.pow10Tab
theorem PowOk.below {w w' : World} (h : PowOk w) (hb : Below w.heap.size w w') : PowOk w' := by
  have hg : Tryd.prog.globalNamed "internal/strconv.uint64pow10" = some 0 := by kernel_rfl
  unfold PowOk Lib.TabIs World.var? at h ⊢
  rw [hg] at h ⊢
  simp only [Option.bind_some] at h ⊢
  have hlt : 0 < w.heap.size := by
    rcases Nat.lt_or_ge 0 w.heap.size with h' | h'
    · exact h'
    · rw [Array.getElem?_eq_none h'] at h; cases h
  rw [hb.block 0 hlt]
  exact h
theorem PowOk.tab {w : World} (h : PowOk w) : Lib.TabIs Tryd.prog w "internal/strconv.uint64pow10" .u64 Lib.pow10Tab := h
theorem fmtInt_calls (n : Int) (h0 : -9223372036854775808 ≤ n) (h1 : n ≤ 9223372036854775807) (w : World) (h : PowOk w) : Calls Tryd.prog 24 #[.int .i64 n, .int .i64 10] w fun e w' => e = .returned (.string ⟨(Lib.itoa n).toArray⟩) ∧ Below w.heap.size w w' :=
  (Tryd.strconv_FormatInt_10 n h0 h1 w h.tab).mono fun e w' ⟨he, kk, oo, hw⟩ => ⟨he, by rw [hw]; exact Lib.below_grow _ w (Nat.le_refl _) kk oo⟩
theorem bytes_size (l : List UInt8) : (⟨l.toArray⟩ : ByteArray).size = l.length := by simp [ByteArray.size]
def prB (ps : List (S24 × S24)) : Nat → Int → List UInt8
  | 0, _ => [46, 46]
  | f + 1, n => match pairAt ps n with
    | none => [46, 46]
    | some p => [40] ++ showF ps f p.1 ++ [32, 46, 32] ++ showF ps f p.2 ++ [41]
theorem showF_eq (ps : List (S24 × S24)) : ∀ (f : Nat) (v : S24), showF ps f v = atomB v (prB ps f v.f1)
  | 0, _ => rfl
  | _ + 1, _ => rfl
def ValOk (hv : Value) (ps : List (S24 × S24)) (w0 : World) (g f : Nat) : Prop := ∀ (v : S24) (v0 : Value) (l : List UInt8) (w : World) (dp : Int), Good v → dp = 6 - (f : Int) → Below w0.heap.size w0 w → ShAt w0.heap.size g hv v0 l w → l.length + 300000 * 2 ^ (f + 1) ≤ 700000000 →
  Calls Tryd.prog 18 #[.pointer (some ⟨g, 0, none⟩), .agg #[.int .u8 v.f0, .int .i64 v.f1, .string v.f2], .int .i64 dp] w fun e w' => e = .returned (.tuple #[]) ∧ Wrote w0.heap.size g hv v0 (l ++ showF ps f v) w w'
def PairOk (hv : Value) (ps : List (S24 × S24)) (w0 : World) (g f : Nat) : Prop := ∀ (n : Int) (v0 : Value) (l : List UInt8) (w : World) (dq : Int), dq = 7 - (f : Int) → Below w0.heap.size w0 w → ShAt w0.heap.size g hv v0 l w → l.length + 300000 * 2 ^ (f + 1) ≤ 700000000 →
  Calls Tryd.prog 26 #[.pointer (some ⟨g, 0, none⟩), .agg #[.int .u8 4, .int .i64 n, .string ⟨#[]⟩], .int .i64 dq] w fun e w' => e = .returned (.tuple #[]) ∧ Wrote w0.heap.size g hv v0 (l ++ prB ps f n) w w'
theorem PairOk.call {hv : Value} {ps : List (S24 × S24)} {w0 : World} {g f : Nat} (h : PairOk hv ps w0 g f) (n : Int) (v0 : Value) (l : List UInt8) (w : World) (dq : Int) (h1 : dq = 7 - (f : Int)) (h2 : Below w0.heap.size w0 w) (h3 : ShAt w0.heap.size g hv v0 l w) (h4 : l.length + 300000 * 2 ^ (f + 1) ≤ 700000000) :
  Calls Tryd.prog 26 #[.pointer (some ⟨g, 0, none⟩), .agg #[.int .u8 4, .int .i64 n, .string ⟨#[]⟩], .int .i64 dq] w fun e w' => e = .returned (.tuple #[]) ∧ Wrote w0.heap.size g hv v0 (l ++ prB ps f n) w w' := h n v0 l w dq h1 h2 h3 h4
theorem ValOk.call {hv : Value} {ps : List (S24 × S24)} {w0 : World} {g f : Nat} (h : ValOk hv ps w0 g f) (v : S24) (v0 : Value) (l : List UInt8) (w : World) (dp : Int) (h0 : Good v) (h1 : dp = 6 - (f : Int)) (h2 : Below w0.heap.size w0 w) (h3 : ShAt w0.heap.size g hv v0 l w) (h4 : l.length + 300000 * 2 ^ (f + 1) ≤ 700000000) :
  Calls Tryd.prog 18 #[.pointer (some ⟨g, 0, none⟩), .agg #[.int .u8 v.f0, .int .i64 v.f1, .string v.f2], .int .i64 dp] w fun e w' => e = .returned (.tuple #[]) ∧ Wrote w0.heap.size g hv v0 (l ++ showF ps f v) w w' := h v v0 l w dp h0 h1 h2 h3 h4
set_option maxHeartbeats 3200000 in
set_option maxRecDepth 1000000 in
theorem value_of {hv : Value} {ps : List (S24 × S24)} {w0 : World} {g f : Nat} (hP : PowOk w0) (hf : f ≤ 6) (hpr : PairOk hv ps w0 g f) : ValOk hv ps w0 g f := by
  intro v v0 l w dp hgd hdp hb hs hl
  obtain ⟨t, n, s⟩ := v
  have HSH := Aside0.mk (showF_eq ps f ⟨t, n, s⟩)
  have HGD := Aside0.mk hgd
  have hl0 : l.length ≤ 700000000 := by omega
  have HL := Aside0.mk hl
  have HL0 := Aside0.mk hl0
  have hba := below_alloc (Below.refl w.heap.size w) (.cells #[.int .u8 t, .int .i64 n, .string s] 24)
  have HI := Aside0.mk (blk_new w (.cells #[.int .u8 t, .int .i64 n, .string s] 24))
  have HS := Aside0.mk (Wrote.start (hs.below hba))
  have HPRE := Aside0.mk (show ∀ l2 w5, Wrote w0.heap.size g hv v0 l2 (w.alloc (.cells #[.int .u8 t, .int .i64 n, .string s] 24)) w5 → Wrote w0.heap.size g hv v0 l2 w w5 from fun l2 w5 h => Wrote.pre hba h)
  have HNE := Aside0.mk (show w.heap.size < (w.alloc (.cells #[.int .u8 t, .int .i64 n, .string s] 24)).heap.size ∧ w.heap.size ≠ g ∧ some w.heap.size ≠ v0.ownBlock from ⟨by rw [World.size_alloc]; omega, by have := hs.lt; omega, fun e => by have := (hs.row e.symm).2; omega⟩)
  have hw1 := below_then hb hb.size hba
  have HW := Aside0.mk hw1
  have HP := Aside0.mk ((hP.below hb).below hba)
  have HDP := Aside0.mk hdp
  have hd6 : 0 ≤ dp ∧ dp ≤ 6 := by omega
  have HPR := Aside0.mk hpr
  clear hgd hl hl0 hs hb hw1 hP hdp hpr hba
  go_enter Tryd.func18, Tryd.ntmps18
  go_upto_region 1 with fail
  generalize w.alloc (.cells #[.int .u8 t, .int .i64 n, .string s] 24) = w1 at HI HS HW HP HPRE HNE ⊢
  generalize w.heap.size = gb at HI HNE ⊢
  have c0 := (blk_cell HI.out 0).trans rfl
  have c1 := (blk_cell HI.out 1).trans rfl
  have c2 := (blk_cell HI.out 2).trans rfl
  have ht : t = 0 ∨ t = 1 ∨ t = 2 ∨ t = 3 ∨ t = 4 ∨ t = 5 ∨ t = 6 ∨ (t ≠ 0 ∧ t ≠ 1 ∧ t ≠ 2 ∧ t ≠ 3 ∧ t ≠ 4 ∧ t ≠ 5 ∧ t ≠ 6) := by omega
  rcases ht with rfl | rfl | rfl | rfl | rfl | rfl | rfl | ⟨h0, h1, h2, h3, h4, h5, h6⟩
  · go_wp2_with (first | (go_at_call 23; (with_reducible refine (writeString_on HS.out ⟨#[40, 41]⟩ (by decide) (by have := HL0.out; omega)).mono ?_); rintro e w5 ⟨⟨rr, rfl⟩, hw5⟩; have HW5 := Aside0.mk hw5; clear hw5))
    go_end0
    exact ⟨rfl, by rw [HSH.out]; exact HPRE.out _ _ HW5.out⟩
  · have S0 : w1.cell? ⟨gb, 1, none⟩ = some (.int .i64 n) := c1
    have hn := HGD.out.num
    go_upto_region 6 with fail
    go_region_held3 (fun W' => W'.cell? ⟨gb, 1, none⟩ = some (.int .i64 n)) (first | exact S0 | exact S2 | exact S5 | fail)
      (first
      | (go_at_call 24; (with_reducible refine (fmtInt_calls n hn.1 hn.2 w1.drew (HP.out.below (below_drew (Below.refl _ _)))).mono ?_); rintro e w2 ⟨rfl, hb2⟩; have HB2 := Aside0.mk ((below_drew (Below.refl w1.heap.size w1)).trans hb2); have S2 : w2.cell? ⟨gb, 1, none⟩ = some (.int .i64 n) := (HB2.out.cell (World.block_lt_of_cell? _ _ S0)).trans S0; clear hb2)
      | (go_at_call 23; (with_reducible refine (writeString_on (HS.out.post HB2.out) ⟨(Lib.itoa n).toArray⟩ (by have := itoa_len n hn; rw [bytes_size]; omega) (by have := HL0.out; omega)).mono ?_); rintro e w5 ⟨⟨rr, rfl⟩, hw5⟩; have HW5 := Aside0.mk hw5; have S5 : w5.cell? ⟨gb, 1, none⟩ = some (.int .i64 n) := (by exact cell_same (HW5.out.keeps HNE.out.1 HNE.out.2.1 HNE.out.2.2) c1); clear hw5))
    all_goals
      go_end0
      exact ⟨rfl, by rw [HSH.out]; exact HPRE.out _ _ HW5.out⟩
  · have S0 : w1.cell? ⟨gb, 1, none⟩ = some (.int .i64 n) := c1
    go_upto_region 8 with fail
    go_region_held3 (fun W' => W'.cell? ⟨gb, 1, none⟩ = some (.int .i64 n)) (first | exact S0 | exact S2 | exact S5 | fail)
      (first
      | (go_at_call 25; (with_reducible refine (Tryd.strconv_FormatBool (n == 1) w1.drew).mono ?_); rintro e w2 ⟨rfl, rfl⟩; have S2 : w1.drew.cell? ⟨gb, 1, none⟩ = some (.int .i64 n) := S0)
      | (go_at_call 23; (with_reducible refine (writeString_on HS.out.drew ⟨(Lib.formatBool (n == 1)).toArray⟩ (by cases n == 1 <;> decide) (by have := HL0.out; omega)).mono ?_); rintro e w5 ⟨⟨rr, rfl⟩, hw5⟩; have HW5 := Aside0.mk hw5; have S5 : w5.cell? ⟨gb, 1, none⟩ = some (.int .i64 n) := (by exact cell_same (HW5.out.keeps HNE.out.1 HNE.out.2.1 HNE.out.2.2) c1); clear hw5))
    all_goals
      go_end0
      refine ⟨rfl, ?_⟩
      rw [HSH.out]
      have h := HPRE.out _ _ HW5.out
      by_cases hn : n = 1
      · subst hn; exact h
      · rw [show (n == 1) = false by simpa using hn] at h
        rw [show atomB ⟨2, n, s⟩ (prB ps f n) = [102, 97, 108, 115, 101] by simp [atomB, hn]]
        exact h
  · go_wp2_with (first | (go_at_call 22; (with_reducible refine (Wrote.on HS.out (E := fun e => e = .returned (.tuple #[])) (fun v' hv' => quote_calls hv' s (by have := HGD.out.str; dsimp only at this; omega) (by have := HL0.out; omega))).mono ?_); rintro e w5 ⟨rfl, hw5⟩; have HW5 := Aside0.mk hw5; clear hw5))
    go_end0
    exact ⟨rfl, by rw [HSH.out]; exact HPRE.out _ _ HW5.out⟩
  · have hs0 : s = ⟨#[]⟩ := HGD.out.pr rfl
    subst hs0
    go_wp2_with (first | (go_at_call 26; (with_reducible refine (Wrote.on HS.out (E := fun e => e = .returned (.tuple #[])) (fun v' hv' => HPR.out.call n v' l w1 (dp + 1) (by have := HDP.out; omega) HW.out hv' HL.out)).mono ?_); rintro e w5 ⟨rfl, hw5⟩; have HW5 := Aside0.mk hw5; clear hw5))
    go_end0
    exact ⟨rfl, by rw [HSH.out]; exact HPRE.out _ _ HW5.out⟩
  · go_wp2_with (first | (go_at_call 23; (with_reducible refine (writeString_on HS.out ⟨#[35, 99, 101, 108, 108]⟩ (by decide) (by have := HL0.out; omega)).mono ?_); rintro e w5 ⟨⟨rr, rfl⟩, hw5⟩; have HW5 := Aside0.mk hw5; clear hw5))
    go_end0
    exact ⟨rfl, by rw [HSH.out]; exact HPRE.out _ _ HW5.out⟩
  · go_wp2_with (first | (go_at_call 23; (with_reducible refine (writeString_on HS.out ⟨#[35, 102, 117, 110]⟩ (by decide) (by have := HL0.out; omega)).mono ?_); rintro e w5 ⟨⟨rr, rfl⟩, hw5⟩; have HW5 := Aside0.mk hw5; clear hw5))
    go_end0
    exact ⟨rfl, by rw [HSH.out]; exact HPRE.out _ _ HW5.out⟩
  · have b0 : (t == 0) = false := by simpa using h0
    have b1 : (t == 1) = false := by simpa using h1
    have b2 : (t == 2) = false := by simpa using h2
    have b3 : (t == 3) = false := by simpa using h3
    have b4 : (t == 4) = false := by simpa using h4
    have b5 : (t == 5) = false := by simpa using h5
    have b6 : (t == 6) = false := by simpa using h6
    have HX := Aside0.mk (show atomB ⟨t, n, s⟩ (prB ps f n) = [35, 99, 111, 110, 116] by simp [atomB, h0, h1, h2, h3, h4, h5, h6])
    clear h0 h1 h2 h3 h4 h5 h6
    go_wp2_with (first | (go_at_call 23; (with_reducible refine (writeString_on HS.out ⟨#[35, 99, 111, 110, 116]⟩ (by decide) (by have := HL0.out; omega)).mono ?_); rintro e w5 ⟨⟨rr, rfl⟩, hw5⟩; have HW5 := Aside0.mk hw5; clear hw5))
    go_end0
    exact ⟨rfl, by rw [HSH.out]; rw [HX.out]; exact HPRE.out _ _ HW5.out⟩
end Go.Proofs.YtobchfcabedmhaaDoor.NW
