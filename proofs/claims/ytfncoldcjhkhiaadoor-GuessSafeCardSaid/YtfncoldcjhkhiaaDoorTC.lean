/- guess.Pure at a word. -/
import Derived.Test.YtfncoldcjhkhiaaDoorTB
import Derived.Test.YtfncoldcjhkhiaaDoorKa
namespace Go.Proofs.YtfncoldcjhkhiaaDoor.NW
open Go.RowKit Go.Proofs.YtfncoldcjhkhiaaDoorW.PrintWords Go.Proofs.YtfncoldcjhkhiaaDoorW.PrintMore Go.Proofs.YtfncoldcjhkhiaaDoor.PC
set_option linter.unusedVariables false
set_option linter.unusedSimpArgs false
def anyS (l : List ByteArray) (x : ByteArray) : Bool := l.any fun y => x.toList == y.toList
theorem anyS_no {l : List ByteArray} {x : ByteArray} {i : Nat} (h : i < l.length) (h1 : anyS (l.take i) x = false) (h2 : (x.toList == l[i].toList) = false) : anyS (l.take (i + 1)) x = false := by
  unfold anyS at *
  rw [List.take_succ_eq_append_getElem h, List.any_append, h1]
  simp only [List.any_cons, List.any_nil, h2]; rfl
theorem anyS_yes {l : List ByteArray} {x : ByteArray} {i : Nat} (h : i < l.length) (h2 : (x.toList == l[i].toList) = true) : anyS l x = true := by
  unfold anyS
  rw [List.any_eq_true]
  exact ⟨l[i], List.getElem_mem h, h2⟩
theorem rdS_at {l : List ByteArray} {i : Nat} (h : i < l.length) : rdOf ByteArray.empty l (i : Int) = l[i] := by
  unfold rdOf
  rw [Int.toNat_natCast, List.getD_eq_getElem?_getD, List.getElem?_eq_getElem h]; rfl
def IdxSPost (l : List ByteArray) (x : ByteArray) (w : World) (e : Ending) (w' : World) : Prop := (∃ r : Int, e = .returned (.int .i64 r) ∧ decide (0 ≤ r) = anyS l x) ∧ w = w'
set_option maxHeartbeats 1600000 in
set_option maxRecDepth 100000 in
/-- slices.Index at texts -/
theorem indexS_calls (A : Option Addr) (c : Nat) (l : List ByteArray) (x : ByteArray) (w : World) (hr : Kd.C Kd.string w A l.length l) (hl : l.length ≤ 300) :
    Calls Tryd.prog 88 #[.slice A l.length c, .string x] w (IdxSPost l x w) := by
  have HR := Aside0.mk hr
  have hmx : (l.length : Int) ≤ 300 := by omega
  clear hr hl
  go_enter Tryd.func88, Tryd.ntmps88
  go_wp2_with fail
  go_loop [8] (fun s8 => ∃ i : Nat, i ≤ l.length ∧ s8 = .int .i64 (i : Int) ∧ Aside0 (anyS (l.take i) x = false)) (fun s8 => l.length - (intOf s8).toNat)
  case atStart => exact ⟨0, by omega, rfl, ⟨by rw [List.take_zero]; rfl⟩⟩
  case round =>
    obtain ⟨i, hi, rfl, hno⟩ := hrel
    by_cases hlt : i < l.length
    · obtain ⟨ad, ea, hx⟩ := Kd.at_string HR.out (i : Int) (by omega) (by omega)
      subst ea
      rw [rdS_at hlt, Int.toNat_natCast] at hx
      obtain ⟨y, hy⟩ : ∃ y, l[i] = y := ⟨_, rfl⟩
      rw [hy] at hx
      have b0 : (0 : Int) ≤ (i : Int) := by omega
      have b1 : (i : Int) < (l.length : Int) := by omega
      cases d : (x.toList == y.toList) with
      | true =>
        have HD := Aside0.mk (show decide (0 ≤ (i : Int)) = anyS l x by rw [decide_eq_true b0, anyS_yes hlt (by rw [hy]; exact d)])
        clear hy hlt hi
        go_wp2_with fail
        go_ret
        exact ⟨⟨_, rfl, HD.out⟩, rfl⟩
      | false =>
        have HN := Aside0.mk (anyS_no hlt hno.out (by rw [hy]; exact d))
        have HI := Aside0.mk (show i + 1 ≤ l.length from hlt)
        clear hy hlt hi
        go_wp2_with fail
        go_round
        case rel => exact ⟨i + 1, HI.out, by go_num, HN⟩
        case measure => have := HI.out; simp [intOf]; omega
    · obtain rfl : i = l.length := by omega
      have HD := Aside0.mk (show decide (0 ≤ (-1 : Int)) = anyS l x by have := hno.out; rw [List.take_length] at this; rw [this]; rfl)
      clear hlt hi
      go_wp2_with fail
      go_ret
      exact ⟨⟨_, rfl, HD.out⟩, rfl⟩
set_option maxHeartbeats 1600000 in
set_option maxRecDepth 100000 in
/-- slices.Contains at texts -/
theorem containsS_calls (A : Option Addr) (c : Nat) (l : List ByteArray) (x : ByteArray) (w : World) (hr : Kd.C Kd.string w A l.length l) (hl : l.length ≤ 300) :
    Calls Tryd.prog 72 #[.slice A l.length c, .string x] w fun e w' => e = .returned (.bool (anyS l x)) ∧ w = w' := by
  have HI := Aside0.mk (indexS_calls A c l x w hr hl)
  obtain ⟨r, hrr⟩ : ∃ r, anyS l x = r := ⟨_, rfl⟩
  rw [hrr]
  have HRR := Aside0.mk hrr
  clear hr hl hrr
  go_enter Tryd.func72, Tryd.ntmps72
  go_wp2_with (go_at_call 88; refine HI.out.mono ?_; rintro e w' ⟨⟨q, rfl, hq⟩, rfl⟩; rw [HRR.out] at hq)
  go_ret
  exact ⟨rfl, rfl⟩
def badL : List ByteArray := [⟨#[105, 110]⟩, ⟨#[111, 117, 116]⟩, ⟨#[112, 97, 105, 114]⟩, ⟨#[102, 115, 116]⟩, ⟨#[115, 110, 100]⟩, ⟨#[99, 101, 108, 108]⟩, ⟨#[103, 101, 116]⟩, ⟨#[115, 101, 116]⟩]
theorem bad_word : ∀ i : Fin 32, anyS badL (rdOf ByteArray.empty wordsL ((i.val : Nat) : Int)) = !Pure.pureW ((i.val : Nat) : Int) := by decide +kernel
theorem lit_S (xs : List ByteArray) (hn : xs.length ≤ 1000) (W : World) : Kd.C Kd.string (W.alloc (.cells (xs.map Value.string).toArray 9)) (some ⟨W.heap.size, 0, none⟩) xs.length xs := by
  have h2 := World.ownsRow_lit (base := 0) (e := 9) (size := 1) W (xs.map Value.string).toArray xs.length (Nat.zero_le _) (by unfold maxLen; omega) (by simp)
  have hR : Kd.string.R 9 (W.alloc (.cells (xs.map Value.string).toArray 9)) 0 (fun _ => True) (.slice (some ⟨W.heap.size, 0, none⟩) xs.length xs.length) xs := Kd.R_of_own (by simpa [encs] using h2) (fun _ _ => trivial)
  exact (Kd.R_reads' hR).2.2
set_option maxHeartbeats 1600000 in
set_option maxRecDepth 100000 in
/-- guess.Pure at a word -/
theorem pureW_calls (m0 m1 m2 m3 : Value) (a : Int) (ha : 0 ≤ a ∧ a < 32) (w : World) (hM : MaxOk w) :
    Calls Tryd.prog 37 #[.agg #[m0, m1, m2, m3], .agg #[.int .u8 16, .int .i64 a]] w fun e w' => e = .returned (.bool (Pure.pureW a)) ∧ Below w.heap.size w w' := by
  have hA := below_alloc ((Below.refl w.heap.size w).alloc (Nat.le_refl _) (.cells #[m0, m1, m2, m3] 30 (0, 0))) (.cells #[.int .u8 16, .int .i64 a] 32 (0, 0))
  have hX := blk_new2 w (.cells #[m0, m1, m2, m3] 30 (0, 0)) (.cells #[.int .u8 16, .int .i64 a] 32 (0, 0))
  have HA := Aside0.mk hA
  have HX := Aside0.mk hX
  have HMX := Aside0.mk (hM.below hA)
  have a0 := ha.1
  have a1 := ha.2
  have hb := bad_word ⟨a.toNat, by omega⟩
  rw [show (((⟨a.toNat, by omega⟩ : Fin 32).val : Nat) : Int) = a by simp only []; omega] at hb
  obtain ⟨r, hrr⟩ : ∃ r, Pure.pureW a = r := ⟨_, rfl⟩
  rw [hrr] at hb ⊢
  have HB := Aside0.mk hb
  have d0 : decide (a < 0) = false := decide_eq_false (by omega)
  have d1 : decide (32 ≤ a) = false := decide_eq_false (by omega)
  have d2 : a < 32 := a1
  clear ha hA hX hM hb hrr
  go_enter Tryd.func37, Tryd.ntmps37
  go_wp2_with (first | (go_at_call 16; refine (code_Words.calls wordsL _ HMX.out rfl).mono ?_; rintro e w1 ⟨v, rfl, hr, hb1⟩; obtain ⟨gw, cw, ev, _⟩ := Kd.R_form hr (by decide); rw [show wordsL.length = 32 from rfl] at ev; subst ev; have HB1 := Aside0.mk (below_then HA.out HA.out.size hb1); have x1 : w1.cell? ⟨w.heap.size + 1, 1, none⟩ = some (.int .i64 a) := (blk_cell (blk_below HX.out hb1) 1).trans rfl; have hL : Kd.C Kd.string (w1.alloc (.cells #[.string ⟨#[105, 110]⟩, .string ⟨#[111, 117, 116]⟩, .string ⟨#[112, 97, 105, 114]⟩, .string ⟨#[102, 115, 116]⟩, .string ⟨#[115, 110, 100]⟩, .string ⟨#[99, 101, 108, 108]⟩, .string ⟨#[103, 101, 116]⟩, .string ⟨#[115, 101, 116]⟩] 9 (0, 0))) (some ⟨w1.heap.size, 0, none⟩) badL.length badL := lit_S badL (by decide) w1; have hR2 := Kd.R_below hr (below_alloc (Below.refl w1.heap.size w1) (.cells #[.string ⟨#[105, 110]⟩, .string ⟨#[111, 117, 116]⟩, .string ⟨#[112, 97, 105, 114]⟩, .string ⟨#[102, 115, 116]⟩, .string ⟨#[115, 110, 100]⟩, .string ⟨#[99, 101, 108, 108]⟩, .string ⟨#[103, 101, 116]⟩, .string ⟨#[115, 101, 116]⟩] 9 (0, 0))); have c1 := (Kd.R_celln ByteArray.empty hR2 a a0 d2).1; have x2 := ((below_alloc (Below.refl w1.heap.size w1) (.cells #[.string ⟨#[105, 110]⟩, .string ⟨#[111, 117, 116]⟩, .string ⟨#[112, 97, 105, 114]⟩, .string ⟨#[102, 115, 116]⟩, .string ⟨#[115, 110, 100]⟩, .string ⟨#[99, 101, 108, 108]⟩, .string ⟨#[103, 101, 116]⟩, .string ⟨#[115, 101, 116]⟩] 9 (0, 0))).cell (World.block_lt_of_cell? _ _ x1)).trans x1; have HL := Aside0.mk hL; clear hr hb1 hL hR2) | (go_at_call 72; go_loud (refine (containsS_calls _ 8 badL _ _ HL.out (by decide)).mono ?_); rintro e w2 ⟨rfl, rfl⟩; rw [HB.out]))
  go_ret
  exact ⟨by simp, below_alloc HB1.out _⟩
end Go.Proofs.YtfncoldcjhkhiaaDoor.NW
