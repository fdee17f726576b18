/- shower.quote: a text in quotes. -/
import Derived.Test.YtobchfcabedmhaaDoorHb
import Derived.Lib.ConvBytes
import Derived.Laws.BitsLemmas
import Derived.Deep.QuietTactic
import Derived.BigQuiet
import Derived.Deep.CutRange
import Derived.Deep.RegionHeld3
import Derived.Test.YtobchfcabedmhaaDoorWMore
namespace Go.Proofs.YtobchfcabedmhaaDoor.NW
open Go.RowKit Go.Proofs.YtobchfcabedmhaaDoorW.PrintWords
set_option linter.unusedVariables false
set_option linter.unusedSimpArgs false
section
variable {B g : Nat} {hv v : Value} {l l1 : List UInt8} {w w0 w1 : World}
theorem Wrote.start (h : ShAt B g hv v l w) : Wrote B g hv v l w w := ⟨v, h, ⟨rfl, rfl, rfl, Nat.le_refl _, fun _ _ _ _ => rfl⟩, .inl rfl⟩
theorem Wrote.on {f : Nat} {args : Array Value} {E : Ending → Prop} {l2 : List UInt8} (h : Wrote B g hv v l1 w0 w) (k : ∀ v', ShAt B g hv v' l1 w → Calls Tryd.prog f args w fun e w' => E e ∧ Wrote B g hv v' l2 w w') :
    Calls Tryd.prog f args w fun e w' => E e ∧ Wrote B g hv v l2 w0 w' := by
  obtain ⟨v', h1, h2, h3⟩ := h
  exact (k v' h1).mono fun e w' ⟨he, hw⟩ => ⟨he, hw.then_ h1 h2 h3⟩
theorem writeByte_on (h : Wrote B g hv v l1 w0 w) (c : Int) (c0 : 0 ≤ c) (c1 : c < 256) (hl : l1.length ≤ 1000000000) :
    Calls Tryd.prog 27 #[.pointer (some ⟨g, 1, none⟩), .int .u8 c] w fun e w' => e = .returned .nilIface ∧ Wrote B g hv v (l1 ++ [c.toNat.toUInt8]) w0 w' := h.on (E := fun e => e = .returned .nilIface) fun v' hv' => writeByte_calls hv' c c0 c1 hl
theorem writeU8_on (h : Wrote B g hv v l1 w0 w) (c : UInt8) (hl : l1.length ≤ 1000000000) :
    Calls Tryd.prog 27 #[.pointer (some ⟨g, 1, none⟩), .int .u8 c.toNat] w fun e w' => e = .returned .nilIface ∧ Wrote B g hv v (l1 ++ [c]) w0 w' := by
  have := writeByte_on h (c.toNat : Int) (by omega) (by have := c.toNat_lt; omega) hl
  rwa [show (c.toNat : Int).toNat.toUInt8 = c by simp] at this
theorem writeString_on (h : Wrote B g hv v l1 w0 w) (s : ByteArray) (hs : s.size ≤ 1000000) (hl : l1.length ≤ 1000000000) :
    Calls Tryd.prog 23 #[.pointer (some ⟨g, 1, none⟩), .string s] w fun e w' => (∃ r, e = .returned r) ∧ Wrote B g hv v (l1 ++ s.data.toList) w0 w' := h.on (E := fun e => ∃ r, e = .returned r) fun v' hv' => writeString_calls hv' s hs hl
theorem Wrote.drew (h : Wrote B g hv v l1 w0 w) : Wrote B g hv v l1 w0 w.drew := h.post (below_drew (Below.refl _ _))
theorem Wrote.keeps (h : Wrote B g hv v l1 w0 w) {k : Nat} (hk : k < w0.heap.size) (hg : k ≠ g) (hv : some k ≠ v.ownBlock) : w.heap[k]? = w0.heap[k]? := by
  obtain ⟨v', _, h2, _⟩ := h
  exact h2.block k hk hg hv
end
def hexB (n : UInt8) : UInt8 := if n < 10 then 48 + n else 87 + n
def escB (c : UInt8) : List UInt8 := if c = 34 ∨ c = 92 then [92, c] else if 32 ≤ c ∧ c ≤ 126 then [c] else [92, 120, hexB (c / 16), hexB (c % 16)]
def quoteB (l : List UInt8) : List UInt8 := 34 :: l.flatMap escB ++ [34]
theorem escB_len (c : UInt8) : 1 ≤ (escB c).length ∧ (escB c).length ≤ 4 := by
  unfold escB; split
  · simp
  · split <;> simp
theorem hexAt : ∀ n : Fin 16, (⟨#[48, 49, 50, 51, 52, 53, 54, 55, 56, 57, 97, 98, 99, 100, 101, 102]⟩ : ByteArray)[n.val]'(n.isLt) = hexB n.val.toUInt8 := by decide +kernel
theorem hex_of (c d : UInt8) (i : Int) (hi : i.toNat = d.toNat) (hd : d.toNat < 16) (h : i.toNat < (⟨#[48, 49, 50, 51, 52, 53, 54, 55, 56, 57, 97, 98, 99, 100, 101, 102]⟩ : ByteArray).size) : (⟨#[48, 49, 50, 51, 52, 53, 54, 55, 56, 57, 97, 98, 99, 100, 101, 102]⟩ : ByteArray)[i.toNat]'h = hexB d := by
  have := hexAt ⟨d.toNat, hd⟩
  simp only [hi]
  rw [this]
  congr 1
  simp
theorem hex_hi (c : UInt8) (h : ((c.toNat : Int) / 16).toNat < (⟨#[48, 49, 50, 51, 52, 53, 54, 55, 56, 57, 97, 98, 99, 100, 101, 102]⟩ : ByteArray).size) : (⟨#[48, 49, 50, 51, 52, 53, 54, 55, 56, 57, 97, 98, 99, 100, 101, 102]⟩ : ByteArray)[((c.toNat : Int) / 16).toNat]'h = hexB (c / 16) := by
  have h1 := c.toNat_lt
  have h2 : (c / 16).toNat = c.toNat / 16 := by rw [UInt8.toNat_div]; rfl
  exact hex_of c (c / 16) _ (by omega) (by omega) h
theorem hex_lo (c : UInt8) (h : ((c.toNat : Int) % 16).toNat < (⟨#[48, 49, 50, 51, 52, 53, 54, 55, 56, 57, 97, 98, 99, 100, 101, 102]⟩ : ByteArray).size) : (⟨#[48, 49, 50, 51, 52, 53, 54, 55, 56, 57, 97, 98, 99, 100, 101, 102]⟩ : ByteArray)[((c.toNat : Int) % 16).toNat]'h = hexB (c % 16) := by
  have h1 := c.toNat_lt
  have h2 : (c % 16).toNat = c.toNat % 16 := by rw [UInt8.toNat_mod]; rfl
  exact hex_of c (c % 16) _ (by omega) (by omega) h
theorem flat_len (l : List UInt8) : (l.flatMap escB).length ≤ 4 * l.length := by
  induction l with
  | nil => simp
  | cons c l ih => rw [List.flatMap_cons, List.length_append, List.length_cons]; have := (escB_len c).2; omega
set_option maxHeartbeats 3200000 in
set_option maxRecDepth 1000000 in
theorem quote_calls {B g : Nat} {hv v : Value} {l : List UInt8} {w : World} (h : ShAt B g hv v l w) (s : ByteArray) (hs : s.size ≤ 100000) (hl : l.length ≤ 800000000) :
    Calls Tryd.prog 22 #[.pointer (some ⟨g, 0, none⟩), .string s] w fun e w' => e = .returned (.tuple #[]) ∧ Wrote B g hv v (l ++ quoteB s.data.toList) w w' := by
  have H := Aside0.mk (writeByte_on (Wrote.start h) 34 (by decide) (by decide) (by omega))
  have HL := Aside0.mk hl
  have HS := Aside0.mk hs
  have HSZ := Aside0.mk (show s.data.toList.length = s.size from rfl)
  clear h hl
  go_enter Tryd.func22, Tryd.ntmps22
  go_upto_region 1 with (first | (go_at_call 27; (with_reducible refine H.out.mono ?_); rintro e w1 ⟨rfl, hw⟩; have HW := Aside0.mk hw; clear hw))
  have hconv := Lib.run_convert_string_bytes (P := Tryd.prog) w1 9 54 5 s Tryd.underlying9 Tryd.underlying54 Tryd.underlying5
  go_upto_region 2 with fail
  obtain ⟨v1, hv1, hf1, ho1⟩ := HW.out
  have hb2 := bytes_below (Below.refl w1.heap.size w1) (Nat.le_refl _) 5 s
  have hr2 : ∀ j (hj : j < s.data.toList.length), (Lib.bytesWorld w1 5 s).cell? ⟨w1.heap.size, j, none⟩ = some (.int .u8 (s.data.toList[j]).toNat) := fun j hj => by
    rw [Lib.bytesWorld_cell w1 5 s j hj, List.getD_eq_getElem?_getD, List.getElem?_eq_getElem hj]; rfl
  have hz2 := Lib.bytesWorld_size w1 5 s
  have HV1 := Aside0.mk hv1
  have HF1 := Aside0.mk hf1
  have HO1 := Aside0.mk ho1
  have HB2 := Aside0.mk hb2
  have HR2 := Aside0.mk hr2
  have HZ2 := Aside0.mk hz2
  have HW2 := Aside0.mk (Wrote.start (hv1.below hb2))
  clear hv1 hf1 ho1 hb2 hr2 hz2 hconv
  generalize Lib.bytesWorld w1 5 s = w2 at HB2 HR2 HZ2 HW2 ⊢
  have HK := Aside0.mk (show ∀ wr l2, Wrote B g hv v1 l2 w2 wr → ∀ j (hj : j < s.data.toList.length), wr.cell? ⟨w1.heap.size, j, none⟩ = some (.int .u8 (s.data.toList[j]).toNat) from by
    intro wr l2 hwr j hj
    refine cell_same (hwr.keeps (k := w1.heap.size) ?_ ?_ ?_) (HR2.out j hj)
    · have := HZ2.out; omega
    · have := HV1.out.lt; omega
    · intro e; have := (HV1.out.row e.symm).2; omega)
  generalize hkb : w1.heap.size = kb at HK ⊢
  clear hkb
  have HSS := Aside0.mk (show s.size ≤ 9223372036854775807 by omega)
  have HLL := Aside0.mk (show ∀ k, k ≤ s.size → (l ++ [34] ++ (s.data.toList.take k).flatMap escB).length ≤ 900000000 from fun k hk => by
    have h1 := flat_len (s.data.toList.take k)
    have h2 : (s.data.toList.take k).length ≤ s.size := by rw [List.length_take]; omega
    have := HL.out
    rw [List.length_append, List.length_append, List.length_singleton]
    omega)
  go_loopw [13] (fun i wr => ∃ k : Nat, k ≤ s.size ∧ i = .int .i64 k ∧ Aside0 (Wrote B g hv v1 (l ++ [34] ++ (s.data.toList.take k).flatMap escB) w2 wr)) (fun i _ => s.size - (intOf i).toNat)
  case atStart => exact ⟨0, by omega, rfl, ⟨by simpa using HW2.out⟩⟩
  case round =>
    obtain ⟨k, hk, rfl, HWr⟩ := hrel
    have hlk := HLL.out k hk
    by_cases hlt : k < s.size
    · have e0 := HK.out wr _ HWr.out k hlt
      have htk : (s.data.toList.take (k + 1)).flatMap escB = (s.data.toList.take k).flatMap escB ++ escB (s.data.toList[k]'hlt) := by
        rw [List.take_add_one, List.getElem?_eq_getElem (show k < s.data.toList.length from hlt), List.flatMap_append]
        simp
      generalize s.data.toList[k]'hlt = c at e0 htk
      have hcz : (c.toNat : Int).toNat.toUInt8 = c := by simp
      have hc0 : 0 ≤ (c.toNat : Int) ∧ (c.toNat : Int) < 256 := ⟨by omega, by have := c.toNat_lt; omega⟩
      have HTK := Aside0.mk htk
      have HCZ := Aside0.mk hcz
      have hb15 := u8_and15 (c.toNat : Int) hc0.1 hc0.2
      have d0 : decide ((k : Int) < s.size) = true := decide_eq_true (by omega)
      have hs6 := HS.out
      clear htk hcz
      generalize hll : l ++ [34] ++ (s.data.toList.take k).flatMap escB = ll at HWr hlk
      have HLM := Aside0.mk hll
      have HLK := Aside0.mk hlk
      clear hll hlk
      go_upto_region 7 with fail
      by_cases h34 : c = 34
      · have HE := Aside0.mk (show escB c = [92, c] by unfold escB; rw [if_pos (.inl h34)])
        have z1 : ((c.toNat : Int) == 34) = true := by rw [h34]; rfl
        clear h34
        go_wp2_with (first | (go_at_call 27; (with_reducible refine (writeByte_on HWr.out 92 (by decide) (by decide) (by have := HLK.out; omega)).mono ?_); rintro e w5 ⟨rfl, hw5⟩; have HW5 := Aside0.mk hw5; clear hw5) | (go_at_call 27; (with_reducible refine (writeU8_on HW5.out _ (by have := HLK.out; simp; omega)).mono ?_); rintro e w7 ⟨rfl, hw7⟩; have HW7 := Aside0.mk hw7; clear hw7))
        go_roundw
        case rel => exact ⟨k + 1, by omega, by go_num, ⟨by rw [HTK.out, ← List.append_assoc, HLM.out, HE.out]; simpa [List.append_assoc] using HW7.out⟩⟩
        case measure => simp [intOf]; omega
      by_cases h92 : c = 92
      · have HE := Aside0.mk (show escB c = [92, c] by unfold escB; rw [if_pos (.inr h92)])
        have z1 : ((c.toNat : Int) == 34) = false := by rw [h92]; rfl
        have z2 : ((c.toNat : Int) == 92) = true := by rw [h92]; rfl
        clear h92 h34
        go_wp2_with (first | (go_at_call 27; (with_reducible refine (writeByte_on HWr.out 92 (by decide) (by decide) (by have := HLK.out; omega)).mono ?_); rintro e w5 ⟨rfl, hw5⟩; have HW5 := Aside0.mk hw5; clear hw5) | (go_at_call 27; (with_reducible refine (writeU8_on HW5.out _ (by have := HLK.out; simp; omega)).mono ?_); rintro e w7 ⟨rfl, hw7⟩; have HW7 := Aside0.mk hw7; clear hw7))
        go_roundw
        case rel => exact ⟨k + 1, by omega, by go_num, ⟨by rw [HTK.out, ← List.append_assoc, HLM.out, HE.out]; simpa [List.append_assoc] using HW7.out⟩⟩
        case measure => simp [intOf]; omega
      have h1 : ¬ (c = 34 ∨ c = 92) := fun h => h.elim h34 h92
      have HE0 : c ≠ 34 ∧ c ≠ 92 := ⟨h34, h92⟩
      clear h34 h92
      have z1 : ((c.toNat : Int) == 34) = false := by
        simp; intro h; exact HE0.1 (by apply UInt8.toNat_inj.1; exact_mod_cast h)
      have z2 : ((c.toNat : Int) == 92) = false := by
        simp; intro h; exact HE0.2 (by apply UInt8.toNat_inj.1; exact_mod_cast h)
      by_cases h3 : (32 : Int) ≤ c.toNat
      · have z3 : decide ((32 : Int) ≤ c.toNat) = true := decide_eq_true h3
        have h3' : 32 ≤ c := by rw [UInt8.le_iff_toNat_le]; exact_mod_cast h3
        by_cases h4 : (c.toNat : Int) ≤ 126
        · have z4 : decide ((c.toNat : Int) ≤ 126) = true := decide_eq_true h4
          have h4' : c ≤ 126 := by rw [UInt8.le_iff_toNat_le]; exact_mod_cast h4
          have HE := Aside0.mk (show escB c = [c] by unfold escB; rw [if_neg h1, if_pos ⟨h3', h4'⟩])
          clear h1 HE0 h3' h4' h3 h4
          go_wp2_with (first | (go_at_call 27; (with_reducible refine (writeU8_on HWr.out _ (by have := HLK.out; omega)).mono ?_); rintro e w7 ⟨rfl, hw7⟩; have HW7 := Aside0.mk hw7; clear hw7))
          go_roundw
          case rel => exact ⟨k + 1, by omega, by go_num, ⟨by rw [HTK.out, ← List.append_assoc, HLM.out, HE.out]; simpa [List.append_assoc] using HW7.out⟩⟩
          case measure => simp [intOf]; omega
        · have z4 : decide ((c.toNat : Int) ≤ 126) = false := decide_eq_false h4
          have h2 : ¬ (32 ≤ c ∧ c ≤ 126) := fun h => h4 (by have := UInt8.le_iff_toNat_le.1 h.2; exact_mod_cast this)
          clear h3' h3 h4
          have HE := Aside0.mk (show escB c = [92, 120, hexB (c / 16), hexB (c % 16)] by unfold escB; rw [if_neg h1, if_neg h2])
          clear h1 HE0 h2
          go_upto_region 5 with (first | (go_at_call 23; (with_reducible refine (writeString_on HWr.out ⟨#[92, 120]⟩ (by decide) (by have := HLK.out; omega)).mono ?_); rintro e w5 ⟨⟨rr, rfl⟩, hw5⟩; have HW5 := Aside0.mk hw5; clear hw5))
          go_region_held3 (fun W' => True) (first | trivial | fail) (first | (go_at_call 27; (with_reducible refine (writeU8_on HW5.out.drew _ (by have := HLK.out; simp; omega)).mono ?_); rintro e w6 ⟨rfl, hw6⟩; rw [hex_hi] at hw6; have HW6 := Aside0.mk hw6; clear hw6))
          go_upto_region 6 with fail
          go_region_held3 (fun W' => True) (first | trivial | fail) (first | (go_at_call 27; (with_reducible refine (writeU8_on HW6.out.drew _ (by have := HLK.out; simp; omega)).mono ?_); rintro e w7 ⟨rfl, hw7⟩; rw [hex_lo] at hw7; have HW7 := Aside0.mk hw7; clear hw7))
          go_wp2_with fail
          go_roundw
          case rel => exact ⟨k + 1, by omega, by go_num, ⟨by rw [HTK.out, ← List.append_assoc, HLM.out, HE.out]; simpa [List.append_assoc] using HW7.out⟩⟩
          case measure => simp [intOf]; omega
      · have z3 : decide ((32 : Int) ≤ c.toNat) = false := decide_eq_false h3
        have h2 : ¬ (32 ≤ c ∧ c ≤ 126) := fun h => h3 (by have := UInt8.le_iff_toNat_le.1 h.1; exact_mod_cast this)
        clear h3
        have HE := Aside0.mk (show escB c = [92, 120, hexB (c / 16), hexB (c % 16)] by unfold escB; rw [if_neg h1, if_neg h2])
        clear h1 HE0 h2
        go_upto_region 5 with (first | (go_at_call 23; (with_reducible refine (writeString_on HWr.out ⟨#[92, 120]⟩ (by decide) (by have := HLK.out; omega)).mono ?_); rintro e w5 ⟨⟨rr, rfl⟩, hw5⟩; have HW5 := Aside0.mk hw5; clear hw5))
        go_region_held3 (fun W' => True) (first | trivial | fail) (first | (go_at_call 27; (with_reducible refine (writeU8_on HW5.out.drew _ (by have := HLK.out; simp; omega)).mono ?_); rintro e w6 ⟨rfl, hw6⟩; rw [hex_hi] at hw6; have HW6 := Aside0.mk hw6; clear hw6))
        go_upto_region 6 with fail
        go_region_held3 (fun W' => True) (first | trivial | fail) (first | (go_at_call 27; (with_reducible refine (writeU8_on HW6.out.drew _ (by have := HLK.out; simp; omega)).mono ?_); rintro e w7 ⟨rfl, hw7⟩; rw [hex_lo] at hw7; have HW7 := Aside0.mk hw7; clear hw7))
        go_wp2_with fail
        go_roundw
        case rel => exact ⟨k + 1, by omega, by go_num, ⟨by rw [HTK.out, ← List.append_assoc, HLM.out, HE.out]; simpa [List.append_assoc] using HW7.out⟩⟩
        case measure => simp [intOf]; omega
    · obtain rfl : k = s.size := by omega
      have d0 : decide ((s.size : Int) < s.size) = false := decide_eq_false (by omega)
      have htk : s.data.toList.take s.size = s.data.toList := List.take_of_length_le (by rw [HSZ.out]; exact Nat.le_refl _)
      rw [htk] at HWr hlk
      have HLK := Aside0.mk hlk
      clear htk hlk hlt
      go_wp2_with (first | (go_at_call 27; (with_reducible refine (writeByte_on HWr.out 34 (by decide) (by decide) (by have := HLK.out; omega)).mono ?_); rintro e w7 ⟨rfl, hw7⟩; have HW7 := Aside0.mk hw7; clear hw7))
      go_end0
      refine ⟨rfl, ?_⟩
      have h1 := Wrote.then_ (HV1.out.below HB2.out) (w := w) ⟨HB2.out.os.trans HF1.out.os, HB2.out.tape.trans HF1.out.tape, HB2.out.output.trans HF1.out.output, Nat.le_trans HF1.out.size HB2.out.size, fun k hk h1 h2 => (HB2.out.block k (Nat.lt_of_lt_of_le hk HF1.out.size)).trans (HF1.out.block k hk h1 h2)⟩ HO1.out HW7.out
      simpa [quoteB, List.append_assoc] using h1
end Go.Proofs.YtobchfcabedmhaaDoor.NW
