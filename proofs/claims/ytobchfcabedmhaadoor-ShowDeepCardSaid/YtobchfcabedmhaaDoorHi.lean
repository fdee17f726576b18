/- sacristanref03.Quote. -/
import Derived.Test.YtobchfcabedmhaaDoorHh
namespace Go.Proofs.YtobchfcabedmhaaDoor.NW
open Go.RowKit Go.Proofs.YtobchfcabedmhaaDoorW.PrintWords Go.Proofs.YtobchfcabedmhaaDoor.PS
set_option linter.unusedVariables false
set_option linter.unusedSimpArgs false
section
variable {w0 W : World} {base m : Nat} {v : Value} {l ys : List UInt8} {cs : Array Value}
theorem lit_run (t : TypeId) (HO : W.ownsRow base 5 1 v l.length (Lib.byteCells l)) (HB : Below base w0 W) (hbase : base ≤ W.heap.size) (hc : cs.toList = Lib.byteCells ys) (hm : m = ys.length) (hl : l.length + m ≤ 2000000000) :
    ∃ v1 w1, (Builtin.append_ #[54, 54] t #[v, .slice (some ⟨W.heap.size, 0, none⟩) m m]).run Tryd.prog (W.alloc (.cells cs 5)) = .ok v1 w1 ∧ w1.ownsRow base 5 1 v1 (l ++ ys).length (Lib.byteCells (l ++ ys)) ∧ Below base w0 w1 := by
  obtain ⟨i0, hi, hzz⟩ := Option.map_eq_some_iff.1 (NW.info5)
  simp only [Prod.mk.injEq] at hzz
  have hcl : cs.size = m := by rw [← Array.length_toList, hc, Lib.byteCells_length, hm]
  obtain ⟨v1, w1, hr, hown, hg, _, hat⟩ := run_append_own_at (P := Tryd.prog) (W.alloc (.cells cs 5)) base 54 t 5 i0 (.int .u8 0) 1 1 Tryd.underlying54 hi hzz.1 hzz.2.1 hzz.2.2 rfl (by decide) v l.length (Lib.byteCells l) (HO.alloc _) ⟨W.heap.size, 0, none⟩ m m (Lib.byteCells ys) (by rw [Lib.byteCells_length, hm, Nat.mul_one])
    (by rw [← hc]; simpa using World.news_of_block (cs := cs) (t := 5) (fr := (0, 0)) (heap_alloc_new W (.cells cs 5))) (by
      intro u hu
      simp only [Lib.byteCells, List.mem_map] at hu
      obtain ⟨b, _, rfl⟩ := hu
      rfl) (by unfold maxLen; omega) (by omega) (by rw [World.size_alloc]; omega)
  refine ⟨v1, w1, hr, ?_, (HB.alloc hbase _).grown hg (by simp; omega) (own_base HO)⟩
  rw [List.length_append, Lib.byteCells_append, ← hm]
  exact hown
theorem wpList_lit5 {ops : Array Oper} {rest : List Oper} {o : Oper} {a : Act} {Q : Exit → Act → World → Prop} (hgd : o.guard = none) (s x : Operand)
    (ho : o.op = .call { callee := .builtin .append, args := #[s, x], argTypes := #[54, 54] }) (hs : a.eval s = v) (hx : a.eval x = .slice (some ⟨W.heap.size, 0, none⟩) m m)
    (HO : W.ownsRow base 5 1 v l.length (Lib.byteCells l)) (HB : Below base w0 W) (hbase : base ≤ W.heap.size) (hc : cs.toList = Lib.byteCells ys) (hm : m = ys.length) (hl : l.length + m ≤ 2000000000)
    (h : ∀ v1 w1, w1.ownsRow base 5 1 v1 (l ++ ys).length (Lib.byteCells (l ++ ys)) → Below base w0 w1 → wpList Tryd.prog ops Q rest (a.put o.dst v1) w1) : wpList Tryd.prog ops Q (o :: rest) a (W.alloc (.cells cs 5)) := by
  refine wpList_plain hgd fun K hK => ?_
  obtain ⟨v1, w1, hr, h2, h3⟩ := lit_run o.type HO HB hbase hc hm hl
  unfold Oper.wp execOp
  simp only [ho, resolve, invoke, builtin, Sem.run_bind, Sem.run_pure, Result.andThen_ok, List.map_toArray, List.map_cons, List.map_nil, hs, hx, hr]
  exact hK _ _ (h v1 w1 h2 h3)
theorem step_lit5 {ops : Array Oper} {o : Oper} {a : Act} {K : Act → World → Prop} {Q : Exit → Act → World → Prop} {E : Prop} (hw : Region.wanted o (yielded ops a.tmps) = true) (s x : Operand)
    (ho : o.op = .call { callee := .builtin .append, args := #[s, x], argTypes := #[54, 54] }) (hs : a.eval s = v) (hx : a.eval x = .slice (some ⟨W.heap.size, 0, none⟩) m m)
    (HO : W.ownsRow base 5 1 v l.length (Lib.byteCells l)) (HB : Below base w0 W) (hbase : base ≤ W.heap.size) (hc : cs.toList = Lib.byteCells ys) (hm : m = ys.length) (hl : l.length + m ≤ 2000000000)
    (h : ∀ v1 w1, w1.ownsRow base 5 1 v1 (l ++ ys).length (Lib.byteCells (l ++ ys)) → Below base w0 w1 → K (a.put o.dst v1) w1) :
    if Region.wanted o (yielded ops a.tmps) = true then Oper.wp Tryd.prog o a (W.alloc (.cells cs 5)) K Q else E := by
  rw [if_pos hw]
  obtain ⟨v1, w1, hr, h2, h3⟩ := lit_run o.type HO HB hbase hc hm hl
  unfold Oper.wp execOp
  simp only [ho, resolve, invoke, builtin, Sem.run_bind, Sem.run_pure, Result.andThen_ok, List.map_toArray, List.map_cons, List.map_nil, hs, hx, hr]
  exact h v1 w1 h2 h3
theorem lit_new (hbase : base ≤ W.heap.size) (hc : cs.toList = Lib.byteCells ys) (hm : m = ys.length) (hl : m ≤ 1000) : (W.alloc (.cells cs 5)).ownsRow base 5 1 (.slice (some ⟨W.heap.size, 0, none⟩) m m) ys.length (Lib.byteCells ys) := by
  subst hm
  refine ⟨by rw [Lib.byteCells_length, Nat.mul_one], .inr ⟨W.heap.size, ys.length, cs, rfl, hbase, heap_alloc_new W _, Nat.le_refl _, by unfold maxLen; omega, by rw [← Array.length_toList, hc, Lib.byteCells_length, Nat.mul_one], ?_⟩⟩
  rw [hc, List.take_of_length_le (by rw [Lib.byteCells_length]; omega)]
theorem byteCells_nums (l : List UInt8) : Lib.byteCells l = nums .u8 (l.map fun b => (b.toNat : Int)) := by simp [Lib.byteCells, nums]
theorem strOfNums_bytes (l : List UInt8) : strOfNums (l.map fun b => (b.toNat : Int)) = ⟨l.toArray⟩ := by
  unfold strOfNums
  rw [List.map_map]
  congr 2
  rw [show ((fun n : Int => UInt8.ofNat n.toNat) ∘ fun b : UInt8 => (b.toNat : Int)) = id from funext fun b => by simp]
  exact List.map_id l
theorem row_string {w : World} {base : Nat} {v : Value} {l : List UInt8} (h : w.ownsRow base 5 1 v l.length (Lib.byteCells l)) : (convert 54 9 v).run Tryd.prog w = .ok (.string ⟨l.toArray⟩) w := by
  rw [byteCells_nums] at h
  have := own_string (P := Tryd.prog) (src := 54) (dst := 9) (e := 5) Tryd.underlying54 Tryd.underlying5 Tryd.underlying9 h
  rwa [strOfNums_bytes] at this
end
set_option maxHeartbeats 3200000 in
set_option maxRecDepth 1000000 in
theorem refQuote_calls (w : World) (s : ByteArray) (hs : s.size ≤ 100000) :
    Calls Tryd.prog 16 #[.string s] w fun e w' => e = .returned (.string ⟨(quoteB s.data.toList).toArray⟩) ∧ Below w.heap.size w w' := by
  have HS := Aside0.mk hs
  have HSZ := Aside0.mk (show s.data.toList.length = s.size from rfl)
  have HR := Aside0.mk (lit_new (W := w) (cs := #[.int .u8 34]) (ys := [34]) (m := 1) (Nat.le_refl _) rfl rfl (by decide))
  have HB := Aside0.mk (below_alloc (Below.refl w.heap.size w) (.cells #[.int .u8 34] 5))
  clear hs
  go_enter Tryd.func16, Tryd.ntmps16
  go_upto_region 4 with fail
  generalize w.alloc (.cells #[.int .u8 34] 5) = w1 at HR HB ⊢
  generalize hv1 : Value.slice (some ⟨w.heap.size, 0, none⟩) 1 1 = v1 at HR ⊢
  have hv1' : ∃ A c, v1 = .slice A 1 c := ⟨_, _, hv1.symm⟩
  clear hv1
  have HLL := Aside0.mk (show ∀ k, k ≤ s.size → (34 :: (s.data.toList.take k).flatMap escB).length ≤ 900000000 from fun k hk => by
    have h1 := flat_len (s.data.toList.take k)
    have h2 : (s.data.toList.take k).length ≤ s.size := by rw [List.length_take]; omega
    have := HS.out
    rw [List.length_cons]
    omega)
  go_loopw [4, 5] (fun o i wr => ∃ k : Nat, k ≤ s.size ∧ i = .int .i64 k ∧ Aside0 (wr.ownsRow w.heap.size 5 1 o (34 :: (s.data.toList.take k).flatMap escB).length (Lib.byteCells (34 :: (s.data.toList.take k).flatMap escB))) ∧ Aside0 (Below w.heap.size w wr)) (fun _ i _ => s.size - (intOf i).toNat)
  case atStart => exact ⟨0, by omega, rfl, ⟨by simpa using HR.out⟩, HB⟩
  case round =>
    obtain ⟨k, hk, rfl, HRr, HBr⟩ := hrel
    have hlk := HLL.out k hk
    by_cases hlt : k < s.size
    · have htk : (s.data.toList.take (k + 1)).flatMap escB = (s.data.toList.take k).flatMap escB ++ escB (s.data.toList[k]'hlt) := by
        rw [List.take_add_one, List.getElem?_eq_getElem (show k < s.data.toList.length from hlt), List.flatMap_append]
        simp
      have hcc : s.data.toList[k]'hlt = s[k]'hlt := by simp; rfl
      rw [hcc] at htk
      clear hcc
      have d0 : decide ((k : Int) < s.size) = true := decide_eq_true (by omega)
      have HTK := Aside0.mk htk
      have HLK := Aside0.mk hlk
      have HS6 := HS.out
      clear htk hlk
      obtain ⟨Ar, cr, rfl⟩ := own_slice HRr.out
      generalize hll : (34 :: (s.data.toList.take k).flatMap escB) = ll at HRr HLK ⊢
      have HLM := Aside0.mk hll
      clear hll
      go_upto_region 7 with fail
      generalize s[k]'hlt = c at HTK ⊢
      have hc0 : 0 ≤ (c.toNat : Int) ∧ (c.toNat : Int) < 256 := ⟨by omega, by have := c.toNat_lt; omega⟩
      by_cases h34 : c = 34
      · have HE := Aside0.mk (show escB c = [92, c] by unfold escB; rw [if_pos (.inl h34)])
        have z1 : ((c.toNat : Int) == 34) = true := by rw [h34]; rfl
        clear h34
        go_wp2_with (first | ((with_reducible refine gate_builtin (b := .append) (xs := #[.tmp 23, .tmp 25]) rfl ?_); at_builtin; go_loud (refine wpList_lit5 (W := wr) (w0 := w) (base := w.heap.size) (l := ll) (ys := [92, c]) (cs := #[.int .u8 92, .int .u8 c.toNat]) (m := 2) rfl (.tmp 23) (.tmp 25) rfl rfl rfl HRr.out HBr.out HBr.out.size rfl rfl ?cL ?_; (case cL => have := HLK.out; omega); intro v7 w7 hr7 hb7; have HR7 := Aside0.mk hr7; have HB7 := Aside0.mk hb7; obtain ⟨A7, c7, rfl⟩ := own_slice hr7; clear hr7 hb7)))
        go_roundw
        case rel => exact ⟨k + 1, by omega, by go_num, ⟨by rw [HTK.out, ← List.cons_append, HLM.out, HE.out]; have h := HR7.out; rw [List.length_append] at h ⊢; exact h⟩, HB7⟩
        case measure => simp [intOf]; omega
      by_cases h92 : c = 92
      · have HE := Aside0.mk (show escB c = [92, c] by unfold escB; rw [if_pos (.inr h92)])
        have z1 : ((c.toNat : Int) == 34) = false := by rw [h92]; rfl
        have z2 : ((c.toNat : Int) == 92) = true := by rw [h92]; rfl
        clear h92 h34
        go_wp2_with (first | ((with_reducible refine gate_builtin (b := .append) (xs := #[.tmp 23, .tmp 25]) rfl ?_); at_builtin; go_loud (refine wpList_lit5 (W := wr) (w0 := w) (base := w.heap.size) (l := ll) (ys := [92, c]) (cs := #[.int .u8 92, .int .u8 c.toNat]) (m := 2) rfl (.tmp 23) (.tmp 25) rfl rfl rfl HRr.out HBr.out HBr.out.size rfl rfl ?cL ?_; (case cL => have := HLK.out; omega); intro v7 w7 hr7 hb7; have HR7 := Aside0.mk hr7; have HB7 := Aside0.mk hb7; obtain ⟨A7, c7, rfl⟩ := own_slice hr7; clear hr7 hb7)))
        go_roundw
        case rel => exact ⟨k + 1, by omega, by go_num, ⟨by rw [HTK.out, ← List.cons_append, HLM.out, HE.out]; have h := HR7.out; rw [List.length_append] at h ⊢; exact h⟩, HB7⟩
        case measure => simp [intOf]; omega
      have h1 : ¬ (c = 34 ∨ c = 92) := fun h => h.elim h34 h92
      have HE0 : c ≠ 34 ∧ c ≠ 92 := ⟨h34, h92⟩
      clear h34 h92
      have z1 : ((c.toNat : Int) == 34) = false := by
        simp; intro h; exact HE0.1 (by apply UInt8.toNat_inj.1; exact_mod_cast h)
      have z2 : ((c.toNat : Int) == 92) = false := by
        simp; intro h; exact HE0.2 (by apply UInt8.toNat_inj.1; exact_mod_cast h)
      by_cases h3 : (32 : Int) ≤ c.toNat
      · have z3 : decide ((32 : Int) ≤ c.toNat) = true := decide_eq_true h3
        have h3' : 32 ≤ c := by rw [UInt8.le_iff_toNat_le]; exact_mod_cast h3
        by_cases h4 : (c.toNat : Int) ≤ 126
        · have z4 : decide ((c.toNat : Int) ≤ 126) = true := decide_eq_true h4
          have h4' : c ≤ 126 := by rw [UInt8.le_iff_toNat_le]; exact_mod_cast h4
          have HE := Aside0.mk (show escB c = [c] by unfold escB; rw [if_neg h1, if_pos ⟨h3', h4'⟩])
          clear h1 HE0 h3' h4' h3 h4
          go_wp2_with (first | ((with_reducible refine gate_builtin (b := .append) (xs := #[.tmp 33, .tmp 35]) rfl ?_); at_builtin; go_loud (refine wpList_lit5 (W := wr) (w0 := w) (base := w.heap.size) (l := ll) (ys := [c]) (cs := #[.int .u8 c.toNat]) (m := 1) rfl (.tmp 33) (.tmp 35) rfl rfl rfl HRr.out HBr.out HBr.out.size rfl rfl ?cL ?_; (case cL => have := HLK.out; omega); intro v7 w7 hr7 hb7; have HR7 := Aside0.mk hr7; have HB7 := Aside0.mk hb7; obtain ⟨A7, c7, rfl⟩ := own_slice hr7; clear hr7 hb7)))
          go_roundw
          case rel => exact ⟨k + 1, by omega, by go_num, ⟨by rw [HTK.out, ← List.cons_append, HLM.out, HE.out]; have h := HR7.out; rw [List.length_append] at h ⊢; exact h⟩, HB7⟩
          case measure => simp [intOf]; omega
        · have z4 : decide ((c.toNat : Int) ≤ 126) = false := decide_eq_false h4
          have h2 : ¬ (32 ≤ c ∧ c ≤ 126) := fun h => h4 (by have := UInt8.le_iff_toNat_le.1 h.2; exact_mod_cast this)
          clear h3' h3 h4
          have HE := Aside0.mk (show escB c = [92, 120, hexB (c / 16), hexB (c % 16)] by unfold escB; rw [if_neg h1, if_neg h2])
          clear h1 HE0 h2
          go_upto_region 11 with fail
          have ht1 : Int.tdiv (c.toNat : Int) 16 = (c.toNat : Int) / 16 := Int.tdiv_eq_ediv_of_nonneg hc0.1
          have ht2 : Int.tmod (c.toNat : Int) 16 = (c.toNat : Int) % 16 := Int.tmod_eq_emod_of_nonneg hc0.1
          have hw1 : IntKind.u8.wrap ((c.toNat : Int) / 16) = (c.toNat : Int) / 16 := by simp [IntKind.wrap, IntKind.signed, IntKind.bits]; omega
          have hw2 : IntKind.u8.wrap ((c.toNat : Int) % 16) = (c.toNat : Int) % 16 := by simp [IntKind.wrap, IntKind.signed, IntKind.bits]; omega
          have hq1 : 0 ≤ (c.toNat : Int) / 16 ∧ (c.toNat : Int) / 16 < 16 := by omega
          have hq2 : 0 ≤ (c.toNat : Int) % 16 ∧ (c.toNat : Int) % 16 < 16 := by omega
          go_region_law (first | (refine step_lit5 (W := wr.drew) (w0 := w) (base := w.heap.size) (l := ll) (ys := [92, 120, hexB (c / 16), hexB (c % 16)]) (m := 4) (by simp [Region.wanted]) (.tmp 37) (.tmp 46) rfl rfl rfl HRr.out (below_drew HBr.out) HBr.out.size (by simp only [Lib.byteCells, List.map_cons, List.map_nil]; rw [hex_hi, hex_lo]; rfl) rfl (by have := HLK.out; omega) ?_; intro v7 w7 hr7 hb7; have HR7 := Aside0.mk hr7; have HB7 := Aside0.mk hb7; obtain ⟨A7, c7, rfl⟩ := own_slice hr7; clear hr7 hb7) | go_simp)
          all_goals
            go_wp2_with fail
            go_roundw
            case rel => exact ⟨k + 1, by omega, by go_num, ⟨by rw [HTK.out, ← List.cons_append, HLM.out, HE.out]; have h := HR7.out; rw [List.length_append] at h ⊢; exact h⟩, HB7⟩
            case measure => simp [intOf]; omega
      · have z3 : decide ((32 : Int) ≤ c.toNat) = false := decide_eq_false h3
        have h2 : ¬ (32 ≤ c ∧ c ≤ 126) := fun h => h3 (by have := UInt8.le_iff_toNat_le.1 h.1; exact_mod_cast this)
        clear h3
        have HE := Aside0.mk (show escB c = [92, 120, hexB (c / 16), hexB (c % 16)] by unfold escB; rw [if_neg h1, if_neg h2])
        clear h1 HE0 h2
        go_upto_region 11 with fail
        have ht1 : Int.tdiv (c.toNat : Int) 16 = (c.toNat : Int) / 16 := Int.tdiv_eq_ediv_of_nonneg hc0.1
        have ht2 : Int.tmod (c.toNat : Int) 16 = (c.toNat : Int) % 16 := Int.tmod_eq_emod_of_nonneg hc0.1
        have hw1 : IntKind.u8.wrap ((c.toNat : Int) / 16) = (c.toNat : Int) / 16 := by simp [IntKind.wrap, IntKind.signed, IntKind.bits]; omega
        have hw2 : IntKind.u8.wrap ((c.toNat : Int) % 16) = (c.toNat : Int) % 16 := by simp [IntKind.wrap, IntKind.signed, IntKind.bits]; omega
        have hq1 : 0 ≤ (c.toNat : Int) / 16 ∧ (c.toNat : Int) / 16 < 16 := by omega
        have hq2 : 0 ≤ (c.toNat : Int) % 16 ∧ (c.toNat : Int) % 16 < 16 := by omega
        go_region_law (first | (refine step_lit5 (W := wr.drew) (w0 := w) (base := w.heap.size) (l := ll) (ys := [92, 120, hexB (c / 16), hexB (c % 16)]) (m := 4) (by simp [Region.wanted]) (.tmp 37) (.tmp 46) rfl rfl rfl HRr.out (below_drew HBr.out) HBr.out.size (by simp only [Lib.byteCells, List.map_cons, List.map_nil]; rw [hex_hi, hex_lo]; rfl) rfl (by have := HLK.out; omega) ?_; intro v7 w7 hr7 hb7; have HR7 := Aside0.mk hr7; have HB7 := Aside0.mk hb7; obtain ⟨A7, c7, rfl⟩ := own_slice hr7; clear hr7 hb7) | go_simp)
        all_goals
          go_wp2_with fail
          go_roundw
          case rel => exact ⟨k + 1, by omega, by go_num, ⟨by rw [HTK.out, ← List.cons_append, HLM.out, HE.out]; have h := HR7.out; rw [List.length_append] at h ⊢; exact h⟩, HB7⟩
          case measure => simp [intOf]; omega
    · obtain rfl : k = s.size := by omega
      have d0 : decide ((s.size : Int) < s.size) = false := decide_eq_false (by omega)
      have htk : s.data.toList.take s.size = s.data.toList := List.take_of_length_le (by rw [HSZ.out]; exact Nat.le_refl _)
      rw [htk] at HRr hlk
      have HLK := Aside0.mk hlk
      clear htk hlk hlt
      obtain ⟨Ar, cr, rfl⟩ := own_slice HRr.out
      generalize hll : (34 :: s.data.toList.flatMap escB) = ll at HRr HLK ⊢
      have HLM := Aside0.mk hll
      clear hll
      go_wp2_with (first | ((with_reducible refine gate_builtin (b := .append) (xs := #[.tmp 48, .tmp 49]) rfl ?_); at_builtin; go_loud (refine wpList_lit5 (W := wr) (w0 := w) (base := w.heap.size) (l := ll) (ys := [34]) (cs := #[.int .u8 34]) (m := 1) rfl (.tmp 48) (.tmp 49) rfl rfl rfl HRr.out HBr.out HBr.out.size rfl rfl ?cL ?_; (case cL => have := HLK.out; omega); intro v7 w7 hr7 hb7; have HR7 := Aside0.mk hr7; have HB7 := Aside0.mk hb7; have hst := row_string hr7; clear hr7 hb7)))
      go_ret
      exact ⟨by rw [← HLM.out]; rfl, HB7.out⟩
end Go.Proofs.YtobchfcabedmhaaDoor.NW
