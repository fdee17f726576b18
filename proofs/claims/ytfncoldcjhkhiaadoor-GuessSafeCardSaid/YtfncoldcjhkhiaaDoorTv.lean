/- guess.goer.instr. -/
import Derived.Test.YtfncoldcjhkhiaaDoorTu
import Derived.Test.YtfncoldcjhkhiaaDoorKa
import Derived.Test.YtfncoldcjhkhiaaDoorTC
import Derived.Deep.RegionHeld3
namespace Go.Proofs.YtfncoldcjhkhiaaDoor.NW
open Go.RowKit Go.Proofs.YtfncoldcjhkhiaaDoorW.PrintWords Go.Proofs.YtfncoldcjhkhiaaDoorW.PrintMore Go.Proofs.YtfncoldcjhkhiaaDoor.PC
set_option linter.unusedVariables false
set_option linter.unusedSimpArgs false
theorem snoc_of {st : List Bool} (h : 1 ≤ st.length) : st = st.dropLast ++ [Pure.lastB st] := by
  have hne : st ≠ [] := by intro e; rw [e] at h; simp at h
  unfold Pure.lastB
  rw [List.getLastD_eq_getLast?, List.getLast?_eq_some_getLast hne]
  exact (List.dropLast_concat_getLast hne).symm
/-- the row that the stack's append wants -/
theorem GoIs.rt2 {w0 w : World} {g : Nat} {a0 a1 a2 a3 a4 a5 a6 a7 : Value} {s st : List Bool} {wy : List Int} {vs vt vw : Value} (h : GoIs w0 w g a0 a1 a2 a3 a4 a5 a6 a7 s st wy vs vt vw) : Kd.R Kd.bool 4 w w0.heap.size (fun k => k ≠ g ∧ vs.ownBlock ≠ some k ∧ vw.ownBlock ≠ some k) vt st :=
  ⟨fun k hk => ⟨h.rt.1 k hk, fun e => h.dis k e hk, fun e => h.dtw k hk e⟩, h.rt.2⟩
theorem GoIs.fresh {w0 w : World} {g : Nat} {a0 a1 a2 a3 a4 a5 a6 a7 : Value} {s st : List Bool} {wy : List Int} {vs vt vw : Value} (h : GoIs w0 w g a0 a1 a2 a3 a4 a5 a6 a7 s st wy vs vt vw) : ∀ k, w.heap.size ≤ k → k ≠ g ∧ vs.ownBlock ≠ some k ∧ vw.ownBlock ≠ some k :=
  fun k hk => ⟨by have := blk_lt h.blk; omega, fun e => by have := Kd.R_lt h.rs k e; omega, fun e => by have := Kd.R_lt h.rw k e; omega⟩
/-- behind an append to the stack -/
theorem GoIs.pushed {w0 w w1 : World} {g : Nat} {a0 a1 a2 a3 a4 a5 a6 a7 : Value} {s st : List Bool} {wy : List Int} {vs vt vw v1 : Value} {b : Bool} (h : GoIs w0 w g a0 a1 a2 a3 a4 a5 a6 a7 s st wy vs vt vw) (hr : Kd.R Kd.bool 4 w1 w0.heap.size (fun k => k ≠ g ∧ vs.ownBlock ≠ some k ∧ vw.ownBlock ≠ some k) v1 (st ++ [b])) (hb : Below w0.heap.size w0 w1) (hg : w.grownBy w1 vt.ownBlock) :
    w1.cell? ⟨g, 9, none⟩ = some vt ∧ w1.frozen? ⟨g, 9, none⟩ = false ∧ GoIs w0 (w1.setCell ⟨g, 9, none⟩ v1) g a0 a1 a2 a3 a4 a5 a6 a7 s (st ++ [b]) wy vs v1 vw := by
  have hne : some g ≠ vt.ownBlock := fun e => h.rt.1 g e.symm rfl
  have BK := blk_grown h.blk hg hne
  exact ⟨(blk_cell BK 9).trans rfl, blk_frozen BK 9, blk_put BK 9 v1 rfl, Kd.R_far (Kd.R_mono (Kd.R_step (w1 := w1) (ok := fun k => k ≠ g ∧ some k ≠ vt.ownBlock) ⟨fun k hk => ⟨h.rs.1 k hk, fun e => h.dis k hk e.symm⟩, h.rs.2⟩ (fun k hk hlt => hg.block k hlt hk.2)) (fun _ hk => hk.1)) (p := ⟨g, 9, none⟩) (fun k hk => hk) v1,
    Kd.R_far (Kd.R_mono hr (fun _ hk => hk.1)) (p := ⟨g, 9, none⟩) (fun k hk => hk) v1,
    Kd.R_far (Kd.R_mono (Kd.R_step (w1 := w1) (ok := fun k => k ≠ g ∧ some k ≠ vt.ownBlock) ⟨fun k hk => ⟨h.rw.1 k hk, fun e => h.dtw k e.symm hk⟩, h.rw.2⟩ (fun k hk hlt => hg.block k hlt hk.2)) (fun _ hk => hk.1)) (p := ⟨g, 9, none⟩) (fun k hk => hk) v1,
    fun k hk e => (hr.1 k e).2.1 hk, h.dsw, fun k hk e => (hr.1 k hk).2.2 e, hb.setCell (p := ⟨g, 9, none⟩) h.gl v1, h.gl⟩
/-- behind a store to a slot -/
theorem GoIs.slot {w0 w : World} {g gs cap : Nat} {a0 a1 a2 a3 a4 a5 a6 a7 : Value} {s st : List Bool} {wy : List Int} {vt vw : Value} (h : GoIs w0 w g a0 a1 a2 a3 a4 a5 a6 a7 s st wy (.slice (some ⟨gs, 0, none⟩) s.length cap) vt vw) (i : Int) (b : Bool) :
    GoIs w0 (w.setCell ⟨gs, i.toNat, none⟩ (.bool b)) g a0 a1 a2 a3 a4 a5 a6 a7 (s.set i.toNat b) st wy (.slice (some ⟨gs, 0, none⟩) s.length cap) vt vw :=
  have hg : g ≠ gs := fun e => h.rs.1 gs rfl e.symm
  ⟨blk_far h.blk (p := ⟨gs, i.toNat, none⟩) hg (.bool b), (Kd.R_put h.rs i b).1,
    Kd.R_mono (Kd.R_far (ok := fun k => k ≠ g ∧ k ≠ gs) ⟨fun k hk => ⟨h.rt.1 k hk, fun e => h.dis gs rfl (e ▸ hk)⟩, h.rt.2⟩ (p := ⟨gs, i.toNat, none⟩) (fun k hk => hk.2) (.bool b)) (fun _ hk => hk.1),
    Kd.R_mono (Kd.R_far (ok := fun k => k ≠ g ∧ k ≠ gs) ⟨fun k hk => ⟨h.rw.1 k hk, fun e => h.dsw gs rfl (e ▸ hk)⟩, h.rw.2⟩ (p := ⟨gs, i.toNat, none⟩) (fun k hk => hk.2) (.bool b)) (fun _ hk => hk.1),
    h.dis, h.dsw, h.dtw, h.old.setCell (p := ⟨gs, i.toNat, none⟩) (Kd.R_base h.rs gs rfl) (.bool b), h.gl⟩
section
variable {A0 : Option Addr} {c0 : Nat} {l0 : List Int} {A1 : Option Addr} {c1 : Nat} {l1 : List ByteArray} {A2 : Option Addr} {c2 : Nat} {l2 : List S44} {A3 : Option Addr} {c3 : Nat} {l3 : List S41}
set_option maxHeartbeats 16000000 in
set_option maxRecDepth 1000000 in
theorem goInstr_calls (w0 w : World) (g : Nat) (p : S44) (B : Option Addr) (b : Nat) (s st : List Bool) (wy : List Int) (vs vt vw : Value) (hmd : ModIs w0 A0 c0 l0 A1 c1 l1 A2 c2 l2 A3 c3 l3) (hM : MaxOk w0) (hb : p.f3.length ≤ b) (hB : Kd.C k32 w0 B p.f3.length p.f3)
    (H : GoIs w0 w g (.slice A0 l0.length c0) (.slice A1 l1.length c1) (.slice A2 l2.length c2) (.slice A3 l3.length c3) (.int .i64 p.f0) (.int .i64 p.f1) (.int .i64 p.f2) (.slice B p.f3.length b) s st wy vs vt vw)
    (a : Int) (F : Pure.AtF p a s st) (hn1 : p.f3.length ≤ 16384)
    (hE : (rd_T32 p.f3 a).f0 = 16 → ∃ k l ok, code_Effect.f k l0 l1 l2 l3 (rd_T32 p.f3 a).f0 (rd_T32 p.f3 a).f1 = some (Pure.takesW (rd_T32 p.f3 a).f1, l, ok)) :
    Calls Tryd.prog 70 #[.pointer (some ⟨g, 0, none⟩), .int .i64 a] w fun x w' => x = .returned (.tuple #[.int .i64 (Pure.goP p a s st).nx, .bool (Pure.goP p a s st).ok]) ∧ ∃ vt', GoIs w0 w' g (.slice A0 l0.length c0) (.slice A1 l1.length c1) (.slice A2 l2.length c2) (.slice A3 l3.length c3) (.int .i64 p.f0) (.int .i64 p.f1) (.int .i64 p.f2) (.slice B p.f3.length b) (Pure.goP p a s st).s (Pure.goP p a s st).st wy vs vt' vw := by
  have hK := H.blk
  have g7 : w.cell? ⟨g, 7, none⟩ = some (.slice B p.f3.length b) := (blk_cell hK 7).trans rfl
  have ha0 := F.lo
  have hlt1 := F.hi
  have hnn : (p.f3.length : Int) ≤ 9223372036854775807 := by omega
  have hw3 : wrap64 (a + 1) = a + 1 := by unfold wrap64; omega
  obtain ⟨ad, ea, x0, x1⟩ := at_T32 (Kd.C_below hB H.old) a ha0 hlt1
  subst ea
  have hop1 := F.op.1
  have hop2 := F.op.2
  have f67 := Aside0.mk F.slot
  have fone := Aside0.mk F.one
  have ftwo := Aside0.mk F.two
  have fjump := Aside0.mk F.jump
  have fword := Aside0.mk F.word
  have fstl := Aside0.mk F.stl
  clear F
  unfold Pure.goP
  generalize hop : (rd_T32 p.f3 a).f0 = op at *
  generalize haa : (rd_T32 p.f3 a).f1 = aa at *
  clear hop haa
  have HH := Aside0.mk H
  have HMD := Aside0.mk hmd
  have HMX := Aside0.mk hM
  have HE := Aside0.mk hE
  clear hE hmd hM H hB hK hb hn1
  obtain ⟨r, hr⟩ : ∃ r, Pure.goS op aa a s st = r := ⟨_, rfl⟩
  rw [hr]
  have HRR := Aside0.mk hr
  clear hr
  have hgw : w.heap.size ≠ g := by have := blk_lt HH.out.blk; omega
  have hA := (Below.refl w.heap.size w).alloc (Nat.le_refl _) (.cells #[.int .u8 op, .int .i64 aa] 32 (0, 0))
  have hX := blk_new w (.cells #[.int .u8 op, .int .i64 aa] 32 (0, 0))
  have HX := Aside0.mk hX
  have H2 := Aside0.mk (HH.out.below hA)
  have s0 : (w.alloc (.cells #[.int .u8 op, .int .i64 aa] 32 (0, 0))).cell? ⟨w.heap.size, 0, none⟩ = some (.int .u8 op) := (blk_cell hX 0).trans rfl
  have s1 : (w.alloc (.cells #[.int .u8 op, .int .i64 aa] 32 (0, 0))).cell? ⟨w.heap.size, 1, none⟩ = some (.int .i64 aa) := (blk_cell hX 1).trans rfl
  have q8 := (blk_cell H2.out.blk 8).trans rfl
  have q9 := (blk_cell H2.out.blk 9).trans rfl
  have qf9 := blk_frozen H2.out.blk 9
  clear hA hX
  have HGW := Aside0.mk hgw
  clear hgw
  by_cases cO : op = 1 ∨ op = 2 ∨ op = 3 ∨ op = 4 ∨ op = 5 ∨ op = 6 ∨ op = 7 ∨ op = 8 ∨ op = 13 ∨ op = 15 ∨ op = 16 ∨ op = 22
  case neg =>
    have o1 : (op == 1) = false := beq_eq_false_iff_ne.2 (by omega)
    have o2 : (op == 2) = false := beq_eq_false_iff_ne.2 (by omega)
    have o3 : (op == 3) = false := beq_eq_false_iff_ne.2 (by omega)
    have o4 : (op == 4) = false := beq_eq_false_iff_ne.2 (by omega)
    have o5 : (op == 5) = false := beq_eq_false_iff_ne.2 (by omega)
    have o6 : (op == 6) = false := beq_eq_false_iff_ne.2 (by omega)
    have o7 : (op == 7) = false := beq_eq_false_iff_ne.2 (by omega)
    have o8 : (op == 8) = false := beq_eq_false_iff_ne.2 (by omega)
    have o13 : (op == 13) = false := beq_eq_false_iff_ne.2 (by omega)
    have o15 : (op == 15) = false := beq_eq_false_iff_ne.2 (by omega)
    have o16 : (op == 16) = false := beq_eq_false_iff_ne.2 (by omega)
    have o22 : (op == 22) = false := beq_eq_false_iff_ne.2 (by omega)
    have e_ : Pure.goS op aa a s st = ⟨a + 1, false, s, st⟩ := by
      unfold Pure.goS
      rw [if_neg (by omega), if_neg (by omega), if_neg (by omega), if_neg (by omega), if_neg (by omega), if_neg (by omega), if_neg (by omega)]
    obtain rfl := HRR.out.symm.trans e_
    clear e_ cO
    go_enter Tryd.func70, Tryd.ntmps70
    go_wp2_with fail
    go_ret2
    exact ⟨rfl, vt, H2.out⟩
  clear hop1 hop2
  by_cases c13 : op = 13
  · subst c13
    obtain rfl := HRR.out.symm.trans (show Pure.goS 13 aa a s st = ⟨aa, true, s, st⟩ from rfl)
    clear cO
    go_enter Tryd.func70, Tryd.ntmps70
    go_wp2_with fail
    go_ret2
    exact ⟨rfl, vt, H2.out⟩
  by_cases c15 : op = 15
  · subst c15
    obtain rfl := HRR.out.symm.trans (show Pure.goS 15 aa a s st = ⟨a + 1, true, s, st.dropLast⟩ from rfl)
    have hs := snoc_of (fone.out (.inr rfl))
    have H3 := Aside0.mk (show GoIs w0 (w.alloc (.cells #[.int .u8 15, .int .i64 aa] 32 (0, 0))) g _ _ _ _ _ _ _ _ s (st.dropLast ++ [Pure.lastB st]) wy vs vt vw by rw [← hs]; exact H2.out)
    clear cO hs c13
    go_enter Tryd.func70, Tryd.ntmps70
    go_wp2_with (go_at_call 86; (with_reducible refine (pop_calls H3.out).mono ?_); rintro e w1 ⟨rfl, vt1, hq, hk⟩; have HQ := Aside0.mk hq; clear hq hk)
    go_ret2
    exact ⟨rfl, vt1, HQ.out⟩
  by_cases c22 : op = 22
  · subst c22
    have l1 := ftwo.out rfl
    have hs := snoc_of (st := st) (by omega)
    have hs2 := snoc_of (st := st.dropLast) (by rw [List.length_dropLast]; omega)
    have H3 := Aside0.mk (show GoIs w0 (w.alloc (.cells #[.int .u8 22, .int .i64 aa] 32 (0, 0))) g _ _ _ _ _ _ _ _ s (st.dropLast ++ [Pure.lastB st]) wy vs vt vw by rw [← hs]; exact H2.out)
    have HS2 := Aside0.mk hs2
    have hr : Pure.goS 22 aa a s st = ⟨-1, !Pure.lastB st && Pure.lastB st.dropLast, s, if Pure.lastB st = true then st.dropLast else st.dropLast.dropLast⟩ := rfl
    obtain rfl := HRR.out.symm.trans hr
    clear cO hs hs2 c13 c15 l1 hr HRR
    generalize Pure.lastB st = b1 at *
    cases b1 with
    | true =>
      go_enter Tryd.func70, Tryd.ntmps70
      go_wp2_with (go_at_call 86; (with_reducible refine (pop_calls H3.out).mono ?_); rintro e w1 ⟨rfl, vt1, hq, hk⟩; have HQ := Aside0.mk hq; clear hq hk)
      go_ret2
      exact ⟨rfl, vt1, HQ.out⟩
    | false =>
      have HSS := HS2.out
      go_enter Tryd.func70, Tryd.ntmps70
      clear HSS
      go_wp2_with (first | (go_at_call 86; (with_reducible refine (pop_calls H3.out).mono ?_); rintro e w1 ⟨rfl, vt1, hq, hk⟩; rw [HS2.out] at hq; have HQ := Aside0.mk hq; clear hq hk H3) | (go_at_call 86; (with_reducible refine (pop_calls HQ.out).mono ?_); rintro e w2 ⟨rfl, vt2, hq, hk⟩; have HQ2 := Aside0.mk hq; clear hq hk))
      go_ret2
      exact ⟨by rfl, vt2, HQ2.out⟩
  by_cases cA : op = 1 ∨ op = 2 ∨ op = 3 ∨ op = 4 ∨ op = 5 ∨ op = 8
  · clear cO c13 c15 c22
    have hr : Pure.goS op aa a s st = ⟨a + 1, true, s, st ++ [false]⟩ := by rcases cA with rfl | rfl | rfl | rfl | rfl | rfl <;> rfl
    obtain rfl := HRR.out.symm.trans hr
    clear hr HRR
    rcases cA with rfl | rfl | rfl | rfl | rfl | rfl
    all_goals
      go_enter Tryd.func70, Tryd.ntmps70
      go_wp2_with ((with_reducible refine gate_builtin (b := .append) (xs := #[.tmp 32, .tmp 33]) rfl ?_); at_builtin; go_loud (refine Kd.R_append Kd.bool (w0 := w0) w0.heap.size rfl (.tmp 32) (.tmp 33) 89 4 (.bool false) 1 rfl Tryd.underlying89 info4 rfl (by decide) (by omega) vt st false [.bool false] (fun k => k ≠ g ∧ vs.ownBlock ≠ some k ∧ vw.ownBlock ≠ some k) (fun _ => False) rfl (show Value.slice (some ⟨w.heap.size + 1, 0, none⟩) 1 1 = _ by rw [World.size_alloc]) rfl (fun _ hk => hk.elim) H2.out.fresh H2.out.rt2 H2.out.old H2.out.old.size (by have := fstl.out; omega) ?_; intro v1 w1 hr hb hg hat; obtain ⟨z9, zf, hq⟩ := H2.out.pushed hr hb hg; have HQ := Aside0.mk hq; obtain ⟨Av, cv, ev⟩ := Kd.R_slice hr; generalize (st ++ [false]).length = m at ev; clear hr hb hg hat hq; subst ev))
      go_ret2
      exact ⟨rfl, _, HQ.out⟩
  by_cases c6 : op = 6
  · subst c6
    have hsl := f67.out (.inl rfl)
    obtain ⟨gs, cap, ev, _⟩ := Kd.R_form HH.out.rs (by omega)
    subst ev
    have e1 := (Kd.R_cell false H2.out.rs aa hsl.1 hsl.2).1
    have hr : Pure.goS 6 aa a s st = ⟨a + 1, decide (aa ≠ 0), s, st ++ [rdOf false s aa]⟩ := rfl
    obtain rfl := HRR.out.symm.trans hr
    have HSL := hsl.1
    have HSL2 := hsl.2
    have hsm := (Kd.R_reads' H2.out.rs).2.2.2.1
    clear hsl hr HRR cO c13 c15 c22 cA
    generalize rdOf false s aa = x at *
    have hd : ∃ d, (aa != 0) = d ∧ decide (aa ≠ 0) = d := ⟨_, rfl, by by_cases h : aa = 0 <;> simp [h]⟩
    obtain ⟨d, hd1, hd2⟩ := hd
    rw [hd2]
    clear hd2
    have y9 := ((below_alloc (Below.refl _ (w.alloc (.cells #[.int .u8 6, .int .i64 aa] 32 (0, 0)))) (.cells #[.bool x] 4 (0, 0))).cell (World.block_lt_of_cell? _ _ q9)).trans q9
    go_enter Tryd.func70, Tryd.ntmps70
    go_wp2_with fail
    go_region_law (go_loud (refine Kd.R_append_step Kd.bool (w0 := w0) (W := (w.alloc (.cells #[.int .u8 6, .int .i64 aa] 32 (0, 0))).drew) w0.heap.size (by simp [Region.wanted]) (.tmp 46) (.tmp 55) 89 4 (.bool false) 1 rfl Tryd.underlying89 info4 rfl (by decide) (by omega) vt st x [.bool x] (fun k => k ≠ g ∧ (Value.slice (some ⟨gs, 0, none⟩) s.length cap).ownBlock ≠ some k ∧ vw.ownBlock ≠ some k) (fun _ => False) (by simp [Act.eval, Act.put]) (by simp [Act.eval, Act.put]) rfl (fun _ hk => hk.elim) (H2.out.below (Below.refl _ _).drew).fresh (H2.out.below (Below.refl _ _).drew).rt2 (H2.out.below (Below.refl _ _).drew).old (H2.out.below (Below.refl _ _).drew).old.size (by have := fstl.out; omega) ?_; intro v1 w1 hr hb hg hat; obtain ⟨z9, zf, hq⟩ := (H2.out.below (Below.refl _ _).drew).pushed hr hb hg; have HQ := Aside0.mk hq; obtain ⟨Av, cv, ev⟩ := Kd.R_slice hr; generalize (st ++ [x]).length = m at ev; clear hr hb hg hat hq; subst ev))
    all_goals
      go_wp2_with fail
      go_ret2
      exact ⟨rfl, _, HQ.out⟩
  by_cases c7 : op = 7
  · subst c7
    have hsl := f67.out (.inr rfl)
    obtain ⟨gs, cap, ev, _⟩ := Kd.R_form HH.out.rs (by omega)
    subst ev
    have hs := snoc_of (fone.out (.inl rfl))
    have H3 := Aside0.mk (show GoIs w0 (w.alloc (.cells #[.int .u8 7, .int .i64 aa] 32 (0, 0))) g _ _ _ _ _ _ _ _ s (st.dropLast ++ [Pure.lastB st]) wy (.slice (some ⟨gs, 0, none⟩) s.length cap) vt vw by rw [← hs]; exact H2.out)
    have hr : Pure.goS 7 aa a s st = ⟨a + 1, decide (aa ≠ 0), s.set aa.toNat (Pure.lastB st), st.dropLast⟩ := rfl
    obtain rfl := HRR.out.symm.trans hr
    have HSL := hsl.1
    have HSL2 := hsl.2
    have hsm := (Kd.R_reads' H2.out.rs).2.2.2.1
    clear hsl hr HRR cO c13 c15 c22 cA c6 hs
    generalize Pure.lastB st = x at *
    have hd : ∃ d, (aa != 0) = d ∧ decide (aa ≠ 0) = d := ⟨_, rfl, by by_cases h : aa = 0 <;> simp [h]⟩
    obtain ⟨d, hd1, hd2⟩ := hd
    rw [hd2]
    clear hd2
    have S0 : (w.alloc (.cells #[.int .u8 7, .int .i64 aa] 32 (0, 0))).cell? ⟨g, 8, none⟩ = some (.slice (some ⟨gs, 0, none⟩) s.length cap) ∧ (w.alloc (.cells #[.int .u8 7, .int .i64 aa] 32 (0, 0))).cell? ⟨w.heap.size, 1, none⟩ = some (.int .i64 aa) := ⟨q8, s1⟩
    go_enter Tryd.func70, Tryd.ntmps70
    go_wp2_with fail
    go_region_held3 (fun W' => W'.cell? ⟨g, 8, none⟩ = some (.slice (some ⟨gs, 0, none⟩) s.length cap) ∧ W'.cell? ⟨w.heap.size, 1, none⟩ = some (.int .i64 aa)) (first | exact S0 | exact S1 | exact S2 | fail)
      ((go_at_call 86; go_loud (refine (pop_calls (H3.out.below (Below.refl _ _).drew)).mono ?_); rintro e w1 ⟨rfl, vt1, hq, hk⟩; have hbx := (hk.block w.heap.size (by rw [show (w.alloc (.cells #[.int .u8 7, .int .i64 aa] 32 (0, 0))).drew.heap.size = w.heap.size + 1 from World.size_alloc _ _]; omega) HGW.out HGW.out (by simp)).trans (blk_drew HX.out); have S1 : w1.cell? ⟨g, 8, none⟩ = some (.slice (some ⟨gs, 0, none⟩) s.length cap) ∧ w1.cell? ⟨w.heap.size, 1, none⟩ = some (.int .i64 aa) := (by exact ⟨(blk_cell hq.blk 8).trans rfl, (blk_cell hbx 1).trans rfl⟩); have hq2 := hq.slot aa x; have tf := (Kd.R_cell false hq.rs aa HSL HSL2).2; have tf1 := (Kd.R_cell false hq.rs aa HSL HSL2).1; have hne : w.heap.size ≠ gs := (by have := blk_lt HH.out.blk; have := Kd.R_lt HH.out.rs gs rfl; omega); have hbx2 := blk_far hbx (p := ⟨gs, aa.toNat, none⟩) hne (.bool x); have S2 : (w1.setCell ⟨gs, aa.toNat, none⟩ (.bool x)).cell? ⟨g, 8, none⟩ = some (.slice (some ⟨gs, 0, none⟩) s.length cap) ∧ (w1.setCell ⟨gs, aa.toNat, none⟩ (.bool x)).cell? ⟨w.heap.size, 1, none⟩ = some (.int .i64 aa) := (by exact ⟨(blk_cell hq2.blk 8).trans rfl, (blk_cell hbx2 1).trans rfl⟩); have HQ := Aside0.mk hq2; clear hq hk hbx hq2 hbx2 hne))
    all_goals
      go_wp2_with fail
      go_ret2
      exact ⟨rfl, _, HQ.out⟩
  obtain rfl : op = 16 := by omega
  have hw := fword.out rfl
  obtain ⟨kE, lE, okE, hE⟩ := HE.out rfl
  have HPR := Aside0.mk (show 0 ≤ aa ∧ aa < 32 from of_decide_eq_true hw.1)
  have HE6 := Aside0.mk hE
  have hr : Pure.goS 16 aa a s st = ⟨a + 1, Pure.pureW aa && Pure.freeS st (Pure.takesW aa).toNat, s, (if Pure.pureW aa = true then st.take (st.length - (Pure.takesW aa).toNat) else st) ++ [false]⟩ := rfl
  obtain rfl := HRR.out.symm.trans hr
  obtain ⟨n, hn⟩ : ∃ n : Nat, Pure.takesW aa = (n : Int) := ⟨(Pure.takesW aa).toNat, by have := hw.2.1; omega⟩
  have hnl : n ≤ st.length := by have := hw.2.2.2; rw [hn] at this; omega
  have HNL := Aside0.mk hnl
  rw [hn] at HE6
  rw [show (Pure.takesW aa).toNat = n by rw [hn]; rfl]
  have q0 := (blk_cell H2.out.blk 0).trans rfl
  have q1 := (blk_cell H2.out.blk 1).trans rfl
  have q2 := (blk_cell H2.out.blk 2).trans rfl
  have q3 := (blk_cell H2.out.blk 3).trans rfl
  have HO := Aside0.mk H2.out.old
  have HMDD := Aside0.mk (HMD.out.below HO.out.drew)
  have HMXX := Aside0.mk (HMX.out.below HO.out.drew)
  obtain ⟨pw, hpw⟩ : ∃ pw, Pure.pureW aa = pw := ⟨_, rfl⟩
  rw [hpw]
  have HPW := Aside0.mk hpw
  have hl5 : (if pw = true then st.take (st.length - n) else st).length ≤ 256 := by
    have := fstl.out
    split
    · rw [List.length_take]; omega
    · exact this
  obtain ⟨st5, hst5⟩ : ∃ st5, (if pw = true then st.take (st.length - n) else st) = st5 := ⟨_, rfl⟩
  rw [hst5] at hl5 ⊢
  have HL5 := Aside0.mk hl5
  have HST5 := Aside0.mk hst5
  clear hpw hst5 hl5
  clear cO c6 c7 c13 c15 c22 cA hw hE hr HRR hn hnl
  go_enter Tryd.func70, Tryd.ntmps70
  go_wp2_with fail
  go_cut [8, 9, 10] (fun s8 s9 s10 wx => s8 = .int .i64 (n : Int) ∧ s9 = .int .i64 lE ∧ s10 = .bool okE ∧ Aside0 (GoIs w0 wx g (.slice A0 l0.length c0) (.slice A1 l1.length c1) (.slice A2 l2.length c2) (.slice A3 l3.length c3) (.int .i64 p.f0) (.int .i64 p.f1) (.int .i64 p.f2) (.slice (some ad) p.f3.length b) s st wy vs vt vw) ∧ Aside0 (wx.heap[w.heap.size]? = some (.cells #[.int .u8 16, .int .i64 aa] 32 (0, 0))))
  case first =>
    go_region_with (go_at_call 20; go_loud (refine (code_Effect.calls kE A0 c0 l0 A1 c1 l1 A2 c2 l2 A3 c3 l3 16 aa n lE okE _ HMDD.out.r0 HMDD.out.h0 HMDD.out.r1 HMDD.out.h1 HMDD.out.r2 HMDD.out.h2 HMDD.out.r3 HMDD.out.h3 HMXX.out HE6.out).mono ?_); rintro e w1 ⟨rfl, hb1⟩; have HC1 := Aside0.mk ((H2.out.below (Below.refl _ _).drew).below hb1); have U := Aside0.mk (blk_below (blk_drew HX.out) hb1); clear hb1)
    all_goals
      go_wp2_with fail
      go_meet
      exact ⟨rfl, rfl, rfl, HC1, U⟩
  case rest =>
    obtain ⟨rfl, rfl, rfl, HC1, U⟩ := hcut
    have u0 : wc.cell? ⟨w.heap.size, 0, none⟩ = some (.int .u8 16) := (blk_cell U.out 0).trans rfl
    have u1 : wc.cell? ⟨w.heap.size, 1, none⟩ = some (.int .i64 aa) := (blk_cell U.out 1).trans rfl
    have y0 := (blk_cell HC1.out.blk 0).trans rfl
    have y1 := (blk_cell HC1.out.blk 1).trans rfl
    have y2 := (blk_cell HC1.out.blk 2).trans rfl
    have y3 := (blk_cell HC1.out.blk 3).trans rfl
    have HO1 := Aside0.mk HC1.out.old
    have HMD1 := Aside0.mk (HMD.out.below HO1.out.drew)
    have HMX1 := Aside0.mk (HMX.out.below HO1.out.drew)
    clear q0 q1 q2 q3 q8 q9 qf9 s0 s1
    go_wp2_with fail
    go_cut [7] (fun s7 wx => s7 = .bool (pw && Pure.freeS st n) ∧ ∃ vt5, Aside0 (GoIs w0 wx g (.slice A0 l0.length c0) (.slice A1 l1.length c1) (.slice A2 l2.length c2) (.slice A3 l3.length c3) (.int .i64 p.f0) (.int .i64 p.f1) (.int .i64 p.f2) (.slice (some ad) p.f3.length b) s st5 wy vs vt5 vw))
    case first =>
      have S0 : wc.cell? ⟨g, 0, none⟩ = some (.slice A0 l0.length c0) ∧ wc.cell? ⟨g, 1, none⟩ = some (.slice A1 l1.length c1) ∧ wc.cell? ⟨g, 2, none⟩ = some (.slice A2 l2.length c2) ∧ wc.cell? ⟨g, 3, none⟩ = some (.slice A3 l3.length c3) ∧ wc.cell? ⟨w.heap.size, 0, none⟩ = some (.int .u8 16) ∧ wc.cell? ⟨w.heap.size, 1, none⟩ = some (.int .i64 aa) := ⟨y0, y1, y2, y3, u0, u1⟩
      cases pw with
      | false =>
        first
        | (go_region_law (go_simp; refine Calls.mono (pureW_calls _ _ _ _ aa HPR.out _ HMX1.out) ?_; rintro e w1 ⟨rfl, hb1⟩; rw [HPW.out]; have HC2 := Aside0.mk ((HC1.out.below (Below.refl _ _).drew).below hb1); clear hb1))
        | fail
        all_goals
          go_wp2_with fail
          go_meet
          exact ⟨rfl, vt, ⟨by rw [← HST5.out]; exact HC2.out⟩⟩
      | true =>
        go_region_held3 (fun W' => W'.cell? ⟨g, 0, none⟩ = some (.slice A0 l0.length c0) ∧ W'.cell? ⟨g, 1, none⟩ = some (.slice A1 l1.length c1) ∧ W'.cell? ⟨g, 2, none⟩ = some (.slice A2 l2.length c2) ∧ W'.cell? ⟨g, 3, none⟩ = some (.slice A3 l3.length c3) ∧ W'.cell? ⟨w.heap.size, 0, none⟩ = some (.int .u8 16) ∧ W'.cell? ⟨w.heap.size, 1, none⟩ = some (.int .i64 aa)) (first | exact S0 | exact S1 | exact S2 | fail)
          (first | (go_at_call 37; go_loud (refine (pureW_calls _ _ _ _ aa HPR.out _ HMX1.out).mono ?_); rintro e w1 ⟨rfl, hb1⟩; rw [HPW.out]; have HC2 := Aside0.mk ((HC1.out.below (Below.refl _ _).drew).below hb1); have S1 : w1.cell? ⟨g, 0, none⟩ = some (.slice A0 l0.length c0) ∧ w1.cell? ⟨g, 1, none⟩ = some (.slice A1 l1.length c1) ∧ w1.cell? ⟨g, 2, none⟩ = some (.slice A2 l2.length c2) ∧ w1.cell? ⟨g, 3, none⟩ = some (.slice A3 l3.length c3) ∧ w1.cell? ⟨w.heap.size, 0, none⟩ = some (.int .u8 16) ∧ w1.cell? ⟨w.heap.size, 1, none⟩ = some (.int .i64 aa) := (by exact ⟨(blk_cell HC2.out.blk 0).trans rfl, (blk_cell HC2.out.blk 1).trans rfl, (blk_cell HC2.out.blk 2).trans rfl, (blk_cell HC2.out.blk 3).trans rfl, (blk_cell (blk_below (blk_drew U.out) hb1) 0).trans rfl, (blk_cell (blk_below (blk_drew U.out) hb1) 1).trans rfl⟩); have HX1 := Aside0.mk (blk_below (blk_drew U.out) hb1); clear hb1) | (go_at_call 87; go_loud (refine (goTakes_calls HNL.out HC2.out).mono ?_); rintro e w2 ⟨rfl, vt5, hq, hk⟩; have HQ5 := Aside0.mk hq; have S2 : w2.cell? ⟨g, 0, none⟩ = some (.slice A0 l0.length c0) ∧ w2.cell? ⟨g, 1, none⟩ = some (.slice A1 l1.length c1) ∧ w2.cell? ⟨g, 2, none⟩ = some (.slice A2 l2.length c2) ∧ w2.cell? ⟨g, 3, none⟩ = some (.slice A3 l3.length c3) ∧ w2.cell? ⟨w.heap.size, 0, none⟩ = some (.int .u8 16) ∧ w2.cell? ⟨w.heap.size, 1, none⟩ = some (.int .i64 aa) := (by have hbx := (hk.block w.heap.size (blk_lt HX1.out) HGW.out HGW.out (by simp)).trans HX1.out; exact ⟨(blk_cell hq.blk 0).trans rfl, (blk_cell hq.blk 1).trans rfl, (blk_cell hq.blk 2).trans rfl, (blk_cell hq.blk 3).trans rfl, (blk_cell hbx 0).trans rfl, (blk_cell hbx 1).trans rfl⟩); clear hq hk))
        all_goals
          go_wp2_with fail
          go_meet
          exact ⟨rfl, vt5, ⟨by rw [← HST5.out]; exact HQ5.out⟩⟩
    case rest =>
      obtain ⟨rfl, vt5, H5⟩ := hcut
      have z9 := (blk_cell H5.out.blk 9).trans rfl
      have zf9 := blk_frozen H5.out.blk 9
      clear y0 y1 y2 y3 u0 u1
      go_wp2_with ((with_reducible refine gate_builtin (b := .append) (xs := #[.tmp 117, .tmp 118]) rfl ?_); at_builtin; go_loud (refine Kd.R_append Kd.bool (w0 := w0) w0.heap.size rfl (.tmp 117) (.tmp 118) 89 4 (.bool false) 1 rfl Tryd.underlying89 info4 rfl (by decide) (by omega) vt5 st5 false [.bool false] (fun k => k ≠ g ∧ vs.ownBlock ≠ some k ∧ vw.ownBlock ≠ some k) (fun _ => False) rfl rfl rfl (fun _ hk => hk.elim) H5.out.fresh H5.out.rt2 H5.out.old H5.out.old.size (by have := HL5.out; omega) ?_; intro v1 w1 hr hb hg hat; obtain ⟨z9, zf, hq⟩ := H5.out.pushed hr hb hg; have HQ := Aside0.mk hq; obtain ⟨Av, cv, ev⟩ := Kd.R_slice hr; generalize (st5 ++ [false]).length = m at ev; clear hr hb hg hat hq; subst ev))
      go_ret2
      exact ⟨rfl, _, HQ.out⟩
end
end Go.Proofs.YtfncoldcjhkhiaaDoor.NW
