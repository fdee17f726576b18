/- ir.runner.inst: what an instruction does. -/
import Derived.Test.YtjkjbfhhfdbnoaaTc
import Derived.StillTailTactics
import Derived.Deep.RegionHeld2
namespace Go.Proofs.Ytjkjbfhhfdbnoaa.NW
open Go.RowKit Go.Proofs.YtjkjbfhhfdbnoaaW.PrintWords Go.Proofs.YtjkjbfhhfdbnoaaW.PrintMore Go.Proofs.Ytjkjbfhhfdbnoaa.PB
set_option linter.unusedVariables false
set_option linter.unusedSimpArgs false
/-- what the program's words of one and of two values answer -/
structure OpsVal (O : Ops) (P : S37 → Prop) : Prop where
  one : ∀ (wd : ByteArray) (v : S37), P v → ∃ (r : S37) (e : Int), (∀ w : World, Calls Try.prog 77 #[.string wd, .agg #[.int .u8 v.f0, .int .i64 v.f1, .string v.f2]] w fun x w' => x = .returned (.tuple #[.agg #[.int .u8 r.f0, .int .i64 r.f1, .string r.f2], .int .i64 e]) ∧ Below w.heap.size w w') ∧ O.one wd v = (if e = 0 then some r else none) ∧ (e = 0 → P r)
  two : ∀ (wd : ByteArray) (v u : S37), P v → P u → ∃ (r : S37) (e : Int), (∀ w : World, Calls Try.prog 79 #[.string wd, .agg #[.int .u8 v.f0, .int .i64 v.f1, .string v.f2], .agg #[.int .u8 u.f0, .int .i64 u.f1, .string u.f2]] w fun x w' => x = .returned (.tuple #[.agg #[.int .u8 r.f0, .int .i64 r.f1, .string r.f2], .int .i64 e]) ∧ Below w.heap.size w w') ∧ O.two wd v u = (if e = 0 then some r else none) ∧ (e = 0 → P r)
theorem cell_far {W W' : World} {p : Addr} {v : Value} (h : W'.heap[p.block]? = W.heap[p.block]?) (hc : W.cell? p = some v) : W'.cell? p = some v := by simpa [World.cell?, h] using hc
theorem rd_set_at {r : List S37} {d a : Int} (d0 : 0 ≤ d) (d1 : d < r.length) (a0 : 0 ≤ a) : rd_T37 (r.set d.toNat (rd_T37 r a)) a = rd_T37 r a := by
  by_cases h : a = d
  · subst h; exact rd_set_self d0 d1
  · exact rd_set_ne d0 a0 h
/-- what inst leaves: it goes on, or throws -/
def Ran (O : Ops) (x : S39) (r : List S37) (g : List S54) (w0 : World) (rb gr cr : Nat) (A0 : Option Addr) (c0 : Nat) (ups : List S37) (A2 : Option Addr) (c2 : Nat) (ons : List S54) (e : Ending) (w' : World) : Prop :=
  (∃ r' g' vg', doesK O ups ons x r g = some (r', g') ∧ e = .returned (.tuple #[]) ∧ RunIs w0 w' rb gr cr r' vg' g' A0 c0 ups A2 c2 ons) ∨ (doesK O ups ons x r g = none ∧ e = .panicked stopE ∧ Below w0.heap.size w0 w')
section
variable {w0 W : World} {rb gr cr : Nat} {r : List S37} {vg : Value} {g : List S54} {A0 : Option Addr} {c0 : Nat} {ups : List S37} {A2 : Option Addr} {c2 : Nat} {ons : List S54}
set_option maxHeartbeats 3200000 in
set_option maxRecDepth 1000000 in
theorem run_calls (O : Ops) (P : S37 → Prop) (hO : OpsVal O P) (h : RunIs w0 W rb gr cr r vg g A0 c0 ups A2 c2 ons) (x : S39) (hop : 1 ≤ x.f0 ∧ x.f0 ≤ 8) (h6 : x.f0 ≠ 6) (hk : InstOk r.length g.length x) (hl : r.length ≤ 5000 ∧ g.length ≤ 5000) (hP : ∀ v ∈ r, P v) :
    Calls Try.prog 57 #[.pointer (some ⟨rb, 0, none⟩), .agg #[.int .u8 x.f0, .int .i64 x.f1, .int .i64 x.f2, .int .i64 x.f3, .string x.f4, .int .u8 x.f5.f0, .int .i64 x.f5.f1, .string x.f5.f2]] W fun e w' => Ran O x r g w0 rb gr cr A0 c0 ups A2 c2 ons e w' := by
  obtain ⟨op, d, a, b, wd, ⟨t, n, s⟩⟩ := x
  dsimp only at hop h6 ⊢
  have hops : op = 1 ∨ op = 2 ∨ op = 3 ∨ op = 4 ∨ op = 5 ∨ op = 7 ∨ op = 8 := by omega
  have HB := Aside0.mk (below_alloc (Below.refl W.heap.size W) (.cells #[.int .u8 op, .int .i64 d, .int .i64 a, .int .i64 b, .string wd, .int .u8 t, .int .i64 n, .string s] 39))
  have HI := Aside0.mk (blk_new W (.cells #[.int .u8 op, .int .i64 d, .int .i64 a, .int .i64 b, .string wd, .int .u8 t, .int .i64 n, .string s] 39))
  have HR := Aside0.mk (h.below HB.out)
  have HL := Aside0.mk hl
  have HP := Aside0.mk hP
  have hm0 := Kd.C_max h.r0
  have HNE := Aside0.mk (show rb ≠ W.heap.size ∧ gr ≠ W.heap.size from ⟨by have := blk_lt h.blk; omega, by have := Kd.R_lt h.regs gr rfl; omega⟩)
  clear h hl hP hop HB
  go_enter Try.func57, Try.ntmps57
  go_upto_region 2 with fail
  generalize W.alloc (.cells #[.int .u8 op, .int .i64 d, .int .i64 a, .int .i64 b, .string wd, .int .u8 t, .int .i64 n, .string s] 39) = w1 at HI HR ⊢
  generalize W.heap.size = gi at HI HNE ⊢
  rcases hops with rfl | rfl | rfl | rfl | rfl | rfl | rfl
  · obtain ⟨d0, d1⟩ := hk.dst (by show (1 : Int) ≠ 6; omega) (by show (1 : Int) ≠ 8; omega)
    dsimp only at d0 d1
    have i1 := (blk_cell HI.out 1).trans rfl
    have i5 := (blk_cell HI.out 5).trans rfl
    have i6 := (blk_cell HI.out 6).trans rfl
    have i7 := (blk_cell HI.out 7).trans rfl
    have k0 := HR.out.cells.1
    obtain ⟨hp, hq⟩ := HR.out.put ⟨t, n, s⟩ d0 d1
    have HQ := Aside0.mk hq
    have HOLD := Aside0.mk hp
    obtain ⟨_, q0⟩ := hp.c0
    obtain ⟨_, q1⟩ := hp.c1
    obtain ⟨_, q2⟩ := hp.c2
    have q3 := hp.z0
    have q4 := hp.z1
    have q5 := hp.z2
    clear hp hq
    have HD := Aside0.mk (show doesK O ups ons ⟨1, d, a, b, wd, ⟨t, n, s⟩⟩ r g = some (r.set d.toNat ⟨t, n, s⟩, g) from rfl)
    go_upto_region 3 with fail
    first
    | (go_region_law (go_simp))
    | fail
    all_goals
      go_end0
      exact .inl ⟨_, _, _, HD.out, rfl, HQ.out.below (below_drew (Below.refl _ _))⟩
  · obtain ⟨d0, d1⟩ := hk.dst (by show (2 : Int) ≠ 6; omega) (by show (2 : Int) ≠ 8; omega)
    dsimp only at d0 d1
    obtain ⟨a0, a1⟩ := hk.a (.inl rfl)
    dsimp only at a0 a1
    have i1 := (blk_cell HI.out 1).trans rfl
    have i2 := (blk_cell HI.out 2).trans rfl
    have k0 := HR.out.cells.1
    obtain ⟨f0, f1, f2⟩ := HR.out.at_ a0 a1
    obtain ⟨hp, hq⟩ := HR.out.put (rd_T37 r a) d0 d1
    have HQ := Aside0.mk hq
    have HOLD := Aside0.mk hp
    obtain ⟨_, q0⟩ := hp.c0
    obtain ⟨_, q1⟩ := hp.c1
    obtain ⟨_, q2⟩ := hp.c2
    have q3 := hp.z0
    have q4 := hp.z1
    have q5 := hp.z2
    clear hp hq
    have HD := Aside0.mk (show doesK O ups ons ⟨2, d, a, b, wd, ⟨t, n, s⟩⟩ r g = some (r.set d.toNat (rd_T37 r a), g) from rfl)
    obtain ⟨g0, g1, g2⟩ := HQ.out.at_ a0 (by rw [List.length_set]; exact a1)
    rw [rd_set_at d0 d1 a0] at g0 g1 g2
    have kq := HQ.out.cells.1
    rw [List.length_set] at kq
    have iq := (HOLD.out.far gi (Ne.symm HNE.out.2)).trans HI.out
    have iq1 := (blk_cell iq 1).trans rfl
    have iq2 := (blk_cell iq 2).trans rfl
    clear iq
    generalize rd_T37 r a = v at f0 f1 f2 g0 g1 g2 q1 q2 q3 q4 q5 HQ HD HOLD kq iq1 iq2
    have S0 : w1.cell? ⟨rb, 0, none⟩ = some (.slice (some ⟨gr, 0, none⟩) r.length cr) ∧ w1.cell? ⟨gi, 1, none⟩ = some (.int .i64 d) ∧ w1.cell? ⟨gi, 2, none⟩ = some (.int .i64 a) ∧ w1.cell? ⟨gr, a.toNat * 3, none⟩ = some (.int .u8 v.f0) ∧ w1.cell? ⟨gr, a.toNat * 3 + 1, none⟩ = some (.int .i64 v.f1) ∧ w1.cell? ⟨gr, a.toNat * 3 + 2, none⟩ = some (.string v.f2) := ⟨k0, i1, i2, f0, f1, f2⟩
    have S1 : (((w1.setCell ⟨gr, d.toNat * 3, none⟩ (.int .u8 v.f0)).setCell ⟨gr, d.toNat * 3 + 1, none⟩ (.int .i64 v.f1)).setCell ⟨gr, d.toNat * 3 + 2, none⟩ (.string v.f2)).cell? ⟨rb, 0, none⟩ = some (.slice (some ⟨gr, 0, none⟩) r.length cr) ∧ (((w1.setCell ⟨gr, d.toNat * 3, none⟩ (.int .u8 v.f0)).setCell ⟨gr, d.toNat * 3 + 1, none⟩ (.int .i64 v.f1)).setCell ⟨gr, d.toNat * 3 + 2, none⟩ (.string v.f2)).cell? ⟨gi, 1, none⟩ = some (.int .i64 d) ∧ (((w1.setCell ⟨gr, d.toNat * 3, none⟩ (.int .u8 v.f0)).setCell ⟨gr, d.toNat * 3 + 1, none⟩ (.int .i64 v.f1)).setCell ⟨gr, d.toNat * 3 + 2, none⟩ (.string v.f2)).cell? ⟨gi, 2, none⟩ = some (.int .i64 a) ∧ (((w1.setCell ⟨gr, d.toNat * 3, none⟩ (.int .u8 v.f0)).setCell ⟨gr, d.toNat * 3 + 1, none⟩ (.int .i64 v.f1)).setCell ⟨gr, d.toNat * 3 + 2, none⟩ (.string v.f2)).cell? ⟨gr, a.toNat * 3, none⟩ = some (.int .u8 v.f0) ∧ (((w1.setCell ⟨gr, d.toNat * 3, none⟩ (.int .u8 v.f0)).setCell ⟨gr, d.toNat * 3 + 1, none⟩ (.int .i64 v.f1)).setCell ⟨gr, d.toNat * 3 + 2, none⟩ (.string v.f2)).cell? ⟨gr, a.toNat * 3 + 1, none⟩ = some (.int .i64 v.f1) ∧ (((w1.setCell ⟨gr, d.toNat * 3, none⟩ (.int .u8 v.f0)).setCell ⟨gr, d.toNat * 3 + 1, none⟩ (.int .i64 v.f1)).setCell ⟨gr, d.toNat * 3 + 2, none⟩ (.string v.f2)).cell? ⟨gr, a.toNat * 3 + 2, none⟩ = some (.string v.f2) := ⟨kq, iq1, iq2, g0, g1, g2⟩
    go_upto_region 5 with fail
    go_region_held3 (fun W' => W'.cell? ⟨rb, 0, none⟩ = some (.slice (some ⟨gr, 0, none⟩) r.length cr) ∧ W'.cell? ⟨gi, 1, none⟩ = some (.int .i64 d) ∧ W'.cell? ⟨gi, 2, none⟩ = some (.int .i64 a) ∧ W'.cell? ⟨gr, a.toNat * 3, none⟩ = some (.int .u8 v.f0) ∧ W'.cell? ⟨gr, a.toNat * 3 + 1, none⟩ = some (.int .i64 v.f1) ∧ W'.cell? ⟨gr, a.toNat * 3 + 2, none⟩ = some (.string v.f2)) (first | exact S0 | exact S1 | fail) (fail)
    all_goals
      go_end0
      exact .inl ⟨_, _, _, HD.out, rfl, by first | exact HQ.out.below (below_drew (Below.refl _ _)) | exact HQ.out⟩
  · obtain ⟨d0, d1⟩ := hk.dst (by show (3 : Int) ≠ 6; omega) (by show (3 : Int) ≠ 8; omega)
    dsimp only at d0 d1
    obtain ⟨a0, a1⟩ := hk.a (.inr (.inl rfl))
    dsimp only at a0 a1
    have hpv := HP.out _ (mem_rd a0 a1)
    have HD := Aside0.mk (show doesK O ups ons ⟨3, d, a, b, wd, ⟨t, n, s⟩⟩ r g = (O.one wd (rd_T37 r a)).map fun v => (r.set d.toNat v, g) from rfl)
    have i2 := (blk_cell HI.out 2).trans rfl
    have i4 := (blk_cell HI.out 4).trans rfl
    have k0 := HR.out.cells.1
    obtain ⟨fa0, fa1, fa2⟩ := HR.out.at_ a0 a1
    generalize rd_T37 r a = v at fa0 fa1 fa2 HD hpv
    obtain ⟨rr, er, hcall, hon, hpr⟩ := hO.one wd v hpv
    rw [hon] at HD
    have HC := Aside0.mk hcall
    clear hcall hon hpr hpv
    go_upto_region 7 with fail
    go_cut [4, 5] from 41 to 54 (fun p e wx => ∃ gc, p = .pointer (some ⟨gc, 0, none⟩) ∧ e = .int .i64 er ∧ Aside0 (Below w1.heap.size w1 wx) ∧ Aside0 (wx.heap[gc]? = some (.cells #[.int .u8 rr.f0, .int .i64 rr.f1, .string rr.f2] 37 (0, 0))))
    case first =>
      have hbA := below_alloc (Below.refl w1.heap.size w1) (.cells #[.int .u8 0, .int .i64 0, .string ⟨#[]⟩] 37)
      have S0 : w1.cell? ⟨rb, 0, none⟩ = some (.slice (some ⟨gr, 0, none⟩) r.length cr) ∧ w1.cell? ⟨gi, 2, none⟩ = some (.int .i64 a) ∧ w1.cell? ⟨gi, 4, none⟩ = some (.string wd) ∧ w1.cell? ⟨gr, a.toNat * 3, none⟩ = some (.int .u8 v.f0) ∧ w1.cell? ⟨gr, a.toNat * 3 + 1, none⟩ = some (.int .i64 v.f1) ∧ w1.cell? ⟨gr, a.toNat * 3 + 2, none⟩ = some (.string v.f2) := ⟨k0, i2, i4, fa0, fa1, fa2⟩
      have SA : (w1.alloc (.cells #[.int .u8 0, .int .i64 0, .string ⟨#[]⟩] 37)).cell? ⟨rb, 0, none⟩ = some (.slice (some ⟨gr, 0, none⟩) r.length cr) ∧ (w1.alloc (.cells #[.int .u8 0, .int .i64 0, .string ⟨#[]⟩] 37)).cell? ⟨gi, 2, none⟩ = some (.int .i64 a) ∧ (w1.alloc (.cells #[.int .u8 0, .int .i64 0, .string ⟨#[]⟩] 37)).cell? ⟨gi, 4, none⟩ = some (.string wd) ∧ (w1.alloc (.cells #[.int .u8 0, .int .i64 0, .string ⟨#[]⟩] 37)).cell? ⟨gr, a.toNat * 3, none⟩ = some (.int .u8 v.f0) ∧ (w1.alloc (.cells #[.int .u8 0, .int .i64 0, .string ⟨#[]⟩] 37)).cell? ⟨gr, a.toNat * 3 + 1, none⟩ = some (.int .i64 v.f1) ∧ (w1.alloc (.cells #[.int .u8 0, .int .i64 0, .string ⟨#[]⟩] 37)).cell? ⟨gr, a.toNat * 3 + 2, none⟩ = some (.string v.f2) := ⟨(hbA.cell (World.block_lt_of_cell? w1 _ k0)).trans k0, (hbA.cell (World.block_lt_of_cell? w1 _ i2)).trans i2, (hbA.cell (World.block_lt_of_cell? w1 _ i4)).trans i4, (hbA.cell (World.block_lt_of_cell? w1 _ fa0)).trans fa0, (hbA.cell (World.block_lt_of_cell? w1 _ fa1)).trans fa1, (hbA.cell (World.block_lt_of_cell? w1 _ fa2)).trans fa2⟩
      go_region_held3 (fun W' => W'.cell? ⟨rb, 0, none⟩ = some (.slice (some ⟨gr, 0, none⟩) r.length cr) ∧ W'.cell? ⟨gi, 2, none⟩ = some (.int .i64 a) ∧ W'.cell? ⟨gi, 4, none⟩ = some (.string wd) ∧ W'.cell? ⟨gr, a.toNat * 3, none⟩ = some (.int .u8 v.f0) ∧ W'.cell? ⟨gr, a.toNat * 3 + 1, none⟩ = some (.int .i64 v.f1) ∧ W'.cell? ⟨gr, a.toNat * 3 + 2, none⟩ = some (.string v.f2)) (first | exact S0 | exact SA | exact S2 | exact S3 _ | exact S5 | fail)
        (first
        | (go_at_call 77; (with_reducible refine (HC.out (w1.alloc (.cells #[.int .u8 0, .int .i64 0, .string ⟨#[]⟩] 37)).drew).mono ?_); rintro e w2 ⟨rfl, hb2⟩; have hn := blk_below (blk_drew (blk_new w1 (.cells #[.int .u8 0, .int .i64 0, .string ⟨#[]⟩] 37))) hb2; have q0 := (blk_cell hn 0).trans rfl; have q1 := (blk_cell hn 1).trans rfl; have q2 := (blk_cell hn 2).trans rfl; have g0 := blk_frozen hn 0; have g1 := blk_frozen hn 1; have g2 := blk_frozen hn 2; have HN := Aside0.mk hn; have S2 : w2.cell? ⟨rb, 0, none⟩ = some (.slice (some ⟨gr, 0, none⟩) r.length cr) ∧ w2.cell? ⟨gi, 2, none⟩ = some (.int .i64 a) ∧ w2.cell? ⟨gi, 4, none⟩ = some (.string wd) ∧ w2.cell? ⟨gr, a.toNat * 3, none⟩ = some (.int .u8 v.f0) ∧ w2.cell? ⟨gr, a.toNat * 3 + 1, none⟩ = some (.int .i64 v.f1) ∧ w2.cell? ⟨gr, a.toNat * 3 + 2, none⟩ = some (.string v.f2) := (by exact ⟨(((below_drew (Below.refl _ (w1.alloc (.cells #[.int .u8 0, .int .i64 0, .string ⟨#[]⟩] 37)))).trans hb2).cell (World.block_lt_of_cell? _ _ SA.1)).trans SA.1, (((below_drew (Below.refl _ (w1.alloc (.cells #[.int .u8 0, .int .i64 0, .string ⟨#[]⟩] 37)))).trans hb2).cell (World.block_lt_of_cell? _ _ SA.2.1)).trans SA.2.1, (((below_drew (Below.refl _ (w1.alloc (.cells #[.int .u8 0, .int .i64 0, .string ⟨#[]⟩] 37)))).trans hb2).cell (World.block_lt_of_cell? _ _ SA.2.2.1)).trans SA.2.2.1, (((below_drew (Below.refl _ (w1.alloc (.cells #[.int .u8 0, .int .i64 0, .string ⟨#[]⟩] 37)))).trans hb2).cell (World.block_lt_of_cell? _ _ SA.2.2.2.1)).trans SA.2.2.2.1, (((below_drew (Below.refl _ (w1.alloc (.cells #[.int .u8 0, .int .i64 0, .string ⟨#[]⟩] 37)))).trans hb2).cell (World.block_lt_of_cell? _ _ SA.2.2.2.2.1)).trans SA.2.2.2.2.1, (((below_drew (Below.refl _ (w1.alloc (.cells #[.int .u8 0, .int .i64 0, .string ⟨#[]⟩] 37)))).trans hb2).cell (World.block_lt_of_cell? _ _ SA.2.2.2.2.2)).trans SA.2.2.2.2.2⟩); have HB2 := Aside0.mk (below_then (below_drew (below_alloc (Below.refl w1.heap.size w1) (.cells #[.int .u8 0, .int .i64 0, .string ⟨#[]⟩] 37))) (by show w1.heap.size ≤ (w1.alloc (.cells #[.int .u8 0, .int .i64 0, .string ⟨#[]⟩] 37)).heap.size; rw [World.size_alloc]; omega) hb2); have HBX := Aside0.mk (((HB2.out.setCell (p := ⟨w1.heap.size, 0, none⟩) (Nat.le_refl _) (.int .u8 rr.f0)).setCell (p := ⟨w1.heap.size, 1, none⟩) (Nat.le_refl _) (.int .i64 rr.f1)).setCell (p := ⟨w1.heap.size, 2, none⟩) (Nat.le_refl _) (.string rr.f2)); have S5 : (((w2.setCell ⟨w1.heap.size, 0, none⟩ (.int .u8 rr.f0)).setCell ⟨w1.heap.size, 1, none⟩ (.int .i64 rr.f1)).setCell ⟨w1.heap.size, 2, none⟩ (.string rr.f2)).cell? ⟨rb, 0, none⟩ = some (.slice (some ⟨gr, 0, none⟩) r.length cr) ∧ (((w2.setCell ⟨w1.heap.size, 0, none⟩ (.int .u8 rr.f0)).setCell ⟨w1.heap.size, 1, none⟩ (.int .i64 rr.f1)).setCell ⟨w1.heap.size, 2, none⟩ (.string rr.f2)).cell? ⟨gi, 2, none⟩ = some (.int .i64 a) ∧ (((w2.setCell ⟨w1.heap.size, 0, none⟩ (.int .u8 rr.f0)).setCell ⟨w1.heap.size, 1, none⟩ (.int .i64 rr.f1)).setCell ⟨w1.heap.size, 2, none⟩ (.string rr.f2)).cell? ⟨gi, 4, none⟩ = some (.string wd) ∧ (((w2.setCell ⟨w1.heap.size, 0, none⟩ (.int .u8 rr.f0)).setCell ⟨w1.heap.size, 1, none⟩ (.int .i64 rr.f1)).setCell ⟨w1.heap.size, 2, none⟩ (.string rr.f2)).cell? ⟨gr, a.toNat * 3, none⟩ = some (.int .u8 v.f0) ∧ (((w2.setCell ⟨w1.heap.size, 0, none⟩ (.int .u8 rr.f0)).setCell ⟨w1.heap.size, 1, none⟩ (.int .i64 rr.f1)).setCell ⟨w1.heap.size, 2, none⟩ (.string rr.f2)).cell? ⟨gr, a.toNat * 3 + 1, none⟩ = some (.int .i64 v.f1) ∧ (((w2.setCell ⟨w1.heap.size, 0, none⟩ (.int .u8 rr.f0)).setCell ⟨w1.heap.size, 1, none⟩ (.int .i64 rr.f1)).setCell ⟨w1.heap.size, 2, none⟩ (.string rr.f2)).cell? ⟨gr, a.toNat * 3 + 2, none⟩ = some (.string v.f2) := (by exact ⟨(HBX.out.cell (World.block_lt_of_cell? _ _ S0.1)).trans S0.1, (HBX.out.cell (World.block_lt_of_cell? _ _ S0.2.1)).trans S0.2.1, (HBX.out.cell (World.block_lt_of_cell? _ _ S0.2.2.1)).trans S0.2.2.1, (HBX.out.cell (World.block_lt_of_cell? _ _ S0.2.2.2.1)).trans S0.2.2.2.1, (HBX.out.cell (World.block_lt_of_cell? _ _ S0.2.2.2.2.1)).trans S0.2.2.2.2.1, (HBX.out.cell (World.block_lt_of_cell? _ _ S0.2.2.2.2.2)).trans S0.2.2.2.2.2⟩); clear hn hb2)
        | (go_at_call 77; (with_reducible refine (HC.out w1.drew).mono ?_); rintro e w2 ⟨rfl, hb2⟩; have HB2 := Aside0.mk ((below_drew (Below.refl w1.heap.size w1)).trans hb2); have S2 : w2.cell? ⟨rb, 0, none⟩ = some (.slice (some ⟨gr, 0, none⟩) r.length cr) ∧ w2.cell? ⟨gi, 2, none⟩ = some (.int .i64 a) ∧ w2.cell? ⟨gi, 4, none⟩ = some (.string wd) ∧ w2.cell? ⟨gr, a.toNat * 3, none⟩ = some (.int .u8 v.f0) ∧ w2.cell? ⟨gr, a.toNat * 3 + 1, none⟩ = some (.int .i64 v.f1) ∧ w2.cell? ⟨gr, a.toNat * 3 + 2, none⟩ = some (.string v.f2) := (by exact ⟨(HB2.out.cell (World.block_lt_of_cell? _ _ S0.1)).trans S0.1, (HB2.out.cell (World.block_lt_of_cell? _ _ S0.2.1)).trans S0.2.1, (HB2.out.cell (World.block_lt_of_cell? _ _ S0.2.2.1)).trans S0.2.2.1, (HB2.out.cell (World.block_lt_of_cell? _ _ S0.2.2.2.1)).trans S0.2.2.2.1, (HB2.out.cell (World.block_lt_of_cell? _ _ S0.2.2.2.2.1)).trans S0.2.2.2.2.1, (HB2.out.cell (World.block_lt_of_cell? _ _ S0.2.2.2.2.2)).trans S0.2.2.2.2.2⟩); have S3 : ∀ o : Obj, (w2.alloc o).cell? ⟨rb, 0, none⟩ = some (.slice (some ⟨gr, 0, none⟩) r.length cr) ∧ (w2.alloc o).cell? ⟨gi, 2, none⟩ = some (.int .i64 a) ∧ (w2.alloc o).cell? ⟨gi, 4, none⟩ = some (.string wd) ∧ (w2.alloc o).cell? ⟨gr, a.toNat * 3, none⟩ = some (.int .u8 v.f0) ∧ (w2.alloc o).cell? ⟨gr, a.toNat * 3 + 1, none⟩ = some (.int .i64 v.f1) ∧ (w2.alloc o).cell? ⟨gr, a.toNat * 3 + 2, none⟩ = some (.string v.f2) := (fun o => ⟨((below_alloc (Below.refl _ w2) o).cell (World.block_lt_of_cell? _ _ S2.1)).trans S2.1, ((below_alloc (Below.refl _ w2) o).cell (World.block_lt_of_cell? _ _ S2.2.1)).trans S2.2.1, ((below_alloc (Below.refl _ w2) o).cell (World.block_lt_of_cell? _ _ S2.2.2.1)).trans S2.2.2.1, ((below_alloc (Below.refl _ w2) o).cell (World.block_lt_of_cell? _ _ S2.2.2.2.1)).trans S2.2.2.2.1, ((below_alloc (Below.refl _ w2) o).cell (World.block_lt_of_cell? _ _ S2.2.2.2.2.1)).trans S2.2.2.2.2.1, ((below_alloc (Below.refl _ w2) o).cell (World.block_lt_of_cell? _ _ S2.2.2.2.2.2)).trans S2.2.2.2.2.2⟩); clear hb2))
      all_goals (go_wp2_with fail; go_meet; case rel => first | exact ⟨w2.heap.size, rfl, rfl, ⟨below_alloc HB2.out _⟩, ⟨blk_new w2 _⟩⟩ | exact ⟨w1.heap.size, rfl, rfl, ⟨((HB2.out.setCell (p := ⟨w1.heap.size, 0, none⟩) (Nat.le_refl _) _).setCell (p := ⟨w1.heap.size, 1, none⟩) (Nat.le_refl _) _).setCell (p := ⟨w1.heap.size, 2, none⟩) (Nat.le_refl _) _⟩, ⟨blk_put (blk_put (blk_put HN.out 0 _ rfl) 1 _ rfl) 2 _ rfl⟩⟩)
    case rest =>
      obtain ⟨gc, rfl, rfl, HBc, HCc⟩ := hcut
      clear HC k0 i2 i4 fa0 fa1 fa2
      have c0_ := (blk_cell HCc.out 0).trans rfl
      have c1_ := (blk_cell HCc.out 1).trans rfl
      have c2_ := (blk_cell HCc.out 2).trans rfl
      have j1 := (blk_cell (blk_below HI.out HBc.out) 1).trans rfl
      have HRc := Aside0.mk (HR.out.below HBc.out)
      by_cases he : er = 0
      · subst he
        have hd := HD.out
        rw [if_pos rfl] at hd
        replace HD := Aside0.mk hd
        clear hd
        go_wp2_with (first | (go_at_call 78; (with_reducible refine (put_ok HRc.out rr d0 d1).mono ?_); rintro e w3 ⟨rfl, hr3⟩; have HR3 := Aside0.mk hr3; clear hr3))
        go_end0
        exact .inl ⟨_, _, _, HD.out, rfl, HR3.out⟩
      · have hd := HD.out
        rw [if_neg he] at hd
        replace HD := Aside0.mk hd
        have HE := Aside0.mk he
        clear hd he
        go_wp2_with (first | (go_at_call 78; (with_reducible refine (put_no HRc.out d rr HE.out).mono ?_); rintro e w3 ⟨rfl, hb3⟩; have HB3 := Aside0.mk hb3; clear hb3))
        exact ⟨rfl, .inr ⟨HD.out, rfl, HB3.out⟩⟩
  · obtain ⟨d0, d1⟩ := hk.dst (by show (4 : Int) ≠ 6; omega) (by show (4 : Int) ≠ 8; omega)
    dsimp only at d0 d1
    obtain ⟨a0, a1⟩ := hk.a (.inr (.inr (.inl rfl)))
    obtain ⟨b0, b1⟩ := hk.b rfl
    dsimp only at a0 a1 b0 b1
    have hpv := HP.out _ (mem_rd a0 a1)
    have hpu := HP.out _ (mem_rd b0 b1)
    have HD := Aside0.mk (show doesK O ups ons ⟨4, d, a, b, wd, ⟨t, n, s⟩⟩ r g = (O.two wd (rd_T37 r a) (rd_T37 r b)).map fun v => (r.set d.toNat v, g) from rfl)
    have i2 := (blk_cell HI.out 2).trans rfl
    have i3 := (blk_cell HI.out 3).trans rfl
    have i4 := (blk_cell HI.out 4).trans rfl
    have k0 := HR.out.cells.1
    obtain ⟨fa0, fa1, fa2⟩ := HR.out.at_ a0 a1
    obtain ⟨fb0, fb1, fb2⟩ := HR.out.at_ b0 b1
    generalize rd_T37 r a = v at fa0 fa1 fa2 HD hpv
    generalize rd_T37 r b = v2 at fb0 fb1 fb2 HD hpu
    obtain ⟨rr, er, hcall, hon, hpr⟩ := hO.two wd v v2 hpv hpu
    rw [hon] at HD
    have HC := Aside0.mk hcall
    clear hcall hon hpr hpv hpu
    go_upto_region 10 with fail
    go_cut [6, 7] from 63 to 84 (fun p e wx => ∃ gc, p = .pointer (some ⟨gc, 0, none⟩) ∧ e = .int .i64 er ∧ Aside0 (Below w1.heap.size w1 wx) ∧ Aside0 (wx.heap[gc]? = some (.cells #[.int .u8 rr.f0, .int .i64 rr.f1, .string rr.f2] 37 (0, 0))))
    case first =>
      have hbA := below_alloc (Below.refl w1.heap.size w1) (.cells #[.int .u8 0, .int .i64 0, .string ⟨#[]⟩] 37)
      have S0 : w1.cell? ⟨rb, 0, none⟩ = some (.slice (some ⟨gr, 0, none⟩) r.length cr) ∧ w1.cell? ⟨gi, 2, none⟩ = some (.int .i64 a) ∧ w1.cell? ⟨gi, 3, none⟩ = some (.int .i64 b) ∧ w1.cell? ⟨gi, 4, none⟩ = some (.string wd) ∧ w1.cell? ⟨gr, a.toNat * 3, none⟩ = some (.int .u8 v.f0) ∧ w1.cell? ⟨gr, a.toNat * 3 + 1, none⟩ = some (.int .i64 v.f1) ∧ w1.cell? ⟨gr, a.toNat * 3 + 2, none⟩ = some (.string v.f2) ∧ w1.cell? ⟨gr, b.toNat * 3, none⟩ = some (.int .u8 v2.f0) ∧ w1.cell? ⟨gr, b.toNat * 3 + 1, none⟩ = some (.int .i64 v2.f1) ∧ w1.cell? ⟨gr, b.toNat * 3 + 2, none⟩ = some (.string v2.f2) := ⟨k0, i2, i3, i4, fa0, fa1, fa2, fb0, fb1, fb2⟩
      have SA : (w1.alloc (.cells #[.int .u8 0, .int .i64 0, .string ⟨#[]⟩] 37)).cell? ⟨rb, 0, none⟩ = some (.slice (some ⟨gr, 0, none⟩) r.length cr) ∧ (w1.alloc (.cells #[.int .u8 0, .int .i64 0, .string ⟨#[]⟩] 37)).cell? ⟨gi, 2, none⟩ = some (.int .i64 a) ∧ (w1.alloc (.cells #[.int .u8 0, .int .i64 0, .string ⟨#[]⟩] 37)).cell? ⟨gi, 3, none⟩ = some (.int .i64 b) ∧ (w1.alloc (.cells #[.int .u8 0, .int .i64 0, .string ⟨#[]⟩] 37)).cell? ⟨gi, 4, none⟩ = some (.string wd) ∧ (w1.alloc (.cells #[.int .u8 0, .int .i64 0, .string ⟨#[]⟩] 37)).cell? ⟨gr, a.toNat * 3, none⟩ = some (.int .u8 v.f0) ∧ (w1.alloc (.cells #[.int .u8 0, .int .i64 0, .string ⟨#[]⟩] 37)).cell? ⟨gr, a.toNat * 3 + 1, none⟩ = some (.int .i64 v.f1) ∧ (w1.alloc (.cells #[.int .u8 0, .int .i64 0, .string ⟨#[]⟩] 37)).cell? ⟨gr, a.toNat * 3 + 2, none⟩ = some (.string v.f2) ∧ (w1.alloc (.cells #[.int .u8 0, .int .i64 0, .string ⟨#[]⟩] 37)).cell? ⟨gr, b.toNat * 3, none⟩ = some (.int .u8 v2.f0) ∧ (w1.alloc (.cells #[.int .u8 0, .int .i64 0, .string ⟨#[]⟩] 37)).cell? ⟨gr, b.toNat * 3 + 1, none⟩ = some (.int .i64 v2.f1) ∧ (w1.alloc (.cells #[.int .u8 0, .int .i64 0, .string ⟨#[]⟩] 37)).cell? ⟨gr, b.toNat * 3 + 2, none⟩ = some (.string v2.f2) := ⟨(hbA.cell (World.block_lt_of_cell? w1 _ k0)).trans k0, (hbA.cell (World.block_lt_of_cell? w1 _ i2)).trans i2, (hbA.cell (World.block_lt_of_cell? w1 _ i3)).trans i3, (hbA.cell (World.block_lt_of_cell? w1 _ i4)).trans i4, (hbA.cell (World.block_lt_of_cell? w1 _ fa0)).trans fa0, (hbA.cell (World.block_lt_of_cell? w1 _ fa1)).trans fa1, (hbA.cell (World.block_lt_of_cell? w1 _ fa2)).trans fa2, (hbA.cell (World.block_lt_of_cell? w1 _ fb0)).trans fb0, (hbA.cell (World.block_lt_of_cell? w1 _ fb1)).trans fb1, (hbA.cell (World.block_lt_of_cell? w1 _ fb2)).trans fb2⟩
      go_region_held3 (fun W' => W'.cell? ⟨rb, 0, none⟩ = some (.slice (some ⟨gr, 0, none⟩) r.length cr) ∧ W'.cell? ⟨gi, 2, none⟩ = some (.int .i64 a) ∧ W'.cell? ⟨gi, 3, none⟩ = some (.int .i64 b) ∧ W'.cell? ⟨gi, 4, none⟩ = some (.string wd) ∧ W'.cell? ⟨gr, a.toNat * 3, none⟩ = some (.int .u8 v.f0) ∧ W'.cell? ⟨gr, a.toNat * 3 + 1, none⟩ = some (.int .i64 v.f1) ∧ W'.cell? ⟨gr, a.toNat * 3 + 2, none⟩ = some (.string v.f2) ∧ W'.cell? ⟨gr, b.toNat * 3, none⟩ = some (.int .u8 v2.f0) ∧ W'.cell? ⟨gr, b.toNat * 3 + 1, none⟩ = some (.int .i64 v2.f1) ∧ W'.cell? ⟨gr, b.toNat * 3 + 2, none⟩ = some (.string v2.f2)) (first | exact S0 | exact SA | exact S2 | exact S3 _ | exact S5 | fail)
        (first
        | (go_at_call 79; (with_reducible refine (HC.out (w1.alloc (.cells #[.int .u8 0, .int .i64 0, .string ⟨#[]⟩] 37)).drew).mono ?_); rintro e w2 ⟨rfl, hb2⟩; have hn := blk_below (blk_drew (blk_new w1 (.cells #[.int .u8 0, .int .i64 0, .string ⟨#[]⟩] 37))) hb2; have q0 := (blk_cell hn 0).trans rfl; have q1 := (blk_cell hn 1).trans rfl; have q2 := (blk_cell hn 2).trans rfl; have g0 := blk_frozen hn 0; have g1 := blk_frozen hn 1; have g2 := blk_frozen hn 2; have HN := Aside0.mk hn; have S2 : w2.cell? ⟨rb, 0, none⟩ = some (.slice (some ⟨gr, 0, none⟩) r.length cr) ∧ w2.cell? ⟨gi, 2, none⟩ = some (.int .i64 a) ∧ w2.cell? ⟨gi, 3, none⟩ = some (.int .i64 b) ∧ w2.cell? ⟨gi, 4, none⟩ = some (.string wd) ∧ w2.cell? ⟨gr, a.toNat * 3, none⟩ = some (.int .u8 v.f0) ∧ w2.cell? ⟨gr, a.toNat * 3 + 1, none⟩ = some (.int .i64 v.f1) ∧ w2.cell? ⟨gr, a.toNat * 3 + 2, none⟩ = some (.string v.f2) ∧ w2.cell? ⟨gr, b.toNat * 3, none⟩ = some (.int .u8 v2.f0) ∧ w2.cell? ⟨gr, b.toNat * 3 + 1, none⟩ = some (.int .i64 v2.f1) ∧ w2.cell? ⟨gr, b.toNat * 3 + 2, none⟩ = some (.string v2.f2) := (by exact ⟨(((below_drew (Below.refl _ (w1.alloc (.cells #[.int .u8 0, .int .i64 0, .string ⟨#[]⟩] 37)))).trans hb2).cell (World.block_lt_of_cell? _ _ SA.1)).trans SA.1, (((below_drew (Below.refl _ (w1.alloc (.cells #[.int .u8 0, .int .i64 0, .string ⟨#[]⟩] 37)))).trans hb2).cell (World.block_lt_of_cell? _ _ SA.2.1)).trans SA.2.1, (((below_drew (Below.refl _ (w1.alloc (.cells #[.int .u8 0, .int .i64 0, .string ⟨#[]⟩] 37)))).trans hb2).cell (World.block_lt_of_cell? _ _ SA.2.2.1)).trans SA.2.2.1, (((below_drew (Below.refl _ (w1.alloc (.cells #[.int .u8 0, .int .i64 0, .string ⟨#[]⟩] 37)))).trans hb2).cell (World.block_lt_of_cell? _ _ SA.2.2.2.1)).trans SA.2.2.2.1, (((below_drew (Below.refl _ (w1.alloc (.cells #[.int .u8 0, .int .i64 0, .string ⟨#[]⟩] 37)))).trans hb2).cell (World.block_lt_of_cell? _ _ SA.2.2.2.2.1)).trans SA.2.2.2.2.1, (((below_drew (Below.refl _ (w1.alloc (.cells #[.int .u8 0, .int .i64 0, .string ⟨#[]⟩] 37)))).trans hb2).cell (World.block_lt_of_cell? _ _ SA.2.2.2.2.2.1)).trans SA.2.2.2.2.2.1, (((below_drew (Below.refl _ (w1.alloc (.cells #[.int .u8 0, .int .i64 0, .string ⟨#[]⟩] 37)))).trans hb2).cell (World.block_lt_of_cell? _ _ SA.2.2.2.2.2.2.1)).trans SA.2.2.2.2.2.2.1, (((below_drew (Below.refl _ (w1.alloc (.cells #[.int .u8 0, .int .i64 0, .string ⟨#[]⟩] 37)))).trans hb2).cell (World.block_lt_of_cell? _ _ SA.2.2.2.2.2.2.2.1)).trans SA.2.2.2.2.2.2.2.1, (((below_drew (Below.refl _ (w1.alloc (.cells #[.int .u8 0, .int .i64 0, .string ⟨#[]⟩] 37)))).trans hb2).cell (World.block_lt_of_cell? _ _ SA.2.2.2.2.2.2.2.2.1)).trans SA.2.2.2.2.2.2.2.2.1, (((below_drew (Below.refl _ (w1.alloc (.cells #[.int .u8 0, .int .i64 0, .string ⟨#[]⟩] 37)))).trans hb2).cell (World.block_lt_of_cell? _ _ SA.2.2.2.2.2.2.2.2.2)).trans SA.2.2.2.2.2.2.2.2.2⟩); have HB2 := Aside0.mk (below_then (below_drew (below_alloc (Below.refl w1.heap.size w1) (.cells #[.int .u8 0, .int .i64 0, .string ⟨#[]⟩] 37))) (by show w1.heap.size ≤ (w1.alloc (.cells #[.int .u8 0, .int .i64 0, .string ⟨#[]⟩] 37)).heap.size; rw [World.size_alloc]; omega) hb2); have HBX := Aside0.mk (((HB2.out.setCell (p := ⟨w1.heap.size, 0, none⟩) (Nat.le_refl _) (.int .u8 rr.f0)).setCell (p := ⟨w1.heap.size, 1, none⟩) (Nat.le_refl _) (.int .i64 rr.f1)).setCell (p := ⟨w1.heap.size, 2, none⟩) (Nat.le_refl _) (.string rr.f2)); have S5 : (((w2.setCell ⟨w1.heap.size, 0, none⟩ (.int .u8 rr.f0)).setCell ⟨w1.heap.size, 1, none⟩ (.int .i64 rr.f1)).setCell ⟨w1.heap.size, 2, none⟩ (.string rr.f2)).cell? ⟨rb, 0, none⟩ = some (.slice (some ⟨gr, 0, none⟩) r.length cr) ∧ (((w2.setCell ⟨w1.heap.size, 0, none⟩ (.int .u8 rr.f0)).setCell ⟨w1.heap.size, 1, none⟩ (.int .i64 rr.f1)).setCell ⟨w1.heap.size, 2, none⟩ (.string rr.f2)).cell? ⟨gi, 2, none⟩ = some (.int .i64 a) ∧ (((w2.setCell ⟨w1.heap.size, 0, none⟩ (.int .u8 rr.f0)).setCell ⟨w1.heap.size, 1, none⟩ (.int .i64 rr.f1)).setCell ⟨w1.heap.size, 2, none⟩ (.string rr.f2)).cell? ⟨gi, 3, none⟩ = some (.int .i64 b) ∧ (((w2.setCell ⟨w1.heap.size, 0, none⟩ (.int .u8 rr.f0)).setCell ⟨w1.heap.size, 1, none⟩ (.int .i64 rr.f1)).setCell ⟨w1.heap.size, 2, none⟩ (.string rr.f2)).cell? ⟨gi, 4, none⟩ = some (.string wd) ∧ (((w2.setCell ⟨w1.heap.size, 0, none⟩ (.int .u8 rr.f0)).setCell ⟨w1.heap.size, 1, none⟩ (.int .i64 rr.f1)).setCell ⟨w1.heap.size, 2, none⟩ (.string rr.f2)).cell? ⟨gr, a.toNat * 3, none⟩ = some (.int .u8 v.f0) ∧ (((w2.setCell ⟨w1.heap.size, 0, none⟩ (.int .u8 rr.f0)).setCell ⟨w1.heap.size, 1, none⟩ (.int .i64 rr.f1)).setCell ⟨w1.heap.size, 2, none⟩ (.string rr.f2)).cell? ⟨gr, a.toNat * 3 + 1, none⟩ = some (.int .i64 v.f1) ∧ (((w2.setCell ⟨w1.heap.size, 0, none⟩ (.int .u8 rr.f0)).setCell ⟨w1.heap.size, 1, none⟩ (.int .i64 rr.f1)).setCell ⟨w1.heap.size, 2, none⟩ (.string rr.f2)).cell? ⟨gr, a.toNat * 3 + 2, none⟩ = some (.string v.f2) ∧ (((w2.setCell ⟨w1.heap.size, 0, none⟩ (.int .u8 rr.f0)).setCell ⟨w1.heap.size, 1, none⟩ (.int .i64 rr.f1)).setCell ⟨w1.heap.size, 2, none⟩ (.string rr.f2)).cell? ⟨gr, b.toNat * 3, none⟩ = some (.int .u8 v2.f0) ∧ (((w2.setCell ⟨w1.heap.size, 0, none⟩ (.int .u8 rr.f0)).setCell ⟨w1.heap.size, 1, none⟩ (.int .i64 rr.f1)).setCell ⟨w1.heap.size, 2, none⟩ (.string rr.f2)).cell? ⟨gr, b.toNat * 3 + 1, none⟩ = some (.int .i64 v2.f1) ∧ (((w2.setCell ⟨w1.heap.size, 0, none⟩ (.int .u8 rr.f0)).setCell ⟨w1.heap.size, 1, none⟩ (.int .i64 rr.f1)).setCell ⟨w1.heap.size, 2, none⟩ (.string rr.f2)).cell? ⟨gr, b.toNat * 3 + 2, none⟩ = some (.string v2.f2) := (by exact ⟨(HBX.out.cell (World.block_lt_of_cell? _ _ S0.1)).trans S0.1, (HBX.out.cell (World.block_lt_of_cell? _ _ S0.2.1)).trans S0.2.1, (HBX.out.cell (World.block_lt_of_cell? _ _ S0.2.2.1)).trans S0.2.2.1, (HBX.out.cell (World.block_lt_of_cell? _ _ S0.2.2.2.1)).trans S0.2.2.2.1, (HBX.out.cell (World.block_lt_of_cell? _ _ S0.2.2.2.2.1)).trans S0.2.2.2.2.1, (HBX.out.cell (World.block_lt_of_cell? _ _ S0.2.2.2.2.2.1)).trans S0.2.2.2.2.2.1, (HBX.out.cell (World.block_lt_of_cell? _ _ S0.2.2.2.2.2.2.1)).trans S0.2.2.2.2.2.2.1, (HBX.out.cell (World.block_lt_of_cell? _ _ S0.2.2.2.2.2.2.2.1)).trans S0.2.2.2.2.2.2.2.1, (HBX.out.cell (World.block_lt_of_cell? _ _ S0.2.2.2.2.2.2.2.2.1)).trans S0.2.2.2.2.2.2.2.2.1, (HBX.out.cell (World.block_lt_of_cell? _ _ S0.2.2.2.2.2.2.2.2.2)).trans S0.2.2.2.2.2.2.2.2.2⟩); clear hn hb2)
        | (go_at_call 79; (with_reducible refine (HC.out w1.drew).mono ?_); rintro e w2 ⟨rfl, hb2⟩; have HB2 := Aside0.mk ((below_drew (Below.refl w1.heap.size w1)).trans hb2); have S2 : w2.cell? ⟨rb, 0, none⟩ = some (.slice (some ⟨gr, 0, none⟩) r.length cr) ∧ w2.cell? ⟨gi, 2, none⟩ = some (.int .i64 a) ∧ w2.cell? ⟨gi, 3, none⟩ = some (.int .i64 b) ∧ w2.cell? ⟨gi, 4, none⟩ = some (.string wd) ∧ w2.cell? ⟨gr, a.toNat * 3, none⟩ = some (.int .u8 v.f0) ∧ w2.cell? ⟨gr, a.toNat * 3 + 1, none⟩ = some (.int .i64 v.f1) ∧ w2.cell? ⟨gr, a.toNat * 3 + 2, none⟩ = some (.string v.f2) ∧ w2.cell? ⟨gr, b.toNat * 3, none⟩ = some (.int .u8 v2.f0) ∧ w2.cell? ⟨gr, b.toNat * 3 + 1, none⟩ = some (.int .i64 v2.f1) ∧ w2.cell? ⟨gr, b.toNat * 3 + 2, none⟩ = some (.string v2.f2) := (by exact ⟨(HB2.out.cell (World.block_lt_of_cell? _ _ S0.1)).trans S0.1, (HB2.out.cell (World.block_lt_of_cell? _ _ S0.2.1)).trans S0.2.1, (HB2.out.cell (World.block_lt_of_cell? _ _ S0.2.2.1)).trans S0.2.2.1, (HB2.out.cell (World.block_lt_of_cell? _ _ S0.2.2.2.1)).trans S0.2.2.2.1, (HB2.out.cell (World.block_lt_of_cell? _ _ S0.2.2.2.2.1)).trans S0.2.2.2.2.1, (HB2.out.cell (World.block_lt_of_cell? _ _ S0.2.2.2.2.2.1)).trans S0.2.2.2.2.2.1, (HB2.out.cell (World.block_lt_of_cell? _ _ S0.2.2.2.2.2.2.1)).trans S0.2.2.2.2.2.2.1, (HB2.out.cell (World.block_lt_of_cell? _ _ S0.2.2.2.2.2.2.2.1)).trans S0.2.2.2.2.2.2.2.1, (HB2.out.cell (World.block_lt_of_cell? _ _ S0.2.2.2.2.2.2.2.2.1)).trans S0.2.2.2.2.2.2.2.2.1, (HB2.out.cell (World.block_lt_of_cell? _ _ S0.2.2.2.2.2.2.2.2.2)).trans S0.2.2.2.2.2.2.2.2.2⟩); have S3 : ∀ o : Obj, (w2.alloc o).cell? ⟨rb, 0, none⟩ = some (.slice (some ⟨gr, 0, none⟩) r.length cr) ∧ (w2.alloc o).cell? ⟨gi, 2, none⟩ = some (.int .i64 a) ∧ (w2.alloc o).cell? ⟨gi, 3, none⟩ = some (.int .i64 b) ∧ (w2.alloc o).cell? ⟨gi, 4, none⟩ = some (.string wd) ∧ (w2.alloc o).cell? ⟨gr, a.toNat * 3, none⟩ = some (.int .u8 v.f0) ∧ (w2.alloc o).cell? ⟨gr, a.toNat * 3 + 1, none⟩ = some (.int .i64 v.f1) ∧ (w2.alloc o).cell? ⟨gr, a.toNat * 3 + 2, none⟩ = some (.string v.f2) ∧ (w2.alloc o).cell? ⟨gr, b.toNat * 3, none⟩ = some (.int .u8 v2.f0) ∧ (w2.alloc o).cell? ⟨gr, b.toNat * 3 + 1, none⟩ = some (.int .i64 v2.f1) ∧ (w2.alloc o).cell? ⟨gr, b.toNat * 3 + 2, none⟩ = some (.string v2.f2) := (fun o => ⟨((below_alloc (Below.refl _ w2) o).cell (World.block_lt_of_cell? _ _ S2.1)).trans S2.1, ((below_alloc (Below.refl _ w2) o).cell (World.block_lt_of_cell? _ _ S2.2.1)).trans S2.2.1, ((below_alloc (Below.refl _ w2) o).cell (World.block_lt_of_cell? _ _ S2.2.2.1)).trans S2.2.2.1, ((below_alloc (Below.refl _ w2) o).cell (World.block_lt_of_cell? _ _ S2.2.2.2.1)).trans S2.2.2.2.1, ((below_alloc (Below.refl _ w2) o).cell (World.block_lt_of_cell? _ _ S2.2.2.2.2.1)).trans S2.2.2.2.2.1, ((below_alloc (Below.refl _ w2) o).cell (World.block_lt_of_cell? _ _ S2.2.2.2.2.2.1)).trans S2.2.2.2.2.2.1, ((below_alloc (Below.refl _ w2) o).cell (World.block_lt_of_cell? _ _ S2.2.2.2.2.2.2.1)).trans S2.2.2.2.2.2.2.1, ((below_alloc (Below.refl _ w2) o).cell (World.block_lt_of_cell? _ _ S2.2.2.2.2.2.2.2.1)).trans S2.2.2.2.2.2.2.2.1, ((below_alloc (Below.refl _ w2) o).cell (World.block_lt_of_cell? _ _ S2.2.2.2.2.2.2.2.2.1)).trans S2.2.2.2.2.2.2.2.2.1, ((below_alloc (Below.refl _ w2) o).cell (World.block_lt_of_cell? _ _ S2.2.2.2.2.2.2.2.2.2)).trans S2.2.2.2.2.2.2.2.2.2⟩); clear hb2))
      all_goals (go_wp2_with fail; go_meet; case rel => first | exact ⟨w2.heap.size, rfl, rfl, ⟨below_alloc HB2.out _⟩, ⟨blk_new w2 _⟩⟩ | exact ⟨w1.heap.size, rfl, rfl, ⟨((HB2.out.setCell (p := ⟨w1.heap.size, 0, none⟩) (Nat.le_refl _) _).setCell (p := ⟨w1.heap.size, 1, none⟩) (Nat.le_refl _) _).setCell (p := ⟨w1.heap.size, 2, none⟩) (Nat.le_refl _) _⟩, ⟨blk_put (blk_put (blk_put HN.out 0 _ rfl) 1 _ rfl) 2 _ rfl⟩⟩)
    case rest =>
      obtain ⟨gc, rfl, rfl, HBc, HCc⟩ := hcut
      clear HC k0 i2 i3 i4 fa0 fa1 fa2 fb0 fb1 fb2
      have c0_ := (blk_cell HCc.out 0).trans rfl
      have c1_ := (blk_cell HCc.out 1).trans rfl
      have c2_ := (blk_cell HCc.out 2).trans rfl
      have j1 := (blk_cell (blk_below HI.out HBc.out) 1).trans rfl
      have HRc := Aside0.mk (HR.out.below HBc.out)
      by_cases he : er = 0
      · subst he
        have hd := HD.out
        rw [if_pos rfl] at hd
        replace HD := Aside0.mk hd
        clear hd
        go_wp2_with (first | (go_at_call 78; (with_reducible refine (put_ok HRc.out rr d0 d1).mono ?_); rintro e w3 ⟨rfl, hr3⟩; have HR3 := Aside0.mk hr3; clear hr3))
        go_end0
        exact .inl ⟨_, _, _, HD.out, rfl, HR3.out⟩
      · have hd := HD.out
        rw [if_neg he] at hd
        replace HD := Aside0.mk hd
        have HE := Aside0.mk he
        clear hd he
        go_wp2_with (first | (go_at_call 78; (with_reducible refine (put_no HRc.out d rr HE.out).mono ?_); rintro e w3 ⟨rfl, hb3⟩; have HB3 := Aside0.mk hb3; clear hb3))
        exact ⟨rfl, .inr ⟨HD.out, rfl, HB3.out⟩⟩
  · obtain ⟨d0, d1⟩ := hk.dst (by show (5 : Int) ≠ 6; omega) (by show (5 : Int) ≠ 8; omega)
    dsimp only at d0 d1
    have a0 := hk.up (.inl rfl)
    dsimp only at a0
    have HD := Aside0.mk (show doesK O ups ons ⟨5, d, a, b, wd, ⟨t, n, s⟩⟩ r g = (if a < (ups.length : Int) then some (rd_T37 ups a) else none).map fun v => (r.set d.toNat v, g) from rfl)
    have i1 := (blk_cell HI.out 1).trans rfl
    have i2 := (blk_cell HI.out 2).trans rfl
    have k0 := HR.out.cells.1
    have k1 := HR.out.cells.2.1
    have HAT := Aside0.mk (at_both A0 c0 ups a w1.drew (Kd.C_drew (Kd.C_below HR.out.r0 HR.out.old)) a0)
    generalize rd_T37 ups a = v at HAT HD
    have S0 : w1.cell? ⟨rb, 0, none⟩ = some (.slice (some ⟨gr, 0, none⟩) r.length cr) ∧ w1.cell? ⟨rb, 1, none⟩ = some (.slice A0 ups.length c0) ∧ w1.cell? ⟨gi, 1, none⟩ = some (.int .i64 d) ∧ w1.cell? ⟨gi, 2, none⟩ = some (.int .i64 a) := ⟨k0, k1, i1, i2⟩
    go_upto_region 13 with fail
    go_region_held2 (fun W' => W'.cell? ⟨rb, 0, none⟩ = some (.slice (some ⟨gr, 0, none⟩) r.length cr) ∧ W'.cell? ⟨rb, 1, none⟩ = some (.slice A0 ups.length c0) ∧ W'.cell? ⟨gi, 1, none⟩ = some (.int .i64 d) ∧ W'.cell? ⟨gi, 2, none⟩ = some (.int .i64 a)) (first | exact S0 | exact S2 | exact S5 | fail)
      ((go_at_call 80; (with_reducible refine HAT.out.mono ?_); rintro e w2 ⟨⟨hlt, rfl⟩ | ⟨hlt, rfl⟩, hb2⟩; rotate_left; (exact ⟨rfl, .inr ⟨HD.out.trans (by rw [if_neg hlt]; rfl), rfl, below_then HR.out.old HR.out.old.size ((below_drew (Below.refl w1.heap.size w1)).trans hb2)⟩⟩); have HLT := Aside0.mk hlt; have HB2 := Aside0.mk ((below_drew (Below.refl w1.heap.size w1)).trans hb2); have S2 : w2.cell? ⟨rb, 0, none⟩ = some (.slice (some ⟨gr, 0, none⟩) r.length cr) ∧ w2.cell? ⟨rb, 1, none⟩ = some (.slice A0 ups.length c0) ∧ w2.cell? ⟨gi, 1, none⟩ = some (.int .i64 d) ∧ w2.cell? ⟨gi, 2, none⟩ = some (.int .i64 a) := (by exact ⟨(HB2.out.cell (World.block_lt_of_cell? _ _ S0.1)).trans S0.1, (HB2.out.cell (World.block_lt_of_cell? _ _ S0.2.1)).trans S0.2.1, (HB2.out.cell (World.block_lt_of_cell? _ _ S0.2.2.1)).trans S0.2.2.1, (HB2.out.cell (World.block_lt_of_cell? _ _ S0.2.2.2)).trans S0.2.2.2⟩); obtain ⟨hp, hq⟩ := (HR.out.below HB2.out).put v d0 d1; have HQ := Aside0.mk hq; obtain ⟨_, q0⟩ := hp.c0; obtain ⟨_, q1⟩ := hp.c1; obtain ⟨_, q2⟩ := hp.c2; have q3 := hp.z0; have q4 := hp.z1; have q5 := hp.z2; have S5 : (((w2.setCell ⟨gr, d.toNat * 3, none⟩ (.int .u8 v.f0)).setCell ⟨gr, d.toNat * 3 + 1, none⟩ (.int .i64 v.f1)).setCell ⟨gr, d.toNat * 3 + 2, none⟩ (.string v.f2)).cell? ⟨rb, 0, none⟩ = some (.slice (some ⟨gr, 0, none⟩) r.length cr) ∧ (((w2.setCell ⟨gr, d.toNat * 3, none⟩ (.int .u8 v.f0)).setCell ⟨gr, d.toNat * 3 + 1, none⟩ (.int .i64 v.f1)).setCell ⟨gr, d.toNat * 3 + 2, none⟩ (.string v.f2)).cell? ⟨rb, 1, none⟩ = some (.slice A0 ups.length c0) ∧ (((w2.setCell ⟨gr, d.toNat * 3, none⟩ (.int .u8 v.f0)).setCell ⟨gr, d.toNat * 3 + 1, none⟩ (.int .i64 v.f1)).setCell ⟨gr, d.toNat * 3 + 2, none⟩ (.string v.f2)).cell? ⟨gi, 1, none⟩ = some (.int .i64 d) ∧ (((w2.setCell ⟨gr, d.toNat * 3, none⟩ (.int .u8 v.f0)).setCell ⟨gr, d.toNat * 3 + 1, none⟩ (.int .i64 v.f1)).setCell ⟨gr, d.toNat * 3 + 2, none⟩ (.string v.f2)).cell? ⟨gi, 2, none⟩ = some (.int .i64 a) := (by exact ⟨by have := HQ.out.cells.1; rw [List.length_set] at this; exact this, HQ.out.cells.2.1, (blk_cell ((hp.far gi (Ne.symm HNE.out.2)).trans (blk_below HI.out HB2.out)) 1).trans rfl, (blk_cell ((hp.far gi (Ne.symm HNE.out.2)).trans (blk_below HI.out HB2.out)) 2).trans rfl⟩); clear hp hq hb2 hlt))
    all_goals
      go_end0
      exact .inl ⟨_, _, _, HD.out.trans (by rw [if_pos HLT.out]; rfl), rfl, HQ.out⟩
  · obtain ⟨d0, d1⟩ := hk.dst (by show (7 : Int) ≠ 6; omega) (by show (7 : Int) ≠ 8; omega)
    dsimp only at d0 d1
    have a0 := hk.up (.inr rfl)
    obtain ⟨b0, b1⟩ := hk.gd rfl
    dsimp only at a0 b0 b1
    have HD := Aside0.mk (show doesK O ups ons ⟨7, d, a, b, wd, ⟨t, n, s⟩⟩ r g = (if a < (rd_T54 g b).f3.length then some (rd_T37 (rd_T54 g b).f3 a) else none).map fun v => (r.set d.toNat v, g) from rfl)
    have i1 := (blk_cell HI.out 1).trans rfl
    have i2 := (blk_cell HI.out 2).trans rfl
    have i3 := (blk_cell HI.out 3).trans rfl
    have k0 := HR.out.cells.1
    obtain ⟨Ag, cg, ev⟩ := Kd.N_slice HR.out.gds
    subst ev
    obtain ⟨ag, Af, cf, e, _, _, _, eg, hlf, hrf⟩ := at_T54 (Kd.N_reads' HR.out.gds).2.2 b b0 b1
    subst e
    have k3 := HR.out.cells.2.2.2
    have HAG := Aside0.mk (show (ag.add (b.toNat * 4)).block ≠ gr by
      have h1 := (HR.out.gds.1 ag.block (by simp [Value.ownBlock])).2
      have h2 : (ag.add (b.toNat * 4)).block = ag.block := by unfold Addr.add; split <;> rfl
      rw [h2]; exact h1)
    have HAT := Aside0.mk (at_both Af cf (rd_T54 g b).f3 a w1.drew (Kd.C_drew hrf) a0)
    generalize rd_T37 (rd_T54 g b).f3 a = v at HAT HD
    have S0 : w1.cell? ⟨rb, 0, none⟩ = some (.slice (some ⟨gr, 0, none⟩) r.length cr) ∧ w1.cell? ⟨rb, 3, none⟩ = some (.slice (some ag) g.length cg) ∧ w1.cell? ⟨gi, 1, none⟩ = some (.int .i64 d) ∧ w1.cell? ⟨gi, 2, none⟩ = some (.int .i64 a) ∧ w1.cell? ⟨gi, 3, none⟩ = some (.int .i64 b) ∧ w1.cell? ⟨(ag.add (b.toNat * 4)).block, (ag.add (b.toNat * 4)).off + 3, none⟩ = some (.slice Af (rd_T54 g b).f3.length cf) := ⟨k0, k3, i1, i2, i3, eg⟩
    go_upto_region 15 with fail
    go_region_held2 (fun W' => W'.cell? ⟨rb, 0, none⟩ = some (.slice (some ⟨gr, 0, none⟩) r.length cr) ∧ W'.cell? ⟨rb, 3, none⟩ = some (.slice (some ag) g.length cg) ∧ W'.cell? ⟨gi, 1, none⟩ = some (.int .i64 d) ∧ W'.cell? ⟨gi, 2, none⟩ = some (.int .i64 a) ∧ W'.cell? ⟨gi, 3, none⟩ = some (.int .i64 b) ∧ W'.cell? ⟨(ag.add (b.toNat * 4)).block, (ag.add (b.toNat * 4)).off + 3, none⟩ = some (.slice Af (rd_T54 g b).f3.length cf)) (first | exact S0 | exact S2 | exact S5 | fail)
      ((go_at_call 80; (with_reducible refine HAT.out.mono ?_); rintro e w2 ⟨⟨hlt, rfl⟩ | ⟨hlt, rfl⟩, hb2⟩; rotate_left; (exact ⟨rfl, .inr ⟨HD.out.trans (by rw [if_neg hlt]; rfl), rfl, below_then HR.out.old HR.out.old.size ((below_drew (Below.refl w1.heap.size w1)).trans hb2)⟩⟩); have HLT := Aside0.mk hlt; have HB2 := Aside0.mk ((below_drew (Below.refl w1.heap.size w1)).trans hb2); have S2 : w2.cell? ⟨rb, 0, none⟩ = some (.slice (some ⟨gr, 0, none⟩) r.length cr) ∧ w2.cell? ⟨rb, 3, none⟩ = some (.slice (some ag) g.length cg) ∧ w2.cell? ⟨gi, 1, none⟩ = some (.int .i64 d) ∧ w2.cell? ⟨gi, 2, none⟩ = some (.int .i64 a) ∧ w2.cell? ⟨gi, 3, none⟩ = some (.int .i64 b) ∧ w2.cell? ⟨(ag.add (b.toNat * 4)).block, (ag.add (b.toNat * 4)).off + 3, none⟩ = some (.slice Af (rd_T54 g b).f3.length cf) := (by exact ⟨(HB2.out.cell (World.block_lt_of_cell? _ _ S0.1)).trans S0.1, (HB2.out.cell (World.block_lt_of_cell? _ _ S0.2.1)).trans S0.2.1, (HB2.out.cell (World.block_lt_of_cell? _ _ S0.2.2.1)).trans S0.2.2.1, (HB2.out.cell (World.block_lt_of_cell? _ _ S0.2.2.2.1)).trans S0.2.2.2.1, (HB2.out.cell (World.block_lt_of_cell? _ _ S0.2.2.2.2.1)).trans S0.2.2.2.2.1, (HB2.out.cell (World.block_lt_of_cell? _ _ S0.2.2.2.2.2)).trans S0.2.2.2.2.2⟩); obtain ⟨hp, hq⟩ := (HR.out.below HB2.out).put v d0 d1; have HQ := Aside0.mk hq; obtain ⟨_, q0⟩ := hp.c0; obtain ⟨_, q1⟩ := hp.c1; obtain ⟨_, q2⟩ := hp.c2; have q3 := hp.z0; have q4 := hp.z1; have q5 := hp.z2; have S5 : (((w2.setCell ⟨gr, d.toNat * 3, none⟩ (.int .u8 v.f0)).setCell ⟨gr, d.toNat * 3 + 1, none⟩ (.int .i64 v.f1)).setCell ⟨gr, d.toNat * 3 + 2, none⟩ (.string v.f2)).cell? ⟨rb, 0, none⟩ = some (.slice (some ⟨gr, 0, none⟩) r.length cr) ∧ (((w2.setCell ⟨gr, d.toNat * 3, none⟩ (.int .u8 v.f0)).setCell ⟨gr, d.toNat * 3 + 1, none⟩ (.int .i64 v.f1)).setCell ⟨gr, d.toNat * 3 + 2, none⟩ (.string v.f2)).cell? ⟨rb, 3, none⟩ = some (.slice (some ag) g.length cg) ∧ (((w2.setCell ⟨gr, d.toNat * 3, none⟩ (.int .u8 v.f0)).setCell ⟨gr, d.toNat * 3 + 1, none⟩ (.int .i64 v.f1)).setCell ⟨gr, d.toNat * 3 + 2, none⟩ (.string v.f2)).cell? ⟨gi, 1, none⟩ = some (.int .i64 d) ∧ (((w2.setCell ⟨gr, d.toNat * 3, none⟩ (.int .u8 v.f0)).setCell ⟨gr, d.toNat * 3 + 1, none⟩ (.int .i64 v.f1)).setCell ⟨gr, d.toNat * 3 + 2, none⟩ (.string v.f2)).cell? ⟨gi, 2, none⟩ = some (.int .i64 a) ∧ (((w2.setCell ⟨gr, d.toNat * 3, none⟩ (.int .u8 v.f0)).setCell ⟨gr, d.toNat * 3 + 1, none⟩ (.int .i64 v.f1)).setCell ⟨gr, d.toNat * 3 + 2, none⟩ (.string v.f2)).cell? ⟨gi, 3, none⟩ = some (.int .i64 b) ∧ (((w2.setCell ⟨gr, d.toNat * 3, none⟩ (.int .u8 v.f0)).setCell ⟨gr, d.toNat * 3 + 1, none⟩ (.int .i64 v.f1)).setCell ⟨gr, d.toNat * 3 + 2, none⟩ (.string v.f2)).cell? ⟨(ag.add (b.toNat * 4)).block, (ag.add (b.toNat * 4)).off + 3, none⟩ = some (.slice Af (rd_T54 g b).f3.length cf) := (by exact ⟨by have := HQ.out.cells.1; rw [List.length_set] at this; exact this, HQ.out.cells.2.2.2, (blk_cell ((hp.far gi (Ne.symm HNE.out.2)).trans (blk_below HI.out HB2.out)) 1).trans rfl, (blk_cell ((hp.far gi (Ne.symm HNE.out.2)).trans (blk_below HI.out HB2.out)) 2).trans rfl, (blk_cell ((hp.far gi (Ne.symm HNE.out.2)).trans (blk_below HI.out HB2.out)) 3).trans rfl, cell_far (hp.far _ HAG.out) S2.2.2.2.2.2⟩); clear hp hq hb2 hlt))
    all_goals
      go_end0
      exact .inl ⟨_, _, _, HD.out.trans (by rw [if_pos HLT.out]; rfl), rfl, HQ.out⟩
  · obtain ⟨a0, a1⟩ := hk.a (.inr (.inr (.inr rfl)))
    dsimp only at a0 a1
    have HD := Aside0.mk (show doesK O ups ons ⟨8, d, a, b, wd, ⟨t, n, s⟩⟩ r g = if (rd_T37 r a).f0 = 2 then some (r, g) else none from rfl)
    have i2 := (blk_cell HI.out 2).trans rfl
    have k0 := HR.out.cells.1
    obtain ⟨fa0, fa1, fa2⟩ := HR.out.at_ a0 a1
    generalize rd_T37 r a = v at fa0 fa1 fa2 HD
    by_cases ht : v.f0 = 2
    · have e2 : (v.f0 == 2) = true := by rw [ht]; rfl
      have hd := HD.out
      rw [if_pos ht] at hd
      replace HD := Aside0.mk hd
      clear hd ht
      have S0 : w1.cell? ⟨rb, 0, none⟩ = some (.slice (some ⟨gr, 0, none⟩) r.length cr) ∧ w1.cell? ⟨gi, 2, none⟩ = some (.int .i64 a) ∧ w1.cell? ⟨gr, a.toNat * 3, none⟩ = some (.int .u8 v.f0) ∧ w1.cell? ⟨gr, a.toNat * 3 + 1, none⟩ = some (.int .i64 v.f1) ∧ w1.cell? ⟨gr, a.toNat * 3 + 2, none⟩ = some (.string v.f2) := ⟨k0, i2, fa0, fa1, fa2⟩
      go_upto_region 17 with fail
      go_region_held3 (fun W' => W'.cell? ⟨rb, 0, none⟩ = some (.slice (some ⟨gr, 0, none⟩) r.length cr) ∧ W'.cell? ⟨gi, 2, none⟩ = some (.int .i64 a) ∧ W'.cell? ⟨gr, a.toNat * 3, none⟩ = some (.int .u8 v.f0) ∧ W'.cell? ⟨gr, a.toNat * 3 + 1, none⟩ = some (.int .i64 v.f1) ∧ W'.cell? ⟨gr, a.toNat * 3 + 2, none⟩ = some (.string v.f2)) (first | exact S0 | exact S2 | fail)
        ((go_at_call 58; (with_reducible refine (need_ok w1.drew).mono ?_); rintro e w2 ⟨rfl, rfl⟩; have S2 : w1.drew.cell? ⟨rb, 0, none⟩ = some (.slice (some ⟨gr, 0, none⟩) r.length cr) ∧ w1.drew.cell? ⟨gi, 2, none⟩ = some (.int .i64 a) ∧ w1.drew.cell? ⟨gr, a.toNat * 3, none⟩ = some (.int .u8 v.f0) ∧ w1.drew.cell? ⟨gr, a.toNat * 3 + 1, none⟩ = some (.int .i64 v.f1) ∧ w1.drew.cell? ⟨gr, a.toNat * 3 + 2, none⟩ = some (.string v.f2) := (by exact S0)))
      all_goals
        go_end0
        exact .inl ⟨_, _, _, HD.out, rfl, HR.out.below (below_drew (Below.refl _ _))⟩
    · have e2 : (v.f0 == 2) = false := by simpa using ht
      have hd := HD.out
      rw [if_neg ht] at hd
      replace HD := Aside0.mk hd
      clear hd ht
      go_upto_region 17 with fail
      go_still_tail 10, (by kernel_rfl)
      change wpList _ _ _ _ _ w1.drew
      go_wp2_with (first | (go_at_call 58; (with_reducible refine (need_no _).mono ?_); rintro e w2 ⟨rfl, rfl⟩))
      exact ⟨rfl, .inr ⟨HD.out, rfl, below_then HR.out.old HR.out.old.size (below_drew (Below.refl w1.heap.size w1))⟩⟩
end
end Go.Proofs.Ytjkjbfhhfdbnoaa.NW
