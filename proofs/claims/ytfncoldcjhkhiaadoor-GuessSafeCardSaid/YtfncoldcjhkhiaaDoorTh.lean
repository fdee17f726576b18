/- Whether a table may be. -/
import Derived.Test.YtfncoldcjhkhiaaDoorTg
import Derived.Maps.OwnSet
import Derived.Maps.OwnOps
import Derived.Maps.Views
import Derived.StringKeys
namespace Go.Proofs.YtfncoldcjhkhiaaDoor.NW
open Go.RowKit Go.Maps Go.WideMaps Go.Proofs.YtfncoldcjhkhiaaDoorW.PrintWords Go.Proofs.YtfncoldcjhkhiaaDoorW.PrintMore Go.Proofs.YtfncoldcjhkhiaaDoor.PC
set_option linter.unusedVariables false
set_option linter.unusedSimpArgs false
def keyT (l1 : List ByteArray) (n : Int) : Lit := .string (rdOf ByteArray.empty l1 n).data.toList
def keysT (l1 : List ByteArray) (ops : List Int) : List Lit := ops.map (keyT l1)
abbrev Sn (l1 : List ByteArray) (ops : List Int) (k : Nat) : DataW Unit := setOf (.agg []) (keysT l1 (ops.take k))
theorem Sn_zero (l1 : List ByteArray) (ops : List Int) : Sn l1 ops 0 = .map [] := by simp [Sn, keysT, setOf]
theorem Sn_succ (l1 : List ByteArray) (ops : List Int) (k : Nat) (hk : k < ops.length) : Sn l1 ops (k + 1) = (Sn l1 ops k).put (keyT l1 ops[k]) (.agg []) := by
  unfold Sn keysT
  rw [List.take_add_one, List.map_append, List.getElem?_eq_getElem hk]
  exact setOf_snoc _ _ _
theorem law9 : Keyed Tryd.prog 9 := string_keyed Tryd.underlying9
theorem keyT_ok {l1 : List ByteArray} (hsz : ∀ s ∈ l1, s.size ≤ reachBytes) (n : Int) : keyOf Tryd.prog 9 (.string (rdOf ByteArray.empty l1 n)) = some (keyT l1 n) := by
  refine keyOf_string_mk Tryd.underlying9 ?_
  unfold rdOf
  by_cases hk : n.toNat < l1.length
  · rw [List.getD, List.getElem?_eq_getElem hk]
    have := hsz _ (List.getElem_mem hk)
    unfold reachBytes at this
    unfold maxLen
    exact Nat.le_trans this (by decide)
  · rw [List.getD, List.getElem?_eq_none (by omega)]
    exact Nat.zero_le _
def inT (l1 : List ByteArray) (n : Int) : Bool := decide (0 ≤ n ∧ n < (l1.length : Int))
/-- may a table be? -/
theorem beq_cast (a b : Nat) : ((a : Int) == (b : Int)) = decide (a = b) := by
  by_cases h : a = b
  · rw [h]; simp
  · rw [decide_eq_false h, beq_eq_false_iff_ne]; omega
def tabS (l1 : List ByteArray) (t : S41) : Bool := if t.f0.length ≤ 200 then (if t.f0.all (inT l1) = true then decide (Maps.size (Sn l1 t.f0 t.f0.length) = t.f0.length) else false) else false
section
variable {A0 : Option Addr} {c0 : Nat} {l0 : List Int} {A1 : Option Addr} {c1 : Nat} {l1 : List ByteArray} {A2 : Option Addr} {c2 : Nat} {l2 : List S44} {A3 : Option Addr} {c3 : Nat} {l3 : List S41}
set_option maxHeartbeats 3200000 in
set_option maxRecDepth 1000000 in
theorem table_calls (t : S41) (B : Option Addr) (b : Nat) (w : World) (hmd : ModIs w A0 c0 l0 A1 c1 l1 A2 c2 l2 A3 c3 l3) (hsz : ∀ s ∈ l1, s.size ≤ reachBytes) (hb : t.f0.length ≤ b) (hB : Kd.C (Kd.int .i64) w B t.f0.length t.f0) :
    Calls Tryd.prog 50 #[.agg #[.slice A0 l0.length c0, .slice A1 l1.length c1, .slice A2 l2.length c2, .slice A3 l3.length c3], .agg #[.slice B t.f0.length b, .bool t.f1, .bool t.f2]] w fun e w' => e = .returned (.bool (tabS l1 t)) ∧ Below w.heap.size w w' := by
  have hmm := @run_makeMap Tryd.prog
  have hA := ((Below.refl w.heap.size w).alloc (Nat.le_refl _) (.cells #[.slice A0 l0.length c0, .slice A1 l1.length c1, .slice A2 l2.length c2, .slice A3 l3.length c3] 30 (0, 0))).alloc (by simp) (.cells #[.slice B t.f0.length b, .bool t.f1, .bool t.f2] 41 (0, 0))
  have hG := blk_alloc (blk_new w (.cells #[.slice A0 l0.length c0, .slice A1 l1.length c1, .slice A2 l2.length c2, .slice A3 l3.length c3] 30 (0, 0))) (.cells #[.slice B t.f0.length b, .bool t.f1, .bool t.f2] 41 (0, 0))
  have hQ := blk_new2 w (.cells #[.slice A0 l0.length c0, .slice A1 l1.length c1, .slice A2 l2.length c2, .slice A3 l3.length c3] 30 (0, 0)) (.cells #[.slice B t.f0.length b, .bool t.f1, .bool t.f2] 41 (0, 0))
  have hm := Kd.C_max hB
  have hm1 := Kd.C_max hmd.r1
  have HSZ := Aside0.mk hsz
  have q0 := (blk_cell hQ 0).trans rfl
  by_cases k1 : t.f0.length ≤ 200
  case neg =>
    have e_ : tabS l1 t = false := by unfold tabS; rw [if_neg k1]
    have d1 : decide ((200 : Int) < (t.f0.length : Int)) = true := decide_eq_true (by omega)
    rw [e_]
    have HA := Aside0.mk hA
    clear e_ hG hQ hA hmd hB hb hsz hmm k1
    go_enter Tryd.func50, Tryd.ntmps50
    go_wp2
    go_ret
    exact ⟨rfl, HA.out⟩
  have d1 : decide ((200 : Int) < (t.f0.length : Int)) = false := decide_eq_false (by omega)
  obtain ⟨r, hr⟩ : ∃ r, tabS l1 t = r := ⟨_, rfl⟩
  rw [hr]
  have HRR := Aside0.mk hr
  have HMD := Aside0.mk (hmd.below hA)
  have HC := Aside0.mk (Kd.C_below hB hA)
  have HA := Aside0.mk hA
  have HG := Aside0.mk hG
  have HQ := Aside0.mk hQ
  have K1 := Aside0.mk k1
  clear hr hG hQ hA hmd hB hb hsz k1
  go_enter Tryd.func50, Tryd.ntmps50
  go_wp2
  obtain ⟨w1, hw1⟩ : ∃ w1, (w.alloc (.cells #[.slice A0 l0.length c0, .slice A1 l1.length c1, .slice A2 l2.length c2, .slice A3 l3.length c3] 30)).alloc (.cells #[.slice B t.f0.length b, .bool t.f1, .bool t.f2] 41) = w1 := ⟨_, rfl⟩
  have hs1 : w1.heap.size = w.heap.size + 1 + 1 := by rw [← hw1]; simp
  rw [hw1] at HMD HC HG HQ HA ⊢
  clear hw1 q0
  rw [← hs1]
  have HS1 := Aside0.mk hs1
  clear hs1
  go_loopw [16] (fun i wr => ∃ k : Nat, k ≤ t.f0.length ∧ i = .int .i64 (k : Int) ∧ wr.ownsMap Tryd.prog 9 unitElem w1.heap.size k (Sn l1 t.f0 k) ∧ Aside0 (∀ (j : Nat) (h : j < t.f0.length), j < k → inT l1 t.f0[j] = true) ∧ Aside0 (Below w1.heap.size w1 wr)) (fun i _ => t.f0.length - (intOf i).toNat)
  case atStart => exact ⟨0, by omega, rfl, by rw [Sn_zero]; exact World.ownsMap_made _ _ _ _, ⟨fun j h hj => absurd hj (by omega)⟩, ⟨(Below.refl _ _).alloc (Nat.le_refl _) _⟩⟩
  case round =>
    obtain ⟨k, hk, rfl, hown, hno, hb1⟩ := hrel
    have q0 := (blk_cell (blk_below HG.out hb1.out) 1).trans rfl
    by_cases hlt : k < t.f0.length
    · have hK1 := Aside0.mk K1.out
      obtain ⟨ad, ea, q1⟩ := Kd.at_int HC.out (k : Int) (by omega) (by omega)
      have hx : Go.Proofs.YtfncoldcjhkhiaaDoorW.PrintWords.rd t.f0 (k : Int) = t.f0[k] := by
        rw [Go.Proofs.YtfncoldcjhkhiaaDoorW.PrintWords.rd, List.getD_eq_getElem?_getD, show ((k : Int).toNat) = k by omega, List.getElem?_eq_getElem hlt]; rfl
      rw [hx, show ((k : Int).toNat) = k by omega] at q1
      subst ea
      replace q1 := (hb1.out.cell (World.block_lt_of_cell? _ _ q1)).trans q1
      have HMEM := Aside0.mk (List.getElem_mem hlt)
      have HN1 := Aside0.mk (fun (hy : inT l1 t.f0[k] = true) (j : Nat) (h : j < t.f0.length) (hj : j < k + 1) => if e : j = k then (by subst e; exact hy) else hno.out j h (by omega))
      have HSN := Aside0.mk (Sn_succ l1 t.f0 k hlt)
      have hlk : k ≤ 200 := by have := K1.out; omega
      generalize hxx : t.f0[k] = x at q1 HMEM HN1 HSN
      clear hxx hx
      by_cases hin : 0 ≤ x ∧ x < (l1.length : Int)
      · obtain ⟨ad1, ea1, q2⟩ := Kd.at_string HMD.out.r1 x hin.1 hin.2
        subst ea1
        replace q2 := (hb1.out.cell (World.block_lt_of_cell? _ _ q2)).trans q2
        have hkey := keyT_ok HSZ.out x
        have hj0 := hin.1
        have hj1 := hin.2
        have HIN := Aside0.mk (decide_eq_true hin)
        have HH := Aside0.mk (HN1.out (decide_eq_true hin))
        clear hin
        go_wp2_with (first
          | (go_at_call 43; refine (in_calls _ _ _).mono ?_; rintro e w' ⟨rfl, rfl⟩; rw [HIN.out])
          | (at_mapUpdate; refine wpList_mapUpdate_own _ rfl _ _ _ 103 rfl 9 104 law9 Tryd.underlying103 unitElem w1.heap.size k _ rfl hown (by unfold maxLen; omega) _ _ _ rfl rfl hkey _ [] unitElem_mk ?_; intro w2 hown1 hgrow1)
          | go_in)
        go_roundw
        case rel => exact ⟨k + 1, by omega, by go_num, HSN.out ▸ hown1, HH, ⟨hb1.out.grown hgrow1 hb1.out.size (fun j hj => by cases hj; exact Nat.le_refl _)⟩⟩
        case measure => simp [intOf]; omega
      · have e_ : tabS l1 t = false := by
          unfold tabS
          rw [if_pos K1.out, if_neg]
          intro hall
          have := List.all_eq_true.1 hall _ HMEM.out
          exact hin (of_decide_eq_true this)
        have HE := Aside0.mk (HRR.out.symm.trans e_)
        have HIN := Aside0.mk (decide_eq_false hin)
        clear hin e_
        go_wp2_with (go_at_call 43; refine (in_calls _ _ _).mono ?_; rintro e w' ⟨rfl, rfl⟩; rw [HIN.out])
        go_ret
        exact ⟨by rw [HE.out]; rfl, HA.out.trans (hb1.out.mono HA.out.size)⟩
    · obtain rfl : k = t.f0.length := by omega
      have q9 := (blk_cell (blk_below HQ.out hb1.out) 0).trans rfl
      have e_ : tabS l1 t = decide (Maps.size (Sn l1 t.f0 t.f0.length) = t.f0.length) := by
        unfold tabS
        rw [if_pos K1.out, if_pos]
        refine List.all_eq_true.2 fun x hx => ?_
        obtain ⟨j, hj, rfl⟩ := List.mem_iff_getElem.1 hx
        exact hno.out j hj hj
      have HE := Aside0.mk (HRR.out.symm.trans e_)
      clear e_
      go_wp2_with (first
        | (at_len; refine wpList_len_own _ rfl _ 103 rfl 9 104 Tryd.underlying103 _ w1.heap.size t.f0.length _ rfl hown ?_)
        | go_in)
      go_ret
      exact ⟨by rw [HE.out, ← beq_cast]; rfl, HA.out.trans (hb1.out.mono HA.out.size)⟩
end
end Go.Proofs.YtfncoldcjhkhiaaDoor.NW
