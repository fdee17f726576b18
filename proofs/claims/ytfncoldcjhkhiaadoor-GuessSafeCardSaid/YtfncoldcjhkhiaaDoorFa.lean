/- How many values there are on the stack at each instruction, as a graph's reach. -/
namespace Go.Proofs.YtfncoldcjhkhiaaDoor.Flow
set_option linter.unusedVariables false
/-- a function's instructions: so many places; how many values there are behind a place (none: it isn't right there); where it goes on -/
structure G where
  n : Nat
  step : Int → Int → Option Int
  succ : Int → List Int
structure Fine (g : G) : Prop where
  ne : 0 < g.n
  pos : ∀ a d e, g.step a d = some e → 0 ≤ e
  top : ∀ a d e, g.step a d = some e → e ≤ 256
  low : ∀ a s, 0 ≤ a → s ∈ g.succ a → 0 ≤ s
inductive Reach (g : G) : Int → Int → Prop
  | start : Reach g 0 0
  | next {a d e s : Int} : Reach g a d → a < g.n → g.step a d = some e → s ∈ g.succ a → Reach g s e
def Right (g : G) : Prop := ∀ a d, Reach g a d → a < g.n ∧ (∃ e, g.step a d = some e) ∧ ∀ e, Reach g a e → e = d
def at_ (D : List Int) (a : Int) : Int := D.getD a.toNat 0
theorem at_set {D : List Int} {a b e : Int} (ha : 0 ≤ a) (hb : 0 ≤ b) (h : a < D.length) : at_ (D.set a.toNat e) b = if b = a then e else at_ D b := by
  unfold at_
  rw [List.getD_eq_getElem?_getD, List.getD_eq_getElem?_getD, List.getElem?_set]
  by_cases hh : b = a
  · subst hh
    rw [if_pos rfl, if_pos (by omega), if_pos rfl]; rfl
  · rw [if_neg (by omega), if_neg hh]
theorem Reach.low {g : G} (F : Fine g) {a d : Int} (h : Reach g a d) : 0 ≤ a ∧ 0 ≤ d := by
  induction h with
  | start => exact ⟨by omega, by omega⟩
  | next h _ hs hm ih => exact ⟨F.low _ _ ih.1 hm, F.pos _ _ _ hs⟩
/-- a table tells the depths -/
structure Tab (g : G) (D : List Int) : Prop where
  len : D.length = g.n
  tells : ∀ a : Int, 0 ≤ a → a < g.n → (at_ D a = -1 ∧ ∀ d, ¬ Reach g a d) ∨ Reach g a (at_ D a)
theorem Tab.one {g : G} (F : Fine g) (hr : Right g) {D E : List Int} (h : Tab g D) (k : Tab g E) : D = E := by
  refine List.ext_getElem (h.len.trans k.len.symm) fun i h1 h2 => ?_
  have hn : i < g.n := h.len ▸ h1
  have e1 : at_ D i = D[i] := by unfold at_; rw [List.getD_eq_getElem?_getD, show ((i : Int).toNat) = i by omega, List.getElem?_eq_getElem h1]; rfl
  have e2 : at_ E i = E[i] := by unfold at_; rw [List.getD_eq_getElem?_getD, show ((i : Int).toNat) = i by omega, List.getElem?_eq_getElem h2]; rfl
  rw [← e1, ← e2]
  rcases h.tells i (by omega) (by omega) with ⟨a1, a2⟩ | a <;> rcases k.tells i (by omega) (by omega) with ⟨b1, b2⟩ | b
  · rw [a1, b1]
  · exact absurd b (a2 _)
  · exact absurd a (b2 _)
  · exact (hr _ _ b).2.2 _ a
/-- all places reached are closed: it is right -/
structure Known (g : G) (D : List Int) : Prop where
  len : D.length = g.n
  start : at_ D 0 = 0
  sound : ∀ a : Int, 0 ≤ a → a < g.n → at_ D a = -1 ∨ Reach g a (at_ D a)
def Closed (g : G) (D : List Int) (a : Int) : Prop := ∃ e, g.step a (at_ D a) = some e ∧ ∀ s ∈ g.succ a, s < g.n ∧ at_ D s = e
theorem Known.all {g : G} {D : List Int} (F : Fine g) (h : Known g D) (hc : ∀ a : Int, 0 ≤ a → a < g.n → at_ D a ≠ -1 → Closed g D a) {a d : Int} (hr : Reach g a d) : a < g.n ∧ at_ D a = d := by
  induction hr with
  | start => exact ⟨by have := F.ne; omega, h.start⟩
  | next hr hn hs hm ih =>
    have hl := hr.low F
    obtain ⟨e, he, hall⟩ := hc _ hl.1 ih.1 (by rw [ih.2]; omega)
    rw [ih.2, hs] at he
    have := hall _ hm
    injection he with he
    exact ⟨this.1, by rw [this.2, he]⟩
theorem Known.right {g : G} {D : List Int} (F : Fine g) (h : Known g D) (hc : ∀ a : Int, 0 ≤ a → a < g.n → at_ D a ≠ -1 → Closed g D a) : Right g ∧ Tab g D := by
  refine ⟨fun a d hr => ?_, h.len, fun a h0 hn => ?_⟩
  · have k := h.all F hc hr
    have hl := hr.low F
    obtain ⟨e, he, _⟩ := hc a hl.1 k.1 (by rw [k.2]; omega)
    exact ⟨k.1, ⟨e, by rw [← k.2]; exact he⟩, fun e he => by rw [← (h.all F hc he).2, k.2]⟩
  · rcases h.sound a h0 hn with e | e
    · exact .inl ⟨e, fun d hd => by have := (h.all F hc hd).2; have := (hd.low F).2; omega⟩
    · exact .inr e
/-- growing: what is known stays -/
def Le (g : G) (D E : List Int) : Prop := ∀ a : Int, 0 ≤ a → a < g.n → at_ D a ≠ -1 → at_ E a = at_ D a
theorem Le.refl (g : G) (D : List Int) : Le g D D := fun _ _ _ _ => rfl
theorem Le.trans {g : G} {D E F : List Int} (h : Le g D E) (k : Le g E F) : Le g D F := fun a h0 hn hd => by rw [k a h0 hn (by rw [h a h0 hn hd]; exact hd), h a h0 hn hd]
theorem Closed.grow {g : G} {D E : List Int} (F : Fine g) (h : Le g D E) {a : Int} (h0 : 0 ≤ a) (hn : a < g.n) (hd : at_ D a ≠ -1) (c : Closed g D a) : Closed g E a := by
  obtain ⟨e, he, hall⟩ := c
  refine ⟨e, by rw [h a h0 hn hd]; exact he, fun s hs => ⟨(hall s hs).1, ?_⟩⟩
  rw [h s (F.low _ _ h0 hs) (hall s hs).1 (by rw [(hall s hs).2]; have := F.pos _ _ _ he; omega)]
  exact (hall s hs).2
/-- how many places aren't known -/
def open_ (D : List Int) : Nat := D.countP (· == -1)
theorem open_set {D : List Int} {i : Nat} {e : Int} (hi : i < D.length) (h : at_ D i = -1) (he : e ≠ -1) : open_ (D.set i e) + 1 = open_ D := by
  induction D generalizing i with
  | nil => simp at hi
  | cons x D ih =>
    cases i with
    | zero =>
      have hx : x = -1 := h
      subst hx
      simp [open_, he]
    | succ i =>
      have := ih (i := i) (by simpa using hi) (by unfold at_ at h ⊢; simpa using h)
      simp only [open_, List.set_cons_succ, List.countP_cons] at this ⊢
      omega
/-- verify's goes -/
def goesS (n : Nat) (D T : List Int) (s e : Int) : Bool × List Int × List Int :=
  if s ≥ n ∨ e > 256 then (false, D, T) else if at_ D s = -1 then (true, D.set s.toNat e, T ++ [s]) else (decide (at_ D s = e), D, T)
/-- several, as long as they go -/
def goesL (n : Nat) (e : Int) : List Int → List Int → List Int → Bool × List Int × List Int
  | [], D, T => (true, D, T)
  | s :: l, D, T => if (goesS n D T s e).1 = true then goesL n e l (goesS n D T s e).2.1 (goesS n D T s e).2.2 else (false, (goesS n D T s e).2.1, (goesS n D T s e).2.2)
def instrS (g : G) (D T : List Int) (a : Int) : Bool × List Int × List Int :=
  match g.step a (at_ D a) with
  | none => (false, D, T)
  | some e => goesL g.n e (g.succ a) D T
/-- what holds while the places of todo wait -/
structure Inv (g : G) (D T : List Int) (x : Int → Prop) : Prop extends Known g D where
  todo : ∀ a ∈ T, 0 ≤ a ∧ a < g.n ∧ at_ D a ≠ -1
  closed : ∀ a : Int, 0 ≤ a → a < g.n → at_ D a ≠ -1 → a ∈ T ∨ x a ∨ Closed g D a
theorem goes_inv {g : G} {D T : List Int} {x : Int → Prop} {s e : Int} (F : Fine g) (h : Inv g D T x) (hs : 0 ≤ s) (he : 0 ≤ e) (hr : Reach g s e) :
    Inv g (goesS g.n D T s e).2.1 (goesS g.n D T s e).2.2 x ∧ Le g D (goesS g.n D T s e).2.1 ∧ 2 * open_ (goesS g.n D T s e).2.1 + (goesS g.n D T s e).2.2.length ≤ 2 * open_ D + T.length ∧
      ((goesS g.n D T s e).1 = true → s < g.n ∧ at_ (goesS g.n D T s e).2.1 s = e) ∧ ((goesS g.n D T s e).1 = false → e ≤ 256 → ¬ Right g) := by
  unfold goesS
  by_cases c : s ≥ g.n ∨ e > 256
  · rw [if_pos c]
    refine ⟨h, Le.refl _ _, Nat.le_refl _, fun hh => by simp at hh, fun _ hl hR => ?_⟩
    have := (hR s e hr).1
    omega
  rw [if_neg c]
  have hlt : s < g.n := by omega
  by_cases d : at_ D s = -1
  · rw [if_pos d]
    have hset : ∀ b : Int, 0 ≤ b → at_ (D.set s.toNat e) b = if b = s then e else at_ D b := fun b hb => at_set hs hb (by rw [h.len]; exact hlt)
    have hle : Le g D (D.set s.toNat e) := fun a h0 hn hd => by rw [hset a h0, if_neg (fun hh => hd (by rw [hh]; exact d))]
    refine ⟨⟨⟨by rw [List.length_set]; exact h.len, ?_, fun a h0 hn => ?_⟩, fun a ha => ?_, fun a h0 hn hd => ?_⟩, hle, ?_, fun _ => ⟨hlt, by rw [hset s hs, if_pos rfl]⟩, fun hh => by simp at hh⟩
    · rw [hset 0 (by omega), if_neg (fun hh => by rw [← hh] at d; have := h.start; omega)]; exact h.start
    · rw [hset a h0]
      by_cases ha : a = s
      · rw [if_pos ha, ha]; exact .inr hr
      · rw [if_neg ha]; exact h.sound a h0 hn
    · rw [hset a (by rcases List.mem_append.1 ha with ha | ha; exact (h.todo a ha).1; simp at ha; omega)]
      rcases List.mem_append.1 ha with ha | ha
      · have := h.todo a ha
        refine ⟨this.1, this.2.1, ?_⟩
        split
        · omega
        · exact this.2.2
      · rw [List.mem_singleton] at ha
        subst ha
        exact ⟨hs, hlt, by rw [if_pos rfl]; omega⟩
    · by_cases ha : a = s
      · exact .inl (by rw [ha]; simp)
      · have hd' : at_ D a ≠ -1 := by rw [hset a h0, if_neg ha] at hd; exact hd
        rcases h.closed a h0 hn hd' with k | k | k
        · exact .inl (List.mem_append_left _ k)
        · exact .inr (.inl k)
        · exact .inr (.inr (k.grow F hle h0 hn hd'))
    · have := open_set (D := D) (i := s.toNat) (e := e) (by have := h.len; omega) (by rw [show ((s.toNat : Nat) : Int) = s by omega]; exact d) (by omega)
      simp only [List.length_append, List.length_cons, List.length_nil]
      omega
  · rw [if_neg d]
    refine ⟨h, Le.refl _ _, Nat.le_refl _, fun hh => ⟨hlt, of_decide_eq_true hh⟩, fun hh _ hR => ?_⟩
    have hne := of_decide_eq_false hh
    rcases h.sound s hs hlt with k | k
    · exact d k
    · exact hne ((hR s _ hr).2.2 _ k)
theorem goesL_inv {g : G} {x : Int → Prop} {e : Int} (F : Fine g) (he : 0 ≤ e) (he2 : e ≤ 256) : ∀ (l : List Int) {D T : List Int}, Inv g D T x → (∀ s ∈ l, 0 ≤ s ∧ Reach g s e) →
    Inv g (goesL g.n e l D T).2.1 (goesL g.n e l D T).2.2 x ∧ Le g D (goesL g.n e l D T).2.1 ∧ 2 * open_ (goesL g.n e l D T).2.1 + (goesL g.n e l D T).2.2.length ≤ 2 * open_ D + T.length ∧
      ((goesL g.n e l D T).1 = true → ∀ s ∈ l, s < g.n ∧ at_ (goesL g.n e l D T).2.1 s = e) ∧ ((goesL g.n e l D T).1 = false → ¬ Right g)
  | [], D, T, h, _ => ⟨h, Le.refl _ _, Nat.le_refl _, fun _ s hs => by simp at hs, fun hh => by simp [goesL] at hh⟩
  | s :: l, D, T, h, hl => by
    have k := goes_inv F h (hl s (by simp)).1 he (hl s (by simp)).2
    unfold goesL
    by_cases c : (goesS g.n D T s e).1 = true
    · rw [if_pos c]
      have q := goesL_inv F he he2 l k.1 (fun t ht => hl t (by simp [ht]))
      refine ⟨q.1, k.2.1.trans q.2.1, Nat.le_trans q.2.2.1 k.2.2.1, fun hh t ht => ?_, q.2.2.2.2⟩
      rcases List.mem_cons.1 ht with rfl | ht
      · have := k.2.2.2.1 c
        exact ⟨this.1, by rw [q.2.1 t (hl t (by simp)).1 this.1 (by rw [this.2]; omega)]; exact this.2⟩
      · exact q.2.2.2.1 hh t ht
    · rw [if_neg c]
      exact ⟨k.1, k.2.1, k.2.2.1, fun hh => by simp at hh, fun _ => k.2.2.2.2 (by simpa using c) he2⟩
/-- ONE STEP: the last place of todo -/
theorem instr_inv {g : G} {D T : List Int} {a : Int} (F : Fine g) (h : Inv g D (T ++ [a]) (fun _ => False)) :
    (instrS g D T a).2.1.length = g.n ∧ ((instrS g D T a).1 = true → Inv g (instrS g D T a).2.1 (instrS g D T a).2.2 (fun _ => False) ∧ 2 * open_ (instrS g D T a).2.1 + (instrS g D T a).2.2.length < 2 * open_ D + (T ++ [a]).length) ∧ ((instrS g D T a).1 = false → ¬ Right g) := by
  have ha := h.todo a (by simp)
  have hr : Reach g a (at_ D a) := (h.sound a ha.1 ha.2.1).resolve_left ha.2.2
  have h' : Inv g D T (fun b => b = a) := ⟨h.toKnown, fun b hb => h.todo b (by simp [hb]), fun b h0 hn hd => by
    rcases h.closed b h0 hn hd with k | k | k
    · rcases List.mem_append.1 k with k | k
      · exact .inl k
      · exact .inr (.inl (List.mem_singleton.1 k))
    · exact k.elim
    · exact .inr (.inr k)⟩
  unfold instrS
  cases hst : g.step a (at_ D a) with
  | none => exact ⟨h.len, fun hh => by simp at hh, fun _ hR => by obtain ⟨e, he⟩ := (hR _ _ hr).2.1; rw [hst] at he; cases he⟩
  | some e =>
    have he := F.pos _ _ _ hst
    have q := goesL_inv F he (F.top _ _ _ hst) (g.succ a) h' (fun s hs => ⟨F.low _ _ ha.1 hs, .next hr ha.2.1 hst hs⟩)
    show (goesL g.n e (g.succ a) D T).2.1.length = g.n ∧ _
    refine ⟨q.1.len, fun hh => ⟨⟨q.1.toKnown, q.1.todo, fun b h0 hn hd => ?_⟩, ?_⟩, q.2.2.2.2⟩
    · rcases q.1.closed b h0 hn hd with k | rfl | k
      · exact .inl k
      · exact .inr (.inr ⟨e, by rw [q.2.1 b h0 hn ha.2.2]; exact hst, q.2.2.2.1 hh⟩)
      · exact .inr (.inr k)
    · have := q.2.2.1
      show 2 * open_ (goesL g.n e (g.succ a) D T).2.1 + (goesL g.n e (g.succ a) D T).2.2.length < _
      simp only [List.length_append, List.length_cons, List.length_nil]
      omega
theorem Inv.done {g : G} {D : List Int} (F : Fine g) (h : Inv g D [] (fun _ => False)) : Right g ∧ Tab g D :=
  h.toKnown.right F fun a h0 hn hd => by
    rcases h.closed a h0 hn hd with k | k | k
    · simp at k
    · exact k.elim
    · exact k
/-- the table that one begins with: place 0 alone -/
def zero_ (n : Nat) : List Int := (List.replicate n (-1)).set 0 0
theorem at_zero {n : Nat} (hn : 0 < n) {a : Int} (h0 : 0 ≤ a) (ha : a < n) : at_ (zero_ n) a = if a = 0 then 0 else -1 := by
  unfold zero_
  have := at_set (D := List.replicate n (-1)) (a := 0) (b := a) (e := 0) (by omega) h0 (by rw [List.length_replicate]; omega)
  rw [show ((0 : Int).toNat) = 0 from rfl] at this
  rw [this]
  split
  · rfl
  · unfold at_
    rw [List.getD_eq_getElem?_getD, List.getElem?_replicate, if_pos (by omega)]; rfl
theorem Known.first (g : G) (F : Fine g) : Known g (zero_ g.n) := ⟨by unfold zero_; rw [List.length_set, List.length_replicate], by rw [at_zero F.ne (by omega) (by have := F.ne; omega), if_pos rfl], fun a h0 hn => by
  rw [at_zero F.ne h0 hn]
  by_cases h : a = 0
  · subst h; exact .inr .start
  · rw [if_neg h]; exact .inl rfl⟩
theorem Inv.first (g : G) (F : Fine g) : Inv g (zero_ g.n) [0] (fun _ => False) := ⟨Known.first g F, fun a ha => by
  rw [List.mem_singleton] at ha
  subst ha
  have := F.ne
  exact ⟨by omega, by omega, by rw [at_zero F.ne (by omega) (by omega), if_pos rfl]; omega⟩, fun a h0 hn hd => by
  by_cases h : a = 0
  · exact .inl (by rw [h]; simp)
  · rw [at_zero F.ne h0 hn, if_neg h] at hd; exact absurd rfl hd⟩
end Go.Proofs.YtfncoldcjhkhiaaDoor.Flow
