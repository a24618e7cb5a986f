/- The abstract machine: how blocks are laid, written and dropped. -/
import Derived.Test.YtlegolcbjjjofaaAm6
import Derived.Lib.FrozenHead
import Derived.Laws.Append
namespace Go.AM
variable {P : Program} {tm : TM} {H : Heap}

theorem hget_set_none {id j : Nat} {k : Blk} (h : hget (H.set id none) j = some k) : j ≠ id ∧ hget H j = some k := by
  rw [hget_set] at h
  by_cases hj : j = id ∧ id < H.length
  · rw [if_pos hj] at h; cases h
  · rw [if_neg hj] at h
    refine ⟨fun e => hj ⟨e, ?_⟩, h⟩
    rw [← e]; exact hget_lt h

/-- A block dropped. -/
def G.kill (g : G) (id : Nat) : G := { g with H := g.H.set id none }
theorem kill_ok {g : G} (id : Nat) (hg : GOk g) : GOk (g.kill id) ∧ Sub g (g.kill id) := by
  have hr : Ren some g (g.kill id) := ⟨fun _ h => h, fun _ _ => rfl, fun i j hi hj => by
    cases hj
    refine ⟨by simpa [G.kill] using hi, fun k hk => ⟨k, (hget_set_none hk).2, rfl, rfl, rfl, rfl⟩⟩⟩
  refine ⟨⟨fun j k hk => ?_, fun i j k k' hi hj => hg.inj i j k k' (hget_set_none hi).2 (hget_set_none hj).2, hg.zlt⟩, hr, ⟨.refl _, Nat.le_refl _, fun _ _ _ => rfl, fun _ h => h, fun _ h => .inl h, fun b ⟨i, k, h1, h2, h3, h4⟩ => .inl ⟨i, k, (hget_set_none h1).2, h2, h3, h4⟩⟩⟩
  obtain ⟨h1, h2, h3, h4, h5⟩ := hg.blk j k (hget_set_none hk).2
  refine ⟨h1, h2, h3, h4, fun h0 => ?_⟩
  obtain ⟨c, e, lo, hi, m1, m2, m3, xs, m4, m5⟩ := h5 h0
  exact ⟨c, e, lo, hi, m1, m2, m3, xs, RelL.mono hr m4, m5⟩

/-- An empty block, that stands nowhere. -/
def G.vpush (g : G) (es : Nat) : G :=
  { g with H := g.H ++ [some ⟨es, true, []⟩], sz := fun i => if i = g.H.length then 0 else g.sz i, bs := fun i => if i = g.H.length then 0 else g.bs i }
theorem vpush_get {g : G} {es j : Nat} {k : Blk} (h : hget (g.vpush es).H j = some k) : (j < g.H.length ∧ hget g.H j = some k) ∨ (j = g.H.length ∧ k = ⟨es, true, []⟩) := by
  simp only [G.vpush, hget_append] at h
  by_cases hj : j < g.H.length
  · rw [if_pos hj] at h; exact .inl ⟨hj, h⟩
  · rw [if_neg hj] at h
    have := hget_lt h
    simp at this
    have e : j - g.H.length = 0 := by omega
    rw [e] at h
    simp [hget] at h
    exact .inr ⟨by omega, h.symm⟩
theorem vpush_ok {g : G} {es : Nat} (he : 0 < es) (hg : GOk g) : GOk (g.vpush es) ∧ Sub g (g.vpush es) := by
  have hsz : ∀ j, j < g.H.length → (g.vpush es).sz j = g.sz j := fun j hj => by simp only [G.vpush]; rw [if_neg (by omega)]
  have hbs : ∀ j, j < g.H.length → (g.vpush es).bs j = g.bs j := fun j hj => by simp only [G.vpush]; rw [if_neg (by omega)]
  have hr : Ren some g (g.vpush es) := ⟨fun _ h => h, fun _ _ => rfl, fun i j hi hj => by
    cases hj
    refine ⟨by simp [G.vpush]; omega, fun k hk => ⟨k, ?_, rfl, rfl, hbs i hi, hsz i hi⟩⟩
    rcases vpush_get hk with ⟨_, h⟩ | ⟨h, _⟩
    · exact h
    · omega⟩
  refine ⟨⟨fun j k hk => ?_, fun i j k k' hi hj ho ho' hs hs' hφ => ?_, hg.zlt⟩, hr, ⟨.refl _, Nat.le_refl _, fun _ _ _ => rfl, fun _ h => h, fun _ h => .inl h, fun b ⟨i, k, h1, h2, h3, h4⟩ => ?_⟩⟩
  · rcases vpush_get hk with ⟨hj, h⟩ | ⟨rfl, rfl⟩
    · obtain ⟨h1, h2, h3, h4, h5⟩ := hg.blk j k h
      refine ⟨by rw [hsz j hj]; exact h1, by rw [hsz j hj]; exact h2, by rw [hsz j hj, hbs j hj]; exact h3, h4, ?_⟩
      rw [hsz j hj, hbs j hj]
      intro h0
      obtain ⟨c, e, lo, hi, m1, m2, m3, xs, m4, m5⟩ := h5 h0
      exact ⟨c, e, lo, hi, m1, m2, m3, xs, RelL.mono hr m4, m5⟩
    · have e : (g.vpush es).sz g.H.length = 0 := by simp [G.vpush]
      have e' : (g.vpush es).bs g.H.length = 0 := by simp [G.vpush]
      exact ⟨fun _ h => absurd e h, fun _ h => absurd e h, by rw [e, e']; simp, he, fun h => absurd e h⟩
  · rcases vpush_get hi with ⟨hi', h1⟩ | ⟨rfl, rfl⟩
    · rcases vpush_get hj with ⟨hj', h2⟩ | ⟨rfl, rfl⟩
      · rw [hsz i hi'] at hs
        rw [hsz j hj'] at hs'
        exact hg.inj i j k k' h1 h2 ho ho' hs hs' hφ
      · exact absurd (by simp [G.vpush]) hs'
    · exact absurd (by simp [G.vpush]) hs
  · rcases vpush_get h1 with ⟨hi', h⟩ | ⟨rfl, rfl⟩
    · rw [hsz i hi'] at h3
      exact .inl ⟨i, k, h, h2, h3, h4⟩
    · exact absurd (by simp [G.vpush]) h3

/-- An owned block written anew, whatever the new world. -/
theorem write_okW {g : G} {id : Nat} {k : Blk} (hg : GOk g) (hk : hget g.H id = some k) (ho : k.own = true) (h0 : g.sz id ≠ 0) {c c' : Array Value} {e : TypeId} {fr : Nat × Nat} (hc : g.w.heap[g.φ id]? = some (.cells c e fr)) (hs : c'.size = c.size)
    {els : List AV} (hf : g.bs id + els.length * k.es ≤ g.sz id) (hl : Lies g (g.bs id) { k with els := els } c') {w' : World} {lo' hi' : Nat} (hwn : w'.heap[g.φ id]? = some (.cells c' e (lo', hi'))) (hwf : lo' = hi' ∨ c'.size ≤ lo') (hws : w'.heap.size = g.w.heap.size) (hwo : ∀ b, b ≠ g.φ id → w'.heap[b]? = g.w.heap[b]?) (hrest : Rest g.w w') :
    let g' : G := { g with w := w', H := g.H.set id (some { k with els := els }) }
    GOk g' ∧ Sub g g' := by
  intro g'
  have hid := hget_lt hk
  have hb := hg.blk id k hk
  have hget' : ∀ j b', hget g'.H j = some b' → (j = id ∧ b' = { k with els := els }) ∨ (j ≠ id ∧ hget g.H j = some b') := by
    intro j b' h
    simp only [g', hget_set] at h
    by_cases hj : j = id
    · subst hj; simp only [hid, and_self, if_true, Option.some.injEq] at h; exact .inl ⟨rfl, h.symm⟩
    · simp only [hj, false_and, if_false] at h; exact .inr ⟨hj, h⟩
  have hheap : ∀ b, b ≠ g.φ id → g'.w.heap[b]? = g.w.heap[b]? := hwo
  have hsize : g'.w.heap.size = g.w.heap.size := hws
  have hr : Ren some g g' := by
    refine ⟨fun _ h => h, fun b hz => hheap b (fun e => hb.own ho h0 (e ▸ hz)), fun i j hi hj => ?_⟩
    cases hj
    refine ⟨by simpa [g'] using hi, fun b' hb' => ?_⟩
    rcases hget' i b' hb' with ⟨rfl, rfl⟩ | ⟨_, h⟩
    · exact ⟨k, hk, rfl, rfl, rfl, rfl⟩
    · exact ⟨b', h, rfl, rfl, rfl, rfl⟩
  refine ⟨⟨fun j b' hb' => ?_, fun i j b b' hi hj ho' ho'' hs1 hs2 hφ => ?_, fun b hz => by rw [hsize]; exact hg.zlt b hz⟩, hr, ⟨hrest, by rw [hsize]; exact Nat.le_refl _, fun b _ hno => hheap b (fun e => hno (e ▸ ⟨id, k, hk, ho, h0, rfl⟩)), fun _ h => h, fun _ h => .inl h, fun b ⟨i, b', h1, h2, h3, h4⟩ => ?_⟩⟩
  · rcases hget' j b' hb' with ⟨rfl, rfl⟩ | ⟨hj, h⟩
    · obtain ⟨c0, e0, lo, hi, m1, m2, m3, _⟩ := hb.mem h0
      rw [hc] at m1
      cases m1
      refine ⟨hb.own, hb.frz, hf, hb.pos, fun _ => ⟨c', e, lo', hi', hwn, by rw [hs]; exact m2, hwf, ?_⟩⟩
      obtain ⟨xs, m4, m5⟩ := hl
      exact ⟨xs, RelL.mono hr m4, m5⟩
    · obtain ⟨h1, h2, h3, h4, h5⟩ := hg.blk j b' h
      refine ⟨h1, h2, h3, h4, fun hs0 => ?_⟩
      obtain ⟨c0, e0, lo, hi, m1, m2, m3, xs, m4, m5⟩ := h5 hs0
      refine ⟨c0, e0, lo, hi, ?_, m2, m3, xs, RelL.mono hr m4, m5⟩
      rw [← m1]
      refine hheap _ (fun e => ?_)
      by_cases hob : b'.own = true
      · exact hj (hg.inj j id b' k h hk hob ho hs0 h0 e)
      · have : b'.own = false := by simpa using hob
        exact hb.own ho h0 (e ▸ h2 this hs0)
  · rcases hget' i b hi with ⟨rfl, rfl⟩ | ⟨hi', h⟩
    · rcases hget' j b' hj with ⟨rfl, rfl⟩ | ⟨hj', h'⟩
      · rfl
      · exact hg.inj i j k b' hk h' ho ho'' hs1 hs2 hφ
    · rcases hget' j b' hj with ⟨rfl, rfl⟩ | ⟨hj', h'⟩
      · exact hg.inj i j b k h hk ho' ho hs1 hs2 hφ
      · exact hg.inj i j b b' h h' ho' ho'' hs1 hs2 hφ
  · rcases hget' i b' h1 with ⟨rfl, rfl⟩ | ⟨_, h⟩
    · exact .inl ⟨i, k, hk, ho, h3, h4⟩
    · exact .inl ⟨i, b', h, h2, h3, h4⟩

theorem setRow_rest (w : World) (b : Nat) (c : Array Value) : Rest w (w.setRow b c) := by
  unfold World.setRow
  first | exact ⟨rfl, rfl, rfl⟩ | (split <;> exact ⟨rfl, rfl, rfl⟩)
/-- An owned block written anew. -/
theorem write_ok {g : G} {id : Nat} {k : Blk} (hg : GOk g) (hk : hget g.H id = some k) (ho : k.own = true) (h0 : g.sz id ≠ 0) {c c' : Array Value} {e : TypeId} {fr : Nat × Nat} (hc : g.w.heap[g.φ id]? = some (.cells c e fr)) (hs : c'.size = c.size)
    {els : List AV} (hf : g.bs id + els.length * k.es ≤ g.sz id) (hl : Lies g (g.bs id) { k with els := els } c') :
    let g' : G := { g with w := g.w.setRow (g.φ id) c', H := g.H.set id (some { k with els := els }) }
    GOk g' ∧ Sub g g' := by
  obtain ⟨c0, e0, lo, hi, m1, m2, m3, _⟩ := (hg.blk id k hk).mem h0
  rw [hc] at m1
  cases m1
  exact write_okW hg hk ho h0 hc hs hf hl (setRow_heap g.w (g.φ id) c c' e _ hc) (by rw [hs]; exact m3) (size_setRow g.w (g.φ id) c') (fun b hb => setRow_other g.w (g.φ id) b c' hb) (setRow_rest _ _ _)

/-- A block told anew from its element 'off' on, under a number of its own. -/
def G.rebase (g : G) (id off : Nat) (k : Blk) : G :=
  { g with H := g.H.set id none ++ [some { k with els := k.els.drop off }], φ := fun i => if i = g.H.length then g.φ id else g.φ i, bs := fun i => if i = g.H.length then g.bs id + off * k.es else g.bs i, sz := fun i => if i = g.H.length then g.sz id else g.sz i }
theorem rebase_ok {g : G} {id off : Nat} {k : Blk} (hg : GOk g) (hk : hget g.H id = some k) (ho : off ≤ k.els.length) : GOk (g.rebase id off k) ∧ Sub g (g.rebase id off k) := by
  have hid := hget_lt hk
  have hb := hg.blk id k hk
  have hget' : ∀ j b', hget (g.rebase id off k).H j = some b' → (j < g.H.length ∧ j ≠ id ∧ hget g.H j = some b') ∨ (j = g.H.length ∧ b' = { k with els := k.els.drop off }) := by
    intro j b' h
    simp only [G.rebase, hget_append, List.length_set] at h
    by_cases hj : j < g.H.length
    · rw [if_pos hj] at h
      obtain ⟨h1, h2⟩ := hget_set_none h
      exact .inl ⟨hj, h1, h2⟩
    · rw [if_neg hj] at h
      have := hget_lt h
      simp at this
      have e : j - g.H.length = 0 := by omega
      rw [e] at h
      simp [hget] at h
      exact .inr ⟨by omega, h.symm⟩
  have eφ : ∀ j, j < g.H.length → (g.rebase id off k).φ j = g.φ j := fun j hj => by simp only [G.rebase]; rw [if_neg (by omega)]
  have eb : ∀ j, j < g.H.length → (g.rebase id off k).bs j = g.bs j := fun j hj => by simp only [G.rebase]; rw [if_neg (by omega)]
  have es : ∀ j, j < g.H.length → (g.rebase id off k).sz j = g.sz j := fun j hj => by simp only [G.rebase]; rw [if_neg (by omega)]
  have nφ : (g.rebase id off k).φ g.H.length = g.φ id := by simp [G.rebase]
  have nb : (g.rebase id off k).bs g.H.length = g.bs id + off * k.es := by simp [G.rebase]
  have ns : (g.rebase id off k).sz g.H.length = g.sz id := by simp [G.rebase]
  have hr : Ren some g (g.rebase id off k) := ⟨fun _ h => h, fun _ _ => rfl, fun i j hi hj => by
    cases hj
    refine ⟨by simp [G.rebase]; omega, fun b' hb' => ?_⟩
    rcases hget' i b' hb' with ⟨_, _, h⟩ | ⟨h, _⟩
    · exact ⟨b', h, rfl, eφ i hi, eb i hi, es i hi⟩
    · omega⟩
  refine ⟨⟨fun j b' hb' => ?_, fun i j b b' hi hj ho' ho'' hs1 hs2 hφ => ?_, hg.zlt⟩, hr, ⟨.refl _, Nat.le_refl _, fun _ _ _ => rfl, fun _ h => h, fun _ h => .inl h, fun b ⟨i, b', h1, h2, h3, h4⟩ => ?_⟩⟩
  · rcases hget' j b' hb' with ⟨hj, hne, h⟩ | ⟨rfl, rfl⟩
    · obtain ⟨h1, h2, h3, h4, h5⟩ := hg.blk j b' h
      refine ⟨by rw [es j hj, eφ j hj]; exact h1, by rw [es j hj, eφ j hj]; exact h2, by rw [es j hj, eb j hj]; exact h3, h4, ?_⟩
      rw [es j hj, eφ j hj, eb j hj]
      intro hs0
      obtain ⟨c0, e0, lo, hi, m1, m2, m3, xs, m4, m5⟩ := h5 hs0
      exact ⟨c0, e0, lo, hi, m1, m2, m3, xs, RelL.mono hr m4, m5⟩
    · refine ⟨by rw [ns, nφ]; exact hb.own, by rw [ns, nφ]; exact hb.frz, ?_, hb.pos, ?_⟩
      · rw [ns, nb]
        refine Nat.le_trans ?_ hb.fit
        simp only [List.length_drop]
        rw [Nat.add_assoc, ← Nat.add_mul]
        refine Nat.add_le_add_left (Nat.mul_le_mul_right _ (by omega)) _
      · rw [ns, nφ, nb]
        intro hs0
        obtain ⟨c0, e0, lo, hi, m1, m2, m3, xs, m4, m5⟩ := hb.mem hs0
        refine ⟨c0, e0, lo, hi, m1, m2, m3, xs.drop off, RelL.mono hr (RelL.drop off m4), fun i x hx => ?_⟩
        rw [List.getElem?_drop] at hx
        obtain ⟨f1, f2⟩ := m5 (off + i) x hx
        refine ⟨f1, fun j hj => ?_⟩
        rw [← f2 j hj]
        have : g.bs id + off * k.es + (i * k.es + j) = g.bs id + ((off + i) * k.es + j) := by rw [Nat.add_mul]; omega
        simp only [this]
  · rcases hget' i b hi with ⟨hi1, hi2, h⟩ | ⟨rfl, rfl⟩
    · rcases hget' j b' hj with ⟨hj1, hj2, h'⟩ | ⟨rfl, rfl⟩
      · rw [es i hi1] at hs1
        rw [es j hj1] at hs2
        rw [eφ i hi1, eφ j hj1] at hφ
        exact hg.inj i j b b' h h' ho' ho'' hs1 hs2 hφ
      · rw [es i hi1] at hs1
        rw [ns] at hs2
        rw [eφ i hi1, nφ] at hφ
        exact absurd (hg.inj i id b k h hk ho' ho'' hs1 hs2 hφ) hi2
    · rcases hget' j b' hj with ⟨hj1, hj2, h'⟩ | ⟨rfl, rfl⟩
      · rw [es j hj1] at hs2
        rw [ns] at hs1
        rw [eφ j hj1, nφ] at hφ
        exact absurd (hg.inj id j k b' hk h' ho' ho'' hs1 hs2 hφ).symm hj2
      · rfl
  · rcases hget' i b' h1 with ⟨hi1, _, h⟩ | ⟨rfl, rfl⟩
    · rw [es i hi1] at h3
      rw [eφ i hi1] at h4
      exact .inl ⟨i, b', h, h2, h3, h4⟩
    · rw [ns] at h3
      rw [nφ] at h4
      exact .inl ⟨id, k, hk, h2, h3, h4⟩

-- the cells of a row of elements, one behind the other
def flatC (xs : List Value) : List Value := xs.flatMap fun x => x.cells.toList
theorem flatC_length {es : Nat} : ∀ (xs : List Value), (∀ x ∈ xs, x.cells.size = es) → (flatC xs).length = xs.length * es
  | [], _ => by simp [flatC]
  | x :: xs, h => by
    have := flatC_length xs (fun y hy => h y (by simp [hy]))
    simp only [flatC, List.flatMap_cons, List.length_append, List.length_cons] at this ⊢
    rw [this, Nat.add_mul, Nat.one_mul]
    have := h x (by simp)
    simp [this]; omega
theorem flatC_get {es : Nat} : ∀ (xs : List Value), (∀ x ∈ xs, x.cells.size = es) → ∀ (i : Nat) x, xs[i]? = some x → ∀ j, j < es → (flatC xs)[i * es + j]? = x.cells[j]?
  | [], _, i, x, hx, _, _ => by simp at hx
  | y :: xs, h, 0, x, hx, j, hj => by
    simp at hx
    subst hx
    have := h y (by simp)
    simp only [flatC, List.flatMap_cons, Nat.zero_mul, Nat.zero_add]
    rw [List.getElem?_append_left (by simp; omega)]
    simp
  | y :: xs, h, i + 1, x, hx, j, hj => by
    have hy := h y (by simp)
    have ih := flatC_get xs (fun y hy => h y (by simp [hy])) i x (by simpa using hx) j hj
    rw [← ih]
    simp only [flatC, List.flatMap_cons]
    rw [List.getElem?_append_right (by simp [hy, Nat.add_mul]; omega)]
    congr 1
    simp [hy, Nat.add_mul]; omega
theorem flatC_inv {es : Nat} (hes : 0 < es) {xs : List Value} (h : ∀ x ∈ xs, x.cells.size = es) {m : Nat} {v : Value} (hm : (flatC xs)[m]? = some v) : ∃ i x j, m = i * es + j ∧ j < es ∧ xs[i]? = some x ∧ x.cells[j]? = some v := by
  have hlt := (List.getElem?_eq_some_iff.1 hm).1
  rw [flatC_length xs h] at hlt
  have hi : m / es < xs.length := (Nat.div_lt_iff_lt_mul hes).2 hlt
  have hx := List.getElem?_eq_getElem hi
  refine ⟨m / es, _, m % es, (by rw [Nat.mul_comm]; exact (Nat.div_add_mod m es).symm), Nat.mod_lt _ hes, hx, ?_⟩
  rw [← flatC_get xs h (m / es) _ hx (m % es) (Nat.mod_lt _ hes)]
  have : m / es * es + m % es = m := by rw [Nat.mul_comm]; exact Nat.div_add_mod m es
  rw [this]; exact hm
theorem flatC_append (xs ys : List Value) : flatC (xs ++ ys) = flatC xs ++ flatC ys := by simp [flatC]

/-- Cells stored one behind the other. -/
theorem run_stores (P : Program) (g o : Nat) (t : TypeId) (fz : Nat × Nat) : ∀ (vs : List Value) (i : Nat) (cur : Array Value) (w : World), w.heap[g]? = some (.cells cur t fz) → (fz.1 = fz.2 ∨ cur.size ≤ fz.1) → o + i + vs.length ≤ cur.size → (∀ v ∈ vs, v.oneCell' = true) →
    (storeCells ⟨g, o, none⟩ vs i).run P w = .ok () (w.setRow g (cur.toList.take (o + i) ++ vs ++ cur.toList.drop (o + i + vs.length)).toArray)
  | [], i, cur, w, hg, _, _, _ => by
    simp only [storeCells, List.append_nil, List.length_nil, Nat.add_zero, List.take_append_drop, Array.toArray_toList]
    rw [setRow_self w g cur t fz hg]
    rfl
  | v :: rest, i, cur, w, hg, hfz, hl, h1 => by
    have hi : o + i < cur.size := by simp at hl; omega
    have hadd : (⟨g, o, none⟩ : Addr).add i = ⟨g, o + i, none⟩ := add_off g o i
    have hcell : w.cell? ⟨g, o + i, none⟩ = some cur[o + i] := by simp [World.cell?, hg, hi]
    have hfro : w.frozen? ⟨g, o + i, none⟩ = false := by
      obtain ⟨lo, hi'⟩ := fz
      simp only [World.frozen?, hg, Bool.and_eq_false_iff, decide_eq_false_iff_not]
      simp only at hfz
      omega
    have hst : (store ((⟨g, o, none⟩ : Addr).add i) v).run P w = .ok () (w.setRow g (cur.setIfInBounds (o + i) v)) := by
      rw [hadd, run_store P w _ v _ (h1 v (by simp)), hcell]
      simp [hfro, setCell_eq_setRow w g (o + i) cur t fz v hg]
    have ih := run_stores P g o t fz rest (i + 1) (cur.setIfInBounds (o + i) v) (w.setRow g (cur.setIfInBounds (o + i) v)) (setRow_heap w g cur _ t _ hg) (by simpa using hfz) (by simp at hl ⊢; omega) (fun x hx => h1 x (by simp [hx]))
    simp only [storeCells, Sem.run_bind, hst, Result.andThen_ok, ih, setRow_setRow]
    congr 3
    have e := list_seg_step cur.toList (o + i) v rest (by simp at hl ⊢; omega)
    simpa [Array.toList_setIfInBounds, Nat.add_assoc] using e
end Go.AM
