/- The abstract machine: abstract values, what they say of values in memory, and how that lasts. -/
import Derived.Calls
import Derived.Orders
import Derived.Deep.LoopGhost
import Derived.Laws.Cells
import Derived.Laws.Sem
import Derived.Laws.World
namespace Go.AM

/-- An abstract value. 'ub': some truth. 'fz': a row that nothing writes any more; 'sl', 'ref': into a block of the abstract heap. -/
inductive AV where
  | any
  | v (x : Value)
  | z0
  | fz (es : Nat) (l : List AV)
  | fp (l : List AV) (f : Nat)
  | sl (id off len : Nat)
  | ref (id i f : Nat)
  | agg (l : List AV)
  | tup (l : List AV)
  | fn (f : Fn) (a b : List AV)
  | ub
  deriving Inhabited

structure Blk where
  es : Nat
  own : Bool
  els : List AV
  deriving Inhabited

abbrev Heap := List (Option Blk)
def hget (H : Heap) (id : Nat) : Option Blk := match H[id]? with
  | some (some b) => some b
  | _ => none

/-- What stands behind an abstract heap. -/
structure G where
  w : World
  H : Heap
  φ : Nat → Nat
  bs : Nat → Nat
  sz : Nat → Nat
  Z : Nat → Prop

abbrev cellAt (w : World) (b o : Nat) : Option Value := w.cell? ⟨b, o, none⟩

/-- A value of so many cells. -/
def Flat (x : Value) (es : Nat) : Prop := x.cells.size = es ∧ ∀ (j : Nat) v, x.cells[j]? = some v → v.oneCell' = true
def FRow (g : G) (A : Option Addr) (es : Nat) (xs : List Value) : Prop :=
  ∀ (i : Nat) (x : Value), xs[i]? = some x → Flat x es ∧ ∃ a, A = some a ∧ a.spot = none ∧ g.Z a.block ∧ ∀ j, j < es → cellAt g.w a.block (a.off + i * es + j) = x.cells[j]?

mutual
def Rel (g : G) : AV → Value → Prop
  | .any, _ => True
  | .v x, y => y = x
  | .z0, y => ∃ A, y = .slice A 0 0
  | .fz es l, y => ∃ A c xs, y = .slice A l.length c ∧ l.length ≤ c ∧ RelL g l xs ∧ FRow g A es xs ∧ (A = none → c = 0)
  | .fp l f, y => ∃ b o xs, y = .pointer (some ⟨b, o + f, none⟩) ∧ RelL g l xs ∧ g.Z b ∧ ∀ (j : Nat) v, xs[j]? = some v → v.oneCell' = true ∧ cellAt g.w b (o + j) = some v
  | .sl id off len, y => id < g.H.length ∧ ∃ a c, y = .slice a len c ∧ ∀ k, hget g.H id = some k → len ≤ c ∧ g.bs id + (off + c) * k.es ≤ g.sz id ∧ (c ≠ 0 → a = some ⟨g.φ id, g.bs id + off * k.es, none⟩)
  | .ref id i f, y => id < g.H.length ∧ ∃ a, y = .pointer (some a) ∧ ∀ k, hget g.H id = some k → a = ⟨g.φ id, g.bs id + (i * k.es + f), none⟩
  | .agg l, y => ∃ cs, y = .agg cs ∧ RelL g l cs.toList
  | .tup l, y => ∃ cs, y = .tuple cs ∧ RelL g l cs.toList
  | .fn f a b, y => ∃ xs ys, y = .func f xs ys ∧ RelL g a xs.toList ∧ RelL g b ys.toList
  | .ub, y => ∃ b, y = .bool b
def RelL (g : G) : List AV → List Value → Prop
  | [], ys => ys = []
  | x :: l, ys => ∃ z zs, ys = z :: zs ∧ Rel g x z ∧ RelL g l zs
end

mutual
/-- The numbers of blocks turned; a number that is not told becomes unknown. -/
def AV.ren (ρ : Nat → Option Nat) : AV → AV
  | .sl id off len => match ρ id with | some j => .sl j off len | none => .any
  | .ref id i f => match ρ id with | some j => .ref j i f | none => .any
  | .fz es l => .fz es (renL ρ l)
  | .fp l f => .fp (renL ρ l) f
  | .agg l => .agg (renL ρ l)
  | .tup l => .tup (renL ρ l)
  | .fn f a b => .fn f (renL ρ a) (renL ρ b)
  | .any => .any
  | .v x => .v x
  | .z0 => .z0
  | .ub => .ub
def renL (ρ : Nat → Option Nat) : List AV → List AV
  | [] => []
  | x :: l => x.ren ρ :: renL ρ l
end

theorem renL_map (ρ : Nat → Option Nat) (l : List AV) : renL ρ l = l.map (AV.ren ρ) := by
  induction l with
  | nil => simp [renL]
  | cons x l ih => simp [renL, ih]

theorem renL_length (ρ : Nat → Option Nat) (l : List AV) : (renL ρ l).length = l.length := by simp [renL_map]

/-- How one state of affairs goes over into another one, where the blocks' numbers are turned by 'ρ'. -/
structure Ren (ρ : Nat → Option Nat) (g g' : G) : Prop where
  z : ∀ b, g.Z b → g'.Z b
  h : ∀ b, g.Z b → g'.w.heap[b]? = g.w.heap[b]?
  id : ∀ i j, i < g.H.length → ρ i = some j → j < g'.H.length ∧ ∀ k', hget g'.H j = some k' → ∃ k, hget g.H i = some k ∧ k'.es = k.es ∧ g'.φ j = g.φ i ∧ g'.bs j = g.bs i ∧ g'.sz j = g.sz i

theorem cellAt_congr {w w' : World} {b : Nat} (h : w'.heap[b]? = w.heap[b]?) (o : Nat) : cellAt w' b o = cellAt w b o := by
  simp [cellAt, World.cell?, h]

theorem FRow.ren {ρ : Nat → Option Nat} {g g' : G} (hr : Ren ρ g g') {A : Option Addr} {es : Nat} {xs : List Value} (h : FRow g A es xs) : FRow g' A es xs := by
  intro i x hx
  obtain ⟨hs, a, hA, hsp, hz, hc⟩ := h i x hx
  refine ⟨hs, a, hA, hsp, hr.z _ hz, fun j hj => ?_⟩
  rw [cellAt_congr (hr.h _ hz)]
  exact hc j hj

mutual
theorem Rel.ren {ρ : Nat → Option Nat} {g g' : G} (hr : Ren ρ g g') : ∀ {x : AV} {y : Value}, Rel g x y → Rel g' (x.ren ρ) y
  | .any, _, _ => by simp [AV.ren, Rel]
  | .v x, y, h => by simpa [AV.ren, Rel] using h
  | .z0, y, h => by simpa [AV.ren, Rel] using h
  | .ub, y, h => by simpa [AV.ren, Rel] using h
  | .fz es l, y, h => by
    simp only [Rel] at h
    obtain ⟨A, c, xs, rfl, hc, hl, hf, hA⟩ := h
    simp only [AV.ren, Rel, renL_length]
    exact ⟨A, c, xs, rfl, hc, RelL.ren hr hl, hf.ren hr, hA⟩
  | .fp l f, y, h => by
    simp only [Rel] at h
    obtain ⟨b, o, xs, rfl, hl, hz, hc⟩ := h
    simp only [AV.ren, Rel]
    refine ⟨b, o, xs, rfl, RelL.ren hr hl, hr.z _ hz, fun j v hj => ?_⟩
    rw [cellAt_congr (hr.h _ hz)]
    exact hc j v hj
  | .sl id off len, y, h => by
    simp only [Rel] at h
    obtain ⟨hi, a, c, e1, h⟩ := h
    simp only [AV.ren]
    cases hρ : ρ id with
    | none => simp [Rel]
    | some j =>
      obtain ⟨hj, hk⟩ := hr.id id j hi hρ
      simp only [Rel]
      refine ⟨hj, a, c, e1, fun k' hk' => ?_⟩
      obtain ⟨k, h1, h2, h3, h3b, h4⟩ := hk k' hk'
      obtain ⟨e2, e3, e4⟩ := h k h1
      exact ⟨e2, by rw [h2, h3b, h4]; exact e3, fun hc => by rw [e4 hc, h2, h3, h3b]⟩
  | .ref id i f, y, h => by
    simp only [Rel] at h
    obtain ⟨hi, a, e1, h⟩ := h
    simp only [AV.ren]
    cases hρ : ρ id with
    | none => simp [Rel]
    | some j =>
      obtain ⟨hj, hk⟩ := hr.id id j hi hρ
      simp only [Rel]
      refine ⟨hj, a, e1, fun k' hk' => ?_⟩
      obtain ⟨k, h1, h2, h3, h3b, h4⟩ := hk k' hk'
      rw [h k h1, h2, h3, h3b]
  | .agg l, y, h => by
    simp only [Rel] at h
    obtain ⟨cs, rfl, hl⟩ := h
    simp only [AV.ren, Rel]
    exact ⟨cs, rfl, RelL.ren hr hl⟩
  | .tup l, y, h => by
    simp only [Rel] at h
    obtain ⟨cs, rfl, hl⟩ := h
    simp only [AV.ren, Rel]
    exact ⟨cs, rfl, RelL.ren hr hl⟩
  | .fn f a b, y, h => by
    simp only [Rel] at h
    obtain ⟨xs, ys, rfl, ha, hb⟩ := h
    simp only [AV.ren, Rel]
    exact ⟨xs, ys, rfl, RelL.ren hr ha, RelL.ren hr hb⟩
theorem RelL.ren {ρ : Nat → Option Nat} {g g' : G} (hr : Ren ρ g g') : ∀ {l : List AV} {ys : List Value}, RelL g l ys → RelL g' (renL ρ l) ys
  | [], ys, h => by simpa [renL, RelL] using h
  | x :: l, ys, h => by
    simp only [RelL] at h
    obtain ⟨z, zs, rfl, hx, hl⟩ := h
    simp only [renL, RelL]
    exact ⟨z, zs, rfl, Rel.ren hr hx, RelL.ren hr hl⟩
end

mutual
theorem ren_some : ∀ x : AV, x.ren some = x
  | .any | .v _ | .z0 | .ub | .sl .. | .ref .. => by simp [AV.ren]
  | .fz es l => by simp [AV.ren, renL_some l]
  | .fp l f => by simp [AV.ren, renL_some l]
  | .agg l => by simp [AV.ren, renL_some l]
  | .tup l => by simp [AV.ren, renL_some l]
  | .fn f a b => by simp [AV.ren, renL_some a, renL_some b]
theorem renL_some : ∀ l : List AV, renL some l = l
  | [] => by simp [renL]
  | x :: l => by simp [renL, ren_some x, renL_some l]
end

theorem Rel.mono {g g' : G} (h : Ren some g g') {x : AV} {y : Value} (hx : Rel g x y) : Rel g' x y := by
  have := Rel.ren h hx
  rwa [ren_some] at this
theorem RelL.mono {g g' : G} (h : Ren some g g') {l : List AV} {ys : List Value} (hx : RelL g l ys) : RelL g' l ys := by
  have := RelL.ren h hx
  rwa [renL_some] at this

-- lists
theorem RelL.length {g : G} : ∀ {l : List AV} {ys : List Value}, RelL g l ys → ys.length = l.length
  | [], ys, h => by simp only [RelL] at h; simp [h]
  | x :: l, ys, h => by
    simp only [RelL] at h
    obtain ⟨z, zs, rfl, _, hl⟩ := h
    simp [RelL.length hl]
theorem RelL.get {g : G} : ∀ {l : List AV} {ys : List Value} {i : Nat} {x : AV}, RelL g l ys → l[i]? = some x → ∃ y, ys[i]? = some y ∧ Rel g x y
  | [], ys, i, x, h, hx => by simp at hx
  | x :: l, ys, 0, x', h, hx => by
    simp only [RelL] at h
    obtain ⟨z, zs, rfl, hz, hl⟩ := h
    simp at hx
    subst hx
    exact ⟨z, by simp, hz⟩
  | x :: l, ys, i + 1, x', h, hx => by
    simp only [RelL] at h
    obtain ⟨z, zs, rfl, hz, hl⟩ := h
    simp at hx
    obtain ⟨y, h1, h2⟩ := RelL.get hl hx
    exact ⟨y, by simpa using h1, h2⟩
theorem RelL.of_get {g : G} : ∀ {l : List AV} {ys : List Value}, ys.length = l.length → (∀ (i : Nat) x y, l[i]? = some x → ys[i]? = some y → Rel g x y) → RelL g l ys
  | [], ys, h, _ => by simp at h; simp [RelL, h]
  | x :: l, [], h, _ => by simp at h
  | x :: l, y :: ys, h, hr => by
    simp only [RelL]
    exact ⟨y, ys, rfl, hr 0 x y rfl rfl, RelL.of_get (by simpa using h) (fun i a b ha hb => hr (i + 1) a b (by simpa using ha) (by simpa using hb))⟩
theorem RelL.rel {g : G} {l : List AV} {ys : List Value} (h : RelL g l ys) {i : Nat} {x : AV} {y : Value} (hx : l[i]? = some x) (hy : ys[i]? = some y) : Rel g x y := by
  obtain ⟨y', h1, h2⟩ := h.get hx
  rw [hy] at h1
  exact (Option.some.inj h1) ▸ h2
theorem RelL.append {g : G} : ∀ {l m : List AV} {ys zs : List Value}, RelL g l ys → RelL g m zs → RelL g (l ++ m) (ys ++ zs)
  | [], m, ys, zs, h, h' => by simp only [RelL] at h; subst h; simpa using h'
  | x :: l, m, ys, zs, h, h' => by
    simp only [RelL] at h
    obtain ⟨z, zs', rfl, hz, hl⟩ := h
    simp only [List.cons_append, RelL]
    exact ⟨z, _, rfl, hz, RelL.append hl h'⟩
theorem RelL.drop {g : G} : ∀ {l : List AV} {ys : List Value} (n : Nat), RelL g l ys → RelL g (l.drop n) (ys.drop n)
  | l, ys, 0, h => by simpa using h
  | [], ys, n + 1, h => by simp only [RelL] at h; subst h; simp [RelL]
  | x :: l, ys, n + 1, h => by
    simp only [RelL] at h
    obtain ⟨z, zs', rfl, hz, hl⟩ := h
    simpa using RelL.drop n hl
theorem RelL.take {g : G} : ∀ {l : List AV} {ys : List Value} (n : Nat), RelL g l ys → RelL g (l.take n) (ys.take n)
  | l, ys, 0, h => by simp [RelL]
  | [], ys, n + 1, h => by simp only [RelL] at h; subst h; simp [RelL]
  | x :: l, ys, n + 1, h => by
    simp only [RelL] at h
    obtain ⟨z, zs', rfl, hz, hl⟩ := h
    simp only [List.take_succ_cons, RelL]
    exact ⟨z, _, rfl, hz, RelL.take n hl⟩
theorem RelL.set {g : G} : ∀ {l : List AV} {ys : List Value} (i : Nat) {x : AV} {y : Value}, RelL g l ys → Rel g x y → RelL g (l.set i x) (ys.set i y)
  | [], ys, i, x, y, h, _ => by simp only [RelL] at h; subst h; simp [RelL]
  | a :: l, ys, 0, x, y, h, hx => by
    simp only [RelL] at h
    obtain ⟨z, zs', rfl, hz, hl⟩ := h
    simp only [List.set_cons_zero, RelL]
    exact ⟨y, zs', rfl, hx, hl⟩
  | a :: l, ys, i + 1, x, y, h, hx => by
    simp only [RelL] at h
    obtain ⟨z, zs', rfl, hz, hl⟩ := h
    simp only [List.set_cons_succ, RelL]
    exact ⟨z, _, rfl, hz, RelL.set i hl hx⟩
theorem RelL.cons {g : G} {x : AV} {y : Value} {l : List AV} {ys : List Value} (h : Rel g x y) (h' : RelL g l ys) : RelL g (x :: l) (y :: ys) := by
  simp only [RelL]; exact ⟨y, ys, rfl, h, h'⟩
theorem RelL.nil {g : G} : RelL g [] [] := by simp [RelL]
theorem RelL.replicate {g : G} {x : AV} {y : Value} (h : Rel g x y) : ∀ n, RelL g (List.replicate n x) (List.replicate n y)
  | 0 => by simp [RelL]
  | n + 1 => by simpa [List.replicate_succ] using RelL.cons h (RelL.replicate h n)

/-- A block of the abstract heap, and what stands at its place. -/
def Lies (g : G) (o : Nat) (k : Blk) (c : Array Value) : Prop :=
  ∃ xs, RelL g k.els xs ∧ ∀ (i : Nat) x, xs[i]? = some x → Flat x k.es ∧ ∀ j, j < k.es → c[o + (i * k.es + j)]? = x.cells[j]?
structure BlkOk (g : G) (id : Nat) (k : Blk) : Prop where
  own : k.own = true → g.sz id ≠ 0 → ¬ g.Z (g.φ id)
  frz : k.own = false → g.sz id ≠ 0 → g.Z (g.φ id)
  fit : g.bs id + k.els.length * k.es ≤ g.sz id
  pos : 0 < k.es
  mem : g.sz id ≠ 0 → ∃ c e lo hi, g.w.heap[g.φ id]? = some (.cells c e (lo, hi)) ∧ c.size = g.sz id ∧ (lo = hi ∨ c.size ≤ lo) ∧ Lies g (g.bs id) k c
structure GOk (g : G) : Prop where
  blk : ∀ id k, hget g.H id = some k → BlkOk g id k
  inj : ∀ i j k k', hget g.H i = some k → hget g.H j = some k' → k.own = true → k'.own = true → g.sz i ≠ 0 → g.sz j ≠ 0 → g.φ i = g.φ j → i = j
  zlt : ∀ b, g.Z b → b < g.w.heap.size
/-- Blocks that may be written. -/
def Own (g : G) (b : Nat) : Prop := ∃ id k, hget g.H id = some k ∧ k.own = true ∧ g.sz id ≠ 0 ∧ g.φ id = b
/-- What no operation of the machine here touches. -/
def Rest (w w' : World) : Prop := w'.os = w.os ∧ w'.tape = w.tape ∧ w'.output = w.output
theorem Rest.refl (w : World) : Rest w w := ⟨rfl, rfl, rfl⟩
theorem Rest.trans {a b c : World} (h : Rest a b) (k : Rest b c) : Rest a c := ⟨k.1.trans h.1, k.2.1.trans h.2.1, k.2.2.trans h.2.2⟩
structure Ext (g g' : G) : Prop where
  rest : Rest g.w g'.w
  size : g.w.heap.size ≤ g'.w.heap.size
  keep : ∀ b, b < g.w.heap.size → ¬ Own g b → g'.w.heap[b]? = g.w.heap[b]?
  z : ∀ b, g.Z b → g'.Z b
  z' : ∀ b, g'.Z b → g.Z b ∨ g.w.heap.size ≤ b ∨ Own g b
  own : ∀ b, Own g' b → Own g b ∨ g.w.heap.size ≤ b
/-- The first n blocks keep their places. -/
structure Pin (n : Nat) (g g' : G) : Prop where
  len : n ≤ g'.H.length
  id : ∀ i k', i < n → hget g'.H i = some k' → ∃ k, hget g.H i = some k ∧ k'.es = k.es ∧ g'.φ i = g.φ i ∧ g'.bs i = g.bs i ∧ g'.sz i = g.sz i

theorem Ext.refl (g : G) : Ext g g := ⟨.refl _, Nat.le_refl _, fun _ _ _ => rfl, fun _ h => h, fun _ h => .inl h, fun _ h => .inl h⟩
theorem Ext.trans {g g' g'' : G} (h : Ext g g') (h' : Ext g' g'') : Ext g g'' where
  rest := h.rest.trans h'.rest
  size := Nat.le_trans h.size h'.size
  keep b hb ho := by
    rw [h'.keep b (Nat.lt_of_lt_of_le hb h.size) (fun ho' => (h.own b ho').elim ho (fun hs => absurd hb (Nat.not_lt.2 hs)))]
    exact h.keep b hb ho
  z b hb := h'.z b (h.z b hb)
  z' b hb := by
    rcases h'.z' b hb with h1 | h1 | h1
    · exact h.z' b h1
    · exact .inr (.inl (Nat.le_trans h.size h1))
    · rcases h.own b h1 with h2 | h2
      · exact .inr (.inr h2)
      · exact .inr (.inl h2)
  own b hb := by
    rcases h'.own b hb with h1 | h1
    · exact h.own b h1
    · exact .inr (Nat.le_trans h.size h1)
theorem Pin.refl {n : Nat} {g : G} (h : n ≤ g.H.length) : Pin n g g := ⟨h, fun _ k' _ hk => ⟨k', hk, rfl, rfl, rfl, rfl⟩⟩
theorem Pin.trans {n : Nat} {g g' g'' : G} (h : Pin n g g') (h' : Pin n g' g'') : Pin n g g'' where
  len := h'.len
  id i k'' hi hk := by
    obtain ⟨k', h1, h2, h3, h3b, h4⟩ := h'.id i k'' hi hk
    obtain ⟨k, e1, e2, e3, e3b, e4⟩ := h.id i k' hi h1
    exact ⟨k, e1, h2.trans e2, h3.trans e3, h3b.trans e3b, h4.trans e4⟩
/-- Nothing turned, and what is written is owned. -/
structure Sub (g g' : G) : Prop where
  ren : Ren some g g'
  ext : Ext g g'
theorem Ren.len_le {g g' : G} (h : Ren some g g') : g.H.length ≤ g'.H.length := by
  rcases Nat.lt_or_ge g'.H.length g.H.length with h1 | h1
  · exact absurd (h.id _ _ h1 rfl).1 (Nat.lt_irrefl _)
  · exact h1
theorem Sub.pin {g g' : G} (h : Sub g g') {n : Nat} (hn : n ≤ g.H.length) : Pin n g g' where
  len := Nat.le_trans hn h.ren.len_le
  id i k' hi hk := (h.ren.id i i (Nat.lt_of_lt_of_le hi hn) rfl).2 k' hk
theorem Ren.trans {g g' g'' : G} (h : Ren some g g') (h' : Ren some g' g'') : Ren some g g'' where
  z b hb := h'.z b (h.z b hb)
  h b hb := (h'.h b (h.z b hb)).trans (h.h b hb)
  id i j hi hj := by
    cases hj
    obtain ⟨h1, h2⟩ := h.id i i hi rfl
    obtain ⟨h3, h4⟩ := h'.id i i h1 rfl
    refine ⟨h3, fun k'' hk => ?_⟩
    obtain ⟨k', e1, e2, e3, e3b, e4⟩ := h4 k'' hk
    obtain ⟨k, f1, f2, f3, f3b, f4⟩ := h2 k' e1
    exact ⟨k, f1, e2.trans f2, e3.trans f3, e3b.trans f3b, e4.trans f4⟩
theorem Ren.refl (g : G) : Ren some g g := ⟨fun _ h => h, fun _ _ => rfl, fun i j hi hj => by cases hj; exact ⟨hi, fun k hk => ⟨k, hk, rfl, rfl, rfl, rfl⟩⟩⟩
theorem Sub.refl (g : G) : Sub g g := ⟨.refl g, .refl g⟩
theorem Sub.trans {g g' g'' : G} (h : Sub g g') (h' : Sub g' g'') : Sub g g'' := ⟨h.ren.trans h'.ren, h.ext.trans h'.ext⟩
end Go.AM
