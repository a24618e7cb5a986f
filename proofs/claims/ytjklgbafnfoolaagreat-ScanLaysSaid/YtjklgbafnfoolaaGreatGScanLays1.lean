/- The abstract machine: abstract values, what they say of values in memory, and how that lasts. -/
import Derived.Calls
import Derived.Orders
import Derived.Deep.LoopGhost
import Derived.Laws.Cells
import Derived.Laws.Sem
import Derived.Laws.World
import Derived.Laws.BytesString
import Derived.Lib.FrozenHead
import Derived.Laws.Append
import Derived.Lib.ConvBytes
import Derived.Laws.Tables
namespace Go.AM

/-- An abstract value. 'ub': some truth. 'fz': a row that nothing writes any more; 'sl', 'ref': into a block of the abstract heap. -/
inductive AV where
  | any
  | v (x : Value)
  | z0
  | fz (es : Nat) (l : List AV)
  | fp (l : List AV) (f : Nat)
  | sl (id off len : Nat)
  | ref (id i f : Nat)
  | agg (l : List AV)
  | tup (l : List AV)
  | fn (f : Fn) (a b : List AV)
  | ub
  deriving Inhabited

structure Blk where
  es : Nat
  own : Bool
  els : List AV
  deriving Inhabited

abbrev Heap := List (Option Blk)
def hget (H : Heap) (id : Nat) : Option Blk := match H[id]? with
  | some (some b) => some b
  | _ => none

/-- What stands behind an abstract heap. -/
structure G where
  w : World
  H : Heap
  φ : Nat → Nat
  bs : Nat → Nat
  sz : Nat → Nat
  Z : Nat → Prop

abbrev cellAt (w : World) (b o : Nat) : Option Value := w.cell? ⟨b, o, none⟩

/-- A value of so many cells. -/
def Flat (x : Value) (es : Nat) : Prop := x.cells.size = es ∧ ∀ (j : Nat) v, x.cells[j]? = some v → v.oneCell' = true
def FRow (g : G) (A : Option Addr) (es : Nat) (xs : List Value) : Prop :=
  ∀ (i : Nat) (x : Value), xs[i]? = some x → Flat x es ∧ ∃ a, A = some a ∧ a.spot = none ∧ g.Z a.block ∧ ∀ j, j < es → cellAt g.w a.block (a.off + i * es + j) = x.cells[j]?

mutual
def Rel (g : G) : AV → Value → Prop
  | .any, _ => True
  | .v x, y => y = x
  | .z0, y => ∃ A, y = .slice A 0 0
  | .fz es l, y => ∃ A c xs, y = .slice A l.length c ∧ l.length ≤ c ∧ RelL g l xs ∧ FRow g A es xs ∧ (A = none → c = 0)
  | .fp l f, y => ∃ b o xs, y = .pointer (some ⟨b, o + f, none⟩) ∧ RelL g l xs ∧ g.Z b ∧ ∀ (j : Nat) v, xs[j]? = some v → v.oneCell' = true ∧ cellAt g.w b (o + j) = some v
  | .sl id off len, y => id < g.H.length ∧ ∃ a c, y = .slice a len c ∧ ∀ k, hget g.H id = some k → len ≤ c ∧ g.bs id + (off + c) * k.es ≤ g.sz id ∧ (c ≠ 0 → a = some ⟨g.φ id, g.bs id + off * k.es, none⟩)
  | .ref id i f, y => id < g.H.length ∧ ∃ a, y = .pointer (some a) ∧ ∀ k, hget g.H id = some k → a = ⟨g.φ id, g.bs id + (i * k.es + f), none⟩
  | .agg l, y => ∃ cs, y = .agg cs ∧ RelL g l cs.toList
  | .tup l, y => ∃ cs, y = .tuple cs ∧ RelL g l cs.toList
  | .fn f a b, y => ∃ xs ys, y = .func f xs ys ∧ RelL g a xs.toList ∧ RelL g b ys.toList
  | .ub, y => ∃ b, y = .bool b
def RelL (g : G) : List AV → List Value → Prop
  | [], ys => ys = []
  | x :: l, ys => ∃ z zs, ys = z :: zs ∧ Rel g x z ∧ RelL g l zs
end

mutual
/-- The numbers of blocks turned; a number that is not told becomes unknown. -/
def AV.ren (ρ : Nat → Option Nat) : AV → AV
  | .sl id off len => match ρ id with | some j => .sl j off len | none => .any
  | .ref id i f => match ρ id with | some j => .ref j i f | none => .any
  | .fz es l => .fz es (renL ρ l)
  | .fp l f => .fp (renL ρ l) f
  | .agg l => .agg (renL ρ l)
  | .tup l => .tup (renL ρ l)
  | .fn f a b => .fn f (renL ρ a) (renL ρ b)
  | .any => .any
  | .v x => .v x
  | .z0 => .z0
  | .ub => .ub
def renL (ρ : Nat → Option Nat) : List AV → List AV
  | [] => []
  | x :: l => x.ren ρ :: renL ρ l
end

theorem renL_map (ρ : Nat → Option Nat) (l : List AV) : renL ρ l = l.map (AV.ren ρ) := by
  induction l with
  | nil => simp [renL]
  | cons x l ih => simp [renL, ih]

theorem renL_length (ρ : Nat → Option Nat) (l : List AV) : (renL ρ l).length = l.length := by simp [renL_map]

/-- How one state of affairs goes over into another one, where the blocks' numbers are turned by 'ρ'. -/
structure Ren (ρ : Nat → Option Nat) (g g' : G) : Prop where
  z : ∀ b, g.Z b → g'.Z b
  h : ∀ b, g.Z b → g'.w.heap[b]? = g.w.heap[b]?
  id : ∀ i j, i < g.H.length → ρ i = some j → j < g'.H.length ∧ ∀ k', hget g'.H j = some k' → ∃ k, hget g.H i = some k ∧ k'.es = k.es ∧ g'.φ j = g.φ i ∧ g'.bs j = g.bs i ∧ g'.sz j = g.sz i

theorem cellAt_congr {w w' : World} {b : Nat} (h : w'.heap[b]? = w.heap[b]?) (o : Nat) : cellAt w' b o = cellAt w b o := by
  simp [cellAt, World.cell?, h]

theorem FRow.ren {ρ : Nat → Option Nat} {g g' : G} (hr : Ren ρ g g') {A : Option Addr} {es : Nat} {xs : List Value} (h : FRow g A es xs) : FRow g' A es xs := by
  intro i x hx
  obtain ⟨hs, a, hA, hsp, hz, hc⟩ := h i x hx
  refine ⟨hs, a, hA, hsp, hr.z _ hz, fun j hj => ?_⟩
  rw [cellAt_congr (hr.h _ hz)]
  exact hc j hj

mutual
theorem Rel.ren {ρ : Nat → Option Nat} {g g' : G} (hr : Ren ρ g g') : ∀ {x : AV} {y : Value}, Rel g x y → Rel g' (x.ren ρ) y
  | .any, _, _ => by simp [AV.ren, Rel]
  | .v x, y, h => by simpa [AV.ren, Rel] using h
  | .z0, y, h => by simpa [AV.ren, Rel] using h
  | .ub, y, h => by simpa [AV.ren, Rel] using h
  | .fz es l, y, h => by
    simp only [Rel] at h
    obtain ⟨A, c, xs, rfl, hc, hl, hf, hA⟩ := h
    simp only [AV.ren, Rel, renL_length]
    exact ⟨A, c, xs, rfl, hc, RelL.ren hr hl, hf.ren hr, hA⟩
  | .fp l f, y, h => by
    simp only [Rel] at h
    obtain ⟨b, o, xs, rfl, hl, hz, hc⟩ := h
    simp only [AV.ren, Rel]
    refine ⟨b, o, xs, rfl, RelL.ren hr hl, hr.z _ hz, fun j v hj => ?_⟩
    rw [cellAt_congr (hr.h _ hz)]
    exact hc j v hj
  | .sl id off len, y, h => by
    simp only [Rel] at h
    obtain ⟨hi, a, c, e1, h⟩ := h
    simp only [AV.ren]
    cases hρ : ρ id with
    | none => simp [Rel]
    | some j =>
      obtain ⟨hj, hk⟩ := hr.id id j hi hρ
      simp only [Rel]
      refine ⟨hj, a, c, e1, fun k' hk' => ?_⟩
      obtain ⟨k, h1, h2, h3, h3b, h4⟩ := hk k' hk'
      obtain ⟨e2, e3, e4⟩ := h k h1
      exact ⟨e2, by rw [h2, h3b, h4]; exact e3, fun hc => by rw [e4 hc, h2, h3, h3b]⟩
  | .ref id i f, y, h => by
    simp only [Rel] at h
    obtain ⟨hi, a, e1, h⟩ := h
    simp only [AV.ren]
    cases hρ : ρ id with
    | none => simp [Rel]
    | some j =>
      obtain ⟨hj, hk⟩ := hr.id id j hi hρ
      simp only [Rel]
      refine ⟨hj, a, e1, fun k' hk' => ?_⟩
      obtain ⟨k, h1, h2, h3, h3b, h4⟩ := hk k' hk'
      rw [h k h1, h2, h3, h3b]
  | .agg l, y, h => by
    simp only [Rel] at h
    obtain ⟨cs, rfl, hl⟩ := h
    simp only [AV.ren, Rel]
    exact ⟨cs, rfl, RelL.ren hr hl⟩
  | .tup l, y, h => by
    simp only [Rel] at h
    obtain ⟨cs, rfl, hl⟩ := h
    simp only [AV.ren, Rel]
    exact ⟨cs, rfl, RelL.ren hr hl⟩
  | .fn f a b, y, h => by
    simp only [Rel] at h
    obtain ⟨xs, ys, rfl, ha, hb⟩ := h
    simp only [AV.ren, Rel]
    exact ⟨xs, ys, rfl, RelL.ren hr ha, RelL.ren hr hb⟩
theorem RelL.ren {ρ : Nat → Option Nat} {g g' : G} (hr : Ren ρ g g') : ∀ {l : List AV} {ys : List Value}, RelL g l ys → RelL g' (renL ρ l) ys
  | [], ys, h => by simpa [renL, RelL] using h
  | x :: l, ys, h => by
    simp only [RelL] at h
    obtain ⟨z, zs, rfl, hx, hl⟩ := h
    simp only [renL, RelL]
    exact ⟨z, zs, rfl, Rel.ren hr hx, RelL.ren hr hl⟩
end

mutual
theorem ren_some : ∀ x : AV, x.ren some = x
  | .any | .v _ | .z0 | .ub | .sl .. | .ref .. => by simp [AV.ren]
  | .fz es l => by simp [AV.ren, renL_some l]
  | .fp l f => by simp [AV.ren, renL_some l]
  | .agg l => by simp [AV.ren, renL_some l]
  | .tup l => by simp [AV.ren, renL_some l]
  | .fn f a b => by simp [AV.ren, renL_some a, renL_some b]
theorem renL_some : ∀ l : List AV, renL some l = l
  | [] => by simp [renL]
  | x :: l => by simp [renL, ren_some x, renL_some l]
end

theorem Rel.mono {g g' : G} (h : Ren some g g') {x : AV} {y : Value} (hx : Rel g x y) : Rel g' x y := by
  have := Rel.ren h hx
  rwa [ren_some] at this
theorem RelL.mono {g g' : G} (h : Ren some g g') {l : List AV} {ys : List Value} (hx : RelL g l ys) : RelL g' l ys := by
  have := RelL.ren h hx
  rwa [renL_some] at this

-- lists
theorem RelL.length {g : G} : ∀ {l : List AV} {ys : List Value}, RelL g l ys → ys.length = l.length
  | [], ys, h => by simp only [RelL] at h; simp [h]
  | x :: l, ys, h => by
    simp only [RelL] at h
    obtain ⟨z, zs, rfl, _, hl⟩ := h
    simp [RelL.length hl]
theorem RelL.get {g : G} : ∀ {l : List AV} {ys : List Value} {i : Nat} {x : AV}, RelL g l ys → l[i]? = some x → ∃ y, ys[i]? = some y ∧ Rel g x y
  | [], ys, i, x, h, hx => by simp at hx
  | x :: l, ys, 0, x', h, hx => by
    simp only [RelL] at h
    obtain ⟨z, zs, rfl, hz, hl⟩ := h
    simp at hx
    subst hx
    exact ⟨z, by simp, hz⟩
  | x :: l, ys, i + 1, x', h, hx => by
    simp only [RelL] at h
    obtain ⟨z, zs, rfl, hz, hl⟩ := h
    simp at hx
    obtain ⟨y, h1, h2⟩ := RelL.get hl hx
    exact ⟨y, by simpa using h1, h2⟩
theorem RelL.of_get {g : G} : ∀ {l : List AV} {ys : List Value}, ys.length = l.length → (∀ (i : Nat) x y, l[i]? = some x → ys[i]? = some y → Rel g x y) → RelL g l ys
  | [], ys, h, _ => by simp at h; simp [RelL, h]
  | x :: l, [], h, _ => by simp at h
  | x :: l, y :: ys, h, hr => by
    simp only [RelL]
    exact ⟨y, ys, rfl, hr 0 x y rfl rfl, RelL.of_get (by simpa using h) (fun i a b ha hb => hr (i + 1) a b (by simpa using ha) (by simpa using hb))⟩
theorem RelL.rel {g : G} {l : List AV} {ys : List Value} (h : RelL g l ys) {i : Nat} {x : AV} {y : Value} (hx : l[i]? = some x) (hy : ys[i]? = some y) : Rel g x y := by
  obtain ⟨y', h1, h2⟩ := h.get hx
  rw [hy] at h1
  exact (Option.some.inj h1) ▸ h2
theorem RelL.append {g : G} : ∀ {l m : List AV} {ys zs : List Value}, RelL g l ys → RelL g m zs → RelL g (l ++ m) (ys ++ zs)
  | [], m, ys, zs, h, h' => by simp only [RelL] at h; subst h; simpa using h'
  | x :: l, m, ys, zs, h, h' => by
    simp only [RelL] at h
    obtain ⟨z, zs', rfl, hz, hl⟩ := h
    simp only [List.cons_append, RelL]
    exact ⟨z, _, rfl, hz, RelL.append hl h'⟩
theorem RelL.drop {g : G} : ∀ {l : List AV} {ys : List Value} (n : Nat), RelL g l ys → RelL g (l.drop n) (ys.drop n)
  | l, ys, 0, h => by simpa using h
  | [], ys, n + 1, h => by simp only [RelL] at h; subst h; simp [RelL]
  | x :: l, ys, n + 1, h => by
    simp only [RelL] at h
    obtain ⟨z, zs', rfl, hz, hl⟩ := h
    simpa using RelL.drop n hl
theorem RelL.take {g : G} : ∀ {l : List AV} {ys : List Value} (n : Nat), RelL g l ys → RelL g (l.take n) (ys.take n)
  | l, ys, 0, h => by simp [RelL]
  | [], ys, n + 1, h => by simp only [RelL] at h; subst h; simp [RelL]
  | x :: l, ys, n + 1, h => by
    simp only [RelL] at h
    obtain ⟨z, zs', rfl, hz, hl⟩ := h
    simp only [List.take_succ_cons, RelL]
    exact ⟨z, _, rfl, hz, RelL.take n hl⟩
theorem RelL.set {g : G} : ∀ {l : List AV} {ys : List Value} (i : Nat) {x : AV} {y : Value}, RelL g l ys → Rel g x y → RelL g (l.set i x) (ys.set i y)
  | [], ys, i, x, y, h, _ => by simp only [RelL] at h; subst h; simp [RelL]
  | a :: l, ys, 0, x, y, h, hx => by
    simp only [RelL] at h
    obtain ⟨z, zs', rfl, hz, hl⟩ := h
    simp only [List.set_cons_zero, RelL]
    exact ⟨y, zs', rfl, hx, hl⟩
  | a :: l, ys, i + 1, x, y, h, hx => by
    simp only [RelL] at h
    obtain ⟨z, zs', rfl, hz, hl⟩ := h
    simp only [List.set_cons_succ, RelL]
    exact ⟨z, _, rfl, hz, RelL.set i hl hx⟩
theorem RelL.cons {g : G} {x : AV} {y : Value} {l : List AV} {ys : List Value} (h : Rel g x y) (h' : RelL g l ys) : RelL g (x :: l) (y :: ys) := by
  simp only [RelL]; exact ⟨y, ys, rfl, h, h'⟩
theorem RelL.nil {g : G} : RelL g [] [] := by simp [RelL]
theorem RelL.replicate {g : G} {x : AV} {y : Value} (h : Rel g x y) : ∀ n, RelL g (List.replicate n x) (List.replicate n y)
  | 0 => by simp [RelL]
  | n + 1 => by simpa [List.replicate_succ] using RelL.cons h (RelL.replicate h n)

/-- A block of the abstract heap, and what stands at its place. -/
def Lies (g : G) (o : Nat) (k : Blk) (c : Array Value) : Prop :=
  ∃ xs, RelL g k.els xs ∧ ∀ (i : Nat) x, xs[i]? = some x → Flat x k.es ∧ ∀ j, j < k.es → c[o + (i * k.es + j)]? = x.cells[j]?
structure BlkOk (g : G) (id : Nat) (k : Blk) : Prop where
  own : k.own = true → g.sz id ≠ 0 → ¬ g.Z (g.φ id)
  frz : k.own = false → g.sz id ≠ 0 → g.Z (g.φ id)
  fit : g.bs id + k.els.length * k.es ≤ g.sz id
  pos : 0 < k.es
  mem : g.sz id ≠ 0 → ∃ c e lo hi, g.w.heap[g.φ id]? = some (.cells c e (lo, hi)) ∧ c.size = g.sz id ∧ (lo = hi ∨ c.size ≤ lo) ∧ Lies g (g.bs id) k c
structure GOk (g : G) : Prop where
  blk : ∀ id k, hget g.H id = some k → BlkOk g id k
  inj : ∀ i j k k', hget g.H i = some k → hget g.H j = some k' → k.own = true → k'.own = true → g.sz i ≠ 0 → g.sz j ≠ 0 → g.φ i = g.φ j → i = j
  zlt : ∀ b, g.Z b → b < g.w.heap.size
/-- Blocks that may be written. -/
def Own (g : G) (b : Nat) : Prop := ∃ id k, hget g.H id = some k ∧ k.own = true ∧ g.sz id ≠ 0 ∧ g.φ id = b
/-- What no operation of the machine here touches. -/
def Rest (w w' : World) : Prop := w'.os = w.os ∧ w'.tape = w.tape ∧ w'.output = w.output
theorem Rest.refl (w : World) : Rest w w := ⟨rfl, rfl, rfl⟩
theorem Rest.trans {a b c : World} (h : Rest a b) (k : Rest b c) : Rest a c := ⟨k.1.trans h.1, k.2.1.trans h.2.1, k.2.2.trans h.2.2⟩
structure Ext (g g' : G) : Prop where
  rest : Rest g.w g'.w
  size : g.w.heap.size ≤ g'.w.heap.size
  keep : ∀ b, b < g.w.heap.size → ¬ Own g b → g'.w.heap[b]? = g.w.heap[b]?
  z : ∀ b, g.Z b → g'.Z b
  z' : ∀ b, g'.Z b → g.Z b ∨ g.w.heap.size ≤ b ∨ Own g b
  own : ∀ b, Own g' b → Own g b ∨ g.w.heap.size ≤ b
/-- The first n blocks keep their places. -/
structure Pin (n : Nat) (g g' : G) : Prop where
  len : n ≤ g'.H.length
  id : ∀ i k', i < n → hget g'.H i = some k' → ∃ k, hget g.H i = some k ∧ k'.es = k.es ∧ g'.φ i = g.φ i ∧ g'.bs i = g.bs i ∧ g'.sz i = g.sz i

theorem Ext.refl (g : G) : Ext g g := ⟨.refl _, Nat.le_refl _, fun _ _ _ => rfl, fun _ h => h, fun _ h => .inl h, fun _ h => .inl h⟩
theorem Ext.trans {g g' g'' : G} (h : Ext g g') (h' : Ext g' g'') : Ext g g'' where
  rest := h.rest.trans h'.rest
  size := Nat.le_trans h.size h'.size
  keep b hb ho := by
    rw [h'.keep b (Nat.lt_of_lt_of_le hb h.size) (fun ho' => (h.own b ho').elim ho (fun hs => absurd hb (Nat.not_lt.2 hs)))]
    exact h.keep b hb ho
  z b hb := h'.z b (h.z b hb)
  z' b hb := by
    rcases h'.z' b hb with h1 | h1 | h1
    · exact h.z' b h1
    · exact .inr (.inl (Nat.le_trans h.size h1))
    · rcases h.own b h1 with h2 | h2
      · exact .inr (.inr h2)
      · exact .inr (.inl h2)
  own b hb := by
    rcases h'.own b hb with h1 | h1
    · exact h.own b h1
    · exact .inr (Nat.le_trans h.size h1)
theorem Pin.refl {n : Nat} {g : G} (h : n ≤ g.H.length) : Pin n g g := ⟨h, fun _ k' _ hk => ⟨k', hk, rfl, rfl, rfl, rfl⟩⟩
theorem Pin.trans {n : Nat} {g g' g'' : G} (h : Pin n g g') (h' : Pin n g' g'') : Pin n g g'' where
  len := h'.len
  id i k'' hi hk := by
    obtain ⟨k', h1, h2, h3, h3b, h4⟩ := h'.id i k'' hi hk
    obtain ⟨k, e1, e2, e3, e3b, e4⟩ := h.id i k' hi h1
    exact ⟨k, e1, h2.trans e2, h3.trans e3, h3b.trans e3b, h4.trans e4⟩
/-- Nothing turned, and what is written is owned. -/
structure Sub (g g' : G) : Prop where
  ren : Ren some g g'
  ext : Ext g g'
theorem Ren.len_le {g g' : G} (h : Ren some g g') : g.H.length ≤ g'.H.length := by
  rcases Nat.lt_or_ge g'.H.length g.H.length with h1 | h1
  · exact absurd (h.id _ _ h1 rfl).1 (Nat.lt_irrefl _)
  · exact h1
theorem Sub.pin {g g' : G} (h : Sub g g') {n : Nat} (hn : n ≤ g.H.length) : Pin n g g' where
  len := Nat.le_trans hn h.ren.len_le
  id i k' hi hk := (h.ren.id i i (Nat.lt_of_lt_of_le hi hn) rfl).2 k' hk
theorem Ren.trans {g g' g'' : G} (h : Ren some g g') (h' : Ren some g' g'') : Ren some g g'' where
  z b hb := h'.z b (h.z b hb)
  h b hb := (h'.h b (h.z b hb)).trans (h.h b hb)
  id i j hi hj := by
    cases hj
    obtain ⟨h1, h2⟩ := h.id i i hi rfl
    obtain ⟨h3, h4⟩ := h'.id i i h1 rfl
    refine ⟨h3, fun k'' hk => ?_⟩
    obtain ⟨k', e1, e2, e3, e3b, e4⟩ := h4 k'' hk
    obtain ⟨k, f1, f2, f3, f3b, f4⟩ := h2 k' e1
    exact ⟨k, f1, e2.trans f2, e3.trans f3, e3b.trans f3b, e4.trans f4⟩
theorem Ren.refl (g : G) : Ren some g g := ⟨fun _ h => h, fun _ _ => rfl, fun i j hi hj => by cases hj; exact ⟨hi, fun k hk => ⟨k, hk, rfl, rfl, rfl, rfl⟩⟩⟩
theorem Sub.refl (g : G) : Sub g g := ⟨.refl g, .refl g⟩
theorem Sub.trans {g g' g'' : G} (h : Sub g g') (h' : Sub g' g'') : Sub g g'' := ⟨h.ren.trans h'.ren, h.ext.trans h'.ext⟩
end Go.AM
namespace Go.AM

abbrev TM := List (Nat × AV)
def tget : TM → Nat → AV
  | [], _ => .any
  | (t, x) :: r, n => if t = n then x else tget r n
def TmRel (g : G) (tm : TM) (vs : Nat → Value) : Prop := ∀ t, Rel g (tget tm t) (vs t)
abbrev tmpsOf (a : Act) : Nat → Value := fun t => a.tmps.getD t undef
structure TmOk (D : List Deferred) (g : G) (tm : TM) (a : Act) (n : Nat) : Prop where
  size : a.tmps.size = n
  defers : a.defers = D
  rel : TmRel g tm (tmpsOf a)

abbrev Post := Exit → TM → Heap → Prop
def Post.up (D : List Deferred) (n k : Nat) (Q : Post) (g : G) : Exit → Act → World → Prop := fun e a' w' =>
  ∃ tm' g', g'.w = w' ∧ Q e tm' g'.H ∧ GOk g' ∧ TmOk D g' tm' a' n ∧ Ext g g' ∧ Pin k g g'
/-- From the abstract state (tm, H) the code comes to an end that Q allows; the first k blocks keep their numbers. -/
def T (D : List Deferred) (P : Program) (n k : Nat) (c : Code) (tm : TM) (H : Heap) (Q : Post) : Prop :=
  ∀ g a, g.H = H → k ≤ H.length → GOk g → TmOk D g tm a n → c.wp P (Q.up D n k g) a g.w

variable {D : List Deferred} {P : Program} {n k : Nat} {tm : TM} {H : Heap} {Q : Post}

def thenK (K : TM → Heap → Prop) (Q : Post) : Post
  | .normal => K
  | e => Q e
def inBlockK (id : Nat) (Q : Post) : Post
  | .exit id' => if id' = id then Q .normal else Q (.exit id')
  | e => Q e

theorem Post.up_trans {g g' : G} {e : Exit} {a : Act} {w : World} (hx : Ext g g') (hp : Pin k g g') (h : Q.up D n k g' e a w) : Q.up D n k g e a w := by
  obtain ⟨tm', g'', h1, h2, h3, h4, h5, h6⟩ := h
  exact ⟨tm', g'', h1, h2, h3, h4, hx.trans h5, hp.trans h6⟩

theorem T.mono {c : Code} {Q' : Post} (h : T D P n k c tm H Q) (hq : ∀ e tm H, Q e tm H → Q' e tm H) : T D P n k c tm H Q' :=
  fun g a hH hk hg ht => wp_mono (h g a hH hk hg ht) fun e a' w' ⟨tm', g', h1, h2, h3, h4, h5, h6⟩ => ⟨tm', g', h1, hq _ _ _ h2, h3, h4, h5, h6⟩

theorem T.skip (h : Q .normal tm H) : T D P n k .skip tm H Q :=
  fun g a hH hk hg ht => wp_skip ⟨tm, g, rfl, hH ▸ h, hg, ht, .refl g, .refl (hH ▸ hk)⟩
theorem T.label {l : Nat} (h : Q .normal tm H) : T D P n k (.label l) tm H Q :=
  fun g a hH hk hg ht => wp_label ⟨tm, g, rfl, hH ▸ h, hg, ht, .refl g, .refl (hH ▸ hk)⟩
theorem T.exit {id : Nat} (h : Q (.exit id) tm H) : T D P n k (.exit id) tm H Q :=
  fun g a hH hk hg ht => wp_exit ⟨tm, g, rfl, hH ▸ h, hg, ht, .refl g, .refl (hH ▸ hk)⟩
theorem T.ret (h : Q .ret tm H) : T D P n k .ret tm H Q :=
  fun g a hH hk hg ht => wp_ret ⟨tm, g, rfl, hH ▸ h, hg, ht, .refl g, .refl (hH ▸ hk)⟩

theorem T.seq' {x y : Code} (h : T D P n k x tm H (thenK (fun tm H => T D P n k y tm H Q) Q)) : T D P n k (.seq x y) tm H Q := by
  intro g a hH hk hg ht
  refine wp_seq (wp_mono (h g a hH hk hg ht) fun e a' w' he => ?_)
  obtain ⟨tm', g', h1, h2, h3, h4, h5, h6⟩ := he
  cases e with
  | normal =>
    simp only [thenK] at h2
    simp only [Exit.then]
    subst h1
    exact wp_mono (h2 g' a' rfl h6.len h3 h4) fun e a w hq => Post.up_trans h5 h6 hq
  | _ => exact ⟨tm', g', h1, h2, h3, h4, h5, h6⟩
/-- The rest stands behind a letter. -/
theorem T.seq {x y : Code} (h : ∀ K : TM → Heap → Prop, (∀ tm H, T D P n k y tm H Q → K tm H) → T D P n k x tm H (thenK K Q)) : T D P n k (.seq x y) tm H Q :=
  T.seq' (h _ fun _ _ h => h)

def cav : Value → AV
  | .agg cs => .agg (cs.toList.map .v)
  | x => .v x
def ev (tm : TM) : Operand → AV
  | .tmp t => tget tm t
  | .const v => cav v
  | .func f => .fn (.func f) [] []
  | .global g => .any

theorem RelL.vs (g : G) : ∀ ys : List Value, RelL g (ys.map .v) ys
  | [] => .nil
  | y :: ys => .cons (by simp [Rel]) (RelL.vs g ys)
theorem cav_rel (g : G) (v : Value) : Rel g (cav v) v := by
  cases v <;> simp [cav, Rel]
  exact RelL.vs g _
theorem ev_rel {g : G} {a : Act} (h : TmRel g tm (tmpsOf a)) (x : Operand) : Rel g (ev tm x) (a.eval x) := by
  cases x with
  | tmp t => exact h t
  | const v => exact cav_rel g v
  | func f => simp [ev, Act.eval, Rel, RelL]
  | global f => simp [ev, Rel]

theorem T.cond {c : Operand} {x y : Code} {b : Bool} (hc : ev tm c = .v (.bool b)) (ht : b = true → T D P n k x tm H Q) (hf : b = false → T D P n k y tm H Q) : T D P n k (.cond c x y) tm H Q := by
  intro g a hH hk hg ha
  have h := ev_rel ha.rel c
  rw [hc] at h
  simp only [Rel] at h
  exact wp_cond_split h (fun e => ht e g a hH hk hg ha) (fun e => hf e g a hH hk hg ha)
theorem T.cond_true {c : Operand} {x y : Code} (hc : ev tm c = .v (.bool true)) (ht : T D P n k x tm H Q) : T D P n k (.cond c x y) tm H Q :=
  T.cond hc (fun _ => ht) (fun h => by cases h)
theorem T.cond_false {c : Operand} {x y : Code} (hc : ev tm c = .v (.bool false)) (hf : T D P n k y tm H Q) : T D P n k (.cond c x y) tm H Q :=
  T.cond hc (fun h => by cases h) (fun _ => hf)

theorem T.block {id : Nat} {c : Code} (h : T D P n k c tm H (inBlockK id Q)) : T D P n k (.block id c) tm H Q := by
  intro g a hH hk hg ht
  refine wp_block (wp_mono (h g a hH hk hg ht) fun e a' w' he => ?_)
  obtain ⟨tm', g', h1, h2, h3, h4, h5, h6⟩ := he
  cases e with
  | exit id' =>
    simp only [inBlockK] at h2
    simp only [Exit.inBlock]
    by_cases hid : id' = id
    · simp only [hid, if_true] at h2 ⊢
      exact ⟨tm', g', h1, h2, h3, h4, h5, h6⟩
    · simp only [hid, if_false] at h2 ⊢
      exact ⟨tm', g', h1, h2, h3, h4, h5, h6⟩
  | _ => exact ⟨tm', g', h1, h2, h3, h4, h5, h6⟩

/-- A loop: J bears a number that every round lowers. -/
theorem T.loop {c : Code} (J : Nat → TM → Heap → Prop) (m : Nat) (h0 : J m tm H)
    (round : ∀ m tm H, J m tm H → T D P n k c tm H (thenK (fun tm' H' => ∃ m', m' < m ∧ J m' tm' H') Q)) : T D P n k (.loop c) tm H Q := by
  intro g a hH hk hg ht
  refine wp_loop_ghost (fun m a w => ∃ tm' g', g'.w = w ∧ J m tm' g'.H ∧ GOk g' ∧ TmOk D g' tm' a n ∧ Ext g g' ∧ Pin k g g') m ⟨tm, g, rfl, hH ▸ h0, hg, ht, .refl g, .refl (hH ▸ hk)⟩ ?_
  rintro m a w ⟨tm', g', rfl, hJ, hg', ht', hx, hp⟩
  refine wp_mono (round m tm' g'.H hJ g' a rfl hp.len hg' ht') fun e a' w' he => ?_
  obtain ⟨tm'', g'', h1, h2, h3, h4, h5, h6⟩ := he
  cases e with
  | normal =>
    simp only [thenK] at h2
    obtain ⟨m', hm, hJ'⟩ := h2
    exact ⟨m', hm, tm'', g'', h1, hJ', h3, h4, hx.trans h5, hp.trans h6⟩
  | _ => exact ⟨tm'', g'', h1, h2, h3, h4, hx.trans h5, hp.trans h6⟩

/-- What may be said of a state in other words; nothing is run. -/
def TEnt (k : Nat) (tm : TM) (H : Heap) (tm' : TM) (H' : Heap) : Prop :=
  ∀ (g : G) (vs : Nat → Value), g.H = H → k ≤ H.length → GOk g → TmRel g tm vs → ∃ g', g'.w = g.w ∧ g'.H = H' ∧ GOk g' ∧ TmRel g' tm' vs ∧ Ext g g' ∧ Pin k g g'
theorem TEnt.refl : TEnt k tm H tm H := fun g _ hH hk hg ht => ⟨g, rfl, hH, hg, ht, .refl g, .refl (hH ▸ hk)⟩
theorem TEnt.trans {tm' tm'' : TM} {H' H'' : Heap} (h : TEnt k tm H tm' H') (h' : TEnt k tm' H' tm'' H'') : TEnt k tm H tm'' H'' := by
  intro g vs hH hk hg ht
  obtain ⟨g1, a1, a2, a3, a4, a5, a6⟩ := h g vs hH hk hg ht
  obtain ⟨g2, b1, b2, b3, b4, b5, b6⟩ := h' g1 vs a2 (a2 ▸ a6.len) a3 a4
  exact ⟨g2, b1.trans a1, b2, b3, b4, a5.trans b5, a6.trans b6⟩
theorem T.ent {c : Code} {tm' : TM} {H' : Heap} (h : TEnt k tm H tm' H') (ht : T D P n k c tm' H' Q) : T D P n k c tm H Q := by
  intro g a hH hk hg ha
  obtain ⟨g1, a1, a2, a3, a4, a5, a6⟩ := h g _ hH hk hg ha.rel
  rw [← a1]
  exact wp_mono (ht g1 a a2 (a2 ▸ a6.len) a3 ⟨ha.size, ha.defers, a4⟩) fun e a w hq => Post.up_trans a5 a6 hq

theorem TEnt.keep {tm' : TM} (h : ∀ t, tget tm' t = .any ∨ tget tm' t = tget tm t) : TEnt k tm H tm' H := by
  intro g vs hH hk hg ht
  refine ⟨g, rfl, hH, hg, fun t => ?_, .refl g, .refl (hH ▸ hk)⟩
  rcases h t with h | h
  · rw [h]; simp [Rel]
  · rw [h]; exact ht t
/-- Only these are kept. -/
def tkeep : List Nat → TM → TM
  | [], _ => []
  | t :: l, tm => (t, tget tm t) :: tkeep l tm
theorem tget_tkeep (l : List Nat) (t : Nat) : tget (tkeep l tm) t = .any ∨ tget (tkeep l tm) t = tget tm t := by
  induction l with
  | nil => exact .inl rfl
  | cons a l ih =>
    simp only [tkeep, tget]
    by_cases h : a = t
    · subst h; right; simp
    · simp only [h, if_false]; exact ih
theorem T.keep {c : Code} (l : List Nat) (h : T D P n k c (tkeep l tm) H Q) : T D P n k c tm H Q := T.ent (.keep (tget_tkeep l)) h

/-- A word about one value that is implied. -/
def Ent (H : Heap) (x x' : AV) : Prop := ∀ g y, g.H = H → GOk g → Rel g x y → Rel g x' y
theorem TEnt.one {tm' : TM} (h : ∀ t, Ent H (tget tm t) (tget tm' t)) : TEnt k tm H tm' H := fun g vs hH hk hg ht =>
  ⟨g, rfl, hH, hg, fun t => h t g _ hH hg (ht t), .refl g, .refl (hH ▸ hk)⟩

theorem hget_lt {id : Nat} {b : Blk} (h : hget H id = some b) : id < H.length := by
  unfold hget at h
  split at h
  · rename_i hb
    exact (List.getElem?_eq_some_iff.1 hb).1
  · cases h
theorem hget_iff {id : Nat} {b : Blk} : hget H id = some b ↔ H[id]? = some (some b) := by
  unfold hget
  split
  · rename_i c hc; rw [hc]; simp
  · rename_i h
    simp only [reduceCtorEq, false_iff]
    exact fun e => h b e
theorem hget_set {id j : Nat} {b : Option Blk} : hget (H.set id b) j = if j = id ∧ id < H.length then b else hget H j := by
  unfold hget
  rw [List.getElem?_set]
  by_cases h : id = j
  · subst h
    by_cases hl : id < H.length
    · simp only [hl, if_true, and_self]
      cases b <;> rfl
    · simp [hl, List.getElem?_eq_none (Nat.le_of_not_lt hl)]
  · have : ¬ (j = id) := fun e => h e.symm
    simp [h, this]
theorem hget_append {H' : Heap} {j : Nat} : hget (H ++ H') j = if j < H.length then hget H j else hget H' (j - H.length) := by
  unfold hget
  rw [List.getElem?_append]
  by_cases h : j < H.length <;> simp only [h, if_true, if_false] <;> rfl

-- turning the blocks' numbers, and dropping blocks
def pos (src : List Nat) (i : Nat) : Option Nat := src.idxOf? i
mutual
def Blk.ren (ρ : Nat → Option Nat) (b : Blk) : Blk := { b with els := renL ρ b.els }
end
def normH (src : List Nat) (H : Heap) : Heap := src.map fun i => (hget H i).map (Blk.ren (pos src))
def normT (src : List Nat) : TM → TM
  | [] => []
  | (t, x) :: r => (t, x.ren (pos src)) :: normT src r
theorem tget_normT (src : List Nat) (t : Nat) : tget (normT src tm) t = (tget tm t).ren (pos src) := by
  induction tm with
  | nil => simp [normT, tget, AV.ren]
  | cons p r ih =>
    obtain ⟨a, x⟩ := p
    simp only [normT, tget]
    by_cases h : a = t
    · simp [h]
    · simp only [h, if_false]; exact ih
theorem pos_some {src : List Nat} {i j : Nat} (h : pos src i = some j) : src[j]? = some i := by
  unfold pos at h
  rw [List.idxOf?, List.findIdx?_eq_some_iff_getElem] at h
  obtain ⟨hl, h1, _⟩ := h
  simp at h1
  rw [List.getElem?_eq_getElem hl, h1]
theorem Lies.ren {ρ : Nat → Option Nat} {g g' : G} (hr : Ren ρ g g') {b : Blk} {c : Array Value} {o : Nat} (h : Lies g o b c) : Lies g' o (b.ren ρ) c := by
  obtain ⟨xs, h1, h2⟩ := h
  exact ⟨xs, RelL.ren hr h1, h2⟩

/-- The same state of affairs, the blocks counted anew. -/
def G.norm (g : G) (src : List Nat) : G := { g with H := normH src g.H, φ := fun j => g.φ (src.getD j 0), bs := fun j => g.bs (src.getD j 0), sz := fun j => g.sz (src.getD j 0) }
theorem getD_src {src : List Nat} {j i : Nat} (h : src[j]? = some i) : src.getD j 0 = i := by simp [List.getD, h]
theorem norm_get {g : G} {src : List Nat} {j : Nat} {b' : Blk} (h : hget (g.norm src).H j = some b') : ∃ i b, src[j]? = some i ∧ hget g.H i = some b ∧ b' = b.ren (pos src) := by
  rw [hget_iff] at h
  simp only [G.norm, normH, List.getElem?_map, Option.map_eq_some_iff] at h
  obtain ⟨i, hi, b, hb, rfl⟩ := h
  exact ⟨i, b, hi, hb, rfl⟩
theorem norm_ren (g : G) (src : List Nat) : Ren (pos src) g (g.norm src) := by
  refine ⟨fun _ h => h, fun _ _ => rfl, fun i j hi hij => ?_⟩
  have hj := pos_some hij
  refine ⟨by simp only [G.norm, normH, List.length_map]; exact (List.getElem?_eq_some_iff.1 hj).1, fun b' hb' => ?_⟩
  obtain ⟨i', b, h1, h2, rfl⟩ := norm_get hb'
  rw [hj] at h1
  cases h1
  refine ⟨b, h2, rfl, ?_, ?_, ?_⟩ <;> simp only [G.norm, getD_src hj]
theorem norm_own {g : G} {src : List Nat} {b : Nat} (h : Own (g.norm src) b) : Own g b := by
  obtain ⟨j, k', h1, h2, h3, h4⟩ := h
  obtain ⟨i, b0, e1, e2, rfl⟩ := norm_get h1
  simp only [G.norm, getD_src e1] at h3 h4
  exact ⟨i, b0, e2, h2, h3, h4⟩
theorem norm_ok {g : G} {src : List Nat} (hn : src.Nodup) (hg : GOk g) : GOk (g.norm src) := by
  refine ⟨fun j b' hb' => ?_, fun j j' b' c' hb hc hob hoc hs hs' hφ => ?_, hg.zlt⟩
  · obtain ⟨i, b, h1, h2, rfl⟩ := norm_get hb'
    have hb := hg.blk i b h2
    have e1 : (g.norm src).φ j = g.φ i := by simp only [G.norm, getD_src h1]
    have e2 : (g.norm src).sz j = g.sz i := by simp only [G.norm, getD_src h1]
    have e3 : (g.norm src).bs j = g.bs i := by simp only [G.norm, getD_src h1]
    refine ⟨?_, ?_, ?_, hb.pos, ?_⟩
    · rw [e1, e2]; exact hb.own
    · rw [e1, e2]; exact hb.frz
    · rw [e2, e3]; simpa [Blk.ren, renL_length] using hb.fit
    · rw [e1, e2, e3]
      intro h0
      obtain ⟨c, e, lo, hi, m1, m2, m3, m4⟩ := hb.mem h0
      exact ⟨c, e, lo, hi, m1, m2, m3, m4.ren (norm_ren g src)⟩
  · obtain ⟨i, b, h1, h2, rfl⟩ := norm_get hb
    obtain ⟨i', c, h1', h2', rfl⟩ := norm_get hc
    simp only [G.norm, getD_src h1, getD_src h1'] at hs hs' hφ
    have : i = i' := hg.inj i i' b c h2 h2' hob hoc hs hs' hφ
    subst this
    have hj := (List.getElem?_eq_some_iff.1 h1).1
    exact (List.getElem?_inj hj hn).1 (h1.trans h1'.symm)
theorem norm_ext {g : G} {src : List Nat} : Ext g (g.norm src) := ⟨.refl _, Nat.le_refl _, fun _ _ _ => rfl, fun _ h => h, fun _ h => .inl h, fun _ hb => .inl (norm_own hb)⟩
theorem TEnt.norm (src : List Nat) (hn : src.Nodup) (hk' : ∀ j, j < k → src[j]? = some j) : TEnt k tm H (normT src tm) (normH src H) := by
  intro g vs hH hk hg ht
  subst hH
  have hkl : k ≤ (g.norm src).H.length := by
    simp only [G.norm, normH, List.length_map]
    rcases Nat.lt_or_ge src.length k with h | h
    · have := hk' src.length h
      simp at this
    · exact h
  refine ⟨g.norm src, rfl, rfl, norm_ok hn hg, fun t => ?_, norm_ext, ⟨hkl, fun i b' hi hb' => ?_⟩⟩
  · rw [tget_normT]; exact Rel.ren (norm_ren g src) (ht t)
  · obtain ⟨i', b, h1, h2, rfl⟩ := norm_get hb'
    have h3 := hk' i hi
    rw [h3] at h1
    cases h1
    exact ⟨b, h2, rfl, by simp only [G.norm, getD_src h3], by simp only [G.norm, getD_src h3], by simp only [G.norm, getD_src h3]⟩

/-- A block is written no more. -/
theorem TEnt.freeze (id : Nat) {b : Blk} (hb : hget H id = some b) : TEnt k tm H tm (H.set id (some { b with own := false })) := by
  intro g vs hH hk hg ht
  subst hH
  have hid := hget_lt hb
  by_cases ho : b.own = true
  case neg =>
    have e : g.H.set id (some { b with own := false }) = g.H := by
      have : ({ b with own := false } : Blk) = b := by cases b; simp at ho; simp [ho]
      rw [this]
      apply List.ext_getElem?
      intro i
      rw [List.getElem?_set]
      by_cases h : id = i
      · subst h; simp only [hid, if_true]; exact (hget_iff.1 hb).symm
      · simp only [h, if_false]
    rw [e]
    exact ⟨g, rfl, rfl, hg, ht, .refl g, .refl hk⟩
  let g' : G := { g with H := g.H.set id (some { b with own := false }), Z := fun x => g.Z x ∨ (g.sz id ≠ 0 ∧ x = g.φ id) }
  have hget' : ∀ j b', hget g'.H j = some b' → ∃ b0, hget g.H j = some b0 ∧ b'.es = b0.es ∧ b'.els = b0.els ∧ ((j = id ∧ b'.own = false) ∨ (j ≠ id ∧ b' = b0)) := by
    intro j b' h
    simp only [g', hget_set] at h
    by_cases hj : j = id
    · subst hj
      simp only [hid, and_self, if_true, Option.some.injEq] at h
      subst h
      exact ⟨b, hb, rfl, rfl, .inl ⟨rfl, rfl⟩⟩
    · simp only [hj, false_and, if_false] at h
      exact ⟨b', h, rfl, rfl, .inr ⟨hj, rfl⟩⟩
  have hren : Ren some g g' := by
    refine ⟨fun _ h => .inl h, fun _ _ => rfl, fun i j hi hij => ?_⟩
    cases hij
    refine ⟨by simpa [g'] using hi, fun b' hb' => ?_⟩
    obtain ⟨b0, h1, h2, _, _⟩ := hget' i b' hb'
    exact ⟨b0, h1, h2, rfl, rfl, rfl⟩
  have hOwn : g.sz id ≠ 0 → Own g (g.φ id) := fun h => ⟨id, b, hb, ho, h, rfl⟩
  have hgo : GOk g' := by
    refine ⟨fun j b' hb' => ?_, fun j j' b' c' hb' hc' hob hoc hs hs' hφ => ?_, fun x hx => ?_⟩
    · obtain ⟨b0, h1, h2, h3, h4⟩ := hget' j b' hb'
      have hb0 := hg.blk j b0 h1
      refine ⟨fun hown hs hz => ?_, fun hown hs => ?_, ?_, ?_, fun hs => ?_⟩
      · rcases h4 with ⟨_, h4⟩ | ⟨hj, rfl⟩
        · rw [h4] at hown; cases hown
        · rcases hz with hz | ⟨h5, h6⟩
          · exact hb0.own hown hs hz
          · exact hj (hg.inj j id b' b h1 hb hown ho hs h5 h6)
      · rcases h4 with ⟨rfl, _⟩ | ⟨hj, rfl⟩
        · exact .inr ⟨hs, rfl⟩
        · exact .inl (hb0.frz hown hs)
      · rw [h2, h3]; exact hb0.fit
      · rw [h2]; exact hb0.pos
      · obtain ⟨c, e, lo, hi, m1, m2, m3, xs, m4, m5⟩ := hb0.mem hs
        refine ⟨c, e, lo, hi, m1, m2, m3, xs, ?_, ?_⟩
        · rw [h3]; exact RelL.mono hren m4
        · rw [h2]; exact m5
    · obtain ⟨b0, h1, _, _, h4⟩ := hget' j b' hb'
      obtain ⟨c0, h1', _, _, h4'⟩ := hget' j' c' hc'
      rcases h4 with ⟨_, h4⟩ | ⟨hj, rfl⟩
      · rw [h4] at hob; cases hob
      · rcases h4' with ⟨_, h4'⟩ | ⟨hj', rfl⟩
        · rw [h4'] at hoc; cases hoc
        · exact hg.inj j j' b' c' h1 h1' hob hoc hs hs' hφ
    · rcases hx with hx | ⟨hs, rfl⟩
      · exact hg.zlt x hx
      · obtain ⟨c, e, lo, hi, m1, _⟩ := (hg.blk id b hb).mem hs
        exact (Array.getElem?_eq_some_iff.1 m1).1
  have hext : Ext g g' := by
    refine ⟨.refl _, Nat.le_refl _, fun _ _ _ => rfl, fun _ h => .inl h, fun x hx => ?_, fun x hx => ?_⟩
    · rcases hx with hx | ⟨hs, rfl⟩
      · exact .inl hx
      · exact .inr (.inr (hOwn hs))
    · obtain ⟨j, b', h1, h2, h3, h4⟩ := hx
      obtain ⟨b0, e1, _, _, e4⟩ := hget' j b' h1
      rcases e4 with ⟨_, e4⟩ | ⟨hj, rfl⟩
      · rw [e4] at h2; cases h2
      · exact .inl ⟨j, b', e1, h2, h3, h4⟩
  exact ⟨g', rfl, rfl, hgo, fun t => Rel.mono hren (ht t), hext, Sub.pin ⟨hren, hext⟩ hk⟩
end Go.AM
namespace Go.AM
variable {P : Program} {tm : TM} {H : Heap}

structure TI where
  desc : TypeDesc
  size : Nat
  bytes : Nat
  zero : Value
def tyI (P : Program) (t : TypeId) : Option TI := (P.info? t).bind fun i => (P.underlying t).bind fun d => i.zero.map fun z => ⟨d, i.size, i.bytes, z⟩
def isAggD : TypeDesc → Bool
  | .struct _ => true
  | .array _ _ => true
  | _ => false
theorem tyI_run {t : TypeId} {i : TI} (h : tyI P t = some i) (w : World) :
    (underlying t).run P w = .ok i.desc w ∧ (sizeOf t).run P w = .ok i.size w ∧ (zeroValue t).run P w = .ok i.zero w ∧ (isAgg t).run P w = .ok (isAggD i.desc) w ∧ (∃ ti, (typeInfo t).run P w = .ok ti w ∧ ti.bytes = i.bytes) := by
  unfold tyI at h
  obtain ⟨ti, h1, h⟩ := Option.bind_eq_some_iff.1 h
  obtain ⟨d, h2, h⟩ := Option.bind_eq_some_iff.1 h
  obtain ⟨z, h3, h⟩ := Option.map_eq_some_iff.1 h
  subst h
  have e1 : (underlying t).run P w = .ok d w := by simp [underlying, h2]
  have e2 : (typeInfo t).run P w = .ok ti w := by simp [typeInfo, h1]
  refine ⟨e1, by simp [sizeOf, e2], by simp [zeroValue, e2, h3], ?_, ti, e2, rfl⟩
  simp only [isAgg, Sem.run_bind, e1, Result.andThen_ok]
  cases d <;> rfl

def AV.cells : AV → List AV
  | .agg l => l
  | .v (.agg cs) => cs.toList.map .v
  | .any => []
  | x => [x]
/-- One cell that can be laid. -/
def AV.leaf : AV → Bool
  | .v x => x.oneCell'
  | .z0 => true
  | .fz .. => true
  | .fp .. => true
  | .sl .. => true
  | .ref .. => true
  | .fn .. => true
  | .ub => true
  | _ => false
def fits (x : AV) (n : Nat) : Bool := x.cells.length == n && x.cells.all AV.leaf
theorem cells_rel {g : G} {x : AV} {y : Value} (h : Rel g x y) (hx : x.cells ≠ []) : RelL g x.cells y.cells.toList := by
  cases x with
  | any => exact absurd rfl hx
  | agg l => simp only [Rel] at h; obtain ⟨cs, rfl, hl⟩ := h; exact hl
  | v u =>
    simp only [Rel] at h; subst h
    cases y <;> first | exact RelL.cons (by simp [Rel]) .nil | exact RelL.vs g _
  | ub => have h' := h; simp only [Rel] at h; obtain ⟨b, rfl⟩ := h; exact RelL.cons h' .nil
  | z0 => have h' := h; simp only [Rel] at h; obtain ⟨A, rfl⟩ := h; exact RelL.cons h' .nil
  | fz es l => have h' := h; simp only [Rel] at h; obtain ⟨A, c, xs, rfl, _⟩ := h; exact RelL.cons h' .nil
  | fp l f => have h' := h; simp only [Rel] at h; obtain ⟨A, c, xs, rfl, _⟩ := h; exact RelL.cons h' .nil
  | tup l => have h' := h; simp only [Rel] at h; obtain ⟨A, rfl, _⟩ := h; exact RelL.cons h' .nil
  | fn f a b => have h' := h; simp only [Rel] at h; obtain ⟨A, c, rfl, _⟩ := h; exact RelL.cons h' .nil
  | sl id off len => have h' := h; simp only [Rel] at h; obtain ⟨_, a, c, rfl, _⟩ := h; exact RelL.cons h' .nil
  | ref id i f => have h' := h; simp only [Rel] at h; obtain ⟨_, a, rfl, _⟩ := h; exact RelL.cons h' .nil
theorem leaf_rel {g : G} {x : AV} {y : Value} (h : Rel g x y) (hx : x.leaf = true) : y.oneCell' = true := by
  cases x with
  | any => cases hx
  | agg l => cases hx
  | tup l => cases hx
  | v u => simp only [Rel] at h; subst h; exact hx
  | ub => simp only [Rel] at h; obtain ⟨b, rfl⟩ := h; rfl
  | z0 => simp only [Rel] at h; obtain ⟨A, rfl⟩ := h; rfl
  | fz es l => simp only [Rel] at h; obtain ⟨A, c, xs, rfl, _⟩ := h; rfl
  | fp l f => simp only [Rel] at h; obtain ⟨A, c, xs, rfl, _⟩ := h; rfl
  | fn f a b => simp only [Rel] at h; obtain ⟨A, c, rfl, _⟩ := h; rfl
  | sl id off len => simp only [Rel] at h; obtain ⟨_, a, c, rfl, _⟩ := h; rfl
  | ref id i f => simp only [Rel] at h; obtain ⟨_, a, rfl, _⟩ := h; rfl
theorem fits_flat {g : G} {x : AV} {y : Value} {n : Nat} (h : Rel g x y) (hf : fits x n = true) (hn : 0 < n) : Flat y n ∧ RelL g x.cells y.cells.toList := by
  simp only [fits, Bool.and_eq_true, beq_iff_eq, List.all_eq_true] at hf
  obtain ⟨h1, h2⟩ := hf
  have hne : x.cells ≠ [] := fun e => by rw [e] at h1; simp at h1; omega
  have hc := cells_rel h hne
  refine ⟨⟨by rw [← h1, ← hc.length]; simp, fun j v hv => ?_⟩, hc⟩
  have hj : j < x.cells.length := by
    rw [← hc.length]
    have := (Array.getElem?_eq_some_iff.1 hv).1
    simpa using this
  exact leaf_rel (hc.rel (List.getElem?_eq_getElem hj) (by simpa using hv)) (h2 _ (List.getElem_mem hj))

/-- The operands hold what the state says. -/
def OpRel (g : G) (tm : TM) (a : Act) (o : Oper) : Prop := ∀ y, y ∈ o.op.operands → Rel g (ev tm y) (a.eval y)
theorem TmRel.op {g : G} {a : Act} {o : Oper} (h : TmRel g tm (tmpsOf a)) : OpRel g tm a o := fun y _ => ev_rel h y
/-- What an operation does. -/
def OpOk (P : Program) (tm : TM) (H : Heap) (o : Oper) (x : AV) (H' : Heap) : Prop :=
  ∀ g a, g.H = H → GOk g → OpRel g tm a o → ∃ v g', ((execOp a.eval o).run P g.w = .ok (.value v) g'.w ∨ ((execOp a.eval o).run P g.w = .ok .skip g'.w ∧ v = undef)) ∧ g'.H = H' ∧ GOk g' ∧ Rel g' x v ∧ Sub g g'
theorem OpOk.val {o : Oper} {x : AV} (h : ∀ g a, g.H = H → GOk g → OpRel g tm a o → ∃ v, (execOp a.eval o).run P g.w = .ok (.value v) g.w ∧ Rel g x v) : OpOk P tm H o x H := by
  intro g a hH hg ht
  obtain ⟨v, h1, h2⟩ := h g a hH hg ht
  exact ⟨v, g, .inl h1, hH, hg, h2, .refl g⟩

/-- Another world over the same memory. -/
theorem reworld {g : G} {w' : World} (hw : w'.heap = g.w.heap) (hre : Rest g.w w') (hg : GOk g) : GOk { g with w := w' } ∧ Sub g { g with w := w' } := by
  have hr : Ren some g { g with w := w' } := ⟨fun _ h => h, fun b _ => by rw [hw], fun i j hi hj => by cases hj; exact ⟨hi, fun k hk => ⟨k, hk, rfl, rfl, rfl, rfl⟩⟩⟩
  refine ⟨⟨fun id k hk => ?_, hg.inj, fun b hb => by simp only [hw]; exact hg.zlt b hb⟩, hr, ⟨hre, by simp [hw], fun b _ _ => by simp [hw], fun _ h => h, fun _ h => .inl h, fun _ h => .inl h⟩⟩
  obtain ⟨h1, h2, h3, h4, h5⟩ := hg.blk id k hk
  refine ⟨h1, h2, h3, h4, fun h0 => ?_⟩
  obtain ⟨c, e, lo, hi, m1, m2, m3, xs, m4, m5⟩ := h5 h0
  exact ⟨c, e, lo, hi, by simp only [hw]; exact m1, m2, m3, xs, RelL.mono hr m4, m5⟩

/-- A block more. -/
def G.push (g : G) (c : Array Value) (e : TypeId) (fr : Nat × Nat) (b : Blk) : G where
  w := g.w.alloc (.cells c e fr)
  H := g.H ++ [some b]
  φ := fun i => if i = g.H.length then g.w.heap.size else g.φ i
  bs := fun i => if i = g.H.length then 0 else g.bs i
  sz := fun i => if i = g.H.length then c.size else g.sz i
  Z := g.Z
theorem push_ren (g : G) (c : Array Value) (e : TypeId) (fr : Nat × Nat) (b : Blk) (hg : GOk g) : Sub g (g.push c e fr b) := by
  refine ⟨⟨fun _ h => h, fun x hx => ?_, fun i j hi hj => ?_⟩, ⟨⟨rfl, rfl, rfl⟩, by simp [G.push], fun x hx _ => ?_, fun _ h => h, fun _ h => .inl h, fun x hx => ?_⟩⟩
  · have := hg.zlt x hx
    simp only [G.push, World.alloc]
    rw [Array.getElem?_push_lt this, Array.getElem?_eq_getElem this]
  · cases hj
    refine ⟨by simp [G.push]; omega, fun k hk => ⟨k, ?_, rfl, ?_, ?_, ?_⟩⟩
    · simp only [G.push, hget_append, hi, if_true] at hk; exact hk
    · simp only [G.push]; rw [if_neg (by omega)]
    · simp only [G.push]; rw [if_neg (by omega)]
    · simp only [G.push]; rw [if_neg (by omega)]
  · simp only [G.push, World.alloc]
    rw [Array.getElem?_push_lt hx, Array.getElem?_eq_getElem hx]
  · obtain ⟨id, k, h1, h2, h3, h4⟩ := hx
    simp only [G.push] at h1 h3 h4
    by_cases hi : id < g.H.length
    · rw [hget_append, if_pos hi] at h1
      rw [if_neg (by omega)] at h3 h4
      exact .inl ⟨id, k, h1, h2, h3, h4⟩
    · have := hget_lt h1
      simp at this
      rw [if_pos (by omega)] at h4
      right; omega
theorem push_ok {g : G} {c : Array Value} {e : TypeId} {fr : Nat × Nat} {b : Blk} (hg : GOk g) (hb : b.own = true) (hp : 0 < b.es) (hf : b.els.length * b.es ≤ c.size) (hfr : fr.1 = fr.2 ∨ c.size ≤ fr.1) (hl : c.size ≠ 0 → Lies g 0 b c) : GOk (g.push c e fr b) := by
  have hs := push_ren g c e fr b hg
  have hget' : ∀ j k, hget (g.push c e fr b).H j = some k → (j < g.H.length ∧ hget g.H j = some k) ∨ (j = g.H.length ∧ k = b) := by
    intro j k h
    simp only [G.push, hget_append] at h
    by_cases hj : j < g.H.length
    · rw [if_pos hj] at h; exact .inl ⟨hj, h⟩
    · rw [if_neg hj] at h
      have := hget_lt h
      simp at this
      have e : j - g.H.length = 0 := by omega
      rw [e] at h
      simp [hget] at h
      exact .inr ⟨by omega, h.symm⟩
  have hlt : ∀ j k, hget g.H j = some k → g.sz j ≠ 0 → g.φ j < g.w.heap.size := fun j k hk h0 => by
    obtain ⟨c, e, lo, hi, m1, _⟩ := (hg.blk j k hk).mem h0
    exact (Array.getElem?_eq_some_iff.1 m1).1
  refine ⟨fun j k hk => ?_, fun i j k k' hi hj ho ho' hs1 hs2 hφ => ?_, fun x hx => ?_⟩
  · rcases hget' j k hk with ⟨hj, h1⟩ | ⟨rfl, rfl⟩
    · obtain ⟨h2, h3, h4, h5, h6⟩ := hg.blk j k h1
      have e1 : (g.push c e fr b).φ j = g.φ j := by simp only [G.push]; rw [if_neg (by omega)]
      have e2 : (g.push c e fr b).sz j = g.sz j := by simp only [G.push]; rw [if_neg (by omega)]
      have e3 : (g.push c e fr b).bs j = g.bs j := by simp only [G.push]; rw [if_neg (by omega)]
      refine ⟨by rw [e1, e2]; exact h2, by rw [e1, e2]; exact h3, by rw [e2, e3]; exact h4, h5, ?_⟩
      rw [e1, e2, e3]
      intro h0
      obtain ⟨c', e', lo, hi, m1, m2, m3, xs, m4, m5⟩ := h6 h0
      refine ⟨c', e', lo, hi, ?_, m2, m3, xs, RelL.mono hs.ren m4, m5⟩
      have hx := hlt j k h1 h0
      simp only [G.push, World.alloc]
      rw [Array.getElem?_push_lt hx, ← Array.getElem?_eq_getElem hx]
      exact m1
    · have e1 : (g.push c e fr k).φ g.H.length = g.w.heap.size := by simp [G.push]
      have e2 : (g.push c e fr k).sz g.H.length = c.size := by simp [G.push]
      have e3 : (g.push c e fr k).bs g.H.length = 0 := by simp [G.push]
      refine ⟨fun _ _ hz => ?_, (fun h => absurd (hb.symm.trans h) (by decide)), (by rw [e2, e3]; omega), hp, ?_⟩
      · rw [e1] at hz
        exact absurd (hg.zlt _ hz) (Nat.lt_irrefl _)
      · rw [e1, e2, e3]
        intro h0
        obtain ⟨xs, m4, m5⟩ := hl h0
        exact ⟨c, e, fr.1, fr.2, (by simp only [G.push, World.alloc]; rw [Array.getElem?_push_size]), rfl, hfr, xs, RelL.mono hs.ren m4, m5⟩
  · rcases hget' i k hi with ⟨hi', h1⟩ | ⟨rfl, rfl⟩
    · rcases hget' j k' hj with ⟨hj', h2⟩ | ⟨rfl, rfl⟩
      · simp only [G.push] at hs1 hs2 hφ
        rw [if_neg (by omega)] at hs1 hs2
        rw [if_neg (show ¬ i = g.H.length by omega), if_neg (show ¬ j = g.H.length by omega)] at hφ
        exact hg.inj i j k k' h1 h2 ho ho' hs1 hs2 hφ
      · simp only [G.push] at hs1 hφ
        rw [if_neg (by omega)] at hs1
        rw [if_neg (by omega)] at hφ
        simp only [if_true] at hφ
        have := hlt i k h1 hs1
        omega
    · rcases hget' j k' hj with ⟨hj', h2⟩ | ⟨rfl, rfl⟩
      · simp only [G.push] at hs2 hφ
        rw [if_neg (by omega)] at hs2
        simp only [if_true] at hφ
        rw [if_neg (by omega)] at hφ
        have := hlt j k' h2 hs2
        omega
      · rfl
  · have := hg.zlt x hx
    simp [G.push]; omega
theorem push_get (g : G) (c : Array Value) (e : TypeId) (fr : Nat × Nat) (b : Blk) : hget (g.push c e fr b).H g.H.length = some b := by
  simp [G.push, hget]
end Go.AM
namespace Go.AM
variable {P : Program} {tm : TM} {H : Heap}

theorem add_off (b o j : Nat) : (⟨b, o, none⟩ : Addr).add j = ⟨b, o + j, none⟩ := by
  unfold Addr.add
  split
  · rename_i h; subst h; rfl
  · rfl
theorem add_spot {a : Addr} (h : a.spot = none) (j : Nat) : a.add j = ⟨a.block, a.off + j, none⟩ := by
  obtain ⟨b, o, s⟩ := a
  simp at h; subst h
  exact add_off b o j

/-- The cells among which an address lies. -/
def locA (H : Heap) : AV → Option (List AV × Nat)
  | .ref id i f => (hget H id).bind fun k => (k.els[i]?).bind fun x => if x.cells = [] then none else some (x.cells, f)
  | .fp l f => some (l, f)
  | _ => none
theorem lies_at {g : G} {id : Nat} {k : Blk} (hg : GOk g) (hk : hget g.H id = some k) {i : Nat} {x : AV} (hx : k.els[i]? = some x) :
    g.sz id ≠ 0 ∧ ∃ c e lo hi y, g.w.heap[g.φ id]? = some (.cells c e (lo, hi)) ∧ c.size = g.sz id ∧ (lo = hi ∨ c.size ≤ lo) ∧ Rel g x y ∧ Flat y k.es ∧ (∀ j, j < k.es → c[g.bs id + (i * k.es + j)]? = y.cells[j]?) ∧ ∃ xs, RelL g k.els xs ∧ xs[i]? = some y ∧ ∀ (i : Nat) x, xs[i]? = some x → Flat x k.es ∧ ∀ j, j < k.es → c[g.bs id + (i * k.es + j)]? = x.cells[j]? := by
  have hb := hg.blk id k hk
  have hi : i < k.els.length := (List.getElem?_eq_some_iff.1 hx).1
  have h0 : g.sz id ≠ 0 := by
    have h1 := hb.fit
    have h2 := hb.pos
    have : 1 * 1 ≤ k.els.length * k.es := Nat.mul_le_mul (by omega) h2
    omega
  refine ⟨h0, ?_⟩
  obtain ⟨c, e, lo, hi, m1, m2, m3, xs, m4, m5⟩ := hb.mem h0
  obtain ⟨y, hy, hr⟩ := m4.get hx
  obtain ⟨f1, f2⟩ := m5 i y hy
  exact ⟨c, e, lo, hi, y, m1, m2, m3, hr, f1, f2, xs, m4, hy, m5⟩
theorem cellAt_row {w : World} {b : Nat} {c : Array Value} {e : TypeId} {fr : Nat × Nat} (h : w.heap[b]? = some (.cells c e fr)) (o : Nat) : cellAt w b o = c[o]? := by
  simp [cellAt, World.cell?, h]
theorem locA_sound {g : G} {x : AV} {y : Value} {cl : List AV} {f : Nat} (hg : GOk g) (h : locA g.H x = some (cl, f)) (hx : Rel g x y) :
    ∃ b o ys, y = .pointer (some ⟨b, o + f, none⟩) ∧ RelL g cl ys ∧ ∀ (j : Nat) v, ys[j]? = some v → v.oneCell' = true ∧ cellAt g.w b (o + j) = some v := by
  cases x <;> simp only [locA, reduceCtorEq] at h
  case fp l f' =>
    simp at h
    obtain ⟨rfl, rfl⟩ := h
    simp only [Rel] at hx
    obtain ⟨b, o, xs, rfl, h1, h2, h3⟩ := hx
    exact ⟨b, o, xs, rfl, h1, h3⟩
  case ref id i f' =>
    obtain ⟨k, hk, h⟩ := Option.bind_eq_some_iff.1 h
    obtain ⟨x, hxx, h⟩ := Option.bind_eq_some_iff.1 h
    split at h
    · cases h
    · rename_i hne
      simp at h
      obtain ⟨rfl, rfl⟩ := h
      simp only [Rel] at hx
      obtain ⟨_, a, rfl, h1⟩ := hx
      have e := h1 k hk
      subst e
      obtain ⟨h0, c, e, lo, hi, y, m1, m2, m3, m4, m5, m6, _⟩ := lies_at hg hk hxx
      refine ⟨g.φ id, g.bs id + i * k.es, y.cells.toList, by rw [Nat.add_assoc], cells_rel m4 hne, fun j v hv => ?_⟩
      have hv' : y.cells[j]? = some v := by simpa using hv
      refine ⟨m5.2 j v hv', ?_⟩
      have hj : j < k.es := by
        rw [← m5.1]; exact (Array.getElem?_eq_some_iff.1 hv').1
      rw [cellAt_row m1, Nat.add_assoc, m6 j hj]
      exact hv'

def loadA (i : TI) (cl : List AV) (f : Nat) : Option AV :=
  if isAggD i.desc then if f + i.size ≤ cl.length then some (.agg ((cl.drop f).take i.size)) else none
  else cl[f]?
theorem loadVar_sound {g : G} {t : TypeId} {i : TI} (ht : tyI P t = some i) {cl : List AV} {f : Nat} {r : AV} {b o : Nat} {ys : List Value} (hl : RelL g cl ys)
    (hc : ∀ (j : Nat) v, ys[j]? = some v → v.oneCell' = true ∧ cellAt g.w b (o + j) = some v) (h : loadA i cl f = some r) :
    ∃ v, (loadVar t ⟨b, o + f, none⟩).run P g.w = .ok v g.w ∧ Rel g r v := by
  obtain ⟨_, e2, _, e4, _⟩ := tyI_run ht g.w
  unfold loadA at h
  unfold loadVar
  simp only [Sem.run_bind, e4, Result.andThen_ok]
  by_cases ha : isAggD i.desc = true
  · simp only [ha, if_true] at h ⊢
    split at h
    case isFalse => cases h
    rename_i hlen
    cases h
    have hlen' : ((ys.drop f).take i.size).length = i.size := by simp [hl.length]; omega
    have hrun := run_loadCells_list (P := P) (w := g.w) ⟨b, o + f, none⟩ ((ys.drop f).take i.size) (fun j v hv => by
      rw [add_off]
      rw [List.getElem?_take] at hv
      split at hv
      · rw [List.getElem?_drop] at hv
        have := (hc (f + j) v hv).2
        rw [show o + f + j = o + (f + j) by omega]
        exact this
      · cases hv)
    rw [hlen'] at hrun
    simp only [Sem.run_bind, e2, Result.andThen_ok, hrun, Sem.run_pure]
    refine ⟨_, rfl, ?_⟩
    simp only [Rel]
    exact ⟨_, rfl, by simpa using RelL.take i.size (RelL.drop f hl)⟩
  · simp only [ha, if_false, Bool.false_eq_true] at h ⊢
    obtain ⟨v, hv, hr⟩ := hl.get h
    have := (hc f v hv).2
    refine ⟨v, ?_, hr⟩
    rw [run_load]
    simp only [cellAt] at this
    simp [this]
theorem ok_load {o : Oper} {t : TypeId} {x : Operand} (ho : o.op = .load t x) {i : TI} (hi : tyI P t = some i) {cl : List AV} {f : Nat} (hl : locA H (ev tm x) = some (cl, f)) {r : AV} (hr : loadA i cl f = some r) : OpOk P tm H o r H := by
  refine OpOk.val fun g a hH hg ht => ?_
  subst hH
  obtain ⟨b, o', ys, e1, e2, e3⟩ := locA_sound hg hl (ht x (by simp [ho, Op.operands, Call.operands]))
  obtain ⟨v, h1, h2⟩ := loadVar_sound (P := P) hi e2 e3 hr
  refine ⟨v, ?_, h2⟩
  simp only [execOp, ho, e1, Instr.loadAt, Instr.sureAddr]
  simp [h1]

theorem ok_move {o : Oper} {x : Operand} (ho : o.op = .move x ∨ o.op = .assign x) : OpOk P tm H o (ev tm x) H := by
  refine OpOk.val fun g a hH hg ht => ⟨a.eval x, ?_, ht x (by rcases ho with ho | ho <;> simp [ho, Op.operands])⟩
  rcases ho with ho | ho <;> simp [execOp, ho]
def pickA : Bool → AV → AV → AV
  | true, x, _ => x
  | false, _, y => y
theorem ok_pick {o : Oper} {c x y : Operand} {t : Bool} (ho : o.op = .pick c x y) (hc : ev tm c = .v (.bool t)) : OpOk P tm H o (pickA t (ev tm x) (ev tm y)) H := by
  refine OpOk.val fun g a hH hg ht => ?_
  have h := ht c (by simp [ho, Op.operands, Call.operands])
  rw [hc] at h
  simp only [Rel] at h
  refine ⟨if t then a.eval x else a.eval y, by simp [execOp, ho, h, asBool], ?_⟩
  cases t
  · exact ht y (by simp [ho, Op.operands, Call.operands])
  · exact ht x (by simp [ho, Op.operands, Call.operands])

def isPlace : AV → Bool
  | .ref .. => true
  | .fp .. => true
  | _ => false
theorem place_rel {g : G} {x : AV} {y : Value} (h : Rel g x y) (hx : isPlace x = true) : ∃ a, y = .pointer (some a) := by
  cases x <;> simp only [isPlace, Bool.false_eq_true, reduceCtorEq] at hx
  case fp l f => simp only [Rel] at h; obtain ⟨b, o, xs, rfl, _⟩ := h; exact ⟨_, rfl⟩
  case ref id i f => simp only [Rel] at h; obtain ⟨_, a, rfl, _⟩ := h; exact ⟨_, rfl⟩
theorem ok_nilCheck {o : Oper} {x : Operand} (ho : o.op = .nilCheck x) (hx : isPlace (ev tm x) = true) : OpOk P tm H o (ev tm x) H := by
  refine OpOk.val fun g a hH hg ht => ?_
  have h := ht x (by simp [ho, Op.operands, Call.operands])
  obtain ⟨p, hp⟩ := place_rel h hx
  exact ⟨a.eval x, by simp [execOp, ho, hp], h⟩
/-- A place a little farther on. -/
def shiftA (x : AV) (n : Nat) : Option AV :=
  match x with
  | .ref id i f => some (.ref id i (f + n))
  | .fp l f => some (.fp l (f + n))
  | _ => none
theorem shift_sound {g : G} {x r : AV} {y : Value} {n : Nat} (h : Rel g x y) (hx : shiftA x n = some r) : ∃ a, y = .pointer (some a) ∧ Rel g r (.pointer (some (a.add n))) := by
  cases x <;> simp only [shiftA, reduceCtorEq, Option.some.injEq] at hx
  case fp l f =>
    subst hx
    simp only [Rel] at h
    obtain ⟨b, o, xs, rfl, h1, h2, h3⟩ := h
    refine ⟨_, rfl, ?_⟩
    simp only [Rel, add_off]
    exact ⟨b, o, xs, by rw [Nat.add_assoc], h1, h2, h3⟩
  case ref id i f =>
    subst hx
    simp only [Rel] at h
    obtain ⟨h0, a, rfl, h1⟩ := h
    refine ⟨a, rfl, ?_⟩
    simp only [Rel]
    refine ⟨h0, _, rfl, fun k hk => ?_⟩
    rw [h1 k hk, add_off]
    congr 1
    omega
theorem ok_fieldAddr {o : Oper} {t : TypeId} {x : Operand} {n : Nat} (ho : o.op = .fieldAddr t x n) {i : TI} (hi : tyI P t = some i) {fs : Array Field} (hd : i.desc = .struct fs) {f : Field} (hf : fs[n]? = some f)
    {j : TI} (hj : tyI P f.type = some j) (hj0 : j.size ≠ 0) {r : AV} (hr : shiftA (ev tm x) f.offset = some r) : OpOk P tm H o r H := by
  refine OpOk.val fun g a hH hg ht => ?_
  obtain ⟨p, hp, hrel⟩ := shift_sound (ht x (by simp [ho, Op.operands, Call.operands])) hr
  obtain ⟨e1, _⟩ := tyI_run hi g.w
  obtain ⟨_, e2, _⟩ := tyI_run hj g.w
  refine ⟨_, ?_, hrel⟩
  simp [execOp, ho, Instr.fieldAt, e1, hd, hf, hp, Instr.sureAddr, fieldPlace, e2, hj0]

/-- A part of an aggregate. -/
theorem part_sound {g : G} {t : TypeId} {i : TI} (ht : tyI P t = some i) {cl : List AV} {f : Nat} {r : AV} {cs : Array Value} (hl : RelL g cl cs.toList) (h : loadA i cl f = some r) :
    ∃ v, (part t cs f).run P g.w = .ok v g.w ∧ Rel g r v := by
  obtain ⟨_, e2, _, e4, _⟩ := tyI_run ht g.w
  unfold loadA at h
  unfold part
  simp only [Sem.run_bind, e4, Result.andThen_ok]
  by_cases ha : isAggD i.desc = true
  · simp only [ha, if_true] at h ⊢
    split at h
    case isFalse => cases h
    rename_i hlen
    cases h
    simp only [Sem.run_bind, e2, Result.andThen_ok, Sem.run_pure]
    refine ⟨_, rfl, ?_⟩
    simp only [Rel]
    refine ⟨_, rfl, ?_⟩
    have := RelL.take i.size (RelL.drop f hl)
    have e : (cs.extract f (f + i.size)).toList = List.take i.size (List.drop f cs.toList) := by
      simp
    rw [e]; exact this
  · simp only [ha, if_false, Bool.false_eq_true] at h ⊢
    obtain ⟨v, hv, hr⟩ := hl.get h
    have hv' : cs[f]? = some v := by simpa using hv
    exact ⟨v, by simp [hv'], hr⟩
def aggCells : AV → Option (List AV)
  | .agg l => some l
  | .v (.agg cs) => some (cs.toList.map .v)
  | _ => none
theorem agg_rel {g : G} {x : AV} {y : Value} {l : List AV} (h : Rel g x y) (hx : aggCells x = some l) : ∃ cs, y = .agg cs ∧ RelL g l cs.toList := by
  cases x <;> simp only [aggCells, reduceCtorEq] at hx
  case agg m => simp at hx; subst hx; simpa only [Rel] using h
  case v u =>
    simp only [Rel] at h
    subst h
    cases y <;> simp only [aggCells, reduceCtorEq, Option.some.injEq] at hx
    subst hx
    exact ⟨_, rfl, RelL.vs g _⟩
theorem ok_extract {o : Oper} {x : Operand} {n : Nat} (ho : o.op = .extract x n) {l : List AV} (hx : ev tm x = .tup l) {r : AV} (hr : l[n]? = some r) : OpOk P tm H o r H := by
  refine OpOk.val fun g a hH hg ht => ?_
  have h := ht x (by simp [ho, Op.operands, Call.operands])
  rw [hx] at h
  simp only [Rel] at h
  obtain ⟨cs, hcs, hl⟩ := h
  obtain ⟨v, hv, hrel⟩ := hl.get hr
  have hv' : cs[n]? = some v := by simpa using hv
  exact ⟨v, by simp [execOp, ho, hcs, Instr.extract, hv'], hrel⟩
theorem eval_list {g : G} {a : Act} : ∀ l : List Operand, (∀ y ∈ l, Rel g (ev tm y) (a.eval y)) → RelL g (l.map (ev tm)) (l.map a.eval)
  | [], _ => .nil
  | x :: l, h => .cons (h x (by simp)) (eval_list l (fun y hy => h y (by simp [hy])))
theorem ok_makeFunc {o : Oper} {fn : Fn} {l m : Array Operand} (ho : o.op = .makeFunc fn l m) : OpOk P tm H o (.fn fn (l.toList.map (ev tm)) (m.toList.map (ev tm))) H := by
  refine OpOk.val fun g a hH hg ht => ⟨.func fn (l.map a.eval) (m.map a.eval), by simp [execOp, ho, Instr.makeFunc], ?_⟩
  simp only [Rel]
  exact ⟨_, _, rfl, by simpa using eval_list (g := g) (a := a) (tm := tm) l.toList (fun y hy => ht y (by simp [ho, Op.operands]; exact .inl (by simpa using hy))), by simpa using eval_list (g := g) (a := a) (tm := tm) m.toList (fun y hy => ht y (by simp [ho, Op.operands]; exact .inr (by simpa using hy)))⟩

-- arithmetic
def binI (op : BinOp) (k : IntKind) (a b : Int) : Option Value :=
  match op with
  | .add => some (.int k (k.wrap (a + b)))
  | .sub => some (.int k (k.wrap (a - b)))
  | .mul => some (.int k (k.wrap (a * b)))
  | .quo => if b = 0 then none else some (.int k (k.wrap (a.tdiv b)))
  | .rem => if b = 0 then none else some (.int k (a.tmod b))
  | .and => some (.int k (k.wrap (BitVec.ofInt k.bits a &&& BitVec.ofInt k.bits b).toNat))
  | .or => some (.int k (k.wrap (BitVec.ofInt k.bits a ||| BitVec.ofInt k.bits b).toNat))
  | .xor => some (.int k (k.wrap (BitVec.ofInt k.bits a ^^^ BitVec.ofInt k.bits b).toNat))
  | .andNot => some (.int k (k.wrap (BitVec.ofInt k.bits a &&& ~~~ BitVec.ofInt k.bits b).toNat))
  | .eql => some (.bool (a == b))
  | .neq => some (.bool (a != b))
  | .lss => some (.bool (decide (a < b)))
  | .leq => some (.bool (decide (a ≤ b)))
  | .gtr => some (.bool (decide (a > b)))
  | .geq => some (.bool (decide (a ≥ b)))
  | .shl => none
  | .shr => none
def binV (op : BinOp) (d : TypeDesc) (x y : Value) : Option Value :=
  match x, y with
  | .int k a, .int k' b =>
    match op with
    | .shl => if b < 0 then none else some (.int k (k.wrap (a * 2 ^ (min b.toNat k.bits))))
    | .shr => if b < 0 then none else some (.int k (a.fdiv (2 ^ (min b.toNat k.bits))))
    | op => if k = k' then binI op k a b else none
  | .string a, .string b =>
    match op with
    | .eql => some (.bool (a.toList == b.toList))
    | .neq => some (.bool (!(a.toList == b.toList)))
    | .add => if ((a.size + b.size : Nat) : Int) > IntKind.i64.max then none else some (.string (a ++ b))
    | _ => none
  | .bool a, .bool b =>
    match op, d with
    | .eql, .bool => some (.bool (a == b))
    | .neq, .bool => some (.bool (!(a == b)))
    | _, _ => none
  | .pointer none, .pointer none =>
    match op, d with
    | .eql, .pointer _ => some (.bool true)
    | .neq, .pointer _ => some (.bool false)
    | _, _ => none
  | .slice none _ _, .slice none _ _ =>
    match op, d with
    | .eql, .slice _ => some (.bool true)
    | .neq, .slice _ => some (.bool false)
    | _, _ => none
  | _, _ => none
/-- Against nil. -/
def notNil (d : TypeDesc) (x : AV) : Bool :=
  match d, x with
  | .pointer _, .ref .. => true
  | .pointer _, .fp .. => true
  | .func .., .fn .. => true
  | .slice _, .fz _ l => !l.isEmpty
  | _, _ => false
def isNil (d : TypeDesc) (x : AV) : Bool :=
  match d, x with
  | .pointer _, .v (.pointer none) => true
  | .slice _, .v (.slice none _ _) => true
  | .func .., .v .nilFunc => true
  | _, _ => false
def nilEq (op : BinOp) (b : Bool) : Option Value :=
  match op with
  | .eql => some (.bool b)
  | .neq => some (.bool (!b))
  | _ => none
def binA (op : BinOp) (d : TypeDesc) (x y : AV) : Option AV :=
  match x, y with
  | .v a, .v b => (binV op d a b).map .v
  | x, y => if (notNil d x && isNil d y) || (isNil d x && notNil d y) then (nilEq op false).map .v else none
theorem binI_run {op : BinOp} {k : IntKind} {a b : Int} {v : Value} (t : TypeId) (h : binI op k a b = some v) (w : World) : (binOp op t (.int k a) (.int k b)).run P w = .ok v w := by
  cases op <;> simp only [binI, Option.some.injEq, reduceCtorEq] at h
  case quo =>
    split at h
    · cases h
    · rename_i hb
      simp at h
      subst h
      simp [binOp, Op.intDiv, hb]
  case rem =>
    split at h
    · cases h
    · rename_i hb
      simp at h
      subst h
      simp [binOp, Op.intDiv, hb]
  all_goals (subst h; simp [binOp, Op.intArith, Op.intBits, Op.intCmp])
theorem equal_run {t : TypeId} {d : TypeDesc} (hd : P.underlying t = some d) (w : World) (x y : Value) (b : Bool) (h : ∀ n, (Op.equalIn (n + 1) t x y).run P w = .ok b w) : (Op.equal t x y).run P w = .ok b w := by
  unfold Op.equal
  have : Op.maxDepth = 9999 + 1 := rfl
  rw [this]
  exact h 9999
theorem binV_run {op : BinOp} {t : TypeId} {d : TypeDesc} (hd : P.underlying t = some d) {x y v : Value} (h : binV op d x y = some v) (w : World) (p q : Operand) :
    ((do eqGuard op t p q x y; binOp op t x y) : Sem Value).run P w = .ok v w := by
  have hu : ∀ w, (underlying t).run P w = .ok d w := fun w => by simp [underlying, hd]
  have hg : (eqGuard op t p q x y).run P w = .ok () w := by
    cases x <;> cases y <;> simp only [binV, reduceCtorEq] at h <;> unfold eqGuard <;> cases op <;> simp
  simp only [Sem.run_bind, hg, Result.andThen_ok]
  cases x <;> cases y <;> try (simp only [binV, reduceCtorEq] at h)
  case int.int k a k' b =>
    cases op
    case shl =>
      simp only at h
      split at h
      · cases h
      · rename_i hb; simp at h; subst h; simp [binOp, Op.shift, hb]
    case shr =>
      simp only at h
      split at h
      · cases h
      · rename_i hb; simp at h; subst h; simp [binOp, Op.shift, hb]
    all_goals
      simp only at h
      split at h
      · rename_i hk; subst hk; exact binI_run t h w
      · cases h
  case string.string a b =>
    cases op <;> simp only [Option.some.injEq, reduceCtorEq] at h
    case add =>
      split at h
      · cases h
      · rename_i hb
        simp at h
        subst h
        simp only [binOp, Op.stringOp]
        rw [if_neg hb]
        rfl
    case eql => subst h; simp [binOp, Op.stringOp]
    case neq => subst h; simp [binOp, Op.stringOp]
  case bool.bool a b =>
    cases op <;> cases d <;> simp only [Option.some.injEq, reduceCtorEq] at h <;> subst h
    · simp only [binOp, Sem.run_bind, equal_run hd w (.bool a) (.bool b) (a == b) (fun n => by simp [Op.equalIn, hu])]; rfl
    · simp only [binOp, Sem.run_bind, equal_run hd w (.bool a) (.bool b) (a == b) (fun n => by simp [Op.equalIn, hu])]; rfl
  case pointer.pointer a b =>
    cases a <;> cases b <;> simp only [reduceCtorEq] at h
    cases op <;> cases d <;> simp only [Option.some.injEq, reduceCtorEq] at h <;> subst h
    · simp only [binOp, Sem.run_bind, equal_run hd w (.pointer none) (.pointer none) true (fun n => by simp [Op.equalIn, hu])]; rfl
    · simp only [binOp, Sem.run_bind, equal_run hd w (.pointer none) (.pointer none) true (fun n => by simp [Op.equalIn, hu])]; rfl
  case slice.slice a n c b m c' =>
    cases a <;> cases b <;> simp only [reduceCtorEq] at h
    cases op <;> cases d <;> simp only [Option.some.injEq, reduceCtorEq] at h <;> subst h
    · simp only [binOp, Sem.run_bind, equal_run hd w (.slice none n c) (.slice none m c') true (fun _ => by simp [Op.equalIn, hu])]; rfl
    · simp only [binOp, Sem.run_bind, equal_run hd w (.slice none n c) (.slice none m c') true (fun _ => by simp [Op.equalIn, hu])]; rfl
theorem notNil_rel {g : G} {d : TypeDesc} {x : AV} {y : Value} (h : Rel g x y) (hx : notNil d x = true) :
    (∃ a e, y = .pointer (some a) ∧ d = .pointer e) ∨ (∃ a n c e, y = .slice (some a) n c ∧ d = .slice e) ∨ (∃ f xs ys ps rs v, y = .func f xs ys ∧ d = .func ps rs v) := by
  cases d <;> cases x <;> simp only [notNil, Bool.false_eq_true, reduceCtorEq] at hx
  case pointer.ref e id i f => simp only [Rel] at h; obtain ⟨_, a, rfl, _⟩ := h; exact .inl ⟨_, _, rfl, rfl⟩
  case pointer.fp e l f => simp only [Rel] at h; obtain ⟨b, o, xs, rfl, _⟩ := h; exact .inl ⟨_, _, rfl, rfl⟩
  case func.fn ps rs v f a b => simp only [Rel] at h; obtain ⟨xs, ys, rfl, _⟩ := h; exact .inr (.inr ⟨_, _, _, _, _, _, rfl, rfl⟩)
  case slice.fz e es l =>
    simp only [Rel] at h
    obtain ⟨A, c, xs, rfl, hc, hl, hf, _⟩ := h
    cases xs with
    | nil => have := hl.length; simp at hx this; exact absurd this.symm (by simpa using hx)
    | cons z zs =>
      obtain ⟨_, a, rfl, _⟩ := hf 0 z rfl
      exact .inr (.inl ⟨_, _, _, _, rfl, rfl⟩)
theorem isNil_rel {g : G} {d : TypeDesc} {x : AV} {y : Value} (h : Rel g x y) (hx : isNil d x = true) :
    (∃ e, y = .pointer none ∧ d = .pointer e) ∨ (∃ n c e, y = .slice none n c ∧ d = .slice e) ∨ (∃ ps rs v, y = .nilFunc ∧ d = .func ps rs v) := by
  unfold isNil at hx
  split at hx
  · simp only [Rel] at h; exact .inl ⟨_, h, rfl⟩
  · simp only [Rel] at h; exact .inr (.inl ⟨_, _, _, h, rfl⟩)
  · simp only [Rel] at h; exact .inr (.inr ⟨_, _, _, h, rfl⟩)
  · cases hx
end Go.AM
namespace Go.AM
variable {P : Program} {tm : TM} {H : Heap}

theorem ok_binOp {o : Oper} {op : BinOp} {t : TypeId} {p q : Operand} {t' : TypeId} (ho : o.op = .binOp op t p q t') {i : TI} (hi : tyI P t = some i) {r : AV} (hr : binA op i.desc (ev tm p) (ev tm q) = some r) : OpOk P tm H o r H := by
  have hd : P.underlying t = some i.desc := by
    unfold tyI at hi
    obtain ⟨ti, h1, h⟩ := Option.bind_eq_some_iff.1 hi
    obtain ⟨d, h2, h⟩ := Option.bind_eq_some_iff.1 h
    obtain ⟨z, h3, h⟩ := Option.map_eq_some_iff.1 h
    subst h
    exact h2
  refine OpOk.val fun g a hH hg ht => ?_
  have hp := ht p (by simp [ho, Op.operands, Call.operands])
  have hq := ht q (by simp [ho, Op.operands, Call.operands])
  have hu : ∀ w, (underlying t).run P w = .ok i.desc w := fun w => by simp [underlying, hd]
  have key : ∃ v, ((do eqGuard op t p q (a.eval p) (a.eval q); binOp op t (a.eval p) (a.eval q)) : Sem Value).run P g.w = .ok v g.w ∧ Rel g r v := by
    generalize ev tm p = x at hp hr
    generalize ev tm q = y at hq hr
    have hrest : (if (notNil i.desc x && isNil i.desc y) || (isNil i.desc x && notNil i.desc y) then (nilEq op false).map AV.v else none) = some r → ∃ v, ((do eqGuard op t p q (a.eval p) (a.eval q); binOp op t (a.eval p) (a.eval q)) : Sem Value).run P g.w = .ok v g.w ∧ Rel g r v := by
      intro hr
      split at hr
      case isFalse => cases hr
      rename_i hc
      obtain ⟨v, hv, rfl⟩ := Option.map_eq_some_iff.1 hr
      refine ⟨v, ?_, by simp [Rel]⟩
      generalize hx : a.eval p = X at hp ⊢
      generalize hy : a.eval q = Y at hq ⊢
      have hE : ∀ X Y : Value, (∀ m, (Op.equalIn (m + 1) t X Y).run P g.w = .ok false g.w) → (Op.equal t X Y).run P g.w = .ok false g.w := fun X Y h => equal_run hd g.w X Y false h
      simp only [Bool.or_eq_true, Bool.and_eq_true] at hc
      rcases hc with ⟨h1, h2⟩ | ⟨h1, h2⟩
      · rcases notNil_rel hp h1 with ⟨a', e, hX, hd'⟩ | ⟨a', n, c, e, hX, hd'⟩ | ⟨f, xs, ys, ps, rs, vv, hX, hd'⟩ <;>
        rcases isNil_rel hq h2 with ⟨e2, hY, hd2⟩ | ⟨n2, c2, e2, hY, hd2⟩ | ⟨ps2, rs2, v2, hY, hd2⟩ <;>
        first
          | (rw [hd'] at hd2; cases hd2; done)
          | (have h3 := hE X Y (fun m => by rw [hX, hY]; simp only [Op.equalIn, Sem.run_bind, hu, Result.andThen_ok, hd']; rfl)
             subst hX hY
             cases op <;> simp only [nilEq, reduceCtorEq, Option.some.injEq] at hv <;> subst hv <;> simp [eqGuard, binOp, h3])
      · rcases notNil_rel hq h2 with ⟨a', e, hX, hd'⟩ | ⟨a', n, c, e, hX, hd'⟩ | ⟨f, xs, ys, ps, rs, vv, hX, hd'⟩ <;>
        rcases isNil_rel hp h1 with ⟨e2, hY, hd2⟩ | ⟨n2, c2, e2, hY, hd2⟩ | ⟨ps2, rs2, v2, hY, hd2⟩ <;>
        first
          | (rw [hd'] at hd2; cases hd2; done)
          | (have h3 := hE X Y (fun m => by rw [hX, hY]; simp only [Op.equalIn, Sem.run_bind, hu, Result.andThen_ok, hd']; rfl)
             subst hX hY
             cases op <;> simp only [nilEq, reduceCtorEq, Option.some.injEq] at hv <;> subst hv <;> simp [eqGuard, binOp, h3])
    cases x <;> cases y <;> first | exact hrest hr | skip
    case v.v u u' =>
      simp only [binA] at hr
      obtain ⟨v, hv, rfl⟩ := Option.map_eq_some_iff.1 hr
      simp only [Rel] at hp hq
      rw [hp, hq]
      exact ⟨v, binV_run hd hv g.w p q, by simp [Rel]⟩
  obtain ⟨v, h1, h2⟩ := key
  exact ⟨v, by simp only [execOp, ho]; rw [Sem.run_bind, h1]; rfl, h2⟩

def unA (op : UnOp) (x : AV) : Option AV :=
  match op, x with
  | .neg, .v (.int k n) => some (.v (.int k (k.wrap (0 - n))))
  | .not, .v (.bool b) => some (.v (.bool !b))
  | .xor, .v (.int k n) => some (.v (.int k (k.wrap (BitVec.ofInt k.bits (if k.signed then -1 else k.max) ^^^ BitVec.ofInt k.bits n).toNat)))
  | _, _ => none
theorem ok_unOp {o : Oper} {op : UnOp} {t : TypeId} {p : Operand} (ho : o.op = .unOp op t p) {r : AV} (hr : unA op (ev tm p) = some r) : OpOk P tm H o r H := by
  refine OpOk.val fun g a hH hg ht => ?_
  have h := ht p (by simp [ho, Op.operands, Call.operands])
  unfold unA at hr
  split at hr <;> first | cases hr; done | skip
  all_goals
    rename_i he
    rw [he] at h
    simp only [Rel] at h
    simp only [Option.some.injEq] at hr
    subst hr
    exact ⟨_, by simp [execOp, ho, h, Op.unary, Op.intArith, Op.intBits]; rfl, by simp [Rel]⟩

-- conversions
def byteOf : AV → Option UInt8
  | .v (.int .u8 n) => some (UInt8.ofNat n.toNat)
  | _ => none
def bytesOf : List AV → Option (List UInt8)
  | [] => some []
  | x :: l => (byteOf x).bind fun b => (bytesOf l).map (b :: ·)
theorem bytesOf_rel {g : G} : ∀ {l : List AV} {ys : List Value} {bs : List UInt8}, RelL g l ys → bytesOf l = some bs → ∃ ns : List Int, ys = ns.map (Value.int .u8) ∧ bs = ns.map fun n => UInt8.ofNat n.toNat
  | [], ys, bs, h, hb => by
    simp only [RelL] at h
    simp [bytesOf] at hb
    exact ⟨[], by simp [h], by simp [hb]⟩
  | x :: l, ys, bs, h, hb => by
    simp only [RelL] at h
    obtain ⟨z, zs, rfl, hz, hl⟩ := h
    simp only [bytesOf] at hb
    obtain ⟨b, hb1, hb⟩ := Option.bind_eq_some_iff.1 hb
    obtain ⟨bs', hb2, rfl⟩ := Option.map_eq_some_iff.1 hb
    obtain ⟨ns, rfl, rfl⟩ := bytesOf_rel hl hb2
    unfold byteOf at hb1
    split at hb1
    · rename_i n
      simp only [Rel] at hz
      simp at hb1
      exact ⟨n :: ns, by simp [hz], by simp [hb1]⟩
    · cases hb1
/-- The elements of a row, whatever it lies in. -/
def rowA (H : Heap) : AV → Option (Nat × List AV)
  | .fz es l => some (es, l)
  | .sl id off len => (hget H id).bind fun k => if off + len ≤ k.els.length then some (k.es, (k.els.drop off).take len) else none
  | .z0 => some (1, [])
  | .v (.slice none 0 0) => some (1, [])
  | _ => none
theorem rowA_sound {g : G} {x : AV} {y : Value} {es : Nat} {l : List AV} (hg : GOk g) (h : rowA g.H x = some (es, l)) (hx : Rel g x y) :
    ∃ A c xs, y = .slice A l.length c ∧ l.length ≤ c ∧ RelL g l xs ∧
      ∀ (i : Nat) x, xs[i]? = some x → Flat x es ∧ ∃ a, A = some a ∧ a.spot = none ∧ ∀ j, j < es → cellAt g.w a.block (a.off + i * es + j) = x.cells[j]? := by
  cases x <;> simp only [rowA, reduceCtorEq] at h
  case fz es' l' =>
    simp at h
    obtain ⟨rfl, rfl⟩ := h
    simp only [Rel] at hx
    obtain ⟨A, c, xs, rfl, h1, h2, h3, _⟩ := hx
    refine ⟨A, c, xs, rfl, h1, h2, fun i x hx => ?_⟩
    obtain ⟨f1, a, f2, f3, _, f4⟩ := h3 i x hx
    exact ⟨f1, a, f2, f3, f4⟩
  case z0 =>
    simp at h
    obtain ⟨rfl, rfl⟩ := h
    simp only [Rel] at hx
    obtain ⟨A, rfl⟩ := hx
    exact ⟨A, 0, [], rfl, Nat.le_refl _, .nil, by simp⟩
  case v u =>
    simp only [Rel] at hx
    subst hx
    have hh : y = .slice none 0 0 ∧ es = 1 ∧ l = [] := by
      split at h
      · rename_i e; cases e
      · rename_i e; cases e
      · rename_i e; cases e
      · rename_i e; cases e; simp at h; exact ⟨rfl, h.1.symm, h.2⟩
      · cases h
    obtain ⟨rfl, rfl, rfl⟩ := hh
    exact ⟨none, 0, [], rfl, Nat.le_refl _, .nil, by simp⟩
  case sl id off len =>
    obtain ⟨k, hk, h⟩ := Option.bind_eq_some_iff.1 h
    split at h
    case isFalse => cases h
    rename_i hlen
    simp at h
    obtain ⟨rfl, rfl⟩ := h
    simp only [Rel] at hx
    obtain ⟨_, A, c, rfl, hx⟩ := hx
    obtain ⟨h1, h2, h3⟩ := hx k hk
    have hl : ((k.els.drop off).take len).length = len := by simp; omega
    rw [hl]
    by_cases h0 : len = 0
    · subst h0
      exact ⟨A, c, [], rfl, h1, by simp [RelL], by simp⟩
    · obtain ⟨x0, hx0⟩ : ∃ x, k.els[off]? = some x := ⟨_, List.getElem?_eq_getElem (by omega)⟩
      obtain ⟨hs0, cs, e, lo, hi, y, m1, m2, m3, m4, m5, m6, xs, m7, m8, m9⟩ := lies_at hg hk hx0
      have hA := h3 (by omega)
      subst hA
      refine ⟨_, c, (xs.drop off).take len, rfl, h1, RelL.take len (RelL.drop off m7), fun i x hx => ?_⟩
      rw [List.getElem?_take] at hx
      split at hx
      case isFalse => cases hx
      rename_i hi'
      rw [List.getElem?_drop] at hx
      obtain ⟨f1, f2⟩ := m9 (off + i) x hx
      refine ⟨f1, _, rfl, rfl, fun j hj => ?_⟩
      have e : g.bs id + off * k.es + i * k.es + j = g.bs id + ((off + i) * k.es + j) := by rw [Nat.add_mul]; omega
      rw [cellAt_row m1, ← f2 j hj]
      simp only [e]
def lenA (H : Heap) (d : TypeDesc) (x : AV) : Option Nat :=
  match d, x with
  | .slice _, .fz _ l => some l.length
  | .slice _, .sl _ _ len => some len
  | .slice _, .z0 => some 0
  | .slice _, .v (.slice _ n _) => some n
  | .string, .v (.string s) => some s.size
  | .array n _, _ => some n
  | _, _ => none
theorem ok_len {o : Oper} {p : Operand} {ts : Array TypeId} (ho : o.op = .call ⟨.builtin .len, #[p], ts⟩) {t : TypeId} (ht0 : ts[0]? = some t) {i : TI} (hi : tyI P t = some i) {n : Nat} (hn : lenA H i.desc (ev tm p) = some n) : OpOk P tm H o (.v (.int .i64 n)) H := by
  refine OpOk.val fun g a hH hg ht => ?_
  have h := ht p (by simp [ho, Op.operands, Call.operands])
  obtain ⟨e1, _⟩ := tyI_run hi g.w
  refine ⟨.int .i64 n, ?_, by simp [Rel]⟩
  simp only [execOp, ho, resolve, invoke, builtin]
  unfold lenA at hn
  split at hn <;> first | cases hn; done | skip
  all_goals
    rename_i hd he
    first | rw [he] at h | skip
    simp only [Option.some.injEq] at hn
    subst hn
  · simp only [Rel] at h; obtain ⟨A, c, xs, h1, _⟩ := h; simp [Builtin.len_, ht0, h1, e1, hd, goInt]
  · simp only [Rel] at h; obtain ⟨_, A, c, h1, _⟩ := h; simp [Builtin.len_, ht0, h1, e1, hd, goInt]
  · simp only [Rel] at h; obtain ⟨A, h1⟩ := h; simp [Builtin.len_, ht0, h1, e1, hd, goInt]
  · simp only [Rel] at h; simp [Builtin.len_, ht0, h, e1, hd, goInt]
  · simp only [Rel] at h; simp [Builtin.len_, ht0, h, e1, hd, goInt]
  · simp_all [Builtin.len_, goInt]

theorem ok_index {o : Oper} {t : TypeId} {x ix : Operand} (ho : o.op = .index t x ix) {i : TI} (hi : tyI P t = some i) {n : Nat} {e : TypeId} (hd : i.desc = .array n e) {j : TI} (hj : tyI P e = some j) {l : List AV} (hl : aggCells (ev tm x) = some l)
    {kd : IntKind} {z : Int} (hz : ev tm ix = .v (.int kd z)) (h0 : 0 ≤ z) (h1 : z < n) {r : AV} (hr : loadA j l (z.toNat * j.size) = some r) : OpOk P tm H o r H := by
  refine OpOk.val fun g a hH hg ht => ?_
  obtain ⟨cs, hcs, hrel⟩ := agg_rel (ht x (by simp [ho, Op.operands, Call.operands])) hl
  obtain ⟨v, h1', h2⟩ := part_sound (P := P) hj hrel hr
  obtain ⟨e1, _⟩ := tyI_run hi g.w
  obtain ⟨_, e2, _⟩ := tyI_run hj g.w
  have hzz := ht ix (by simp [ho, Op.operands, Call.operands])
  rw [hz] at hzz
  simp only [Rel] at hzz
  refine ⟨v, ?_, h2⟩
  simp [execOp, ho, Instr.index, hzz, asIntOf, e1, hd, hcs, h0, h1, e2, h1']
/-- The place of an element. -/
def elemA (H : Heap) (d : TypeDesc) (x : AV) (sz z : Nat) : Option AV :=
  match d, x with
  | .slice _, .fz es l => if es = sz then (l[z]?).bind fun y => if y.cells = [] then none else some (.fp y.cells 0) else none
  | .slice _, .sl id off len => (hget H id).bind fun k => if k.es = sz ∧ z < len then some (.ref id (off + z) 0) else none
  | .array n _, x => if z < n then shiftA x (z * sz) else none
  | _, _ => none
theorem ok_indexAddr {o : Oper} {t : TypeId} {x ix : Operand} (ho : o.op = .indexAddr t x ix) {i : TI} (hi : tyI P t = some i) {e : TypeId} (hd : i.desc = .slice e ∨ ∃ n, i.desc = .array n e) {j : TI} (hj : tyI P e = some j)
    {kd : IntKind} {z : Int} (hz : ev tm ix = .v (.int kd z)) (h0 : 0 ≤ z) {r : AV} (hr : elemA H i.desc (ev tm x) j.size z.toNat = some r) : OpOk P tm H o r H := by
  refine OpOk.val fun g a hH hg ht => ?_
  subst hH
  obtain ⟨e1, _⟩ := tyI_run hi g.w
  obtain ⟨_, e2, _⟩ := tyI_run hj g.w
  have hzz := ht ix (by simp [ho, Op.operands, Call.operands])
  rw [hz] at hzz
  simp only [Rel] at hzz
  have hx := ht x (by simp [ho, Op.operands, Call.operands])
  generalize ev tm x = X at hx hr
  unfold elemA at hr
  split at hr
  · rename_i e' es l hd'
    split at hr
    case isFalse => cases hr
    rename_i hes
    obtain ⟨y, hy, hr⟩ := Option.bind_eq_some_iff.1 hr
    split at hr
    · cases hr
    rename_i hne
    simp at hr
    subst hr
    simp only [Rel] at hx
    obtain ⟨A, c, xs, hA, hc, hl, hf, _⟩ := hx
    obtain ⟨yv, hyv, hrel⟩ := hl.get hy
    obtain ⟨f1, a', rfl, f3, f4, f5⟩ := hf _ yv hyv
    have hlt : z.toNat < l.length := (List.getElem?_eq_some_iff.1 hy).1
    have hd2 : i.desc = .slice e := by
      rcases hd with h | ⟨n, h⟩
      · exact h
      · rw [h] at hd'; cases hd'
    refine ⟨.pointer (some (a'.add (z.toNat * j.size))), ?_, ?_⟩
    · have : z < (l.length : Int) := by omega
      simp [execOp, ho, Instr.indexAt, hzz, asIntOf, e1, hd2, hA, h0, this, e2]
    · simp only [Rel]
      refine ⟨a'.block, a'.off + z.toNat * j.size, yv.cells.toList, ?_, cells_rel hrel hne, f4, fun m v hv => ?_⟩
      · rw [add_spot f3]; rfl
      · have hv' : yv.cells[m]? = some v := by simpa using hv
        have hm : m < es := by rw [← f1.1]; exact (Array.getElem?_eq_some_iff.1 hv').1
        refine ⟨f1.2 m v hv', ?_⟩
        rw [← hes, f5 m hm]; exact hv'
  · rename_i e' id off len hd'
    obtain ⟨k, hk, hr⟩ := Option.bind_eq_some_iff.1 hr
    split at hr
    case isFalse => cases hr
    rename_i hes
    simp at hr
    subst hr
    simp only [Rel] at hx
    obtain ⟨hid, A, c, hA, hx⟩ := hx
    obtain ⟨g1, g2, g3⟩ := hx k hk
    have hA' := g3 (by omega)
    subst hA'
    have hd2 : i.desc = .slice e := by
      rcases hd with h | ⟨n, h⟩
      · exact h
      · rw [h] at hd'; cases hd'
    refine ⟨.pointer (some ((⟨g.φ id, g.bs id + off * k.es, none⟩ : Addr).add (z.toNat * j.size))), ?_, ?_⟩
    · have : z < (len : Int) := by omega
      simp [execOp, ho, Instr.indexAt, hzz, asIntOf, e1, hd2, hA, h0, this, e2]
    · simp only [Rel, add_off]
      refine ⟨hid, _, rfl, fun k' hk' => ?_⟩
      rw [hk] at hk'
      cases hk'
      rw [← hes.1, Nat.add_mul]
      congr 1
      omega
  · rename_i n e' hd'
    split at hr
    case isFalse => cases hr
    rename_i hlt
    obtain ⟨p, hp, hrel⟩ := shift_sound hx hr
    have hd2 : i.desc = .array n e := by
      rcases hd with h | ⟨n', h⟩
      · rw [h] at hd'; cases hd'
      · rw [h] at hd'; cases hd'; exact h
    refine ⟨_, ?_, hrel⟩
    have : z < (n : Int) := by omega
    simp [execOp, ho, Instr.indexAt, hzz, asIntOf, e1, hd2, hp, h0, this, e2, Instr.sureAddr]
  · cases hr
end Go.AM
namespace Go.AM
variable {P : Program} {tm : TM} {H : Heap}

/-- A bound of a cut that may be absent. -/
def bndA (tm : TM) (x : Option Operand) : Option (Option Int) :=
  match x with
  | none => some none
  | some x => match ev tm x with
    | .v (.int _ z) => some (some z)
    | _ => none
theorem bnd_rel {g : G} {a : Act} {x : Option Operand} (h : ∀ y, x = some y → Rel g (ev tm y) (a.eval y)) {z : Option Int} (hz : bndA tm x = some z) :
    (x.map a.eval = none ∧ z = none) ∨ ∃ k n, x.map a.eval = some (.int k n) ∧ z = some n := by
  cases x with
  | none => simp [bndA] at hz; exact .inl ⟨rfl, hz.symm⟩
  | some x =>
    have hx := h x rfl
    simp only [bndA] at hz
    split at hz
    · rename_i k n he
      rw [he] at hx
      simp only [Rel] at hx
      simp at hz
      exact .inr ⟨k, n, by simp [hx], hz.symm⟩
    · cases hz
theorem bounds_run {low high : Option Value} {lo hi : Option Int} (hlo : (low = none ∧ lo = none) ∨ ∃ k n, low = some (.int k n) ∧ lo = some n) (hhi : (high = none ∧ hi = none) ∨ ∃ k n, high = some (.int k n) ∧ hi = some n)
    (b : Bool) (len cap : Nat) (h0 : 0 ≤ lo.getD 0) (h1 : lo.getD 0 ≤ hi.getD len) (h2 : hi.getD len ≤ cap) (w : World) :
    (Instr.sliceBounds b len cap low high none).run P w = .ok ((lo.getD 0).toNat, (hi.getD len).toNat, cap) w := by
  rcases hlo with ⟨rfl, rfl⟩ | ⟨k, n, rfl, rfl⟩ <;> rcases hhi with ⟨rfl, rfl⟩ | ⟨k', m, rfl, rfl⟩
  · simp [Instr.sliceBounds]
  · simp at h1 h2
    have h3 : m ≤ (cap : Int) := h2
    simp [Instr.sliceBounds, Instr.sliceBound, asIntOf, h1, h3]
  · simp at h0 h1 h2
    simp [Instr.sliceBounds, Instr.sliceBound, asIntOf, h0, h1]
  · simp at h0 h1 h2
    have h3 : m ≤ (cap : Int) := h2
    have h4 : (0 : Int) ≤ m := by omega
    have h5 : n ≤ (m.toNat : Int) := by omega
    simp only [Instr.sliceBounds, Instr.sliceBound, asIntOf, Sem.run_bind, Sem.run_pure, Result.andThen_ok, h0, h4, h3, and_self, if_true, h5, Option.getD_some]
def sliceA (H : Heap) (d : TypeDesc) (sz : Nat) (x : AV) (lo hi mx : Option Int) : Option AV :=
  match mx with
  | some m => if lo.getD 0 = 0 ∧ hi = some 0 ∧ m = 0 then
      match d, x with
      | .slice _, .fz .. => some .z0
      | .slice _, .sl .. => some .z0
      | .slice _, .z0 => some .z0
      | .slice _, .v (.slice none 0 0) => some (.v (.slice none 0 0))
      | _, _ => none
    else none
  | none => match d, x with
    | .slice _, .fz es l => if es = sz ∧ 0 ≤ lo.getD 0 ∧ lo.getD 0 ≤ hi.getD l.length ∧ hi.getD l.length ≤ l.length then some (.fz es ((l.take (hi.getD l.length).toNat).drop (lo.getD 0).toNat)) else none
    | .slice _, .sl id off len => (hget H id).bind fun k => if k.es = sz ∧ 0 ≤ lo.getD 0 ∧ lo.getD 0 ≤ hi.getD len ∧ hi.getD len ≤ len then some (.sl id (off + (lo.getD 0).toNat) ((hi.getD len).toNat - (lo.getD 0).toNat)) else none
    | .slice _, .z0 => if lo.getD 0 = 0 ∧ hi.getD 0 = 0 then some .z0 else none
    | .slice _, .v (.slice none 0 0) => if lo.getD 0 = 0 ∧ hi.getD 0 = 0 then some (.v (.slice none 0 0)) else none
    | .string, .v (.string s) => if 0 ≤ lo.getD 0 ∧ lo.getD 0 ≤ hi.getD s.size ∧ hi.getD s.size ≤ s.size then some (.v (.string (s.extract (lo.getD 0).toNat (hi.getD s.size).toNat))) else none
    | _, _ => none
theorem bounds0_run {low : Option Value} {lo : Option Int} (hlo : (low = none ∧ lo = none) ∨ ∃ k n, low = some (.int k n) ∧ lo = some n) {k k' : IntKind} (b : Bool) (len cap : Nat) (h0 : lo.getD 0 = 0) (w : World) :
    (Instr.sliceBounds b len cap low (some (.int k 0)) (some (.int k' 0))).run P w = .ok (0, 0, 0) w := by
  rcases hlo with ⟨rfl, rfl⟩ | ⟨k, n, rfl, rfl⟩
  · simp [Instr.sliceBounds, Instr.sliceBound, asIntOf]
  · simp at h0
    subst h0
    simp [Instr.sliceBounds, Instr.sliceBound, asIntOf]
theorem ok_slice {o : Oper} {t : TypeId} {x : Operand} {lo hi mx : Option Operand} (ho : o.op = .slice t x lo hi mx) {i : TI} (hi' : tyI P t = some i) {sz : Nat} (hsz : (∃ e j, i.desc = .slice e ∧ tyI P e = some j ∧ j.size = sz) ∨ i.desc = .string)
    {zl zh zm : Option Int} (hl : bndA tm lo = some zl) (hh : bndA tm hi = some zh) (hm : bndA tm mx = some zm) {r : AV} (hr : sliceA H i.desc sz (ev tm x) zl zh zm = some r) : OpOk P tm H o r H := by
  refine OpOk.val fun g a hH hg ht => ?_
  subst hH
  obtain ⟨e1, _⟩ := tyI_run hi' g.w
  have rl := bnd_rel (fun y hy => ht y (by simp [ho, Op.operands, hy])) hl
  have rh := bnd_rel (fun y hy => ht y (by simp [ho, Op.operands, hy])) hh
  have rm := bnd_rel (fun y hy => ht y (by simp [ho, Op.operands, hy])) hm
  have hx := ht x (by simp [ho, Op.operands, Call.operands])
  generalize ev tm x = X at hx hr
  -- the run of a slice
  have runS : ∀ {A : Option Addr} {n c : Nat}, a.eval x = .slice A n c → (∃ e j, i.desc = .slice e ∧ tyI P e = some j ∧ j.size = sz) → zm = none → 0 ≤ zl.getD 0 → zl.getD 0 ≤ zh.getD n → zh.getD n ≤ c →
      (execOp a.eval o).run P g.w = .ok (.value (.slice (if c = (zl.getD 0).toNat then A else A.map (·.add ((zl.getD 0).toNat * sz))) ((zh.getD n).toNat - (zl.getD 0).toNat) (c - (zl.getD 0).toNat))) g.w := by
    rintro A n c hA ⟨e, j, hd, hj, rfl⟩ rfl h0 h1 h2
    obtain ⟨_, e2, _⟩ := tyI_run hj g.w
    have hmx : mx.map a.eval = none := by
      rcases rm with ⟨h, _⟩ | ⟨k, m, _, h⟩
      · exact h
      · cases h
    have hb := bounds_run (P := P) rl rh true n c h0 h1 h2 g.w
    simp only [execOp, ho, hmx, hA, Instr.sliceAt, Instr.slice, Sem.run_bind, e1, Result.andThen_ok, hd, hb, e2, Sem.run_pure]
  have runZ : ∀ {A : Option Addr} {n c : Nat}, a.eval x = .slice A n c → (∃ e, i.desc = .slice e) → (∃ e j, i.desc = .slice e ∧ tyI P e = some j ∧ j.size = sz) → zl.getD 0 = 0 → zh = some 0 → zm = some 0 → (execOp a.eval o).run P g.w = .ok (.value (.slice A 0 0)) g.w := by
    rintro A n c hA ⟨e, hd⟩ ⟨e', j, hd', hj, rfl⟩ h0 rfl rfl
    rw [hd] at hd'
    cases hd'
    obtain ⟨_, e2, _⟩ := tyI_run hj g.w
    obtain ⟨k, hmx⟩ : ∃ k, mx.map a.eval = some (.int k 0) := by
      rcases rm with ⟨_, h⟩ | ⟨k, m, h, h'⟩
      · cases h
      · cases h'; exact ⟨k, h⟩
    obtain ⟨k', hhx⟩ : ∃ k, hi.map a.eval = some (.int k 0) := by
      rcases rh with ⟨_, h⟩ | ⟨k, m, h, h'⟩
      · cases h
      · cases h'; exact ⟨k, h⟩
    have hb := bounds0_run (P := P) (k := k') (k' := k) rl true n c h0 g.w
    simp only [execOp, ho, hmx, hhx, hA, Instr.sliceAt, Instr.slice, Sem.run_bind, e1, Result.andThen_ok, hd, hb, e2, Sem.run_pure, if_true, Nat.sub_self]
  have hS : ∀ {e}, i.desc = .slice e → ∃ e j, i.desc = .slice e ∧ tyI P e = some j ∧ j.size = sz := fun h => by
    rcases hsz with h' | h'
    · exact h'
    · rw [h] at h'; cases h'
  unfold sliceA at hr
  split at hr
  · rename_i m
    split at hr
    case isFalse => cases hr
    rename_i hz
    obtain ⟨z1, z2, rfl⟩ := hz
    split at hr <;> first | cases hr; done | skip
    all_goals
      rename_i hd
      simp only [Option.some.injEq] at hr
      subst hr
      simp only [Rel] at hx
    · obtain ⟨A, c, xs, hA, _⟩ := hx; exact ⟨_, runZ hA ⟨_, hd⟩ (hS hd) z1 z2 rfl, by simp [Rel]⟩
    · obtain ⟨_, A, c, hA, _⟩ := hx; exact ⟨_, runZ hA ⟨_, hd⟩ (hS hd) z1 z2 rfl, by simp [Rel]⟩
    · obtain ⟨A, hA⟩ := hx; exact ⟨_, runZ hA ⟨_, hd⟩ (hS hd) z1 z2 rfl, by simp [Rel]⟩
    · exact ⟨_, runZ hx ⟨_, hd⟩ (hS hd) z1 z2 rfl, by simp [Rel]⟩
  · split at hr
    · rename_i e es l hd
      split at hr
      case isFalse => cases hr
      rename_i hc
      obtain ⟨rfl, c1, c2, c3⟩ := hc
      simp only [Option.some.injEq] at hr
      subst hr
      simp only [Rel] at hx
      obtain ⟨A, c, xs, hA, hcl, hl', hf, hAn⟩ := hx
      have hlen : ((l.take (zh.getD l.length).toNat).drop (zl.getD 0).toNat).length = (zh.getD l.length).toNat - (zl.getD 0).toNat := by
        simp; omega
      refine ⟨_, runS hA (hS hd) rfl c1 c2 (by omega), ?_⟩
      simp only [Rel]
      refine ⟨_, _, (xs.take (zh.getD l.length).toNat).drop (zl.getD 0).toNat, by rw [hlen], by rw [hlen]; omega, RelL.drop _ (RelL.take _ hl'), ?_, fun hN => ?_⟩
      rotate_left
      · have hA0 : A = none := by
          split at hN
          · exact hN
          · cases A with
            | none => rfl
            | some a => cases hN
        have := hAn hA0
        omega
      intro q y hy
      rw [List.getElem?_drop, List.getElem?_take] at hy
      split at hy
      case isFalse => cases hy
      rename_i hq
      obtain ⟨f1, a', rfl, f3, f4, f5⟩ := hf _ y hy
      have hne : ¬ c = (zl.getD 0).toNat := by omega
      refine ⟨f1, a'.add ((zl.getD 0).toNat * es), by rw [if_neg hne]; rfl, by rw [add_spot f3], by rw [add_spot f3]; exact f4, fun m hm => ?_⟩
      rw [add_spot f3]
      have := f5 m hm
      rw [← this]
      congr 1
      simp only [Nat.add_mul]
      omega
    · rename_i e id off len hd
      obtain ⟨k, hk, hr⟩ := Option.bind_eq_some_iff.1 hr
      split at hr
      case isFalse => cases hr
      rename_i hc
      obtain ⟨c0, c1, c2, c3⟩ := hc
      simp only [Option.some.injEq] at hr
      subst hr
      simp only [Rel] at hx
      obtain ⟨hid, A, c, hA, hx⟩ := hx
      obtain ⟨g1, g2, g3⟩ := hx k hk
      refine ⟨_, runS hA (hS hd) rfl c1 c2 (by omega), ?_⟩
      simp only [Rel]
      refine ⟨hid, _, _, rfl, fun k' hk' => ?_⟩
      rw [hk] at hk'
      cases hk'
      refine ⟨by omega, ?_, fun hne => ?_⟩
      · refine Nat.le_trans (Nat.add_le_add_left (Nat.mul_le_mul_right _ ?_) _) g2
        omega
      · have hne : ¬ c = (zl.getD 0).toNat := by omega
        rw [if_neg hne, g3 (by omega)]
        simp only [Option.map_some, add_off, ← c0, Nat.add_mul, Nat.add_assoc]
    · rename_i e hd
      split at hr
      case isFalse => cases hr
      rename_i hc
      obtain ⟨c1, c2⟩ := hc
      simp only [Option.some.injEq] at hr
      subst hr
      simp only [Rel] at hx
      obtain ⟨A, hA⟩ := hx
      have e2 : zh.getD ((0 : Nat) : Int) = 0 := c2
      refine ⟨_, runS hA (hS hd) rfl (by omega) (by omega) (by omega), ?_⟩
      simp only [Rel]
      refine ⟨_, by rw [c1, e2]; rfl⟩
    · rename_i e hd
      split at hr
      case isFalse => cases hr
      rename_i hc
      obtain ⟨c1, c2⟩ := hc
      simp only [Option.some.injEq] at hr
      subst hr
      simp only [Rel] at hx
      have e2 : zh.getD ((0 : Nat) : Int) = 0 := c2
      refine ⟨_, runS hx (hS hd) rfl (by omega) (by omega) (by omega), ?_⟩
      simp only [Rel]
      rw [c1, e2]; rfl
    · rename_i s hd
      split at hr
      case isFalse => cases hr
      rename_i hc
      obtain ⟨c1, c2, c3⟩ := hc
      simp only [Option.some.injEq] at hr
      subst hr
      simp only [Rel] at hx
      have hmx : mx.map a.eval = none := by
        rcases rm with ⟨h, _⟩ | ⟨k, m, _, h⟩
        · exact h
        · cases h
      have hb := bounds_run (P := P) rl rh false s.size s.size c1 c2 c3 g.w
      refine ⟨.string (s.extract (zl.getD 0).toNat (zh.getD s.size).toNat), ?_, by simp [Rel]⟩
      simp only [execOp, ho, hmx, hx, Instr.sliceAt, Instr.slice, Sem.run_bind, e1, Result.andThen_ok, hd, hb, Sem.run_pure, Option.isSome_none]
      simp [hb]
    · cases hr

-- the least and the greatest of two whole numbers
theorem ok_min {o : Oper} {p q : Operand} {ts : Array TypeId} (ho : o.op = .call ⟨.builtin .min, #[p, q], ts⟩) {k k' : IntKind} {x y : Int} (hp : ev tm p = .v (.int k x)) (hq : ev tm q = .v (.int k' y)) : OpOk P tm H o (.v (.int k (min x y))) H := by
  refine OpOk.val fun g a hH hg ht => ?_
  have h1 := ht p (by simp [ho, Op.operands, Call.operands])
  have h2 := ht q (by simp [ho, Op.operands, Call.operands])
  rw [hp] at h1
  rw [hq] at h2
  simp only [Rel] at h1 h2
  refine ⟨.int k (min x y), ?_, by simp only [Rel]⟩
  have e : (if y < x then y else x) = min x y := by
    by_cases h : y < x
    · rw [if_pos h]; omega
    · rw [if_neg h]; omega
  simp [execOp, ho, resolve, invoke, builtin, Builtin.min_, h1, h2, Builtin.min2, e]
theorem ok_max {o : Oper} {p q : Operand} {ts : Array TypeId} (ho : o.op = .call ⟨.builtin .max, #[p, q], ts⟩) {k k' : IntKind} {x y : Int} (hp : ev tm p = .v (.int k x)) (hq : ev tm q = .v (.int k' y)) : OpOk P tm H o (.v (.int k (max x y))) H := by
  refine OpOk.val fun g a hH hg ht => ?_
  have h1 := ht p (by simp [ho, Op.operands, Call.operands])
  have h2 := ht q (by simp [ho, Op.operands, Call.operands])
  rw [hp] at h1
  rw [hq] at h2
  simp only [Rel] at h1 h2
  refine ⟨.int k (max x y), ?_, by simp only [Rel]⟩
  have e : (if y > x then y else x) = max x y := by
    by_cases h : y > x
    · rw [if_pos h]; omega
    · rw [if_neg h]; omega
  simp [execOp, ho, resolve, invoke, builtin, Builtin.max_, h1, h2, Builtin.max2, e]

-- conversions
theorem ok_conv_int {o : Oper} {s d : TypeId} {p : Operand} (ho : o.op = .convert s d p) {i j : TI} (hi : tyI P s = some i) (hj : tyI P d = some j) {k : IntKind} (hk : j.desc = .int k) {k' : IntKind} {n : Int} (hp : ev tm p = .v (.int k' n)) : OpOk P tm H o (.v (.int k (k.wrap n))) H := by
  refine OpOk.val fun g a hH hg ht => ?_
  have h1 := ht p (by simp [ho, Op.operands, Call.operands])
  rw [hp] at h1
  simp only [Rel] at h1
  obtain ⟨e1, _⟩ := tyI_run hi g.w
  obtain ⟨e2, _⟩ := tyI_run hj g.w
  refine ⟨.int k (k.wrap n), ?_, by simp only [Rel]⟩
  simp only [execOp, ho, convert, Sem.run_bind, e1, e2, Result.andThen_ok, h1, hk]
  simp [Conv.intToInt]
/-- The text of bytes. -/
def strOf (bs : List UInt8) : ByteArray := ⟨bs.toArray⟩
theorem foldl_push (bs : List Int) : ∀ s : ByteArray, bs.foldl (fun r n => r.push (UInt8.ofNat n.toNat)) s = ⟨s.data ++ (bs.map fun n => UInt8.ofNat n.toNat).toArray⟩ := by
  induction bs with
  | nil => intro s; simp
  | cons b bs ih =>
    intro s
    rw [List.foldl_cons, ih]
    simp only [ByteArray.push, List.map_cons]
    congr 1
    apply Array.ext'
    simp
theorem ok_conv_str {o : Oper} {s d : TypeId} {p : Operand} (ho : o.op = .convert s d p) {i j m : TI} (hi : tyI P s = some i) (hj : tyI P d = some j) {e : TypeId} (he : i.desc = .slice e) (hm : tyI P e = some m) (hm' : m.desc = .int .u8) (hd : j.desc = .string)
    {es : Nat} {l : List AV} (hr : rowA H (ev tm p) = some (es, l)) (hes : es = 1) {bs : List UInt8} (hb : bytesOf l = some bs) : OpOk P tm H o (.v (.string (strOf bs))) H := by
  refine OpOk.val fun g a hH hg ht => ?_
  subst hH
  obtain ⟨e1, _⟩ := tyI_run hi g.w
  obtain ⟨e2, _⟩ := tyI_run hj g.w
  obtain ⟨e3, _⟩ := tyI_run hm g.w
  obtain ⟨A, c, xs, h1, h2, h3, h4⟩ := rowA_sound hg hr (ht p (by simp [ho, Op.operands, Call.operands]))
  obtain ⟨ns, rfl, rfl⟩ := bytesOf_rel h3 hb
  refine ⟨.string (strOf (ns.map fun n => UInt8.ofNat n.toNat)), ?_, by simp only [Rel]⟩
  simp only [execOp, ho, convert, Sem.run_bind, e1, e2, Result.andThen_ok, h1, he, hd, e3, hm']
  have hlen : ns.length = l.length := by simpa using h3.length
  cases A with
  | none =>
    have : ns = [] := by
      cases ns with
      | nil => rfl
      | cons n ns =>
        obtain ⟨_, a', h, _⟩ := h4 0 (.int .u8 n) rfl
        cases h
    subst this
    simp [Conv.bytesToString, strOf]
    rfl
  | some a' =>
    have hl : (loadCells a' l.length).run P g.w = .ok (ns.map (Value.int .u8)).toArray g.w := by
      have := run_loadCells_list (P := P) (w := g.w) a' (ns.map (Value.int .u8)) (fun q v hv => by
        obtain ⟨f1, a2, h, f3, f4⟩ := h4 q v hv
        cases h
        have := f4 0 (by omega)
        subst hes
        have hv1 : v.cells[0]? = some v := by
          simp only [List.getElem?_map, Option.map_eq_some_iff] at hv
          obtain ⟨n, _, rfl⟩ := hv
          rfl
        rw [hv1] at this
        rw [add_spot f3]
        simpa using this)
      rw [← hlen]
      simpa using this
    rw [run_bytesToString g.w a' l.length c ns hl]
    rw [foldl_push]
    simp [strOf]
end Go.AM
namespace Go.AM
variable {P : Program} {tm : TM} {H : Heap}

theorem hget_set_none {id j : Nat} {k : Blk} (h : hget (H.set id none) j = some k) : j ≠ id ∧ hget H j = some k := by
  rw [hget_set] at h
  by_cases hj : j = id ∧ id < H.length
  · rw [if_pos hj] at h; cases h
  · rw [if_neg hj] at h
    refine ⟨fun e => hj ⟨e, ?_⟩, h⟩
    rw [← e]; exact hget_lt h

/-- A block dropped. -/
def G.kill (g : G) (id : Nat) : G := { g with H := g.H.set id none }
theorem kill_ok {g : G} (id : Nat) (hg : GOk g) : GOk (g.kill id) ∧ Sub g (g.kill id) := by
  have hr : Ren some g (g.kill id) := ⟨fun _ h => h, fun _ _ => rfl, fun i j hi hj => by
    cases hj
    refine ⟨by simpa [G.kill] using hi, fun k hk => ⟨k, (hget_set_none hk).2, rfl, rfl, rfl, rfl⟩⟩⟩
  refine ⟨⟨fun j k hk => ?_, fun i j k k' hi hj => hg.inj i j k k' (hget_set_none hi).2 (hget_set_none hj).2, hg.zlt⟩, hr, ⟨.refl _, Nat.le_refl _, fun _ _ _ => rfl, fun _ h => h, fun _ h => .inl h, fun b ⟨i, k, h1, h2, h3, h4⟩ => .inl ⟨i, k, (hget_set_none h1).2, h2, h3, h4⟩⟩⟩
  obtain ⟨h1, h2, h3, h4, h5⟩ := hg.blk j k (hget_set_none hk).2
  refine ⟨h1, h2, h3, h4, fun h0 => ?_⟩
  obtain ⟨c, e, lo, hi, m1, m2, m3, xs, m4, m5⟩ := h5 h0
  exact ⟨c, e, lo, hi, m1, m2, m3, xs, RelL.mono hr m4, m5⟩

/-- An empty block, that stands nowhere. -/
def G.vpush (g : G) (es : Nat) : G :=
  { g with H := g.H ++ [some ⟨es, true, []⟩], sz := fun i => if i = g.H.length then 0 else g.sz i, bs := fun i => if i = g.H.length then 0 else g.bs i }
theorem vpush_get {g : G} {es j : Nat} {k : Blk} (h : hget (g.vpush es).H j = some k) : (j < g.H.length ∧ hget g.H j = some k) ∨ (j = g.H.length ∧ k = ⟨es, true, []⟩) := by
  simp only [G.vpush, hget_append] at h
  by_cases hj : j < g.H.length
  · rw [if_pos hj] at h; exact .inl ⟨hj, h⟩
  · rw [if_neg hj] at h
    have := hget_lt h
    simp at this
    have e : j - g.H.length = 0 := by omega
    rw [e] at h
    simp [hget] at h
    exact .inr ⟨by omega, h.symm⟩
theorem vpush_ok {g : G} {es : Nat} (he : 0 < es) (hg : GOk g) : GOk (g.vpush es) ∧ Sub g (g.vpush es) := by
  have hsz : ∀ j, j < g.H.length → (g.vpush es).sz j = g.sz j := fun j hj => by simp only [G.vpush]; rw [if_neg (by omega)]
  have hbs : ∀ j, j < g.H.length → (g.vpush es).bs j = g.bs j := fun j hj => by simp only [G.vpush]; rw [if_neg (by omega)]
  have hr : Ren some g (g.vpush es) := ⟨fun _ h => h, fun _ _ => rfl, fun i j hi hj => by
    cases hj
    refine ⟨by simp [G.vpush]; omega, fun k hk => ⟨k, ?_, rfl, rfl, hbs i hi, hsz i hi⟩⟩
    rcases vpush_get hk with ⟨_, h⟩ | ⟨h, _⟩
    · exact h
    · omega⟩
  refine ⟨⟨fun j k hk => ?_, fun i j k k' hi hj ho ho' hs hs' hφ => ?_, hg.zlt⟩, hr, ⟨.refl _, Nat.le_refl _, fun _ _ _ => rfl, fun _ h => h, fun _ h => .inl h, fun b ⟨i, k, h1, h2, h3, h4⟩ => ?_⟩⟩
  · rcases vpush_get hk with ⟨hj, h⟩ | ⟨rfl, rfl⟩
    · obtain ⟨h1, h2, h3, h4, h5⟩ := hg.blk j k h
      refine ⟨by rw [hsz j hj]; exact h1, by rw [hsz j hj]; exact h2, by rw [hsz j hj, hbs j hj]; exact h3, h4, ?_⟩
      rw [hsz j hj, hbs j hj]
      intro h0
      obtain ⟨c, e, lo, hi, m1, m2, m3, xs, m4, m5⟩ := h5 h0
      exact ⟨c, e, lo, hi, m1, m2, m3, xs, RelL.mono hr m4, m5⟩
    · have e : (g.vpush es).sz g.H.length = 0 := by simp [G.vpush]
      have e' : (g.vpush es).bs g.H.length = 0 := by simp [G.vpush]
      exact ⟨fun _ h => absurd e h, fun _ h => absurd e h, by rw [e, e']; simp, he, fun h => absurd e h⟩
  · rcases vpush_get hi with ⟨hi', h1⟩ | ⟨rfl, rfl⟩
    · rcases vpush_get hj with ⟨hj', h2⟩ | ⟨rfl, rfl⟩
      · rw [hsz i hi'] at hs
        rw [hsz j hj'] at hs'
        exact hg.inj i j k k' h1 h2 ho ho' hs hs' hφ
      · exact absurd (by simp [G.vpush]) hs'
    · exact absurd (by simp [G.vpush]) hs
  · rcases vpush_get h1 with ⟨hi', h⟩ | ⟨rfl, rfl⟩
    · rw [hsz i hi'] at h3
      exact .inl ⟨i, k, h, h2, h3, h4⟩
    · exact absurd (by simp [G.vpush]) h3

/-- An owned block written anew, whatever the new world. -/
theorem write_okW {g : G} {id : Nat} {k : Blk} (hg : GOk g) (hk : hget g.H id = some k) (ho : k.own = true) (h0 : g.sz id ≠ 0) {c c' : Array Value} {e : TypeId} {fr : Nat × Nat} (hc : g.w.heap[g.φ id]? = some (.cells c e fr)) (hs : c'.size = c.size)
    {els : List AV} (hf : g.bs id + els.length * k.es ≤ g.sz id) (hl : Lies g (g.bs id) { k with els := els } c') {w' : World} {lo' hi' : Nat} (hwn : w'.heap[g.φ id]? = some (.cells c' e (lo', hi'))) (hwf : lo' = hi' ∨ c'.size ≤ lo') (hws : w'.heap.size = g.w.heap.size) (hwo : ∀ b, b ≠ g.φ id → w'.heap[b]? = g.w.heap[b]?) (hrest : Rest g.w w') :
    let g' : G := { g with w := w', H := g.H.set id (some { k with els := els }) }
    GOk g' ∧ Sub g g' := by
  intro g'
  have hid := hget_lt hk
  have hb := hg.blk id k hk
  have hget' : ∀ j b', hget g'.H j = some b' → (j = id ∧ b' = { k with els := els }) ∨ (j ≠ id ∧ hget g.H j = some b') := by
    intro j b' h
    simp only [g', hget_set] at h
    by_cases hj : j = id
    · subst hj; simp only [hid, and_self, if_true, Option.some.injEq] at h; exact .inl ⟨rfl, h.symm⟩
    · simp only [hj, false_and, if_false] at h; exact .inr ⟨hj, h⟩
  have hheap : ∀ b, b ≠ g.φ id → g'.w.heap[b]? = g.w.heap[b]? := hwo
  have hsize : g'.w.heap.size = g.w.heap.size := hws
  have hr : Ren some g g' := by
    refine ⟨fun _ h => h, fun b hz => hheap b (fun e => hb.own ho h0 (e ▸ hz)), fun i j hi hj => ?_⟩
    cases hj
    refine ⟨by simpa [g'] using hi, fun b' hb' => ?_⟩
    rcases hget' i b' hb' with ⟨rfl, rfl⟩ | ⟨_, h⟩
    · exact ⟨k, hk, rfl, rfl, rfl, rfl⟩
    · exact ⟨b', h, rfl, rfl, rfl, rfl⟩
  refine ⟨⟨fun j b' hb' => ?_, fun i j b b' hi hj ho' ho'' hs1 hs2 hφ => ?_, fun b hz => by rw [hsize]; exact hg.zlt b hz⟩, hr, ⟨hrest, by rw [hsize]; exact Nat.le_refl _, fun b _ hno => hheap b (fun e => hno (e ▸ ⟨id, k, hk, ho, h0, rfl⟩)), fun _ h => h, fun _ h => .inl h, fun b ⟨i, b', h1, h2, h3, h4⟩ => ?_⟩⟩
  · rcases hget' j b' hb' with ⟨rfl, rfl⟩ | ⟨hj, h⟩
    · obtain ⟨c0, e0, lo, hi, m1, m2, m3, _⟩ := hb.mem h0
      rw [hc] at m1
      cases m1
      refine ⟨hb.own, hb.frz, hf, hb.pos, fun _ => ⟨c', e, lo', hi', hwn, by rw [hs]; exact m2, hwf, ?_⟩⟩
      obtain ⟨xs, m4, m5⟩ := hl
      exact ⟨xs, RelL.mono hr m4, m5⟩
    · obtain ⟨h1, h2, h3, h4, h5⟩ := hg.blk j b' h
      refine ⟨h1, h2, h3, h4, fun hs0 => ?_⟩
      obtain ⟨c0, e0, lo, hi, m1, m2, m3, xs, m4, m5⟩ := h5 hs0
      refine ⟨c0, e0, lo, hi, ?_, m2, m3, xs, RelL.mono hr m4, m5⟩
      rw [← m1]
      refine hheap _ (fun e => ?_)
      by_cases hob : b'.own = true
      · exact hj (hg.inj j id b' k h hk hob ho hs0 h0 e)
      · have : b'.own = false := by simpa using hob
        exact hb.own ho h0 (e ▸ h2 this hs0)
  · rcases hget' i b hi with ⟨rfl, rfl⟩ | ⟨hi', h⟩
    · rcases hget' j b' hj with ⟨rfl, rfl⟩ | ⟨hj', h'⟩
      · rfl
      · exact hg.inj i j k b' hk h' ho ho'' hs1 hs2 hφ
    · rcases hget' j b' hj with ⟨rfl, rfl⟩ | ⟨hj', h'⟩
      · exact hg.inj i j b k h hk ho' ho hs1 hs2 hφ
      · exact hg.inj i j b b' h h' ho' ho'' hs1 hs2 hφ
  · rcases hget' i b' h1 with ⟨rfl, rfl⟩ | ⟨_, h⟩
    · exact .inl ⟨i, k, hk, ho, h3, h4⟩
    · exact .inl ⟨i, b', h, h2, h3, h4⟩

theorem setRow_rest (w : World) (b : Nat) (c : Array Value) : Rest w (w.setRow b c) := by
  unfold World.setRow
  first | exact ⟨rfl, rfl, rfl⟩ | (split <;> exact ⟨rfl, rfl, rfl⟩)
/-- An owned block written anew. -/
theorem write_ok {g : G} {id : Nat} {k : Blk} (hg : GOk g) (hk : hget g.H id = some k) (ho : k.own = true) (h0 : g.sz id ≠ 0) {c c' : Array Value} {e : TypeId} {fr : Nat × Nat} (hc : g.w.heap[g.φ id]? = some (.cells c e fr)) (hs : c'.size = c.size)
    {els : List AV} (hf : g.bs id + els.length * k.es ≤ g.sz id) (hl : Lies g (g.bs id) { k with els := els } c') :
    let g' : G := { g with w := g.w.setRow (g.φ id) c', H := g.H.set id (some { k with els := els }) }
    GOk g' ∧ Sub g g' := by
  obtain ⟨c0, e0, lo, hi, m1, m2, m3, _⟩ := (hg.blk id k hk).mem h0
  rw [hc] at m1
  cases m1
  exact write_okW hg hk ho h0 hc hs hf hl (setRow_heap g.w (g.φ id) c c' e _ hc) (by rw [hs]; exact m3) (size_setRow g.w (g.φ id) c') (fun b hb => setRow_other g.w (g.φ id) b c' hb) (setRow_rest _ _ _)

/-- A block told anew from its element 'off' on, under a number of its own. -/
def G.rebase (g : G) (id off : Nat) (k : Blk) : G :=
  { g with H := g.H.set id none ++ [some { k with els := k.els.drop off }], φ := fun i => if i = g.H.length then g.φ id else g.φ i, bs := fun i => if i = g.H.length then g.bs id + off * k.es else g.bs i, sz := fun i => if i = g.H.length then g.sz id else g.sz i }
theorem rebase_ok {g : G} {id off : Nat} {k : Blk} (hg : GOk g) (hk : hget g.H id = some k) (ho : off ≤ k.els.length) : GOk (g.rebase id off k) ∧ Sub g (g.rebase id off k) := by
  have hid := hget_lt hk
  have hb := hg.blk id k hk
  have hget' : ∀ j b', hget (g.rebase id off k).H j = some b' → (j < g.H.length ∧ j ≠ id ∧ hget g.H j = some b') ∨ (j = g.H.length ∧ b' = { k with els := k.els.drop off }) := by
    intro j b' h
    simp only [G.rebase, hget_append, List.length_set] at h
    by_cases hj : j < g.H.length
    · rw [if_pos hj] at h
      obtain ⟨h1, h2⟩ := hget_set_none h
      exact .inl ⟨hj, h1, h2⟩
    · rw [if_neg hj] at h
      have := hget_lt h
      simp at this
      have e : j - g.H.length = 0 := by omega
      rw [e] at h
      simp [hget] at h
      exact .inr ⟨by omega, h.symm⟩
  have eφ : ∀ j, j < g.H.length → (g.rebase id off k).φ j = g.φ j := fun j hj => by simp only [G.rebase]; rw [if_neg (by omega)]
  have eb : ∀ j, j < g.H.length → (g.rebase id off k).bs j = g.bs j := fun j hj => by simp only [G.rebase]; rw [if_neg (by omega)]
  have es : ∀ j, j < g.H.length → (g.rebase id off k).sz j = g.sz j := fun j hj => by simp only [G.rebase]; rw [if_neg (by omega)]
  have nφ : (g.rebase id off k).φ g.H.length = g.φ id := by simp [G.rebase]
  have nb : (g.rebase id off k).bs g.H.length = g.bs id + off * k.es := by simp [G.rebase]
  have ns : (g.rebase id off k).sz g.H.length = g.sz id := by simp [G.rebase]
  have hr : Ren some g (g.rebase id off k) := ⟨fun _ h => h, fun _ _ => rfl, fun i j hi hj => by
    cases hj
    refine ⟨by simp [G.rebase]; omega, fun b' hb' => ?_⟩
    rcases hget' i b' hb' with ⟨_, _, h⟩ | ⟨h, _⟩
    · exact ⟨b', h, rfl, eφ i hi, eb i hi, es i hi⟩
    · omega⟩
  refine ⟨⟨fun j b' hb' => ?_, fun i j b b' hi hj ho' ho'' hs1 hs2 hφ => ?_, hg.zlt⟩, hr, ⟨.refl _, Nat.le_refl _, fun _ _ _ => rfl, fun _ h => h, fun _ h => .inl h, fun b ⟨i, b', h1, h2, h3, h4⟩ => ?_⟩⟩
  · rcases hget' j b' hb' with ⟨hj, hne, h⟩ | ⟨rfl, rfl⟩
    · obtain ⟨h1, h2, h3, h4, h5⟩ := hg.blk j b' h
      refine ⟨by rw [es j hj, eφ j hj]; exact h1, by rw [es j hj, eφ j hj]; exact h2, by rw [es j hj, eb j hj]; exact h3, h4, ?_⟩
      rw [es j hj, eφ j hj, eb j hj]
      intro hs0
      obtain ⟨c0, e0, lo, hi, m1, m2, m3, xs, m4, m5⟩ := h5 hs0
      exact ⟨c0, e0, lo, hi, m1, m2, m3, xs, RelL.mono hr m4, m5⟩
    · refine ⟨by rw [ns, nφ]; exact hb.own, by rw [ns, nφ]; exact hb.frz, ?_, hb.pos, ?_⟩
      · rw [ns, nb]
        refine Nat.le_trans ?_ hb.fit
        simp only [List.length_drop]
        rw [Nat.add_assoc, ← Nat.add_mul]
        refine Nat.add_le_add_left (Nat.mul_le_mul_right _ (by omega)) _
      · rw [ns, nφ, nb]
        intro hs0
        obtain ⟨c0, e0, lo, hi, m1, m2, m3, xs, m4, m5⟩ := hb.mem hs0
        refine ⟨c0, e0, lo, hi, m1, m2, m3, xs.drop off, RelL.mono hr (RelL.drop off m4), fun i x hx => ?_⟩
        rw [List.getElem?_drop] at hx
        obtain ⟨f1, f2⟩ := m5 (off + i) x hx
        refine ⟨f1, fun j hj => ?_⟩
        rw [← f2 j hj]
        have : g.bs id + off * k.es + (i * k.es + j) = g.bs id + ((off + i) * k.es + j) := by rw [Nat.add_mul]; omega
        simp only [this]
  · rcases hget' i b hi with ⟨hi1, hi2, h⟩ | ⟨rfl, rfl⟩
    · rcases hget' j b' hj with ⟨hj1, hj2, h'⟩ | ⟨rfl, rfl⟩
      · rw [es i hi1] at hs1
        rw [es j hj1] at hs2
        rw [eφ i hi1, eφ j hj1] at hφ
        exact hg.inj i j b b' h h' ho' ho'' hs1 hs2 hφ
      · rw [es i hi1] at hs1
        rw [ns] at hs2
        rw [eφ i hi1, nφ] at hφ
        exact absurd (hg.inj i id b k h hk ho' ho'' hs1 hs2 hφ) hi2
    · rcases hget' j b' hj with ⟨hj1, hj2, h'⟩ | ⟨rfl, rfl⟩
      · rw [es j hj1] at hs2
        rw [ns] at hs1
        rw [eφ j hj1, nφ] at hφ
        exact absurd (hg.inj id j k b' hk h' ho' ho'' hs1 hs2 hφ).symm hj2
      · rfl
  · rcases hget' i b' h1 with ⟨hi1, _, h⟩ | ⟨rfl, rfl⟩
    · rw [es i hi1] at h3
      rw [eφ i hi1] at h4
      exact .inl ⟨i, b', h, h2, h3, h4⟩
    · rw [ns] at h3
      rw [nφ] at h4
      exact .inl ⟨id, k, hk, h2, h3, h4⟩

-- the cells of a row of elements, one behind the other
def flatC (xs : List Value) : List Value := xs.flatMap fun x => x.cells.toList
theorem flatC_length {es : Nat} : ∀ (xs : List Value), (∀ x ∈ xs, x.cells.size = es) → (flatC xs).length = xs.length * es
  | [], _ => by simp [flatC]
  | x :: xs, h => by
    have := flatC_length xs (fun y hy => h y (by simp [hy]))
    simp only [flatC, List.flatMap_cons, List.length_append, List.length_cons] at this ⊢
    rw [this, Nat.add_mul, Nat.one_mul]
    have := h x (by simp)
    simp [this]; omega
theorem flatC_get {es : Nat} : ∀ (xs : List Value), (∀ x ∈ xs, x.cells.size = es) → ∀ (i : Nat) x, xs[i]? = some x → ∀ j, j < es → (flatC xs)[i * es + j]? = x.cells[j]?
  | [], _, i, x, hx, _, _ => by simp at hx
  | y :: xs, h, 0, x, hx, j, hj => by
    simp at hx
    subst hx
    have := h y (by simp)
    simp only [flatC, List.flatMap_cons, Nat.zero_mul, Nat.zero_add]
    rw [List.getElem?_append_left (by simp; omega)]
    simp
  | y :: xs, h, i + 1, x, hx, j, hj => by
    have hy := h y (by simp)
    have ih := flatC_get xs (fun y hy => h y (by simp [hy])) i x (by simpa using hx) j hj
    rw [← ih]
    simp only [flatC, List.flatMap_cons]
    rw [List.getElem?_append_right (by simp [hy, Nat.add_mul]; omega)]
    congr 1
    simp [hy, Nat.add_mul]; omega
theorem flatC_inv {es : Nat} (hes : 0 < es) {xs : List Value} (h : ∀ x ∈ xs, x.cells.size = es) {m : Nat} {v : Value} (hm : (flatC xs)[m]? = some v) : ∃ i x j, m = i * es + j ∧ j < es ∧ xs[i]? = some x ∧ x.cells[j]? = some v := by
  have hlt := (List.getElem?_eq_some_iff.1 hm).1
  rw [flatC_length xs h] at hlt
  have hi : m / es < xs.length := (Nat.div_lt_iff_lt_mul hes).2 hlt
  have hx := List.getElem?_eq_getElem hi
  refine ⟨m / es, _, m % es, (by rw [Nat.mul_comm]; exact (Nat.div_add_mod m es).symm), Nat.mod_lt _ hes, hx, ?_⟩
  rw [← flatC_get xs h (m / es) _ hx (m % es) (Nat.mod_lt _ hes)]
  have : m / es * es + m % es = m := by rw [Nat.mul_comm]; exact Nat.div_add_mod m es
  rw [this]; exact hm
theorem flatC_append (xs ys : List Value) : flatC (xs ++ ys) = flatC xs ++ flatC ys := by simp [flatC]

/-- Cells stored one behind the other. -/
theorem run_stores (P : Program) (g o : Nat) (t : TypeId) (fz : Nat × Nat) : ∀ (vs : List Value) (i : Nat) (cur : Array Value) (w : World), w.heap[g]? = some (.cells cur t fz) → (fz.1 = fz.2 ∨ cur.size ≤ fz.1) → o + i + vs.length ≤ cur.size → (∀ v ∈ vs, v.oneCell' = true) →
    (storeCells ⟨g, o, none⟩ vs i).run P w = .ok () (w.setRow g (cur.toList.take (o + i) ++ vs ++ cur.toList.drop (o + i + vs.length)).toArray)
  | [], i, cur, w, hg, _, _, _ => by
    simp only [storeCells, List.append_nil, List.length_nil, Nat.add_zero, List.take_append_drop, Array.toArray_toList]
    rw [setRow_self w g cur t fz hg]
    rfl
  | v :: rest, i, cur, w, hg, hfz, hl, h1 => by
    have hi : o + i < cur.size := by simp at hl; omega
    have hadd : (⟨g, o, none⟩ : Addr).add i = ⟨g, o + i, none⟩ := add_off g o i
    have hcell : w.cell? ⟨g, o + i, none⟩ = some cur[o + i] := by simp [World.cell?, hg, hi]
    have hfro : w.frozen? ⟨g, o + i, none⟩ = false := by
      obtain ⟨lo, hi'⟩ := fz
      simp only [World.frozen?, hg, Bool.and_eq_false_iff, decide_eq_false_iff_not]
      simp only at hfz
      omega
    have hst : (store ((⟨g, o, none⟩ : Addr).add i) v).run P w = .ok () (w.setRow g (cur.setIfInBounds (o + i) v)) := by
      rw [hadd, run_store P w _ v _ (h1 v (by simp)), hcell]
      simp [hfro, setCell_eq_setRow w g (o + i) cur t fz v hg]
    have ih := run_stores P g o t fz rest (i + 1) (cur.setIfInBounds (o + i) v) (w.setRow g (cur.setIfInBounds (o + i) v)) (setRow_heap w g cur _ t _ hg) (by simpa using hfz) (by simp at hl ⊢; omega) (fun x hx => h1 x (by simp [hx]))
    simp only [storeCells, Sem.run_bind, hst, Result.andThen_ok, ih, setRow_setRow]
    congr 3
    have e := list_seg_step cur.toList (o + i) v rest (by simp at hl ⊢; omega)
    simpa [Array.toList_setIfInBounds, Nat.add_assoc] using e
end Go.AM
namespace Go.AM
variable {P : Program} {tm : TM} {H : Heap}

theorem agg_cells (cs : Array Value) : (Value.agg cs).cells = cs := rfl
/-- A variable laid anew. -/
theorem newVar_ok {g : G} (hg : GOk g) (t : TypeId) {x : AV} {v : Value} {n : Nat} (hx : Rel g x v) (hf : fits x n = true) (hn : 0 < n) :
    ∃ g', (newVar t v).run P g.w = .ok ⟨g.w.heap.size, 0, none⟩ g'.w ∧ g'.H = g.H ++ [some ⟨n, true, [x]⟩] ∧ GOk g' ∧ Sub g g' ∧ Rel g' (.ref g.H.length 0 0) (.pointer (some ⟨g.w.heap.size, 0, none⟩)) := by
  obtain ⟨hfl, _⟩ := fits_flat hx hf hn
  refine ⟨g.push v.cells t (0, 0) ⟨n, true, [x]⟩, ?_, rfl, ?_, push_ren g _ _ _ _ hg, ?_⟩
  · simp [newVar, newRow, G.push]
  · refine push_ok hg rfl hn (by simp [hfl.1]) (.inl rfl) (fun _ => ⟨[v], RelL.cons hx .nil, fun i y hy => ?_⟩)
    cases i with
    | zero => simp at hy; subst hy; exact ⟨hfl, fun j _ => by simp⟩
    | succ i => simp at hy
  · simp only [Rel]
    refine ⟨by simp [G.push], _, rfl, fun k hk => ?_⟩
    simp [G.push]
theorem ok_alloc {o : Oper} {t : TypeId} (ho : o.op = .alloc t) {i : TI} (hi : tyI P t = some i) (hf : fits (cav i.zero) i.size = true) (hn : 0 < i.size) : OpOk P tm H o (.ref H.length 0 0) (H ++ [some ⟨i.size, true, [cav i.zero]⟩]) := by
  intro g a hH hg ht
  subst hH
  obtain ⟨_, _, e3, _⟩ := tyI_run hi g.w
  obtain ⟨g', h1, h2, h3, h4, h5⟩ := newVar_ok (P := P) hg t (cav_rel g i.zero) hf hn
  refine ⟨_, g', .inl ?_, h2, h3, h5, h4⟩
  simp [execOp, ho, Instr.alloc, e3, h1]
theorem ok_box {o : Oper} {t : TypeId} {x : Operand} (ho : o.op = .box t x) {n : Nat} (hf : fits (ev tm x) n = true) (hn : 0 < n) : OpOk P tm H o (.ref H.length 0 0) (H ++ [some ⟨n, true, [ev tm x]⟩]) := by
  intro g a hH hg ht
  subst hH
  obtain ⟨g', h1, h2, h3, h4, h5⟩ := newVar_ok (P := P) hg t (ht x (by simp [ho, Op.operands, Call.operands])) hf hn
  refine ⟨_, g', .inl ?_, h2, h3, h5, h4⟩
  simp [execOp, ho, Instr.box, h1]

/-- Cells put in the place of others. -/
def splice {α : Type} (l : List α) (o : Nat) (m : List α) : List α := l.take o ++ m ++ l.drop (o + m.length)
theorem RelL.splice {g : G} {l m : List AV} {ys zs : List Value} (o : Nat) (h : RelL g l ys) (h' : RelL g m zs) : RelL g (splice l o m) (Go.AM.splice ys o zs) := by
  unfold Go.AM.splice
  rw [h'.length]
  exact ((h.take o).append h').append (h.drop _)
/-- What an element is when cells of it are written. -/
def putA (k : Nat) (el : AV) (f : Nat) (x : AV) (n : Nat) : AV := if f = 0 ∧ n = k then x else .agg (splice el.cells f x.cells)
theorem ok_store {o : Oper} {t : TypeId} {p x : Operand} (ho : o.op = .store t p x) {i : TI} (hi : tyI P t = some i) (hi0 : 0 < i.size) {id j f : Nat} (hp : ev tm p = .ref id j f) {k : Blk} (hk : hget H id = some k) (hown : k.own = true)
    {el : AV} (hel : k.els[j]? = some el) (hx : fits (ev tm x) i.size = true) (hfit : f + i.size ≤ k.es) (hcl : (f = 0 ∧ i.size = k.es) ∨ el.cells.length = k.es) :
    OpOk P tm H o .any (H.set id (some { k with els := k.els.set j (putA k.es el f (ev tm x) i.size) })) := by
  intro g a hH hg ht
  subst hH
  obtain ⟨_, e2, _⟩ := tyI_run hi g.w
  have hpr := ht p (by simp [ho, Op.operands, Call.operands])
  rw [hp] at hpr
  simp only [Rel] at hpr
  obtain ⟨_, pa, hpa, hpr⟩ := hpr
  have hpa' := hpr k hk
  subst hpa'
  obtain ⟨hflat, hcells⟩ := fits_flat (ht x (by simp [ho, Op.operands, Call.operands])) hx hi0
  obtain ⟨hs0, c, e, lo, hi', y, m1, m2, m3, m4, m5, m6, xs, m7, m8, m9⟩ := lies_at hg hk hel
  have hb := hg.blk id k hk
  have hj : j < k.els.length := (List.getElem?_eq_some_iff.1 hel).1
  generalize hv : a.eval x = v at hflat hcells
  have hxr : Rel g (ev tm x) v := hv ▸ ht x (by simp [ho, Op.operands, Call.operands])
  -- the block behind the store
  let pos := g.bs id + (j * k.es + f)
  have hroom : pos + v.cells.toList.length ≤ c.size := by
    have h1 := hb.fit
    have h2 : (j + 1) * k.es ≤ k.els.length * k.es := Nat.mul_le_mul_right _ (by omega)
    rw [Nat.add_mul, Nat.one_mul] at h2
    have h3 := hflat.1
    simp only [pos, Array.length_toList]
    omega
  have hst := run_stores P (g.φ id) pos e (lo, hi') v.cells.toList 0 c g.w m1 m3 (by simpa using hroom) (fun z hz => by
    obtain ⟨q, hq⟩ := List.getElem?_of_mem hz
    exact hflat.2 q z (by simpa using hq))
  let c' : Array Value := (c.toList.take (pos + 0) ++ v.cells.toList ++ c.toList.drop (pos + 0 + v.cells.toList.length)).toArray
  have hc's : c'.size = c.size := by
    simp only [c', List.size_toArray, List.length_append, List.length_take, List.length_drop, Array.length_toList] at hroom ⊢
    omega
  have hc'get : ∀ m, c'[m]? = if pos ≤ m ∧ m < pos + i.size then v.cells[m - pos]? else c[m]? := by
    intro m
    have h3 := hflat.1
    simp only [c', List.getElem?_toArray, Nat.add_zero, Array.length_toList] at hroom ⊢
    by_cases h1 : m < pos
    · rw [List.append_assoc, List.getElem?_append_left (by simp; omega), List.getElem?_take, if_pos h1, if_neg (by omega)]
      simp
    · by_cases h2 : m < pos + i.size
      · rw [if_pos ⟨by omega, h2⟩, List.getElem?_append_left (by simp; omega), List.getElem?_append_right (by simp; omega)]
        simp only [List.length_take, Array.length_toList, Array.getElem?_toList]
        congr 1
        omega
      · rw [if_neg (by omega), List.getElem?_append_right (by simp; omega), List.getElem?_drop]
        simp only [List.length_append, List.length_take, Array.length_toList, Array.getElem?_toList]
        congr 1
        omega
  -- the new element
  obtain ⟨y', hy'1, hy'2, hy'3⟩ : ∃ y', Rel g (putA k.es el f (ev tm x) i.size) y' ∧ Flat y' k.es ∧ ∀ q, q < k.es → y'.cells[q]? = if f ≤ q ∧ q < f + i.size then v.cells[q - f]? else y.cells[q]? := by
    unfold putA
    by_cases hw : f = 0 ∧ i.size = k.es
    · rw [if_pos hw]
      refine ⟨v, hxr, by rw [← hw.2]; exact hflat, fun q hq => ?_⟩
      rw [if_pos (by omega), hw.1]
      simp
    · rw [if_neg hw]
      have hcl' : el.cells.length = k.es := hcl.resolve_left hw
      have hne : el.cells ≠ [] := fun e => by rw [e] at hcl'; simp at hcl'; have := hb.pos; omega
      have hyc := cells_rel m4 hne
      refine ⟨.agg (splice y.cells.toList f v.cells.toList).toArray, ?_, ?_, fun q hq => ?_⟩
      · simp only [Rel]
        exact ⟨_, rfl, by simpa using hyc.splice f hcells⟩
      · have h3 := hflat.1
        have h5 := m5.1
        refine ⟨by simp only [agg_cells, splice, List.size_toArray, List.length_append, List.length_take, List.length_drop, Array.length_toList]; omega, fun q z hz => ?_⟩
        have hz' : z ∈ splice y.cells.toList f v.cells.toList := by
          simp only [agg_cells, List.getElem?_toArray] at hz
          exact List.mem_of_getElem? hz
        simp only [splice, List.mem_append] at hz'
        rcases hz' with (hz' | hz') | hz'
        · obtain ⟨q', hq'⟩ := List.getElem?_of_mem (List.mem_of_mem_take hz'); exact m5.2 q' z (by simpa using hq')
        · obtain ⟨q', hq'⟩ := List.getElem?_of_mem hz'; exact hflat.2 q' z (by simpa using hq')
        · obtain ⟨q', hq'⟩ := List.getElem?_of_mem (List.mem_of_mem_drop hz'); exact m5.2 q' z (by simpa using hq')
      · have h3 := hflat.1
        have h5 := m5.1
        simp only [agg_cells, splice, List.getElem?_toArray]
        by_cases h1 : q < f
        · rw [List.append_assoc, List.getElem?_append_left (by simp; omega), List.getElem?_take, if_pos h1, if_neg (by omega)]
          simp
        · by_cases h2 : q < f + i.size
          · rw [if_pos ⟨by omega, h2⟩, List.getElem?_append_left (by simp; omega), List.getElem?_append_right (by simp; omega)]
            simp only [List.length_take, Array.length_toList, Array.getElem?_toList]
            congr 1
            omega
          · rw [if_neg (by omega), List.getElem?_append_right (by simp; omega), List.getElem?_drop]
            simp only [List.length_append, List.length_take, Array.length_toList, Array.getElem?_toList]
            congr 1
            omega
  have hlies : Lies g (g.bs id) { k with els := k.els.set j (putA k.es el f (ev tm x) i.size) } c' := by
    refine ⟨xs.set j y', RelL.set j m7 hy'1, fun q z hz => ?_⟩
    rw [List.getElem?_set] at hz
    by_cases hq : j = q
    · subst hq
      have hjx : j < xs.length := (List.getElem?_eq_some_iff.1 m8).1
      simp only [if_true, hjx, Option.some.injEq] at hz
      subst hz
      refine ⟨hy'2, fun q hq => ?_⟩
      rw [hy'3 q hq, hc'get]
      simp only [pos]
      by_cases h1 : f ≤ q ∧ q < f + i.size
      · rw [if_pos h1, if_pos (by omega)]
        congr 1
        omega
      · rw [if_neg h1, if_neg (by omega)]
        exact m6 q hq
    · simp only [hq, if_false] at hz
      obtain ⟨f1, f2⟩ := m9 q z hz
      refine ⟨f1, fun r hr => ?_⟩
      rw [hc'get, if_neg, f2 r hr]
      simp only [pos]
      have hr' : r < k.es := hr
      rcases Nat.lt_or_gt_of_ne hq with h | h
      · have : (j + 1) * k.es ≤ q * k.es := Nat.mul_le_mul_right _ h
        rw [Nat.add_mul, Nat.one_mul] at this
        omega
      · have : (q + 1) * k.es ≤ j * k.es := Nat.mul_le_mul_right _ h
        rw [Nat.add_mul, Nat.one_mul] at this
        omega
  have hwr := write_ok hg hk hown hs0 m1 hc's (els := k.els.set j (putA k.es el f (ev tm x) i.size)) (by simpa using hb.fit) hlies
  refine ⟨undef, _, .inr ⟨?_, rfl⟩, rfl, hwr.1, by simp [Rel], hwr.2⟩
  have hsz : ¬ v.cells.size ≠ i.size := by simp [hflat.1]
  simp only [execOp, ho, hv, Instr.storeAt, hpa, Instr.sureAddr, Sem.run_bind, Sem.run_pure, Result.andThen_ok, storeVar, e2]
  rw [if_neg hsz]
  have : (storeCells ⟨g.φ id, pos, none⟩ v.cells.toList).run P g.w = .ok () (g.w.setRow (g.φ id) c') := hst
  simp only [pos] at this
  rw [this]
  rfl
end Go.AM
namespace Go.AM
variable {P : Program} {tm : TM} {H : Heap}

theorem wrap_i64 {n : Int} (h : -9223372036854775808 ≤ n) (h' : n ≤ 9223372036854775807) : IntKind.i64.wrap n = n := by
  simp [IntKind.wrap, IntKind.bits, IntKind.signed]
  split <;> omega
theorem wrap_u8 (n : Int) : IntKind.u8.wrap n = n % 256 := by simp [IntKind.wrap, IntKind.bits, IntKind.signed]
theorem wrap_u32 (n : Int) : IntKind.u32.wrap n = n % 4294967296 := by simp [IntKind.wrap, IntKind.bits, IntKind.signed]
theorem wrap_u64 (n : Int) : IntKind.u64.wrap n = n % 18446744073709551616 := by simp [IntKind.wrap, IntKind.bits, IntKind.signed]

theorem zeroArr_get (z : Array Value) (N m : Nat) : ((Array.range N).map (z[· % z.size]!))[m]? = if m < N then some (z[m % z.size]!) else none := by
  simp only [Array.getElem?_map]
  by_cases h : m < N
  · rw [if_pos h, Array.getElem?_eq_getElem (by simpa using h)]; simp
  · rw [if_neg h, Array.getElem?_eq_none (by simpa using h)]; simp
theorem fold_put : ∀ (l : List Value) (s off : Nat) (c : Array Value), off + s + l.length ≤ c.size →
    ((l.zipIdx s).foldl (fun cs (p : Value × Nat) => cs.setIfInBounds (off + p.2) p.1) c).size = c.size ∧
    ∀ m : Nat, ((l.zipIdx s).foldl (fun cs (p : Value × Nat) => cs.setIfInBounds (off + p.2) p.1) c)[m]? = if off + s ≤ m ∧ m < off + s + l.length then l[m - (off + s)]? else c[m]?
  | [], s, off, c, _ => ⟨rfl, fun m => by rw [if_neg (by simp only [List.length_nil]; omega)]; rfl⟩
  | v :: l, s, off, c, h => by
    simp only [List.length_cons] at h
    obtain ⟨h1, h2⟩ := fold_put l (s + 1) off (c.setIfInBounds (off + s) v) (by simp; omega)
    simp only [List.zipIdx_cons, List.foldl_cons]
    refine ⟨by rw [h1]; simp, fun m => ?_⟩
    rw [h2 m]
    simp only [List.length_cons]
    by_cases hm : off + (s + 1) ≤ m ∧ m < off + (s + 1) + l.length
    · rw [if_pos hm, if_pos (by omega)]
      have : m - (off + s) = (m - (off + (s + 1))) + 1 := by omega
      rw [this, List.getElem?_cons_succ]
    · rw [if_neg hm, Array.getElem?_setIfInBounds]
      by_cases he : off + s = m
      · subst he
        rw [if_pos rfl, if_pos (by omega), if_pos (by omega)]
        simp
      · rw [if_neg he, if_neg (by omega)]
theorem fold_put_arr (v : Array Value) (off : Nat) (c : Array Value) (h : off + v.size ≤ c.size) :
    (v.zipIdx.foldl (fun cs (p : Value × Nat) => cs.setIfInBounds (off + p.2) p.1) c).size = c.size ∧
    ∀ m : Nat, (v.zipIdx.foldl (fun cs (p : Value × Nat) => cs.setIfInBounds (off + p.2) p.1) c)[m]? = if off ≤ m ∧ m < off + v.size then v[m - off]? else c[m]? := by
  have := fold_put v.toList 0 off c (by simpa using h)
  rw [← Array.foldl_toList, Array.toList_zipIdx]
  simpa using this
theorem fold_put_list (v : Array Value) (off : Nat) (c : Array Value) (h : off + v.size ≤ c.size) :
    (v.zipIdx.foldl (fun cs (p : Value × Nat) => cs.setIfInBounds (off + p.2) p.1) c).toList = splice c.toList off v.toList := by
  obtain ⟨h1, h2⟩ := fold_put_arr v off c h
  apply List.ext_getElem?
  intro m
  rw [Array.getElem?_toList, h2 m]
  simp only [splice, Array.length_toList]
  by_cases h3 : m < off
  · rw [if_neg (by omega), List.append_assoc, List.getElem?_append_left (by simp; omega), List.getElem?_take, if_pos h3]; simp
  · by_cases h4 : m < off + v.size
    · rw [if_pos ⟨by omega, h4⟩, List.getElem?_append_left (by simp; omega), List.getElem?_append_right (by simp; omega)]
      simp only [List.length_take, Array.length_toList, Array.getElem?_toList]
      congr 1
      omega
    · rw [if_neg (by omega), List.getElem?_append_right (by simp; omega), List.getElem?_drop]
      simp only [List.length_append, List.length_take, Array.length_toList, Array.getElem?_toList]
      congr 1
      omega
def fillA (place : Nat → Option (Nat × Nat)) (cells : List AV) : List (Nat × AV) → Option (List AV)
  | [] => some cells
  | (i, x) :: rest => match place i with
    | none => none
    | some (off, size) => if x.cells.length = size ∧ x.cells ≠ [] ∧ off + size ≤ cells.length then fillA place (splice cells off x.cells) rest else none
theorem fill_sound {g : G} (place : Nat → Option (Nat × Nat)) : ∀ (ps : List (Nat × AV)) (vs : List (Nat × Value)) (cells : List AV) (c : Array Value) (r : List AV), RelL g cells c.toList → vs.map (·.1) = ps.map (·.1) → RelL g (ps.map (·.2)) (vs.map (·.2)) →
    fillA place cells ps = some r → ∃ c', Instr.fill place c vs = some c' ∧ RelL g r c'.toList
  | [], vs, cells, c, r, h1, h2, h3, h4 => by
    simp at h2
    subst h2
    simp [fillA] at h4
    subst h4
    exact ⟨c, rfl, h1⟩
  | (i, x) :: ps, vs, cells, c, r, h1, h2, h3, h4 => by
    cases vs with
    | nil => simp at h2
    | cons q vs =>
      obtain ⟨i', v⟩ := q
      simp only [List.map_cons, List.cons.injEq] at h2
      obtain ⟨rfl, h2⟩ := h2
      simp only [List.map_cons, RelL] at h3
      obtain ⟨z, zs, hz, hx, h3⟩ := h3
      cases hz
      simp only [fillA] at h4
      cases hp : place i' with
      | none => rw [hp] at h4; cases h4
      | some pl =>
        obtain ⟨off, size⟩ := pl
        rw [hp] at h4
        simp only at h4
        split at h4
        case isFalse => cases h4
        rename_i hc
        obtain ⟨c1, c2, c3⟩ := hc
        have hxc := cells_rel hx c2
        have hl1 : v.cells.size = size := by rw [← c1, ← hxc.length]; simp
        have hl2 : c.size = cells.length := by rw [← h1.length]; simp
        have hput := fold_put_list v.cells off c (by omega)
        obtain ⟨c', e1, e2⟩ := fill_sound place ps vs (splice cells off x.cells) (v.cells.zipIdx.foldl (fun cs (p : Value × Nat) => cs.setIfInBounds (off + p.2) p.1) c) r (by rw [hput]; exact h1.splice off hxc) h2 h3 h4
        refine ⟨c', ?_, e2⟩
        simp only [Instr.fill, hp]
        rw [if_neg (by simp [hl1]; omega)]
        exact e1
/-- The places of a struct's fields. -/
def placesA (P : Program) (fs : List Field) : Option (List (Nat × Nat)) := fs.mapM fun f => (tyI P f.type).map fun i => (f.offset, i.size)
theorem placesA_sound : ∀ (fs : List Field) (ps : List (Nat × Nat)), placesA P fs = some ps → fs.mapM (fun f => (P.info? f.type).map fun i => (f.offset, i.size)) = some ps
  | [], ps, h => by simpa [placesA] using h
  | f :: fs, ps, h => by
    simp only [placesA, List.mapM_cons, Option.bind_eq_bind, Option.pure_def] at h ⊢
    obtain ⟨a, ha, h⟩ := Option.bind_eq_some_iff.1 h
    obtain ⟨b, hb, h⟩ := Option.bind_eq_some_iff.1 h
    have hb' := placesA_sound fs b hb
    obtain ⟨i, hi, rfl⟩ := Option.map_eq_some_iff.1 ha
    unfold tyI at hi
    obtain ⟨ti, h1, hi⟩ := Option.bind_eq_some_iff.1 hi
    obtain ⟨d, h2, hi⟩ := Option.bind_eq_some_iff.1 hi
    obtain ⟨z, h3, hi⟩ := Option.map_eq_some_iff.1 hi
    subst hi
    simp only [h1, Option.map_some, Option.bind_some, hb']
    exact h
def buildA (P : Program) (i : TI) (ps : List (Nat × AV)) : Option (List AV) :=
  match i.desc with
  | .struct fs => (placesA P fs.toList).bind fun pl => fillA (fun k => pl[k]?) (cav i.zero).cells ps
  | .array _ e => (tyI P e).bind fun j => fillA (fun k => some (k * j.size, j.size)) (cav i.zero).cells ps
  | _ => none
theorem cav_cells {g : G} {z : Value} : RelL g (cav z).cells z.cells.toList := by
  cases z <;> first | exact RelL.vs g _ | exact RelL.cons (by simp [Rel]) .nil
theorem ok_build {o : Oper} {t : TypeId} {ps : Array (Nat × Operand)} (ho : o.op = .build t ps) {i : TI} (hi : tyI P t = some i) {r : List AV} (hr : buildA P i (ps.toList.map fun p => (p.1, ev tm p.2)) = some r) : OpOk P tm H o (.agg r) H := by
  refine OpOk.val fun g a hH hg ht => ?_
  have hti : ∃ ti, P.info? t = some ti ∧ P.underlying t = some i.desc ∧ ti.zero = some i.zero := by
    unfold tyI at hi
    obtain ⟨ti, h1, hi⟩ := Option.bind_eq_some_iff.1 hi
    obtain ⟨d, h2, hi⟩ := Option.bind_eq_some_iff.1 hi
    obtain ⟨z, h3, hi⟩ := Option.map_eq_some_iff.1 hi
    subst hi
    exact ⟨ti, h1, h2, h3⟩
  obtain ⟨ti, t1, t2, t3⟩ := hti
  let vs := (ps.map fun p => (p.1, a.eval p.2)).toList
  have hv1 : vs.map (·.1) = (ps.toList.map fun p => (p.1, ev tm p.2)).map (·.1) := by simp [vs]
  have hv2 : RelL g ((ps.toList.map fun p => (p.1, ev tm p.2)).map (·.2)) (vs.map (·.2)) := by
    have := eval_list (g := g) (a := a) (tm := tm) (ps.toList.map (·.2)) (fun y hy => ht y (by simpa [ho, Op.operands] using hy))
    simpa [vs, List.map_map, Function.comp_def] using this
  have hb : ∃ c, P.built t vs = some c ∧ RelL g r c.toList := by
    unfold buildA at hr
    split at hr
    · rename_i fs hd
      obtain ⟨pl, hpl, hr⟩ := Option.bind_eq_some_iff.1 hr
      obtain ⟨c, h1, h2⟩ := fill_sound _ _ vs _ i.zero.cells r cav_cells hv1 hv2 hr
      refine ⟨c, ?_, h2⟩
      have := placesA_sound _ _ hpl
      unfold Program.built
      simp only [t1, t2, hd, t3, this]
      simpa using h1
    · rename_i n e hd
      obtain ⟨j, hj, hr⟩ := Option.bind_eq_some_iff.1 hr
      obtain ⟨c, h1, h2⟩ := fill_sound _ _ vs _ i.zero.cells r cav_cells hv1 hv2 hr
      refine ⟨c, ?_, h2⟩
      unfold tyI at hj
      obtain ⟨tj, j1, hj⟩ := Option.bind_eq_some_iff.1 hj
      obtain ⟨d, j2, hj⟩ := Option.bind_eq_some_iff.1 hj
      obtain ⟨z, j3, hj⟩ := Option.map_eq_some_iff.1 hj
      subst hj
      unfold Program.built
      simp only [t1, t2, hd, t3, j1]
      exact h1
    · cases hr
  obtain ⟨c, hc1, hc2⟩ := hb
  refine ⟨.agg c, ?_, by simp only [Rel]; exact ⟨c, rfl, hc2⟩⟩
  have := run_build (P := P) g.w t (ps.map fun p => (p.1, a.eval p.2)) c hc1
  simp only [execOp, ho, Sem.run_bind]
  have e : (ps.map fun (x : Nat × Operand) => match x with | (i, x) => (i, a.eval x)) = ps.map fun p => (p.1, a.eval p.2) := rfl
  rw [e, this]
  rfl
end Go.AM
