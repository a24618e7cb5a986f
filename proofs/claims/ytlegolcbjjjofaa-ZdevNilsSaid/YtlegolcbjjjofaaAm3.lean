/- The abstract machine: single operations. -/
import Derived.Test.YtlegolcbjjjofaaAm2
namespace Go.AM
variable {P : Program} {tm : TM} {H : Heap}

structure TI where
  desc : TypeDesc
  size : Nat
  bytes : Nat
  zero : Value
def tyI (P : Program) (t : TypeId) : Option TI := (P.info? t).bind fun i => (P.underlying t).bind fun d => i.zero.map fun z => ⟨d, i.size, i.bytes, z⟩
def isAggD : TypeDesc → Bool
  | .struct _ => true
  | .array _ _ => true
  | _ => false
theorem tyI_run {t : TypeId} {i : TI} (h : tyI P t = some i) (w : World) :
    (underlying t).run P w = .ok i.desc w ∧ (sizeOf t).run P w = .ok i.size w ∧ (zeroValue t).run P w = .ok i.zero w ∧ (isAgg t).run P w = .ok (isAggD i.desc) w ∧ (∃ ti, (typeInfo t).run P w = .ok ti w ∧ ti.bytes = i.bytes) := by
  unfold tyI at h
  obtain ⟨ti, h1, h⟩ := Option.bind_eq_some_iff.1 h
  obtain ⟨d, h2, h⟩ := Option.bind_eq_some_iff.1 h
  obtain ⟨z, h3, h⟩ := Option.map_eq_some_iff.1 h
  subst h
  have e1 : (underlying t).run P w = .ok d w := by simp [underlying, h2]
  have e2 : (typeInfo t).run P w = .ok ti w := by simp [typeInfo, h1]
  refine ⟨e1, by simp [sizeOf, e2], by simp [zeroValue, e2, h3], ?_, ti, e2, rfl⟩
  simp only [isAgg, Sem.run_bind, e1, Result.andThen_ok]
  cases d <;> rfl

def AV.cells : AV → List AV
  | .agg l => l
  | .v (.agg cs) => cs.toList.map .v
  | .any => []
  | x => [x]
/-- One cell that can be laid. -/
def AV.leaf : AV → Bool
  | .v x => x.oneCell'
  | .z0 => true
  | .fz .. => true
  | .fp .. => true
  | .sl .. => true
  | .ref .. => true
  | .fn .. => true
  | .ub => true
  | _ => false
def fits (x : AV) (n : Nat) : Bool := x.cells.length == n && x.cells.all AV.leaf
theorem RelL.vs_iff (g : G) : ∀ (l ys : List Value), RelL g (l.map .v) ys ↔ ys = l
  | [], ys => by simp [RelL]
  | x :: l, ys => by
    simp only [List.map_cons, RelL, Rel, RelL.vs_iff g l]
    constructor
    · rintro ⟨z, zs, rfl, rfl, rfl⟩; rfl
    · rintro rfl; exact ⟨x, l, rfl, rfl, rfl⟩
theorem cells_rel {g : G} {x : AV} {y : Value} (h : Rel g x y) (hx : x.cells ≠ []) : RelL g x.cells y.cells.toList := by
  cases x with
  | any => exact absurd rfl hx
  | agg l => simp only [Rel] at h; obtain ⟨cs, rfl, hl⟩ := h; exact hl
  | v u =>
    simp only [Rel] at h; subst h
    cases y <;> first | exact RelL.cons (by simp [Rel]) .nil | exact RelL.vs g _
  | ub => have h' := h; simp only [Rel] at h; obtain ⟨b, rfl⟩ := h; exact RelL.cons h' .nil
  | z0 => have h' := h; simp only [Rel] at h; obtain ⟨A, rfl⟩ := h; exact RelL.cons h' .nil
  | fz es l => have h' := h; simp only [Rel] at h; obtain ⟨A, c, xs, rfl, _⟩ := h; exact RelL.cons h' .nil
  | fp l f => have h' := h; simp only [Rel] at h; obtain ⟨A, c, xs, rfl, _⟩ := h; exact RelL.cons h' .nil
  | tup l => have h' := h; simp only [Rel] at h; obtain ⟨A, rfl, _⟩ := h; exact RelL.cons h' .nil
  | fn f a b => have h' := h; simp only [Rel] at h; obtain ⟨A, c, rfl, _⟩ := h; exact RelL.cons h' .nil
  | sl id off len => have h' := h; simp only [Rel] at h; obtain ⟨_, a, c, rfl, _⟩ := h; exact RelL.cons h' .nil
  | ref id i f => have h' := h; simp only [Rel] at h; obtain ⟨_, a, rfl, _⟩ := h; exact RelL.cons h' .nil
theorem leaf_rel {g : G} {x : AV} {y : Value} (h : Rel g x y) (hx : x.leaf = true) : y.oneCell' = true := by
  cases x with
  | any => cases hx
  | agg l => cases hx
  | tup l => cases hx
  | v u => simp only [Rel] at h; subst h; exact hx
  | ub => simp only [Rel] at h; obtain ⟨b, rfl⟩ := h; rfl
  | z0 => simp only [Rel] at h; obtain ⟨A, rfl⟩ := h; rfl
  | fz es l => simp only [Rel] at h; obtain ⟨A, c, xs, rfl, _⟩ := h; rfl
  | fp l f => simp only [Rel] at h; obtain ⟨A, c, xs, rfl, _⟩ := h; rfl
  | fn f a b => simp only [Rel] at h; obtain ⟨A, c, rfl, _⟩ := h; rfl
  | sl id off len => simp only [Rel] at h; obtain ⟨_, a, c, rfl, _⟩ := h; rfl
  | ref id i f => simp only [Rel] at h; obtain ⟨_, a, rfl, _⟩ := h; rfl
theorem fits_flat {g : G} {x : AV} {y : Value} {n : Nat} (h : Rel g x y) (hf : fits x n = true) (hn : 0 < n) : Flat y n ∧ RelL g x.cells y.cells.toList := by
  simp only [fits, Bool.and_eq_true, beq_iff_eq, List.all_eq_true] at hf
  obtain ⟨h1, h2⟩ := hf
  have hne : x.cells ≠ [] := fun e => by rw [e] at h1; simp at h1; omega
  have hc := cells_rel h hne
  refine ⟨⟨by rw [← h1, ← hc.length]; simp, fun j v hv => ?_⟩, hc⟩
  have hj : j < x.cells.length := by
    rw [← hc.length]
    have := (Array.getElem?_eq_some_iff.1 hv).1
    simpa using this
  exact leaf_rel (hc.rel (List.getElem?_eq_getElem hj) (by simpa using hv)) (h2 _ (List.getElem_mem hj))

/-- The operands hold what the state says. -/
def OpRel (g : G) (tm : TM) (a : Act) (o : Oper) : Prop := ∀ y, y ∈ o.op.operands → Rel g (ev tm y) (a.eval y)
theorem TmRel.op {g : G} {a : Act} {o : Oper} (h : TmRel g tm (tmpsOf a)) : OpRel g tm a o := fun y _ => ev_rel h y
/-- What an operation does. -/
def OpOk (P : Program) (tm : TM) (H : Heap) (o : Oper) (x : AV) (H' : Heap) : Prop :=
  ∀ g a, g.H = H → GOk g → OpRel g tm a o → ∃ v g', ((execOp a.eval o).run P g.w = .ok (.value v) g'.w ∨ ((execOp a.eval o).run P g.w = .ok .skip g'.w ∧ v = undef)) ∧ g'.H = H' ∧ GOk g' ∧ Rel g' x v ∧ Sub g g'
theorem OpOk.val {o : Oper} {x : AV} (h : ∀ g a, g.H = H → GOk g → OpRel g tm a o → ∃ v, (execOp a.eval o).run P g.w = .ok (.value v) g.w ∧ Rel g x v) : OpOk P tm H o x H := by
  intro g a hH hg ht
  obtain ⟨v, h1, h2⟩ := h g a hH hg ht
  exact ⟨v, g, .inl h1, hH, hg, h2, .refl g⟩

/-- Another world over the same memory. -/
theorem reworld {g : G} {w' : World} (hw : w'.heap = g.w.heap) (hre : Rest g.w w') (hg : GOk g) : GOk { g with w := w' } ∧ Sub g { g with w := w' } := by
  have hr : Ren some g { g with w := w' } := ⟨fun _ h => h, fun b _ => by rw [hw], fun i j hi hj => by cases hj; exact ⟨hi, fun k hk => ⟨k, hk, rfl, rfl, rfl, rfl⟩⟩⟩
  refine ⟨⟨fun id k hk => ?_, hg.inj, fun b hb => by simp only [hw]; exact hg.zlt b hb⟩, hr, ⟨hre, by simp [hw], fun b _ _ => by simp [hw], fun _ h => h, fun _ h => .inl h, fun _ h => .inl h⟩⟩
  obtain ⟨h1, h2, h3, h4, h5⟩ := hg.blk id k hk
  refine ⟨h1, h2, h3, h4, fun h0 => ?_⟩
  obtain ⟨c, e, lo, hi, m1, m2, m3, xs, m4, m5⟩ := h5 h0
  exact ⟨c, e, lo, hi, by simp only [hw]; exact m1, m2, m3, xs, RelL.mono hr m4, m5⟩

/-- A block more. -/
def G.push (g : G) (c : Array Value) (e : TypeId) (fr : Nat × Nat) (b : Blk) : G where
  w := g.w.alloc (.cells c e fr)
  H := g.H ++ [some b]
  φ := fun i => if i = g.H.length then g.w.heap.size else g.φ i
  bs := fun i => if i = g.H.length then 0 else g.bs i
  sz := fun i => if i = g.H.length then c.size else g.sz i
  Z := g.Z
theorem push_ren (g : G) (c : Array Value) (e : TypeId) (fr : Nat × Nat) (b : Blk) (hg : GOk g) : Sub g (g.push c e fr b) := by
  refine ⟨⟨fun _ h => h, fun x hx => ?_, fun i j hi hj => ?_⟩, ⟨⟨rfl, rfl, rfl⟩, by simp [G.push], fun x hx _ => ?_, fun _ h => h, fun _ h => .inl h, fun x hx => ?_⟩⟩
  · have := hg.zlt x hx
    simp only [G.push, World.alloc]
    rw [Array.getElem?_push_lt this, Array.getElem?_eq_getElem this]
  · cases hj
    refine ⟨by simp [G.push]; omega, fun k hk => ⟨k, ?_, rfl, ?_, ?_, ?_⟩⟩
    · simp only [G.push, hget_append, hi, if_true] at hk; exact hk
    · simp only [G.push]; rw [if_neg (by omega)]
    · simp only [G.push]; rw [if_neg (by omega)]
    · simp only [G.push]; rw [if_neg (by omega)]
  · simp only [G.push, World.alloc]
    rw [Array.getElem?_push_lt hx, Array.getElem?_eq_getElem hx]
  · obtain ⟨id, k, h1, h2, h3, h4⟩ := hx
    simp only [G.push] at h1 h3 h4
    by_cases hi : id < g.H.length
    · rw [hget_append, if_pos hi] at h1
      rw [if_neg (by omega)] at h3 h4
      exact .inl ⟨id, k, h1, h2, h3, h4⟩
    · have := hget_lt h1
      simp at this
      rw [if_pos (by omega)] at h4
      right; omega
theorem push_ok {g : G} {c : Array Value} {e : TypeId} {fr : Nat × Nat} {b : Blk} (hg : GOk g) (hb : b.own = true) (hp : 0 < b.es) (hf : b.els.length * b.es ≤ c.size) (hfr : fr.1 = fr.2 ∨ c.size ≤ fr.1) (hl : c.size ≠ 0 → Lies g 0 b c) : GOk (g.push c e fr b) := by
  have hs := push_ren g c e fr b hg
  have hget' : ∀ j k, hget (g.push c e fr b).H j = some k → (j < g.H.length ∧ hget g.H j = some k) ∨ (j = g.H.length ∧ k = b) := by
    intro j k h
    simp only [G.push, hget_append] at h
    by_cases hj : j < g.H.length
    · rw [if_pos hj] at h; exact .inl ⟨hj, h⟩
    · rw [if_neg hj] at h
      have := hget_lt h
      simp at this
      have e : j - g.H.length = 0 := by omega
      rw [e] at h
      simp [hget] at h
      exact .inr ⟨by omega, h.symm⟩
  have hlt : ∀ j k, hget g.H j = some k → g.sz j ≠ 0 → g.φ j < g.w.heap.size := fun j k hk h0 => by
    obtain ⟨c, e, lo, hi, m1, _⟩ := (hg.blk j k hk).mem h0
    exact (Array.getElem?_eq_some_iff.1 m1).1
  refine ⟨fun j k hk => ?_, fun i j k k' hi hj ho ho' hs1 hs2 hφ => ?_, fun x hx => ?_⟩
  · rcases hget' j k hk with ⟨hj, h1⟩ | ⟨rfl, rfl⟩
    · obtain ⟨h2, h3, h4, h5, h6⟩ := hg.blk j k h1
      have e1 : (g.push c e fr b).φ j = g.φ j := by simp only [G.push]; rw [if_neg (by omega)]
      have e2 : (g.push c e fr b).sz j = g.sz j := by simp only [G.push]; rw [if_neg (by omega)]
      have e3 : (g.push c e fr b).bs j = g.bs j := by simp only [G.push]; rw [if_neg (by omega)]
      refine ⟨by rw [e1, e2]; exact h2, by rw [e1, e2]; exact h3, by rw [e2, e3]; exact h4, h5, ?_⟩
      rw [e1, e2, e3]
      intro h0
      obtain ⟨c', e', lo, hi, m1, m2, m3, xs, m4, m5⟩ := h6 h0
      refine ⟨c', e', lo, hi, ?_, m2, m3, xs, RelL.mono hs.ren m4, m5⟩
      have hx := hlt j k h1 h0
      simp only [G.push, World.alloc]
      rw [Array.getElem?_push_lt hx, ← Array.getElem?_eq_getElem hx]
      exact m1
    · have e1 : (g.push c e fr k).φ g.H.length = g.w.heap.size := by simp [G.push]
      have e2 : (g.push c e fr k).sz g.H.length = c.size := by simp [G.push]
      have e3 : (g.push c e fr k).bs g.H.length = 0 := by simp [G.push]
      refine ⟨fun _ _ hz => ?_, (fun h => absurd (hb.symm.trans h) (by decide)), (by rw [e2, e3]; omega), hp, ?_⟩
      · rw [e1] at hz
        exact absurd (hg.zlt _ hz) (Nat.lt_irrefl _)
      · rw [e1, e2, e3]
        intro h0
        obtain ⟨xs, m4, m5⟩ := hl h0
        exact ⟨c, e, fr.1, fr.2, (by simp only [G.push, World.alloc]; rw [Array.getElem?_push_size]), rfl, hfr, xs, RelL.mono hs.ren m4, m5⟩
  · rcases hget' i k hi with ⟨hi', h1⟩ | ⟨rfl, rfl⟩
    · rcases hget' j k' hj with ⟨hj', h2⟩ | ⟨rfl, rfl⟩
      · simp only [G.push] at hs1 hs2 hφ
        rw [if_neg (by omega)] at hs1 hs2
        rw [if_neg (show ¬ i = g.H.length by omega), if_neg (show ¬ j = g.H.length by omega)] at hφ
        exact hg.inj i j k k' h1 h2 ho ho' hs1 hs2 hφ
      · simp only [G.push] at hs1 hφ
        rw [if_neg (by omega)] at hs1
        rw [if_neg (by omega)] at hφ
        simp only [if_true] at hφ
        have := hlt i k h1 hs1
        omega
    · rcases hget' j k' hj with ⟨hj', h2⟩ | ⟨rfl, rfl⟩
      · simp only [G.push] at hs2 hφ
        rw [if_neg (by omega)] at hs2
        simp only [if_true] at hφ
        rw [if_neg (by omega)] at hφ
        have := hlt j k' h2 hs2
        omega
      · rfl
  · have := hg.zlt x hx
    simp [G.push]; omega
theorem push_get (g : G) (c : Array Value) (e : TypeId) (fr : Nat × Nat) (b : Blk) : hget (g.push c e fr b).H g.H.length = some b := by
  simp [G.push, hget]
end Go.AM
