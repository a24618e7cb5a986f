/- The abstract machine: what it says of a piece of code, and the rules of control. -/
import Derived.Test.YtlegolcbjjjofaaAm1
namespace Go.AM

abbrev TM := List (Nat × AV)
def tget : TM → Nat → AV
  | [], _ => .any
  | (t, x) :: r, n => if t = n then x else tget r n
def TmRel (g : G) (tm : TM) (vs : Nat → Value) : Prop := ∀ t, Rel g (tget tm t) (vs t)
abbrev tmpsOf (a : Act) : Nat → Value := fun t => a.tmps.getD t undef
structure TmOk (D : List Deferred) (g : G) (tm : TM) (a : Act) (n : Nat) : Prop where
  size : a.tmps.size = n
  defers : a.defers = D
  rel : TmRel g tm (tmpsOf a)

abbrev Post := Exit → TM → Heap → Prop
def Post.up (D : List Deferred) (n k : Nat) (Q : Post) (g : G) : Exit → Act → World → Prop := fun e a' w' =>
  ∃ tm' g', g'.w = w' ∧ Q e tm' g'.H ∧ GOk g' ∧ TmOk D g' tm' a' n ∧ Ext g g' ∧ Pin k g g'
/-- From the abstract state (tm, H) the code comes to an end that Q allows; the first k blocks keep their numbers. -/
def T (D : List Deferred) (P : Program) (n k : Nat) (c : Code) (tm : TM) (H : Heap) (Q : Post) : Prop :=
  ∀ g a, g.H = H → k ≤ H.length → GOk g → TmOk D g tm a n → c.wp P (Q.up D n k g) a g.w

variable {D : List Deferred} {P : Program} {n k : Nat} {tm : TM} {H : Heap} {Q : Post}

def thenK (K : TM → Heap → Prop) (Q : Post) : Post
  | .normal => K
  | e => Q e
def inBlockK (id : Nat) (Q : Post) : Post
  | .exit id' => if id' = id then Q .normal else Q (.exit id')
  | e => Q e

theorem Post.up_trans {g g' : G} {e : Exit} {a : Act} {w : World} (hx : Ext g g') (hp : Pin k g g') (h : Q.up D n k g' e a w) : Q.up D n k g e a w := by
  obtain ⟨tm', g'', h1, h2, h3, h4, h5, h6⟩ := h
  exact ⟨tm', g'', h1, h2, h3, h4, hx.trans h5, hp.trans h6⟩

theorem T.mono {c : Code} {Q' : Post} (h : T D P n k c tm H Q) (hq : ∀ e tm H, Q e tm H → Q' e tm H) : T D P n k c tm H Q' :=
  fun g a hH hk hg ht => wp_mono (h g a hH hk hg ht) fun e a' w' ⟨tm', g', h1, h2, h3, h4, h5, h6⟩ => ⟨tm', g', h1, hq _ _ _ h2, h3, h4, h5, h6⟩

theorem T.skip (h : Q .normal tm H) : T D P n k .skip tm H Q :=
  fun g a hH hk hg ht => wp_skip ⟨tm, g, rfl, hH ▸ h, hg, ht, .refl g, .refl (hH ▸ hk)⟩
theorem T.label {l : Nat} (h : Q .normal tm H) : T D P n k (.label l) tm H Q :=
  fun g a hH hk hg ht => wp_label ⟨tm, g, rfl, hH ▸ h, hg, ht, .refl g, .refl (hH ▸ hk)⟩
theorem T.exit {id : Nat} (h : Q (.exit id) tm H) : T D P n k (.exit id) tm H Q :=
  fun g a hH hk hg ht => wp_exit ⟨tm, g, rfl, hH ▸ h, hg, ht, .refl g, .refl (hH ▸ hk)⟩
theorem T.ret (h : Q .ret tm H) : T D P n k .ret tm H Q :=
  fun g a hH hk hg ht => wp_ret ⟨tm, g, rfl, hH ▸ h, hg, ht, .refl g, .refl (hH ▸ hk)⟩

theorem T.seq' {x y : Code} (h : T D P n k x tm H (thenK (fun tm H => T D P n k y tm H Q) Q)) : T D P n k (.seq x y) tm H Q := by
  intro g a hH hk hg ht
  refine wp_seq (wp_mono (h g a hH hk hg ht) fun e a' w' he => ?_)
  obtain ⟨tm', g', h1, h2, h3, h4, h5, h6⟩ := he
  cases e with
  | normal =>
    simp only [thenK] at h2
    simp only [Exit.then]
    subst h1
    exact wp_mono (h2 g' a' rfl h6.len h3 h4) fun e a w hq => Post.up_trans h5 h6 hq
  | _ => exact ⟨tm', g', h1, h2, h3, h4, h5, h6⟩
/-- The rest stands behind a letter. -/
theorem T.seq {x y : Code} (h : ∀ K : TM → Heap → Prop, (∀ tm H, T D P n k y tm H Q → K tm H) → T D P n k x tm H (thenK K Q)) : T D P n k (.seq x y) tm H Q :=
  T.seq' (h _ fun _ _ h => h)

def cav : Value → AV
  | .agg cs => .agg (cs.toList.map .v)
  | x => .v x
def ev (tm : TM) : Operand → AV
  | .tmp t => tget tm t
  | .const v => cav v
  | .func f => .fn (.func f) [] []
  | .global g => .any

theorem RelL.vs (g : G) : ∀ ys : List Value, RelL g (ys.map .v) ys
  | [] => .nil
  | y :: ys => .cons (by simp [Rel]) (RelL.vs g ys)
theorem cav_rel (g : G) (v : Value) : Rel g (cav v) v := by
  cases v <;> simp [cav, Rel]
  exact RelL.vs g _
theorem ev_rel {g : G} {a : Act} (h : TmRel g tm (tmpsOf a)) (x : Operand) : Rel g (ev tm x) (a.eval x) := by
  cases x with
  | tmp t => exact h t
  | const v => exact cav_rel g v
  | func f => simp [ev, Act.eval, Rel, RelL]
  | global f => simp [ev, Rel]

theorem T.cond {c : Operand} {x y : Code} {b : Bool} (hc : ev tm c = .v (.bool b)) (ht : b = true → T D P n k x tm H Q) (hf : b = false → T D P n k y tm H Q) : T D P n k (.cond c x y) tm H Q := by
  intro g a hH hk hg ha
  have h := ev_rel ha.rel c
  rw [hc] at h
  simp only [Rel] at h
  exact wp_cond_split h (fun e => ht e g a hH hk hg ha) (fun e => hf e g a hH hk hg ha)
theorem T.cond_true {c : Operand} {x y : Code} (hc : ev tm c = .v (.bool true)) (ht : T D P n k x tm H Q) : T D P n k (.cond c x y) tm H Q :=
  T.cond hc (fun _ => ht) (fun h => by cases h)
theorem T.cond_false {c : Operand} {x y : Code} (hc : ev tm c = .v (.bool false)) (hf : T D P n k y tm H Q) : T D P n k (.cond c x y) tm H Q :=
  T.cond hc (fun h => by cases h) (fun _ => hf)

theorem T.block {id : Nat} {c : Code} (h : T D P n k c tm H (inBlockK id Q)) : T D P n k (.block id c) tm H Q := by
  intro g a hH hk hg ht
  refine wp_block (wp_mono (h g a hH hk hg ht) fun e a' w' he => ?_)
  obtain ⟨tm', g', h1, h2, h3, h4, h5, h6⟩ := he
  cases e with
  | exit id' =>
    simp only [inBlockK] at h2
    simp only [Exit.inBlock]
    by_cases hid : id' = id
    · simp only [hid, if_true] at h2 ⊢
      exact ⟨tm', g', h1, h2, h3, h4, h5, h6⟩
    · simp only [hid, if_false] at h2 ⊢
      exact ⟨tm', g', h1, h2, h3, h4, h5, h6⟩
  | _ => exact ⟨tm', g', h1, h2, h3, h4, h5, h6⟩

/-- A loop: J bears a number that every round lowers. -/
theorem T.loop {c : Code} (J : Nat → TM → Heap → Prop) (m : Nat) (h0 : J m tm H)
    (round : ∀ m tm H, J m tm H → T D P n k c tm H (thenK (fun tm' H' => ∃ m', m' < m ∧ J m' tm' H') Q)) : T D P n k (.loop c) tm H Q := by
  intro g a hH hk hg ht
  refine wp_loop_ghost (fun m a w => ∃ tm' g', g'.w = w ∧ J m tm' g'.H ∧ GOk g' ∧ TmOk D g' tm' a n ∧ Ext g g' ∧ Pin k g g') m ⟨tm, g, rfl, hH ▸ h0, hg, ht, .refl g, .refl (hH ▸ hk)⟩ ?_
  rintro m a w ⟨tm', g', rfl, hJ, hg', ht', hx, hp⟩
  refine wp_mono (round m tm' g'.H hJ g' a rfl hp.len hg' ht') fun e a' w' he => ?_
  obtain ⟨tm'', g'', h1, h2, h3, h4, h5, h6⟩ := he
  cases e with
  | normal =>
    simp only [thenK] at h2
    obtain ⟨m', hm, hJ'⟩ := h2
    exact ⟨m', hm, tm'', g'', h1, hJ', h3, h4, hx.trans h5, hp.trans h6⟩
  | _ => exact ⟨tm'', g'', h1, h2, h3, h4, hx.trans h5, hp.trans h6⟩

/-- What may be said of a state in other words; nothing is run. -/
def TEnt (k : Nat) (tm : TM) (H : Heap) (tm' : TM) (H' : Heap) : Prop :=
  ∀ (g : G) (vs : Nat → Value), g.H = H → k ≤ H.length → GOk g → TmRel g tm vs → ∃ g', g'.w = g.w ∧ g'.H = H' ∧ GOk g' ∧ TmRel g' tm' vs ∧ Ext g g' ∧ Pin k g g'
theorem TEnt.refl : TEnt k tm H tm H := fun g _ hH hk hg ht => ⟨g, rfl, hH, hg, ht, .refl g, .refl (hH ▸ hk)⟩
theorem TEnt.trans {tm' tm'' : TM} {H' H'' : Heap} (h : TEnt k tm H tm' H') (h' : TEnt k tm' H' tm'' H'') : TEnt k tm H tm'' H'' := by
  intro g vs hH hk hg ht
  obtain ⟨g1, a1, a2, a3, a4, a5, a6⟩ := h g vs hH hk hg ht
  obtain ⟨g2, b1, b2, b3, b4, b5, b6⟩ := h' g1 vs a2 (a2 ▸ a6.len) a3 a4
  exact ⟨g2, b1.trans a1, b2, b3, b4, a5.trans b5, a6.trans b6⟩
theorem T.ent {c : Code} {tm' : TM} {H' : Heap} (h : TEnt k tm H tm' H') (ht : T D P n k c tm' H' Q) : T D P n k c tm H Q := by
  intro g a hH hk hg ha
  obtain ⟨g1, a1, a2, a3, a4, a5, a6⟩ := h g _ hH hk hg ha.rel
  rw [← a1]
  exact wp_mono (ht g1 a a2 (a2 ▸ a6.len) a3 ⟨ha.size, ha.defers, a4⟩) fun e a w hq => Post.up_trans a5 a6 hq

theorem TEnt.keep {tm' : TM} (h : ∀ t, tget tm' t = .any ∨ tget tm' t = tget tm t) : TEnt k tm H tm' H := by
  intro g vs hH hk hg ht
  refine ⟨g, rfl, hH, hg, fun t => ?_, .refl g, .refl (hH ▸ hk)⟩
  rcases h t with h | h
  · rw [h]; simp [Rel]
  · rw [h]; exact ht t
/-- Only these are kept. -/
def tkeep : List Nat → TM → TM
  | [], _ => []
  | t :: l, tm => (t, tget tm t) :: tkeep l tm
theorem tget_tkeep (l : List Nat) (t : Nat) : tget (tkeep l tm) t = .any ∨ tget (tkeep l tm) t = tget tm t := by
  induction l with
  | nil => exact .inl rfl
  | cons a l ih =>
    simp only [tkeep, tget]
    by_cases h : a = t
    · subst h; right; simp
    · simp only [h, if_false]; exact ih
theorem T.keep {c : Code} (l : List Nat) (h : T D P n k c (tkeep l tm) H Q) : T D P n k c tm H Q := T.ent (.keep (tget_tkeep l)) h

/-- A word about one value that is implied. -/
def Ent (H : Heap) (x x' : AV) : Prop := ∀ g y, g.H = H → GOk g → Rel g x y → Rel g x' y
theorem TEnt.one {tm' : TM} (h : ∀ t, Ent H (tget tm t) (tget tm' t)) : TEnt k tm H tm' H := fun g vs hH hk hg ht =>
  ⟨g, rfl, hH, hg, fun t => h t g _ hH hg (ht t), .refl g, .refl (hH ▸ hk)⟩

theorem hget_lt {id : Nat} {b : Blk} (h : hget H id = some b) : id < H.length := by
  unfold hget at h
  split at h
  · rename_i hb
    exact (List.getElem?_eq_some_iff.1 hb).1
  · cases h
theorem hget_iff {id : Nat} {b : Blk} : hget H id = some b ↔ H[id]? = some (some b) := by
  unfold hget
  split
  · rename_i c hc; rw [hc]; simp
  · rename_i h
    simp only [reduceCtorEq, false_iff]
    exact fun e => h b e
theorem hget_set {id j : Nat} {b : Option Blk} : hget (H.set id b) j = if j = id ∧ id < H.length then b else hget H j := by
  unfold hget
  rw [List.getElem?_set]
  by_cases h : id = j
  · subst h
    by_cases hl : id < H.length
    · simp only [hl, if_true, and_self]
      cases b <;> rfl
    · simp [hl, List.getElem?_eq_none (Nat.le_of_not_lt hl)]
  · have : ¬ (j = id) := fun e => h e.symm
    simp [h, this]
theorem hget_append {H' : Heap} {j : Nat} : hget (H ++ H') j = if j < H.length then hget H j else hget H' (j - H.length) := by
  unfold hget
  rw [List.getElem?_append]
  by_cases h : j < H.length <;> simp only [h, if_true, if_false] <;> rfl

-- turning the blocks' numbers, and dropping blocks
def pos (src : List Nat) (i : Nat) : Option Nat := src.idxOf? i
mutual
def Blk.ren (ρ : Nat → Option Nat) (b : Blk) : Blk := { b with els := renL ρ b.els }
end
def normH (src : List Nat) (H : Heap) : Heap := src.map fun i => (hget H i).map (Blk.ren (pos src))
def normT (src : List Nat) : TM → TM
  | [] => []
  | (t, x) :: r => (t, x.ren (pos src)) :: normT src r
theorem tget_normT (src : List Nat) (t : Nat) : tget (normT src tm) t = (tget tm t).ren (pos src) := by
  induction tm with
  | nil => simp [normT, tget, AV.ren]
  | cons p r ih =>
    obtain ⟨a, x⟩ := p
    simp only [normT, tget]
    by_cases h : a = t
    · simp [h]
    · simp only [h, if_false]; exact ih
theorem pos_some {src : List Nat} {i j : Nat} (h : pos src i = some j) : src[j]? = some i := by
  unfold pos at h
  rw [List.idxOf?, List.findIdx?_eq_some_iff_getElem] at h
  obtain ⟨hl, h1, _⟩ := h
  simp at h1
  rw [List.getElem?_eq_getElem hl, h1]
theorem Lies.ren {ρ : Nat → Option Nat} {g g' : G} (hr : Ren ρ g g') {b : Blk} {c : Array Value} {o : Nat} (h : Lies g o b c) : Lies g' o (b.ren ρ) c := by
  obtain ⟨xs, h1, h2⟩ := h
  exact ⟨xs, RelL.ren hr h1, h2⟩

/-- The same state of affairs, the blocks counted anew. -/
def G.norm (g : G) (src : List Nat) : G := { g with H := normH src g.H, φ := fun j => g.φ (src.getD j 0), bs := fun j => g.bs (src.getD j 0), sz := fun j => g.sz (src.getD j 0) }
theorem getD_src {src : List Nat} {j i : Nat} (h : src[j]? = some i) : src.getD j 0 = i := by simp [List.getD, h]
theorem norm_get {g : G} {src : List Nat} {j : Nat} {b' : Blk} (h : hget (g.norm src).H j = some b') : ∃ i b, src[j]? = some i ∧ hget g.H i = some b ∧ b' = b.ren (pos src) := by
  rw [hget_iff] at h
  simp only [G.norm, normH, List.getElem?_map, Option.map_eq_some_iff] at h
  obtain ⟨i, hi, b, hb, rfl⟩ := h
  exact ⟨i, b, hi, hb, rfl⟩
theorem norm_ren (g : G) (src : List Nat) : Ren (pos src) g (g.norm src) := by
  refine ⟨fun _ h => h, fun _ _ => rfl, fun i j hi hij => ?_⟩
  have hj := pos_some hij
  refine ⟨by simp only [G.norm, normH, List.length_map]; exact (List.getElem?_eq_some_iff.1 hj).1, fun b' hb' => ?_⟩
  obtain ⟨i', b, h1, h2, rfl⟩ := norm_get hb'
  rw [hj] at h1
  cases h1
  refine ⟨b, h2, rfl, ?_, ?_, ?_⟩ <;> simp only [G.norm, getD_src hj]
theorem norm_own {g : G} {src : List Nat} {b : Nat} (h : Own (g.norm src) b) : Own g b := by
  obtain ⟨j, k', h1, h2, h3, h4⟩ := h
  obtain ⟨i, b0, e1, e2, rfl⟩ := norm_get h1
  simp only [G.norm, getD_src e1] at h3 h4
  exact ⟨i, b0, e2, h2, h3, h4⟩
theorem norm_ok {g : G} {src : List Nat} (hn : src.Nodup) (hg : GOk g) : GOk (g.norm src) := by
  refine ⟨fun j b' hb' => ?_, fun j j' b' c' hb hc hob hoc hs hs' hφ => ?_, hg.zlt⟩
  · obtain ⟨i, b, h1, h2, rfl⟩ := norm_get hb'
    have hb := hg.blk i b h2
    have e1 : (g.norm src).φ j = g.φ i := by simp only [G.norm, getD_src h1]
    have e2 : (g.norm src).sz j = g.sz i := by simp only [G.norm, getD_src h1]
    have e3 : (g.norm src).bs j = g.bs i := by simp only [G.norm, getD_src h1]
    refine ⟨?_, ?_, ?_, hb.pos, ?_⟩
    · rw [e1, e2]; exact hb.own
    · rw [e1, e2]; exact hb.frz
    · rw [e2, e3]; simpa [Blk.ren, renL_length] using hb.fit
    · rw [e1, e2, e3]
      intro h0
      obtain ⟨c, e, lo, hi, m1, m2, m3, m4⟩ := hb.mem h0
      exact ⟨c, e, lo, hi, m1, m2, m3, m4.ren (norm_ren g src)⟩
  · obtain ⟨i, b, h1, h2, rfl⟩ := norm_get hb
    obtain ⟨i', c, h1', h2', rfl⟩ := norm_get hc
    simp only [G.norm, getD_src h1, getD_src h1'] at hs hs' hφ
    have : i = i' := hg.inj i i' b c h2 h2' hob hoc hs hs' hφ
    subst this
    have hj := (List.getElem?_eq_some_iff.1 h1).1
    exact (List.getElem?_inj hj hn).1 (h1.trans h1'.symm)
theorem norm_ext {g : G} {src : List Nat} : Ext g (g.norm src) := ⟨.refl _, Nat.le_refl _, fun _ _ _ => rfl, fun _ h => h, fun _ h => .inl h, fun _ hb => .inl (norm_own hb)⟩
theorem TEnt.norm (src : List Nat) (hn : src.Nodup) (hk' : ∀ j, j < k → src[j]? = some j) : TEnt k tm H (normT src tm) (normH src H) := by
  intro g vs hH hk hg ht
  subst hH
  have hkl : k ≤ (g.norm src).H.length := by
    simp only [G.norm, normH, List.length_map]
    rcases Nat.lt_or_ge src.length k with h | h
    · have := hk' src.length h
      simp at this
    · exact h
  refine ⟨g.norm src, rfl, rfl, norm_ok hn hg, fun t => ?_, norm_ext, ⟨hkl, fun i b' hi hb' => ?_⟩⟩
  · rw [tget_normT]; exact Rel.ren (norm_ren g src) (ht t)
  · obtain ⟨i', b, h1, h2, rfl⟩ := norm_get hb'
    have h3 := hk' i hi
    rw [h3] at h1
    cases h1
    exact ⟨b, h2, rfl, by simp only [G.norm, getD_src h3], by simp only [G.norm, getD_src h3], by simp only [G.norm, getD_src h3]⟩

/-- A block is written no more. -/
theorem TEnt.freeze (id : Nat) {b : Blk} (hb : hget H id = some b) : TEnt k tm H tm (H.set id (some { b with own := false })) := by
  intro g vs hH hk hg ht
  subst hH
  have hid := hget_lt hb
  by_cases ho : b.own = true
  case neg =>
    have e : g.H.set id (some { b with own := false }) = g.H := by
      have : ({ b with own := false } : Blk) = b := by cases b; simp at ho; simp [ho]
      rw [this]
      apply List.ext_getElem?
      intro i
      rw [List.getElem?_set]
      by_cases h : id = i
      · subst h; simp only [hid, if_true]; exact (hget_iff.1 hb).symm
      · simp only [h, if_false]
    rw [e]
    exact ⟨g, rfl, rfl, hg, ht, .refl g, .refl hk⟩
  let g' : G := { g with H := g.H.set id (some { b with own := false }), Z := fun x => g.Z x ∨ (g.sz id ≠ 0 ∧ x = g.φ id) }
  have hget' : ∀ j b', hget g'.H j = some b' → ∃ b0, hget g.H j = some b0 ∧ b'.es = b0.es ∧ b'.els = b0.els ∧ ((j = id ∧ b'.own = false) ∨ (j ≠ id ∧ b' = b0)) := by
    intro j b' h
    simp only [g', hget_set] at h
    by_cases hj : j = id
    · subst hj
      simp only [hid, and_self, if_true, Option.some.injEq] at h
      subst h
      exact ⟨b, hb, rfl, rfl, .inl ⟨rfl, rfl⟩⟩
    · simp only [hj, false_and, if_false] at h
      exact ⟨b', h, rfl, rfl, .inr ⟨hj, rfl⟩⟩
  have hren : Ren some g g' := by
    refine ⟨fun _ h => .inl h, fun _ _ => rfl, fun i j hi hij => ?_⟩
    cases hij
    refine ⟨by simpa [g'] using hi, fun b' hb' => ?_⟩
    obtain ⟨b0, h1, h2, _, _⟩ := hget' i b' hb'
    exact ⟨b0, h1, h2, rfl, rfl, rfl⟩
  have hOwn : g.sz id ≠ 0 → Own g (g.φ id) := fun h => ⟨id, b, hb, ho, h, rfl⟩
  have hgo : GOk g' := by
    refine ⟨fun j b' hb' => ?_, fun j j' b' c' hb' hc' hob hoc hs hs' hφ => ?_, fun x hx => ?_⟩
    · obtain ⟨b0, h1, h2, h3, h4⟩ := hget' j b' hb'
      have hb0 := hg.blk j b0 h1
      refine ⟨fun hown hs hz => ?_, fun hown hs => ?_, ?_, ?_, fun hs => ?_⟩
      · rcases h4 with ⟨_, h4⟩ | ⟨hj, rfl⟩
        · rw [h4] at hown; cases hown
        · rcases hz with hz | ⟨h5, h6⟩
          · exact hb0.own hown hs hz
          · exact hj (hg.inj j id b' b h1 hb hown ho hs h5 h6)
      · rcases h4 with ⟨rfl, _⟩ | ⟨hj, rfl⟩
        · exact .inr ⟨hs, rfl⟩
        · exact .inl (hb0.frz hown hs)
      · rw [h2, h3]; exact hb0.fit
      · rw [h2]; exact hb0.pos
      · obtain ⟨c, e, lo, hi, m1, m2, m3, xs, m4, m5⟩ := hb0.mem hs
        refine ⟨c, e, lo, hi, m1, m2, m3, xs, ?_, ?_⟩
        · rw [h3]; exact RelL.mono hren m4
        · rw [h2]; exact m5
    · obtain ⟨b0, h1, _, _, h4⟩ := hget' j b' hb'
      obtain ⟨c0, h1', _, _, h4'⟩ := hget' j' c' hc'
      rcases h4 with ⟨_, h4⟩ | ⟨hj, rfl⟩
      · rw [h4] at hob; cases hob
      · rcases h4' with ⟨_, h4'⟩ | ⟨hj', rfl⟩
        · rw [h4'] at hoc; cases hoc
        · exact hg.inj j j' b' c' h1 h1' hob hoc hs hs' hφ
    · rcases hx with hx | ⟨hs, rfl⟩
      · exact hg.zlt x hx
      · obtain ⟨c, e, lo, hi, m1, _⟩ := (hg.blk id b hb).mem hs
        exact (Array.getElem?_eq_some_iff.1 m1).1
  have hext : Ext g g' := by
    refine ⟨.refl _, Nat.le_refl _, fun _ _ _ => rfl, fun _ h => .inl h, fun x hx => ?_, fun x hx => ?_⟩
    · rcases hx with hx | ⟨hs, rfl⟩
      · exact .inl hx
      · exact .inr (.inr (hOwn hs))
    · obtain ⟨j, b', h1, h2, h3, h4⟩ := hx
      obtain ⟨b0, e1, _, _, e4⟩ := hget' j b' h1
      rcases e4 with ⟨_, e4⟩ | ⟨hj, rfl⟩
      · rw [e4] at h2; cases h2
      · exact .inl ⟨j, b', e1, h2, h3, h4⟩
  exact ⟨g', rfl, rfl, hgo, fun t => Rel.mono hren (ht t), hext, Sub.pin ⟨hren, hext⟩ hk⟩
end Go.AM
