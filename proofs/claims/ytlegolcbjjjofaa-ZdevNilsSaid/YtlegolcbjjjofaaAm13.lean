/- The abstract machine: what a callee is shown; and a function out of its body. -/
import Derived.Test.YtlegolcbjjjofaaAm12
namespace Go.AM
variable {D : List Deferred} {P : Program} {n k : Nat} {tm : TM} {H : Heap} {Q : Post}

theorem Ent.refl (x : AV) : Ent H x x := fun _ _ _ _ h => h
theorem Ent.any (x : AV) : Ent H x .any := fun _ _ _ _ _ => by simp [Rel]
/-- A frozen block's row as a frozen row. -/
theorem Ent.sl {id off len : Nat} {b : Blk} (hb : hget H id = some b) (ho : b.own = false) (hl : off + len ≤ b.els.length) : Ent H (.sl id off len) (.fz b.es ((b.els.drop off).take len)) := by
  intro g y hH hg hx
  subst hH
  have hrow : rowA g.H (.sl id off len) = some (b.es, (b.els.drop off).take len) := by simp [rowA, hb, hl]
  have hrel := hx
  obtain ⟨A, c, xs, rfl, h1, h2, h3⟩ := rowA_sound hg hrow hx
  simp only [Rel] at hrel ⊢
  refine ⟨A, c, xs, rfl, h1, h2, fun i x hx => ?_, fun hN => ?_⟩
  rotate_left
  · subst hN
    obtain ⟨_, A', c', e, hk⟩ := hrel
    obtain ⟨k1, k2, k3⟩ := hk b hb
    injection e with e1 e2 e3
    subst e1 e3
    rcases Nat.eq_zero_or_pos c with h0 | h0
    · exact h0
    · exact absurd (k3 (by omega)) (by simp)
  obtain ⟨f1, a, f2, f3, f4⟩ := h3 i x hx
  refine ⟨f1, a, f2, f3, ?_, f4⟩
  obtain ⟨_, A', c', e, hk⟩ := hrel
  obtain ⟨k1, k2, k3⟩ := hk b hb
  have hi := (List.getElem?_eq_some_iff.1 hx).1
  have hlen : ((b.els.drop off).take len).length = len := by simp; omega
  have h2l := h2.length
  rw [hlen] at h2l
  injection e with e1 e2 e3
  subst e1 e3
  have hc0 : c ≠ 0 := by omega
  have ha := k3 hc0
  rw [f2] at ha
  cases ha
  have hb0 := hg.blk id b hb
  refine hb0.frz ho (fun h0 => ?_)
  have : 1 * 1 ≤ (off + c) * b.es := Nat.mul_le_mul (by omega) hb0.pos
  omega
theorem Ent.fz {es : Nat} {l l' : List AV} (h : ∀ g ys, g.H = H → GOk g → RelL g l ys → RelL g l' ys) : Ent H (.fz es l) (.fz es l') := by
  intro g y hH hg hx
  simp only [Rel] at hx ⊢
  obtain ⟨A, c, xs, rfl, h1, h2, h3, h4⟩ := hx
  have h2' := h g xs hH hg h2
  have e : l'.length = l.length := by rw [← h2'.length, ← h2.length]
  exact ⟨A, c, xs, by rw [e], by rw [e]; exact h1, h2', h3, h4⟩
theorem Ent.agg {l l' : List AV} (h : ∀ g ys, g.H = H → GOk g → RelL g l ys → RelL g l' ys) : Ent H (.agg l) (.agg l') := by
  intro g y hH hg hx
  simp only [Rel] at hx ⊢
  obtain ⟨cs, rfl, h2⟩ := hx
  exact ⟨cs, rfl, h g _ hH hg h2⟩
theorem Ent.trans {x y z : AV} (h : Ent H x y) (h' : Ent H y z) : Ent H x z := fun g v hH hg hx => h' g v hH hg (h g v hH hg hx)
/-- Values one by one. -/
def EntL (H : Heap) (l l' : List AV) : Prop := ∀ g ys, g.H = H → GOk g → RelL g l ys → RelL g l' ys
theorem EntL.nil : EntL H [] [] := fun _ _ _ _ h => h
theorem EntL.cons {x x' : AV} {l l' : List AV} (h : Ent H x x') (h' : EntL H l l') : EntL H (x :: l) (x' :: l') := by
  intro g ys hH hg hx
  simp only [RelL] at hx ⊢
  obtain ⟨z, zs, rfl, h1, h2⟩ := hx
  exact ⟨z, zs, rfl, h g z hH hg h1, h' g zs hH hg h2⟩
theorem EntL.refl (l : List AV) : EntL H l l := fun _ _ _ _ h => h
theorem CallOk.view {f : FuncId} {args args' : List AV} {x : AV} {H' : Heap} (h : CallOk P f H args' x H') (he : EntL H args args') : CallOk P f H args x H' :=
  ⟨h.1, fun g vals hH hg hr => h.2 g vals hH hg (he g _ hH hg hr)⟩
theorem CallOk.eq {f : FuncId} {args : List AV} {x x' : AV} {H' H'' : Heap} (h : CallOk P f H args x H') (hx : x = x') (hH : H' = H'') : CallOk P f H args x' H'' := hx ▸ hH ▸ h
/-- The result in other words. -/
theorem CallOk.ent {f : FuncId} {args : List AV} {x x' : AV} {H' : Heap} (h : CallOk P f H args x H') (he : Ent H' x x') : CallOk P f H args x' H' :=
  ⟨h.1, fun g vals hH hg hr => (h.2 g vals hH hg hr).mono fun e w' ⟨v, g', h1, h2, h3, h4, h5, h6⟩ => ⟨v, g', h1, h2, h3, h4, he g' v h3 h4 h5, h6⟩⟩

-- Nothing frozen in it.
mutual
def AV.nofz : AV → Bool
  | .fz .. => false
  | .fp .. => false
  | .agg l => nofzL l
  | .tup l => nofzL l
  | .fn _ a b => nofzL a && nofzL b
  | _ => true
def nofzL : List AV → Bool
  | [] => true
  | x :: l => x.nofz && nofzL l
end
/-- As 'Ren', without a word on what is frozen. -/
structure RenZ (g g' : G) : Prop where
  id : ∀ i, i < g.H.length → i < g'.H.length ∧ ∀ k', hget g'.H i = some k' → ∃ k, hget g.H i = some k ∧ k'.es = k.es ∧ g'.φ i = g.φ i ∧ g'.bs i = g.bs i ∧ g'.sz i = g.sz i
mutual
theorem Rel.nofz {g g' : G} (hr : RenZ g g') : ∀ {x : AV} {y : Value}, x.nofz = true → Rel g x y → Rel g' x y
  | .any, _, _, _ => by simp [Rel]
  | .v x, y, _, h => by simpa [Rel] using h
  | .z0, y, _, h => by simpa [Rel] using h
  | .ub, y, _, h => by simpa [Rel] using h
  | .fz es l, y, hf, h => by simp [AV.nofz] at hf
  | .fp l f, y, hf, h => by simp [AV.nofz] at hf
  | .sl id off len, y, _, h => by
    simp only [Rel] at h ⊢
    obtain ⟨hi, a, c, e1, h⟩ := h
    obtain ⟨hj, hk⟩ := hr.id id hi
    refine ⟨hj, a, c, e1, fun k' hk' => ?_⟩
    obtain ⟨k, h1, h2, h3, h3b, h4⟩ := hk k' hk'
    obtain ⟨e2, e3, e4⟩ := h k h1
    exact ⟨e2, by rw [h2, h3b, h4]; exact e3, fun hc => by rw [e4 hc, h2, h3, h3b]⟩
  | .ref id i f, y, _, h => by
    simp only [Rel] at h ⊢
    obtain ⟨hi, a, e1, h⟩ := h
    obtain ⟨hj, hk⟩ := hr.id id hi
    refine ⟨hj, a, e1, fun k' hk' => ?_⟩
    obtain ⟨k, h1, h2, h3, h3b, h4⟩ := hk k' hk'
    rw [h k h1, h2, h3, h3b]
  | .agg l, y, hf, h => by
    simp only [Rel] at h ⊢
    obtain ⟨cs, rfl, hl⟩ := h
    exact ⟨cs, rfl, RelL.nofz hr (by simpa [AV.nofz] using hf) hl⟩
  | .tup l, y, hf, h => by
    simp only [Rel] at h ⊢
    obtain ⟨cs, rfl, hl⟩ := h
    exact ⟨cs, rfl, RelL.nofz hr (by simpa [AV.nofz] using hf) hl⟩
  | .fn f a b, y, hf, h => by
    simp only [Rel] at h ⊢
    obtain ⟨xs, ys, rfl, ha, hb⟩ := h
    simp only [AV.nofz, Bool.and_eq_true] at hf
    exact ⟨xs, ys, rfl, RelL.nofz hr hf.1 ha, RelL.nofz hr hf.2 hb⟩
theorem RelL.nofz {g g' : G} (hr : RenZ g g') : ∀ {l : List AV} {ys : List Value}, nofzL l = true → RelL g l ys → RelL g' l ys
  | [], ys, _, h => by simpa [RelL] using h
  | x :: l, ys, hf, h => by
    simp only [nofzL, Bool.and_eq_true] at hf
    simp only [RelL] at h ⊢
    obtain ⟨z, zs, rfl, hx, hl⟩ := h
    exact ⟨z, zs, rfl, Rel.nofz hr hf.1 hx, RelL.nofz hr hf.2 hl⟩
end
/-- For as long as a call lasts all is frozen. -/
def frzH (H : Heap) : Heap := H.map fun b => b.map fun b => { b with own := false }
theorem frzH_length : (frzH H).length = H.length := by simp [frzH]
theorem frzH_get {i : Nat} : hget (frzH H) i = (hget H i).map fun b => { b with own := false } := by
  unfold hget frzH
  rw [List.getElem?_map]
  cases H[i]? with
  | none => rfl
  | some b => cases b <;> rfl
theorem CallOk.lend {f : FuncId} {args : List AV} {x : AV} {R : List Blk} (h : CallOk P f (frzH H) args x (frzH H ++ R.map some)) (hx : x.nofz = true) (hR : (R.all fun b => b.own && nofzL b.els) = true) : CallOk P f H args x (H ++ R.map some) := by
  refine ⟨h.1, fun g vals hH hg hr => ?_⟩
  subst hH
  let gc : G := { g with H := frzH g.H, Z := fun b => g.Z b ∨ Own g b }
  have hownlt : ∀ b, Own g b → b < g.w.heap.size := by
    rintro b ⟨i, k, h1, h2, h3, rfl⟩
    obtain ⟨c, e, lo, hi, m1, _⟩ := (hg.blk i k h1).mem h3
    exact (Array.getElem?_eq_some_iff.1 m1).1
  have hrc : Ren some g gc := by
    refine ⟨fun _ h => .inl h, fun _ _ => rfl, fun i j hi hj => ?_⟩
    cases hj
    refine ⟨by simpa [gc, frzH_length] using hi, fun k' hk' => ?_⟩
    simp only [gc, frzH_get, Option.map_eq_some_iff] at hk'
    obtain ⟨k, hk, rfl⟩ := hk'
    exact ⟨k, hk, rfl, rfl, rfl, rfl⟩
  have hgc : GOk gc := by
    refine ⟨fun i k' hk' => ?_, fun i j k k' hi hj ho => ?_, fun b hb => hb.elim (hg.zlt b) (hownlt b)⟩
    · simp only [gc, frzH_get, Option.map_eq_some_iff] at hk'
      obtain ⟨k, hk, rfl⟩ := hk'
      have hb := hg.blk i k hk
      refine ⟨(fun ho => absurd ho (by simp)), fun _ h0 => ?_, hb.fit, hb.pos, fun h0 => ?_⟩
      · by_cases ho : k.own = true
        · exact .inr ⟨i, k, hk, ho, h0, rfl⟩
        · exact .inl (hb.frz (by simpa using ho) h0)
      · obtain ⟨c, e, lo, hi, m1, m2, m3, xs, m4, m5⟩ := hb.mem h0
        exact ⟨c, e, lo, hi, m1, m2, m3, xs, RelL.mono hrc m4, m5⟩
    · simp only [gc, frzH_get, Option.map_eq_some_iff] at hi
      obtain ⟨k0, _, rfl⟩ := hi
      cases ho
  have hnoc : ∀ b, ¬ Own gc b := by
    rintro b ⟨i, k, h1, h2, _⟩
    simp only [gc, frzH_get, Option.map_eq_some_iff] at h1
    obtain ⟨k0, _, rfl⟩ := h1
    cases h2
  refine (h.2 gc vals rfl hgc (RelL.mono hrc hr)).mono fun e w' he => ?_
  obtain ⟨v, g1, rfl, rfl, hH1, hg1, hx1, hs1⟩ := he
  have hlH : (frzH g.H).length = g.H.length := frzH_length
  let g2 : G := { g1 with H := g.H ++ R.map some, Z := fun b => g1.Z b ∧ ¬ Own g b }
  have get2 : ∀ i b, hget g2.H i = some b → (i < g.H.length ∧ hget g.H i = some b) ∨ (g.H.length ≤ i ∧ hget g1.H i = some b ∧ b ∈ R) := by
    intro i b hb
    simp only [g2, hget_append] at hb
    by_cases hi : i < g.H.length
    · rw [if_pos hi] at hb; exact .inl ⟨hi, hb⟩
    · rw [if_neg hi] at hb
      refine .inr ⟨by omega, ?_, ?_⟩
      · rw [hH1, hget_append, hlH, if_neg hi]; exact hb
      · rw [hget_iff] at hb
        have := List.mem_of_getElem? hb
        simpa using this
  have hsame : ∀ i k, i < g.H.length → hget g.H i = some k → g1.φ i = g.φ i ∧ g1.bs i = g.bs i ∧ g1.sz i = g.sz i := by
    intro i k hi hk
    have hk1 : hget g1.H i = some { k with own := false } := by
      rw [hH1, hget_append, hlH, if_pos hi, frzH_get, hk]; rfl
    obtain ⟨k0, _, _, e1, e2, e3⟩ := (hs1.ren.id i i (by simpa [gc, hlH] using hi) rfl).2 _ hk1
    exact ⟨e1, e2, e3⟩
  have hkeep : ∀ b, b < g.w.heap.size → g1.w.heap[b]? = g.w.heap[b]? := fun b hb => hs1.ext.keep b hb (hnoc b)
  have hren : Ren some g g2 := by
    refine ⟨fun b hb => ⟨hs1.ren.z b (.inl hb), ?_⟩, fun b hb => hkeep b (hg.zlt b hb), fun i j hi hj => ?_⟩
    · rintro ⟨i, k, h1, h2, h3, rfl⟩
      exact (hg.blk i k h1).own h2 h3 hb
    · cases hj
      refine ⟨by simp [g2]; omega, fun k' hk' => ?_⟩
      rcases get2 i k' hk' with ⟨_, h⟩ | ⟨h, _⟩
      · exact ⟨k', h, rfl, hsame i k' hi h⟩
      · omega
  have hrenz : RenZ g1 g2 := by
    refine ⟨fun i hi => ?_⟩
    rw [hH1] at hi
    refine ⟨by simpa [g2, hlH] using hi, fun k' hk' => ?_⟩
    rcases get2 i k' hk' with ⟨hi', h⟩ | ⟨_, h, _⟩
    · exact ⟨{ k' with own := false }, by rw [hH1, hget_append, hlH, if_pos hi', frzH_get, h]; rfl, rfl, rfl, rfl, rfl⟩
    · exact ⟨k', h, rfl, rfl, rfl, rfl⟩
  have hRb : ∀ b ∈ R, b.own = true ∧ nofzL b.els = true := fun b hb => by
    have := List.all_eq_true.1 hR b hb
    simpa using this
  have hnew : ∀ i b, g.H.length ≤ i → hget g1.H i = some b → b.own = true → g1.sz i ≠ 0 → g.w.heap.size ≤ g1.φ i := by
    intro i b hi hb ho h0
    rcases hs1.ext.own _ ⟨i, b, hb, ho, h0, rfl⟩ with h | h
    · exact absurd h (hnoc _)
    · exact h
  have hgo : GOk g2 := by
    refine ⟨fun i b hb => ?_, fun i i' b b' hb hb' ho ho' hs hs' hφ => ?_, fun b hb => hg1.zlt b hb.1⟩
    · rcases get2 i b hb with ⟨hi, h1⟩ | ⟨hi, h1, h2⟩
      · obtain ⟨e1, e2, e3⟩ := hsame i b hi h1
        have hb0 := hg.blk i b h1
        have f1 : g2.φ i = g.φ i := e1
        have f2 : g2.bs i = g.bs i := e2
        have f3 : g2.sz i = g.sz i := e3
        refine ⟨fun ho h0 hz => ?_, fun ho h0 => ?_, by rw [f2, f3]; exact hb0.fit, hb0.pos, ?_⟩
        · rw [f3] at h0
          exact hz.2 ⟨i, b, h1, ho, h0, f1.symm⟩
        · rw [f3] at h0
          rw [f1]
          exact hren.z _ (hb0.frz ho h0)
        · rw [f1, f2, f3]
          intro h0
          obtain ⟨c, e, lo, hi', m1, m2, m3, xs, m4, m5⟩ := hb0.mem h0
          refine ⟨c, e, lo, hi', ?_, m2, m3, xs, RelL.mono hren m4, m5⟩
          rw [← m1]
          exact hkeep _ (Array.getElem?_eq_some_iff.1 m1).1
      · have hb1 := hg1.blk i b h1
        obtain ⟨r1, r2⟩ := hRb b h2
        refine ⟨fun ho h0 hz => hb1.own ho h0 hz.1, fun ho => (by rw [r1] at ho; cases ho), hb1.fit, hb1.pos, fun h0 => ?_⟩
        obtain ⟨c, e, lo, hi', m1, m2, m3, xs, m4, m5⟩ := hb1.mem h0
        exact ⟨c, e, lo, hi', m1, m2, m3, xs, RelL.nofz hrenz r2 m4, m5⟩
    · rcases get2 i b hb with ⟨hi, h1⟩ | ⟨hi, h1, h2⟩
      · obtain ⟨e1, e2, e3⟩ := hsame i b hi h1
        have hs0 : g.sz i ≠ 0 := by rw [← e3]; exact hs
        rcases get2 i' b' hb' with ⟨hi', h1'⟩ | ⟨hi', h1', h2'⟩
        · obtain ⟨e1', e2', e3'⟩ := hsame i' b' hi' h1'
          refine hg.inj i i' b b' h1 h1' ho ho' hs0 (by rw [← e3']; exact hs') ?_
          rw [← e1, ← e1']; exact hφ
        · exfalso
          have q1 := hnew i' b' hi' h1' ho' hs'
          have q2 := hownlt _ ⟨i, b, h1, ho, hs0, rfl⟩
          have q3 : g1.φ i = g1.φ i' := hφ
          omega
      · rcases get2 i' b' hb' with ⟨hi', h1'⟩ | ⟨hi', h1', h2'⟩
        · obtain ⟨e1', e2', e3'⟩ := hsame i' b' hi' h1'
          exfalso
          have hs0 : g.sz i' ≠ 0 := by rw [← e3']; exact hs'
          have q1 := hnew i b hi h1 ho hs
          have q2 := hownlt _ ⟨i', b', h1', ho', hs0, rfl⟩
          have q3 : g1.φ i = g1.φ i' := hφ
          omega
        · exact hg1.inj i i' b b' h1 h1' ho ho' hs hs' hφ
  have hext : Ext g g2 := by
    refine ⟨hs1.ext.rest, hs1.ext.size, fun b hb _ => hkeep b hb, fun b hb => hren.z b hb, fun b hb => ?_, fun b ⟨i, k, h1, h2, h3, h4⟩ => ?_⟩
    · rcases hs1.ext.z' b hb.1 with (h | h) | h | h
      · exact .inl h
      · exact absurd h hb.2
      · exact .inr (.inl h)
      · exact absurd h (hnoc b)
    · rcases get2 i k h1 with ⟨hi, e1⟩ | ⟨hi, e1, e2⟩
      · obtain ⟨p1, p2, p3⟩ := hsame i k hi e1
        exact .inl ⟨i, k, e1, h2, by rw [← p3]; exact h3, by rw [← p1]; exact h4⟩
      · right
        have := hnew i k hi e1 h2 h3
        have h4' : g1.φ i = b := h4
        omega
  exact ⟨v, g2, rfl, rfl, rfl, hgo, Rel.nofz hrenz hx hx1, hren, hext⟩

-- a function out of its body
def argsTM : Nat → List AV → TM
  | _, [] => []
  | i, x :: l => (i, x) :: argsTM (i + 1) l
theorem argsTM_rel {g : G} : ∀ (l : List AV) (i : Nat) (vs : List Value) (f : Nat → Value), RelL g l vs → (∀ (j : Nat) v, vs[j]? = some v → f (i + j) = v) → TmRel g (argsTM i l) f
  | [], i, vs, f, _, _, t => by simp [argsTM, tget, Rel]
  | x :: l, i, vs, f, h, hf, t => by
    simp only [RelL] at h
    obtain ⟨z, zs, rfl, hz, hl⟩ := h
    simp only [argsTM, tget]
    by_cases ht : i = t
    · subst ht
      rw [if_pos rfl]
      have := hf 0 z rfl
      simp at this
      rw [this]; exact hz
    · rw [if_neg ht]
      exact argsTM_rel l (i + 1) zs f hl (fun j v hv => by
        have := hf (j + 1) v (by simpa using hv)
        rw [← this]; congr 1; omega) t
/-- What the result variables hold. -/
def resA (P : Program) (tm : TM) (H : Heap) : List ResultVar → Option (List AV)
  | [] => some []
  | .tmp t :: l => (resA P tm H l).map (tget tm t :: ·)
  | .cell t ty :: l => (tyI P ty).bind fun i => (locA H (tget tm t)).bind fun p => (loadA i p.1 p.2).bind fun r => (resA P tm H l).map (r :: ·)
def tupA : List AV → AV
  | [x] => x
  | l => .tup l
theorem resA_sound {g : G} {a : Act} (hg : GOk g) (ht : TmRel g tm (tmpsOf a)) : ∀ (l : List ResultVar) (rs : List AV), resA P tm g.H l = some rs →
    ∃ vs, (l.mapM (fun r => match r with | .tmp t => pure (a.tmps.getD t undef) | .cell p t => do loadVar t (← asAddr (a.tmps.getD p undef)) : ResultVar → Sem Value)).run P g.w = .ok vs g.w ∧ RelL g rs vs
  | [], rs, h => by
    simp [resA] at h
    subst h
    exact ⟨[], by simp, .nil⟩
  | .tmp t :: l, rs, h => by
    simp only [resA] at h
    obtain ⟨rs', h1, rfl⟩ := Option.map_eq_some_iff.1 h
    obtain ⟨vs, h2, h3⟩ := resA_sound hg ht l rs' h1
    exact ⟨_ :: vs, by simp only [List.mapM_cons, Sem.run_bind, Sem.run_pure, Result.andThen_ok, h2], .cons (ht t) h3⟩
  | .cell p t :: l, rs, h => by
    simp only [resA] at h
    obtain ⟨i, hi, h⟩ := Option.bind_eq_some_iff.1 h
    obtain ⟨⟨cl, f⟩, hp, h⟩ := Option.bind_eq_some_iff.1 h
    obtain ⟨r, hr, h⟩ := Option.bind_eq_some_iff.1 h
    obtain ⟨rs', h1, rfl⟩ := Option.map_eq_some_iff.1 h
    obtain ⟨vs, h2, h3⟩ := resA_sound hg ht l rs' h1
    obtain ⟨b, o, ys, e1, e2, e3⟩ := locA_sound hg hp (ht p)
    obtain ⟨v, h4, h5⟩ := loadVar_sound (P := P) hi e2 e3 hr
    have e1' : a.tmps.getD p undef = .pointer (some ⟨b, o + f, none⟩) := e1
    refine ⟨v :: vs, ?_, .cons h5 h3⟩
    simp only [List.mapM_cons, Sem.run_bind]
    rw [e1']
    have ha : (asAddr (Value.pointer (some ⟨b, o + f, none⟩))).run P g.w = .ok ⟨b, o + f, none⟩ g.w := rfl
    simp only [ha, Sem.run_pure, Result.andThen_ok, h4, h2]
theorem results_run {fn : Func} {g : G} {a : Act} (hg : GOk g) (ht : TmRel g tm (tmpsOf a)) {rs : List AV} (h : resA P tm g.H fn.results.toList = some rs) : ∃ v, (results fn a.tmps).run P g.w = .ok v g.w ∧ Rel g (tupA rs) v := by
  obtain ⟨vs, h1, h2⟩ := resA_sound (P := P) (a := a) hg ht fn.results.toList rs h
  have e : (fn.results.mapM (fun r => match r with | .tmp t => pure (a.tmps.getD t undef) | .cell p t => do loadVar t (← asAddr (a.tmps.getD p undef)) : ResultVar → Sem Value)).run P g.w = .ok vs.toArray g.w := by
    rw [Array.mapM_eq_mapM_toList, Sem.run_map, h1]; rfl
  refine ⟨if h : vs.toArray.size = 1 then vs.toArray[0] else .tuple vs.toArray, ?_, ?_⟩
  · unfold results
    rw [Sem.run_bind]
    refine (congrArg (fun r => Result.andThen r _) e).trans ?_
    rfl
  · match rs, vs, h2 with
    | [], ys, h2 => simp only [RelL] at h2; subst h2; simp [tupA, Rel, RelL]
    | [x], ys, h2 =>
      simp only [RelL] at h2
      obtain ⟨z, zs, rfl, hz, rfl⟩ := h2
      simpa [tupA] using hz
    | x :: y :: l, ys, h2 =>
      have hl := h2.length
      have : ¬ ys.toArray.size = 1 := by simp [hl]
      rw [dif_neg this]
      simp only [tupA, Rel]
      exact ⟨_, rfl, by simpa using h2⟩
theorem CSpec.intro {f : FuncId} {fn : Func} {c : Code} (hf : P.funcs[f]? = some fn) (hb : fn.body = some c) (hnm : (fn.name == "runtime.NumGoroutine") = false) {hin : List Blk} {args : List AV} {hout : Heap} {x : AV} (hn : args.length ≤ fn.ntmps)
    (h : T [] P fn.ntmps hin.length c (argsTM 0 args) (hin.map some) (fun e tm H => (e = .normal ∨ e = .ret) ∧ ∃ rs, resA P tm H fn.results.toList = some rs ∧ TEnt hin.length [(0, tupA rs)] H [(0, x)] hout)) : CSpec P f hin args hout x := by
  refine ⟨⟨fn, hf, hnm, by simp [hb]⟩, fun g vals hH hg hr => calls_of_wp hf hb ?_⟩
  have hvl : vals.length = args.length := hr.length
  have hok : TmOk [] g (argsTM 0 args) { tmps := vals.toArray ++ Array.replicate (fn.ntmps - vals.toArray.size) undef, defers := [] } fn.ntmps := by
    refine ⟨by simp; omega, rfl, argsTM_rel args 0 vals _ hr (fun j v hv => ?_)⟩
    have hj := (List.getElem?_eq_some_iff.1 hv).1
    simp only [tmpsOf, Nat.zero_add, Array.getD_eq_getD_getElem?]
    rw [Array.getElem?_append_left (by simpa using hj)]
    simp [hv]
  refine wp_mono (h g _ hH (by simp) hg hok) fun e a' w' he => ?_
  obtain ⟨tm', g', rfl, ⟨he, rs, h1, h2⟩, h3, h4, h5, h6⟩ := he
  obtain ⟨v, hv1, hv2⟩ := results_run (P := P) (fn := fn) h3 h4.rel h1
  obtain ⟨g2, b1, b2, b3, b4, b5, b6⟩ := h2 g' (fun _ => v) rfl h6.len h3 (fun t => by
    simp only [tget]
    split
    · exact hv2
    · simp [Rel])
  have hfin : ∃ v_1 g'_1, Ending.returned v = Ending.returned v_1 ∧ g'_1.w = g'.w ∧ g'_1.H = hout ∧ GOk g'_1 ∧ Rel g'_1 x v_1 ∧ Ext g g'_1 ∧ Pin hin.length g g'_1 :=
    ⟨v, g2, rfl, b1, b2, b3, by simpa [tget] using b4 0, h5.trans b5, h6.trans b6⟩
  rcases he with rfl | rfl
  · exact ⟨h4.defers, v, hv1, hfin⟩
  · exact ⟨h4.defers, v, hv1, hfin⟩
end Go.AM
