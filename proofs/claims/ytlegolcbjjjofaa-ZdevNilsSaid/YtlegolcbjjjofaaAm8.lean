/- The abstract machine: operations that lay or write blocks. -/
import Derived.Test.YtlegolcbjjjofaaAm7
import Derived.Lib.ConvBytes
namespace Go.AM
variable {P : Program} {tm : TM} {H : Heap}

theorem agg_cells (cs : Array Value) : (Value.agg cs).cells = cs := rfl
/-- A variable laid anew. -/
theorem newVar_ok {g : G} (hg : GOk g) (t : TypeId) {x : AV} {v : Value} {n : Nat} (hx : Rel g x v) (hf : fits x n = true) (hn : 0 < n) :
    ∃ g', (newVar t v).run P g.w = .ok ⟨g.w.heap.size, 0, none⟩ g'.w ∧ g'.H = g.H ++ [some ⟨n, true, [x]⟩] ∧ GOk g' ∧ Sub g g' ∧ Rel g' (.ref g.H.length 0 0) (.pointer (some ⟨g.w.heap.size, 0, none⟩)) := by
  obtain ⟨hfl, _⟩ := fits_flat hx hf hn
  refine ⟨g.push v.cells t (0, 0) ⟨n, true, [x]⟩, ?_, rfl, ?_, push_ren g _ _ _ _ hg, ?_⟩
  · simp [newVar, newRow, G.push]
  · refine push_ok hg rfl hn (by simp [hfl.1]) (.inl rfl) (fun _ => ⟨[v], RelL.cons hx .nil, fun i y hy => ?_⟩)
    cases i with
    | zero => simp at hy; subst hy; exact ⟨hfl, fun j _ => by simp⟩
    | succ i => simp at hy
  · simp only [Rel]
    refine ⟨by simp [G.push], _, rfl, fun k hk => ?_⟩
    simp [G.push]
theorem ok_alloc {o : Oper} {t : TypeId} (ho : o.op = .alloc t) {i : TI} (hi : tyI P t = some i) (hf : fits (cav i.zero) i.size = true) (hn : 0 < i.size) : OpOk P tm H o (.ref H.length 0 0) (H ++ [some ⟨i.size, true, [cav i.zero]⟩]) := by
  intro g a hH hg ht
  subst hH
  obtain ⟨_, _, e3, _⟩ := tyI_run hi g.w
  obtain ⟨g', h1, h2, h3, h4, h5⟩ := newVar_ok (P := P) hg t (cav_rel g i.zero) hf hn
  refine ⟨_, g', .inl ?_, h2, h3, h5, h4⟩
  simp [execOp, ho, Instr.alloc, e3, h1]
theorem ok_box {o : Oper} {t : TypeId} {x : Operand} (ho : o.op = .box t x) {n : Nat} (hf : fits (ev tm x) n = true) (hn : 0 < n) : OpOk P tm H o (.ref H.length 0 0) (H ++ [some ⟨n, true, [ev tm x]⟩]) := by
  intro g a hH hg ht
  subst hH
  obtain ⟨g', h1, h2, h3, h4, h5⟩ := newVar_ok (P := P) hg t (ht x (by simp [ho, Op.operands, Call.operands])) hf hn
  refine ⟨_, g', .inl ?_, h2, h3, h5, h4⟩
  simp [execOp, ho, Instr.box, h1]

/-- Cells put in the place of others. -/
def splice {α : Type} (l : List α) (o : Nat) (m : List α) : List α := l.take o ++ m ++ l.drop (o + m.length)
theorem RelL.splice {g : G} {l m : List AV} {ys zs : List Value} (o : Nat) (h : RelL g l ys) (h' : RelL g m zs) : RelL g (splice l o m) (Go.AM.splice ys o zs) := by
  unfold Go.AM.splice
  rw [h'.length]
  exact ((h.take o).append h').append (h.drop _)
/-- What an element is when cells of it are written. -/
def putA (k : Nat) (el : AV) (f : Nat) (x : AV) (n : Nat) : AV := if f = 0 ∧ n = k then x else .agg (splice el.cells f x.cells)
theorem ok_store {o : Oper} {t : TypeId} {p x : Operand} (ho : o.op = .store t p x) {i : TI} (hi : tyI P t = some i) (hi0 : 0 < i.size) {id j f : Nat} (hp : ev tm p = .ref id j f) {k : Blk} (hk : hget H id = some k) (hown : k.own = true)
    {el : AV} (hel : k.els[j]? = some el) (hx : fits (ev tm x) i.size = true) (hfit : f + i.size ≤ k.es) (hcl : (f = 0 ∧ i.size = k.es) ∨ el.cells.length = k.es) :
    OpOk P tm H o .any (H.set id (some { k with els := k.els.set j (putA k.es el f (ev tm x) i.size) })) := by
  intro g a hH hg ht
  subst hH
  obtain ⟨_, e2, _⟩ := tyI_run hi g.w
  have hpr := ht p (by simp [ho, Op.operands, Call.operands])
  rw [hp] at hpr
  simp only [Rel] at hpr
  obtain ⟨_, pa, hpa, hpr⟩ := hpr
  have hpa' := hpr k hk
  subst hpa'
  obtain ⟨hflat, hcells⟩ := fits_flat (ht x (by simp [ho, Op.operands, Call.operands])) hx hi0
  obtain ⟨hs0, c, e, lo, hi', y, m1, m2, m3, m4, m5, m6, xs, m7, m8, m9⟩ := lies_at hg hk hel
  have hb := hg.blk id k hk
  have hj : j < k.els.length := (List.getElem?_eq_some_iff.1 hel).1
  generalize hv : a.eval x = v at hflat hcells
  have hxr : Rel g (ev tm x) v := hv ▸ ht x (by simp [ho, Op.operands, Call.operands])
  -- the block behind the store
  let pos := g.bs id + (j * k.es + f)
  have hroom : pos + v.cells.toList.length ≤ c.size := by
    have h1 := hb.fit
    have h2 : (j + 1) * k.es ≤ k.els.length * k.es := Nat.mul_le_mul_right _ (by omega)
    rw [Nat.add_mul, Nat.one_mul] at h2
    have h3 := hflat.1
    simp only [pos, Array.length_toList]
    omega
  have hst := run_stores P (g.φ id) pos e (lo, hi') v.cells.toList 0 c g.w m1 m3 (by simpa using hroom) (fun z hz => by
    obtain ⟨q, hq⟩ := List.getElem?_of_mem hz
    exact hflat.2 q z (by simpa using hq))
  let c' : Array Value := (c.toList.take (pos + 0) ++ v.cells.toList ++ c.toList.drop (pos + 0 + v.cells.toList.length)).toArray
  have hc's : c'.size = c.size := by
    simp only [c', List.size_toArray, List.length_append, List.length_take, List.length_drop, Array.length_toList] at hroom ⊢
    omega
  have hc'get : ∀ m, c'[m]? = if pos ≤ m ∧ m < pos + i.size then v.cells[m - pos]? else c[m]? := by
    intro m
    have h3 := hflat.1
    simp only [c', List.getElem?_toArray, Nat.add_zero, Array.length_toList] at hroom ⊢
    by_cases h1 : m < pos
    · rw [List.append_assoc, List.getElem?_append_left (by simp; omega), List.getElem?_take, if_pos h1, if_neg (by omega)]
      simp
    · by_cases h2 : m < pos + i.size
      · rw [if_pos ⟨by omega, h2⟩, List.getElem?_append_left (by simp; omega), List.getElem?_append_right (by simp; omega)]
        simp only [List.length_take, Array.length_toList, Array.getElem?_toList]
        congr 1
        omega
      · rw [if_neg (by omega), List.getElem?_append_right (by simp; omega), List.getElem?_drop]
        simp only [List.length_append, List.length_take, Array.length_toList, Array.getElem?_toList]
        congr 1
        omega
  -- the new element
  obtain ⟨y', hy'1, hy'2, hy'3⟩ : ∃ y', Rel g (putA k.es el f (ev tm x) i.size) y' ∧ Flat y' k.es ∧ ∀ q, q < k.es → y'.cells[q]? = if f ≤ q ∧ q < f + i.size then v.cells[q - f]? else y.cells[q]? := by
    unfold putA
    by_cases hw : f = 0 ∧ i.size = k.es
    · rw [if_pos hw]
      refine ⟨v, hxr, by rw [← hw.2]; exact hflat, fun q hq => ?_⟩
      rw [if_pos (by omega), hw.1]
      simp
    · rw [if_neg hw]
      have hcl' : el.cells.length = k.es := hcl.resolve_left hw
      have hne : el.cells ≠ [] := fun e => by rw [e] at hcl'; simp at hcl'; have := hb.pos; omega
      have hyc := cells_rel m4 hne
      refine ⟨.agg (splice y.cells.toList f v.cells.toList).toArray, ?_, ?_, fun q hq => ?_⟩
      · simp only [Rel]
        exact ⟨_, rfl, by simpa using hyc.splice f hcells⟩
      · have h3 := hflat.1
        have h5 := m5.1
        refine ⟨by simp only [agg_cells, splice, List.size_toArray, List.length_append, List.length_take, List.length_drop, Array.length_toList]; omega, fun q z hz => ?_⟩
        have hz' : z ∈ splice y.cells.toList f v.cells.toList := by
          simp only [agg_cells, List.getElem?_toArray] at hz
          exact List.mem_of_getElem? hz
        simp only [splice, List.mem_append] at hz'
        rcases hz' with (hz' | hz') | hz'
        · obtain ⟨q', hq'⟩ := List.getElem?_of_mem (List.mem_of_mem_take hz'); exact m5.2 q' z (by simpa using hq')
        · obtain ⟨q', hq'⟩ := List.getElem?_of_mem hz'; exact hflat.2 q' z (by simpa using hq')
        · obtain ⟨q', hq'⟩ := List.getElem?_of_mem (List.mem_of_mem_drop hz'); exact m5.2 q' z (by simpa using hq')
      · have h3 := hflat.1
        have h5 := m5.1
        simp only [agg_cells, splice, List.getElem?_toArray]
        by_cases h1 : q < f
        · rw [List.append_assoc, List.getElem?_append_left (by simp; omega), List.getElem?_take, if_pos h1, if_neg (by omega)]
          simp
        · by_cases h2 : q < f + i.size
          · rw [if_pos ⟨by omega, h2⟩, List.getElem?_append_left (by simp; omega), List.getElem?_append_right (by simp; omega)]
            simp only [List.length_take, Array.length_toList, Array.getElem?_toList]
            congr 1
            omega
          · rw [if_neg (by omega), List.getElem?_append_right (by simp; omega), List.getElem?_drop]
            simp only [List.length_append, List.length_take, Array.length_toList, Array.getElem?_toList]
            congr 1
            omega
  have hlies : Lies g (g.bs id) { k with els := k.els.set j (putA k.es el f (ev tm x) i.size) } c' := by
    refine ⟨xs.set j y', RelL.set j m7 hy'1, fun q z hz => ?_⟩
    rw [List.getElem?_set] at hz
    by_cases hq : j = q
    · subst hq
      have hjx : j < xs.length := (List.getElem?_eq_some_iff.1 m8).1
      simp only [if_true, hjx, Option.some.injEq] at hz
      subst hz
      refine ⟨hy'2, fun q hq => ?_⟩
      rw [hy'3 q hq, hc'get]
      simp only [pos]
      by_cases h1 : f ≤ q ∧ q < f + i.size
      · rw [if_pos h1, if_pos (by omega)]
        congr 1
        omega
      · rw [if_neg h1, if_neg (by omega)]
        exact m6 q hq
    · simp only [hq, if_false] at hz
      obtain ⟨f1, f2⟩ := m9 q z hz
      refine ⟨f1, fun r hr => ?_⟩
      rw [hc'get, if_neg, f2 r hr]
      simp only [pos]
      have hr' : r < k.es := hr
      rcases Nat.lt_or_gt_of_ne hq with h | h
      · have : (j + 1) * k.es ≤ q * k.es := Nat.mul_le_mul_right _ h
        rw [Nat.add_mul, Nat.one_mul] at this
        omega
      · have : (q + 1) * k.es ≤ j * k.es := Nat.mul_le_mul_right _ h
        rw [Nat.add_mul, Nat.one_mul] at this
        omega
  have hwr := write_ok hg hk hown hs0 m1 hc's (els := k.els.set j (putA k.es el f (ev tm x) i.size)) (by simpa using hb.fit) hlies
  refine ⟨undef, _, .inr ⟨?_, rfl⟩, rfl, hwr.1, by simp [Rel], hwr.2⟩
  have hsz : ¬ v.cells.size ≠ i.size := by simp [hflat.1]
  simp only [execOp, ho, hv, Instr.storeAt, hpa, Instr.sureAddr, Sem.run_bind, Sem.run_pure, Result.andThen_ok, storeVar, e2]
  rw [if_neg hsz]
  have : (storeCells ⟨g.φ id, pos, none⟩ v.cells.toList).run P g.w = .ok () (g.w.setRow (g.φ id) c') := hst
  simp only [pos] at this
  rw [this]
  rfl
end Go.AM
