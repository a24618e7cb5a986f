/- The abstract machine: literals of rows, append, copy, texts as bytes. -/
import Derived.Test.YtlegolcbjjjofaaAm9
namespace Go.AM
variable {P : Program} {tm : TM} {H : Heap}

theorem fill_rows {es : Nat} : ∀ (vs : List Value) (s : Nat) (c : Array Value), (∀ v ∈ vs, v.cells.size = es) → (s + vs.length) * es ≤ c.size →
    ∃ c', Instr.fill (fun i => some (i * es, es)) c ((vs.zipIdx s).map fun p => (p.2, p.1)) = some c' ∧ c'.size = c.size ∧ ∀ m : Nat, c'[m]? = if s * es ≤ m ∧ m < (s + vs.length) * es then (flatC vs)[m - s * es]? else c[m]?
  | [], s, c, _, _ => ⟨c, rfl, rfl, fun m => by rw [if_neg (by simp)]⟩
  | v :: vs, s, c, hv, hl => by
    have hv0 := hv v (by simp)
    simp only [List.length_cons] at hl
    have hmul : (s + (vs.length + 1)) * es = s * es + es + vs.length * es := by rw [Nat.add_mul, Nat.add_mul, Nat.one_mul]; omega
    obtain ⟨p1, p2⟩ := fold_put_arr v.cells (s * es) c (by omega)
    have hmul2 : (s + 1 + vs.length) * es = s * es + es + vs.length * es := by rw [Nat.add_mul, Nat.add_mul, Nat.one_mul]
    obtain ⟨c', h1, h2, h3⟩ := fill_rows vs (s + 1) (v.cells.zipIdx.foldl (fun cs (p : Value × Nat) => cs.setIfInBounds (s * es + p.2) p.1) c) (fun x hx => hv x (by simp [hx])) (by omega)
    refine ⟨c', ?_, by omega, fun m => ?_⟩
    · simp only [List.zipIdx_cons, List.map_cons, Instr.fill]
      rw [if_neg (by simp [hv0]; omega)]
      exact h1
    · rw [h3 m, p2 m]
      have e1 : (s + 1) * es = s * es + es := by rw [Nat.add_mul, Nat.one_mul]
      have hmul' : (s + (v :: vs).length) * es = s * es + es + vs.length * es := hmul
      simp only [e1, hmul2, hmul', hv0]
      by_cases ha : s * es + es ≤ m ∧ m < s * es + es + vs.length * es
      · rw [if_pos ha, if_pos (by omega)]
        simp only [flatC, List.flatMap_cons]
        rw [List.getElem?_append_right (by simp [hv0]; omega)]
        congr 1
        simp [hv0]; omega
      · rw [if_neg ha]
        by_cases hb : s * es ≤ m ∧ m < s * es + es
        · rw [if_pos hb, if_pos (by omega)]
          simp only [flatC, List.flatMap_cons]
          rw [List.getElem?_append_left (by simp [hv0]; omega)]
          simp
        · rw [if_neg hb, if_neg (by omega)]
theorem zip_of_range {α : Type} : ∀ (l : List (Nat × α)) (s : Nat), l.map (·.1) = List.range' s l.length → l = ((l.map (·.2)).zipIdx s).map fun p => (p.2, p.1)
  | [], _, _ => rfl
  | (i, x) :: l, s, h => by
    simp only [List.map_cons, List.length_cons, List.range'_succ, List.cons.injEq] at h
    obtain ⟨rfl, h⟩ := h
    simp only [List.map_cons, List.zipIdx_cons, List.cons.injEq, true_and]
    exact zip_of_range l (i + 1) h
theorem fits_list {g : G} {es : Nat} (hes : 0 < es) : ∀ {l : List AV} {ys : List Value}, RelL g l ys → (l.all fun x => fits x es) = true → ∀ y ∈ ys, Flat y es
  | [], ys, h, _ => by simp only [RelL] at h; subst h; simp
  | x :: l, ys, h, hf => by
    simp only [RelL] at h
    obtain ⟨z, zs, rfl, hz, hl⟩ := h
    simp only [List.all_cons, Bool.and_eq_true] at hf
    intro y hy
    rcases List.mem_cons.1 hy with rfl | hy
    · exact (fits_flat hz hf.1 hes).1
    · exact fits_list hes hl hf.2 y hy
theorem ok_buildSlice {o : Oper} {t : TypeId} {n : Nat} {ps : Array (Nat × Operand)} (ho : o.op = .buildSlice t n ps) {i : TI} (hi : tyI P t = some i) {e : TypeId} (hd : i.desc = .slice e) {j : TI} (hj : tyI P e = some j) (hj0 : 0 < j.size)
    (hix : ps.toList.map (·.1) = List.range' 0 n) (hln : ps.toList.length = n) (hsz : n * j.size ≤ 16777216) {l : List AV} (hl : ps.toList.map (fun p => ev tm p.2) = l) (hf : (l.all fun x => fits x j.size) = true) (hz : fits (cav j.zero) j.size = true) :
    OpOk P tm H o (.sl H.length 0 n) (H ++ [some ⟨j.size, true, l⟩]) := by
  intro g a hH hg ht
  subst hH
  obtain ⟨e1, _⟩ := tyI_run hi g.w
  obtain ⟨_, e2, e3, _⟩ := tyI_run hj g.w
  let vs := ps.toList.map fun p => a.eval p.2
  have hrel : RelL g l vs := by
    have := eval_list (g := g) (a := a) (tm := tm) (ps.toList.map (·.2)) (fun y hy => ht y (by simpa [ho, Op.operands] using hy))
    rw [← hl]
    simpa [vs, List.map_map, Function.comp_def] using this
  have hflat := fits_list hj0 hrel hf
  have hvl : vs.length = n := by simp [vs]; simpa using hln
  obtain ⟨hzf, _⟩ := fits_flat (cav_rel g j.zero) hz hj0
  let z0 : Array Value := if n * j.size = 0 then #[] else j.zero.cells
  let c0 : Array Value := (Array.range (n * j.size)).map (z0[· % z0.size]!)
  have hc0 : c0.size = n * j.size := by simp [c0]
  obtain ⟨c, h1, h2, h3⟩ := fill_rows (es := j.size) vs 0 c0 (fun v hv => (hflat v hv).1) (by rw [hvl, Nat.zero_add, hc0]; exact Nat.le_refl _)
  have hparts : (ps.map fun (x : Nat × Operand) => match x with | (i, x) => (i, a.eval x)).toList = (vs.zipIdx 0).map fun p => (p.2, p.1) := by
    have := zip_of_range ((ps.map fun p => (p.1, a.eval p.2)).toList) 0 (by
      simp only [Array.toList_map, List.map_map, Function.comp_def, List.length_map]
      have h := hix
      rw [hln]
      simpa [Function.comp_def] using h)
    have e : (ps.map fun (x : Nat × Operand) => match x with | (i, x) => (i, a.eval x)) = ps.map fun p => (p.1, a.eval p.2) := rfl
    rw [e, this]
    simp [vs, List.map_map, Function.comp_def]
  have hrun : (execOp a.eval o).run P g.w = .ok (.value (.slice (some ⟨g.w.heap.size, 0, none⟩) n n)) (g.w.alloc (.cells c e (0, 0))) := by
    simp only [execOp, ho, Instr.buildSlice, Sem.run_bind, e1, Result.andThen_ok, hd, e2]
    rw [if_neg (by omega)]
    have hfill : Instr.fill (fun i => some (i * j.size, j.size)) ((Array.range (n * j.size)).map (z0[· % z0.size]!)) (ps.map fun (x : Nat × Operand) => match x with | (i, x) => (i, a.eval x)).toList = some c := by
      rw [hparts]; exact h1
    by_cases h : n * j.size = 0
    · rw [if_pos h]
      have hz0 : z0 = #[] := by simp [z0, h]
      rw [hz0] at hfill
      simp only [Sem.run_bind, Sem.run_pure, Result.andThen_ok, hfill, newRow, run_newObj]
      rfl
    · rw [if_neg h]
      have hz0 : z0 = j.zero.cells := by simp [z0, h]
      rw [hz0] at hfill
      simp only [Sem.run_bind, Sem.run_pure, Result.andThen_ok, e3, hfill, newRow, run_newObj]
      rfl
  have hll : l.length = n := by rw [← hrel.length, hvl]
  refine ⟨_, g.push c e (0, 0) ⟨j.size, true, l⟩, .inl hrun, rfl, ?_, ?_, push_ren g _ _ _ _ hg⟩
  · refine push_ok hg rfl hj0 (by simp [hll, h2, hc0]) (.inl rfl) (fun _ => ⟨vs, hrel, fun q x hx => ⟨hflat x (List.mem_of_getElem? hx), fun r hr => ?_⟩⟩)
    have hr' : r < j.size := hr
    show c[0 + (q * j.size + r)]? = x.cells[r]?
    have hq := (List.getElem?_eq_some_iff.1 hx).1
    have h4 : (q + 1) * j.size ≤ vs.length * j.size := Nat.mul_le_mul_right _ hq
    rw [Nat.add_mul, Nat.one_mul] at h4
    rw [h3, if_pos (by simp only [Nat.zero_mul, Nat.zero_add]; omega), Nat.zero_add, Nat.zero_mul, Nat.sub_zero]
    exact flatC_get vs (fun v hv => (hflat v hv).1) q x hx r hr'
  · simp only [Rel]
    refine ⟨by simp [G.push], _, _, rfl, fun k hk => ?_⟩
    rw [push_get] at hk
    cases hk
    refine ⟨Nat.le_refl _, by simp [G.push, h2, hc0], fun _ => by simp [G.push]⟩

-- append
theorem zeroCells_size (z : Array Value) (n : Nat) : (Builtin.zeroCells z n).size = n * z.size := by simp [Builtin.zeroCells]
/-- What a row of the heap or of the frozen says of its cells, at any world over the same memory. -/
structure RowAt (w : World) (A : Option Addr) (es : Nat) (xs : List Value) : Prop where
  flat : ∀ x ∈ xs, Flat x es
  cells : ∀ (m : Nat) v, (flatC xs)[m]? = some v → ∃ a, A = some a ∧ w.cell? (a.add m) = some v
theorem RowAt.of {w : World} {A : Option Addr} {es : Nat} {xs : List Value} (hes : 0 < es) (h : ∀ (i : Nat) x, xs[i]? = some x → Flat x es ∧ ∃ a, A = some a ∧ a.spot = none ∧ ∀ j, j < es → cellAt w a.block (a.off + i * es + j) = x.cells[j]?) : RowAt w A es xs := by
  have hf : ∀ x ∈ xs, Flat x es := fun x hx => by
    obtain ⟨i, hi⟩ := List.getElem?_of_mem hx
    exact (h i x hi).1
  refine ⟨hf, fun m v hm => ?_⟩
  obtain ⟨i, x, j, rfl, hj, hx, hv⟩ := flatC_inv hes (fun x hx => (hf x hx).1) hm
  obtain ⟨_, a, hA, hs, hc⟩ := h i x hx
  refine ⟨a, hA, ?_⟩
  rw [add_spot hs, ← hv, ← hc j hj, Nat.add_assoc]
theorem RowAt.first {w w' : World} (hw : ∀ a, w'.cell? a = w.cell? a) {A : Option Addr} {es : Nat} {xs : List Value} (h : RowAt w A es xs) (len cap : Nat) : (Builtin.firstCells es xs.length (.slice A len cap)).run P w' = .ok (flatC xs).toArray w' := by
  have hl := flatC_length xs (fun x hx => (h.flat x hx).1)
  cases A with
  | none =>
    have : flatC xs = [] := by
      cases hf : flatC xs with
      | nil => rfl
      | cons v l =>
        obtain ⟨a, ha, _⟩ := h.cells 0 v (by rw [hf]; rfl)
        cases ha
    rw [this, run_firstCells_none]
  | some b =>
    refine run_firstCells_some (P := P) w' es xs.length b len cap (flatC xs) hl (fun j v hv => ?_)
    obtain ⟨a, ha, hc⟩ := h.cells j v hv
    cases ha
    rw [hw]; exact hc
theorem flatC_oneCell {es : Nat} {xs : List Value} (h : ∀ x ∈ xs, Flat x es) : ∀ v ∈ flatC xs, v.oneCell' = true := by
  intro v hv
  simp only [flatC, List.mem_flatMap] at hv
  obtain ⟨x, hx, hv⟩ := hv
  obtain ⟨j, hj⟩ := List.getElem?_of_mem hv
  exact (h x hx).2 j v (by simpa using hj)
/-- Elements that lie one behind the other. -/
theorem lies_flat {g : G} {k : Blk} {xs : List Value} {c : Array Value} {o : Nat} (h : RelL g k.els xs) (hf : ∀ x ∈ xs, Flat x k.es) (hc : ∀ m, m < xs.length * k.es → c[o + m]? = (flatC xs)[m]?) : Lies g o k c := by
  refine ⟨xs, h, fun i x hx => ⟨hf x (List.mem_of_getElem? hx), fun j hj => ?_⟩⟩
  have hi := (List.getElem?_eq_some_iff.1 hx).1
  have h4 : (i + 1) * k.es ≤ xs.length * k.es := Nat.mul_le_mul_right _ hi
  rw [Nat.add_mul, Nat.one_mul] at h4
  rw [hc _ (by omega)]
  exact flatC_get xs (fun v hv => (hf v hv).1) i x hx j hj

theorem cut_ge (need old : Nat) (e : TypeId) (t : Nat) : need ≤ (Question.appendCap need old e).cut t := by
  simp [Question.cut]
/-- The arm that lays a new row. -/
theorem append_grown {g : G} (hg : GOk g) {t t2 e : TypeId} {i j : TI} (hi : tyI P t = some i) (hd : i.desc = .slice e) (hj : tyI P e = some j) (hj0 : 0 < j.size) (hb0 : j.bytes ≠ 0) (hz : fits (cav j.zero) j.size = true) {i2 : TI} (hi2 : tyI P t2 = some i2) (hd2 : ∀ k, i2.desc ≠ .int k)
    {A B : Option Addr} {c c2 n2 : Nat} {l1 l2 : List AV} {xs1 xs2 : List Value} (h1 : RelL g l1 xs1) (h2 : RelL g l2 xs2) (r1 : RowAt g.w A j.size xs1) (r2 : RowAt g.w B j.size xs2) (hn2 : n2 = xs2.length) (hgrow : c < xs1.length + n2) (hbound : (xs1.length + n2) * j.bytes ≤ 140737488355328) (ty : TypeId) :
    ∃ v g', (Builtin.append_ #[t, t2] ty #[.slice A xs1.length c, .slice B n2 c2]).run P g.w = .ok v g'.w ∧ g'.H = g.H ++ [some ⟨j.size, true, l1 ++ l2⟩] ∧ GOk g' ∧ Sub g g' ∧ Rel g' (.sl g.H.length 0 (xs1.length + n2)) v := by
  obtain ⟨e1, _⟩ := tyI_run hi g.w
  obtain ⟨e1', _⟩ := tyI_run hi2 g.w
  obtain ⟨_, e2, _⟩ := tyI_run hj g.w
  obtain ⟨_, _, _, _, ti, e4, e5⟩ := tyI_run hj g.w
  obtain ⟨_, _, e3, _⟩ := tyI_run hj g.w.drew
  obtain ⟨_, _, _, _, ti', e4', e5'⟩ := tyI_run hj g.w.drew
  subst hn2
  obtain ⟨hzf, _⟩ := fits_flat (cav_rel g j.zero) hz hj0
  have hz2 : (match i2.desc with | .int _ => true | _ => false) = false := by
    cases hdd : i2.desc <;> first | rfl | exact absurd hdd (hd2 _)
  have hfit := growslice_fits (bytes := j.bytes) hgrow hbound
  let need := xs1.length + xs2.length
  let cap := (Question.appendCap need c e).cut (g.w.tape g.w.drawn (.appendCap need c e))
  have hcap : need ≤ cap := cut_ge _ _ _ _
  let C : Array Value := (flatC xs1).toArray ++ (flatC xs2).toArray ++ Builtin.zeroCells j.zero.cells (cap - need)
  have hw : ∀ a, g.w.drew.cell? a = g.w.cell? a := fun a => rfl
  have hrun : (Builtin.append_ #[t, t2] ty #[.slice A xs1.length c, .slice B xs2.length c2]).run P g.w = .ok (.slice (some ⟨g.w.heap.size, 0, none⟩) need cap) (g.w.drew.alloc (.cells C e (0, 0))) := by
    have hz3 : (i2.desc matches .int _) = false := hz2
    have hn : ¬ (xs1.length + xs2.length ≤ c) := by omega
    have h48 : ¬ (281474976710656 < Builtin.nextslicecap (xs1.length + xs2.length) c * j.bytes) := by omega
    have hf1 := r1.first (P := P) hw xs1.length c
    have hf2 := r2.first (P := P) hw xs2.length c2
    simp only [Builtin.append_, List.getElem?_toArray, List.getElem?_cons_zero, List.getElem?_cons_succ, Sem.run_bind, e1, Result.andThen_ok, hd, e2, e1', Sem.run_pure, hz3, Bool.false_eq_true, if_false, Builtin.lenOf]
    simp [hn, e4, e5, e4', hb0, h48, Question.forced, hf1, hf2, e3, newRow, C, need, cap]
  have hCs : C.size = cap * j.size := by
    have l1' := flatC_length xs1 (fun x hx => (r1.flat x hx).1)
    have l2' := flatC_length xs2 (fun x hx => (r2.flat x hx).1)
    simp only [C, Array.size_append, List.size_toArray, zeroCells_size, l1', l2', hzf.1, ← Nat.add_mul]
    congr 1
    simp only [need]
    omega
  have hfl : ∀ x ∈ xs1 ++ xs2, Flat x j.size := fun x hx => (List.mem_append.1 hx).elim (r1.flat x) (r2.flat x)
  have hlen : (l1 ++ l2).length = need := by simp [need, h1.length, h2.length]
  have hlt : need * j.size ≤ cap * j.size := Nat.mul_le_mul_right _ hcap
  obtain ⟨hgw, hsw⟩ := reworld (w' := g.w.drew) (g := g) rfl ⟨rfl, rfl, rfl⟩ hg
  refine ⟨_, G.push { g with w := g.w.drew } C e (0, 0) ⟨j.size, true, l1 ++ l2⟩, hrun, rfl, ?_, hsw.trans (push_ren _ _ _ _ _ hgw), ?_⟩
  · refine push_ok hgw rfl hj0 (by simp only [hlen, hCs]; exact hlt) (.inl rfl) (fun _ => ?_)
    refine lies_flat (k := ⟨j.size, true, l1 ++ l2⟩) (RelL.mono hsw.ren (h1.append h2)) hfl (fun m hm => ?_)
    have hm' : m < (flatC (xs1 ++ xs2)).length := by rw [flatC_length _ (fun x hx => (hfl x hx).1)]; exact hm
    rw [flatC_append] at hm' ⊢
    simp only [C, Nat.zero_add, ← List.append_toArray]
    rw [Array.getElem?_append_left (by simpa using hm')]
    simp
  · simp only [Rel]
    refine ⟨by simp [G.push], _, _, rfl, fun k hk => ?_⟩
    have := push_get { g with w := g.w.drew } C e (0, 0) ⟨j.size, true, l1 ++ l2⟩
    rw [this] at hk
    cases hk
    refine ⟨hcap, by simp [G.push, hCs], fun _ => by simp [G.push]⟩

/-- Onto what is appended: a row that the state owns to its end, or an empty one. -/
def appA (H : Heap) (x : AV) (es : Nat) (l2 : List AV) : Option (AV × Heap) :=
  match x with
  | .sl id off len => (hget H id).bind fun k => if k.own = true ∧ k.es = es ∧ off + len = k.els.length then some (.sl H.length 0 (len + l2.length), H.set id none ++ [some ⟨es, true, k.els.drop off ++ l2⟩]) else none
  | .z0 => some (.sl H.length 0 l2.length, H ++ [some ⟨es, true, l2⟩])
  | .v (.slice none 0 0) => some (.sl H.length 0 l2.length, H ++ [some ⟨es, true, l2⟩])
  | _ => none
theorem ok_append {o : Oper} {p q : Operand} {t t2 e : TypeId} (ho : o.op = .call ⟨.builtin .append, #[p, q], #[t, t2]⟩) {i j : TI} (hi : tyI P t = some i) (hd : i.desc = .slice e) (hj : tyI P e = some j) (hj0 : 0 < j.size) (hb0 : j.bytes ≠ 0) (hz : fits (cav j.zero) j.size = true)
    {i2 : TI} (hi2 : tyI P t2 = some i2) (hd2 : ∀ k, i2.desc ≠ .int k) {es2 : Nat} {l2 : List AV} (hq : rowA H (ev tm q) = some (es2, l2)) (hes : es2 = j.size ∨ l2 = []) {r : AV} {H' : Heap} (hr : appA H (ev tm p) j.size l2 = some (r, H'))
    {n1 : Nat} (hn1 : lenA H i.desc (ev tm p) = some n1) (hbound : (n1 + l2.length) * j.bytes ≤ 140737488355328) : OpOk P tm H o r H' := by
  intro g a hH hg ht
  subst hH
  obtain ⟨B, c2, xs2, hB, hc2, hl2, hrow2⟩ := rowA_sound hg hq (ht q (by simp [ho, Op.operands, Call.operands]))
  have r2 : RowAt g.w B j.size xs2 := by
    rcases hes with rfl | rfl
    · exact RowAt.of hj0 (fun i x hx => hrow2 i x hx)
    · have := hl2.length
      simp at this
      subst this
      exact ⟨by simp, by simp [flatC]⟩
  have hn2 : l2.length = xs2.length := hl2.length.symm
  have hx := ht p (by simp [ho, Op.operands, Call.operands])
  generalize ev tm p = X at hx hr hn1
  have hexec : ∀ A n c, a.eval p = .slice A n c → execOp a.eval o = (do pure (.value (← Builtin.append_ #[t, t2] o.type #[.slice A n c, .slice B l2.length c2])) : Sem Next) := by
    intro A n c hA
    simp [execOp, ho, resolve, invoke, builtin, hA, hB]
  -- the empty row
  have hempty : ∀ A, a.eval p = .slice A 0 0 → r = .sl g.H.length 0 l2.length → H' = g.H ++ [some ⟨j.size, true, l2⟩] → n1 = 0 →
      ∃ v g', ((execOp a.eval o).run P g.w = .ok (.value v) g'.w ∨ ((execOp a.eval o).run P g.w = .ok .skip g'.w ∧ v = undef)) ∧ g'.H = H' ∧ GOk g' ∧ Rel g' r v ∧ Sub g g' := by
    rintro A hA rfl rfl rfl
    rw [hexec A 0 0 hA]
    by_cases h0 : l2.length = 0
    · have h2 : l2 = [] := List.eq_nil_of_length_eq_zero h0
      subst h2
      have hxs : xs2 = [] := by simpa using hl2.length
      subst hxs
      obtain ⟨hgv, hsv⟩ := vpush_ok (es := j.size) hj0 hg
      refine ⟨.slice A 0 0, g.vpush j.size, .inl ?_, rfl, hgv, ?_, hsv⟩
      · obtain ⟨e1, _⟩ := tyI_run hi g.w
        obtain ⟨e1', _⟩ := tyI_run hi2 g.w
        obtain ⟨_, e2, _⟩ := tyI_run hj g.w
        have hz3 : (i2.desc matches .int _) = false := by
          cases hdd : i2.desc <;> first | rfl | exact absurd hdd (hd2 _)
        have hf2 := r2.first (P := P) (w' := g.w) (fun _ => rfl) 0 c2
        simp only [List.length_nil] at hf2
        simp only [Builtin.append_, List.getElem?_toArray, List.getElem?_cons_zero, List.getElem?_cons_succ, Sem.run_bind, e1, Result.andThen_ok, hd, e2, e1', Sem.run_pure, hz3, Bool.false_eq_true, if_false, Builtin.lenOf, List.length_nil, Nat.le_refl, if_true, Nat.add_zero, Bool.not_false, hf2]
        cases A <;> simp [flatC, storeCells, G.vpush]
      · simp only [Rel]
        refine ⟨by simp [G.vpush], _, _, rfl, fun k hk => ?_⟩
        have e1 : (g.vpush j.size).sz g.H.length = 0 := by simp [G.vpush]
        have e2 : (g.vpush j.size).bs g.H.length = 0 := by simp [G.vpush]
        exact ⟨Nat.le_refl _, by rw [e1, e2]; simp, fun h => absurd rfl h⟩
    · obtain ⟨v, g', h1, h2, h3, h4, h5⟩ := append_grown (P := P) hg hi hd hj hj0 hb0 hz hi2 hd2 (A := A) (B := B) (c := 0) (c2 := c2) (n2 := l2.length) (l1 := []) (l2 := l2) (xs1 := []) (xs2 := xs2) .nil hl2 ⟨by simp, by simp [flatC]⟩ r2 hn2 (by simp; omega) (by simpa using hbound) o.type
      refine ⟨v, g', .inl ?_, by simpa using h2, h3, by simpa using h5, h4⟩
      simp only [List.length_nil] at h1
      rw [Sem.run_bind, h1]
      rfl
  unfold appA at hr
  split at hr
  · rename_i id off len
    obtain ⟨k, hk, hr⟩ := Option.bind_eq_some_iff.1 hr
    split at hr
    case isFalse => cases hr
    rename_i hc
    obtain ⟨hown, hkes, hend⟩ := hc
    simp only [Option.some.injEq, Prod.mk.injEq] at hr
    obtain ⟨rfl, rfl⟩ := hr
    have hrowX : rowA g.H (.sl id off len) = some (j.size, k.els.drop off) := by
      simp only [rowA, hk, Option.bind_some]
      rw [if_pos (by omega), hkes]
      rw [List.take_of_length_le (by simp; omega)]
    obtain ⟨A0, c0, xs1, hA0, hc0, hl1, hrow1⟩ := rowA_sound hg hrowX hx
    have hdl : (k.els.drop off).length = len := by simp; omega
    rw [hdl] at hA0
    have r1 : RowAt g.w A0 j.size xs1 := RowAt.of hj0 (fun i x hx => hrow1 i x hx)
    have hx1 : xs1.length = len := by rw [hl1.length, hdl]
    simp only [Rel] at hx
    obtain ⟨hid, A, c, hA, hx⟩ := hx
    rw [hA0] at hA
    cases hA
    obtain ⟨g1, g2, g3⟩ := hx k hk
    have hb := hg.blk id k hk
    have hn1' : n1 = len := by
      unfold lenA at hn1
      split at hn1 <;> simp_all
    subst hn1'
    by_cases hroom : n1 + l2.length ≤ c0
    · by_cases hc00 : c0 = 0
      · -- nothing onto nothing
        subst hc00
        have hl20 : l2 = [] := List.eq_nil_of_length_eq_zero (by omega)
        have hlen0 : n1 = 0 := by omega
        subst hl20 hlen0
        have hxs : xs2 = [] := by simpa using hl2.length
        subst hxs
        have hels : k.els.drop off ++ [] = [] := by simp; omega
        obtain ⟨hgk, hsk⟩ := kill_ok id hg
        obtain ⟨hgv, hsv⟩ := vpush_ok (es := j.size) hj0 hgk
        refine ⟨.slice A0 0 0, (g.kill id).vpush j.size, .inl ?_, by rw [hels]; simp [G.vpush, G.kill], hgv, ?_, hsk.trans hsv⟩
        · rw [hexec A0 0 0 hA0]
          obtain ⟨e1, _⟩ := tyI_run hi g.w
          obtain ⟨e1', _⟩ := tyI_run hi2 g.w
          obtain ⟨_, e2, _⟩ := tyI_run hj g.w
          have hz3 : (i2.desc matches .int _) = false := by
            cases hdd : i2.desc <;> first | rfl | exact absurd hdd (hd2 _)
          have hf2 := r2.first (P := P) (w' := g.w) (fun _ => rfl) 0 c2
          simp only [List.length_nil] at hf2
          simp only [Builtin.append_, List.getElem?_toArray, List.getElem?_cons_zero, List.getElem?_cons_succ, Sem.run_bind, e1, Result.andThen_ok, hd, e2, e1', Sem.run_pure, hz3, Bool.false_eq_true, if_false, Builtin.lenOf, List.length_nil, Nat.le_refl, if_true, Nat.add_zero, Bool.not_false, hf2]
          cases A0 <;> simp [flatC, storeCells, G.vpush, G.kill]
        · simp only [Rel]
          refine ⟨by simp [G.vpush, G.kill], _, _, rfl, fun k' hk' => ?_⟩
          have e0 : (g.kill id).H.length = g.H.length := by simp [G.kill]
          have e1 : ((g.kill id).vpush j.size).sz g.H.length = 0 := by simp [G.vpush, e0]
          have e2 : ((g.kill id).vpush j.size).bs g.H.length = 0 := by simp [G.vpush, e0]
          exact ⟨Nat.le_refl _, by rw [e1, e2]; simp, fun h => absurd rfl h⟩
      · -- in its place
        have hA := g3 hc00
        subst hA
        have hs0 : g.sz id ≠ 0 := by
          have : 1 * 1 ≤ (off + c0) * k.es := Nat.mul_le_mul (by omega) hb.pos
          omega
        obtain ⟨C, ce, lo, hi', m1, m2, m3, xs, m4, m5⟩ := hb.mem hs0
        let pos := g.bs id + off * k.es + n1 * k.es
        have hposx : pos = g.bs id + k.els.length * k.es := by simp only [pos]; rw [← hend, Nat.add_mul]; omega
        have hfl2 := flatC_length xs2 (fun x hx => (r2.flat x hx).1)
        have hroomC : pos + (flatC xs2).length ≤ C.size := by
          rw [hfl2, m2, ← hn2, ← hkes]
          refine Nat.le_trans ?_ g2
          simp only [pos]
          rw [Nat.add_assoc, Nat.add_assoc, ← Nat.add_mul, ← Nat.add_mul]
          exact Nat.add_le_add_left (Nat.mul_le_mul_right _ (by omega)) _
        have hst := run_stores P (g.φ id) pos ce (lo, hi') (flatC xs2) 0 C g.w m1 m3 (by simpa using hroomC) (flatC_oneCell r2.flat)
        let C' : Array Value := (C.toList.take (pos + 0) ++ flatC xs2 ++ C.toList.drop (pos + 0 + (flatC xs2).length)).toArray
        have hC's : C'.size = C.size := by
          simp only [C', List.size_toArray, List.length_append, List.length_take, List.length_drop, Array.length_toList] at hroomC ⊢
          omega
        have hxsl : xs.length = k.els.length := m4.length
        have hflall : ∀ x ∈ xs ++ xs2, Flat x k.es := fun x hx => (List.mem_append.1 hx).elim (fun hx => by
          obtain ⟨q', hq'⟩ := List.getElem?_of_mem hx; exact (m5 q' x hq').1) (fun hx => by rw [hkes]; exact r2.flat x hx)
        have hlies : Lies g (g.bs id) { k with els := k.els ++ l2 } C' := by
          refine lies_flat (k := { k with els := k.els ++ l2 }) (m4.append hl2) hflall (fun m hm => ?_)
          have hxs' := flatC_length xs (fun x hx => by obtain ⟨q', hq'⟩ := List.getElem?_of_mem hx; exact (m5 q' x hq').1.1)
          rw [flatC_append]
          simp only [C', List.getElem?_toArray, Nat.add_zero, List.append_assoc]
          have hm' : m < (xs ++ xs2).length * k.es := hm
          rw [List.length_append, Nat.add_mul, hkes, ← hfl2, ← hkes, hxsl] at hm'
          rw [hxsl] at hxs'
          by_cases h : m < k.els.length * k.es
          · rw [List.getElem?_append_left (by simp only [List.length_take, Array.length_toList]; omega), List.getElem?_take, if_pos (by omega), List.getElem?_append_left (by omega)]
            have hv := List.getElem?_eq_getElem (l := flatC xs) (i := m) (by omega)
            obtain ⟨q', x', j', e1, e2, e3, e4⟩ := flatC_inv (es := k.es) hb.pos (fun x hx => by obtain ⟨q', hq'⟩ := List.getElem?_of_mem hx; exact (m5 q' x hq').1.1) hv
            rw [hv, ← e4, Array.getElem?_toList, e1]
            exact (m5 q' x' e3).2 j' e2
          · rw [List.getElem?_append_right (by simp only [List.length_take, Array.length_toList]; omega), List.getElem?_append_left (by simp only [List.length_take, Array.length_toList]; omega), List.getElem?_append_right (by omega)]
            congr 1
            simp only [List.length_take, Array.length_toList]
            omega
        have hfit' : g.bs id + (k.els ++ l2).length * k.es ≤ g.sz id := by
          refine Nat.le_trans ?_ g2
          refine Nat.add_le_add_left (Nat.mul_le_mul_right _ ?_) _
          simp; omega
        have hwr := write_ok hg hk hown hs0 m1 hC's (els := k.els ++ l2) hfit' hlies
        simp only at hwr
        obtain ⟨hgw, hsw⟩ := hwr
        have hk' : hget (g.H.set id (some { k with els := k.els ++ l2 })) id = some { k with els := k.els ++ l2 } := by
          rw [hget_set, if_pos ⟨rfl, hid⟩]
        obtain ⟨hgr, hsr⟩ := rebase_ok (id := id) (off := off) hgw hk' (by simp; omega)
        refine ⟨.slice (some ⟨g.φ id, g.bs id + off * k.es, none⟩) (n1 + l2.length) c0, _, .inl ?_, ?_, hgr, ?_, hsw.trans hsr⟩
        · rw [hexec _ _ _ hA0]
          obtain ⟨e1, _⟩ := tyI_run hi g.w
          obtain ⟨e1', _⟩ := tyI_run hi2 g.w
          obtain ⟨_, e2, _⟩ := tyI_run hj g.w
          have hz3 : (i2.desc matches .int _) = false := by
            cases hdd : i2.desc <;> first | rfl | exact absurd hdd (hd2 _)
          have hf2 := r2.first (P := P) (w' := g.w) (fun _ => rfl) xs2.length c2
          rw [← hn2] at hf2
          have hst' : (storeCells ⟨g.φ id, pos, none⟩ (flatC xs2)).run P g.w = .ok () (g.w.setRow (g.φ id) C') := hst
          have hpos2 : (⟨g.φ id, g.bs id + off * k.es, none⟩ : Addr).add (n1 * j.size) = ⟨g.φ id, pos, none⟩ := by
            rw [add_off]; simp only [pos, hkes]
          simp only [Builtin.append_, List.getElem?_toArray, List.getElem?_cons_zero, List.getElem?_cons_succ, Sem.run_bind, e1, Result.andThen_ok, hd, e2, e1', Sem.run_pure, hz3, Bool.false_eq_true, if_false, Builtin.lenOf, hroom, if_true, Bool.not_false, hf2, hpos2, hst', G.rebase]
        · simp [G.rebase, List.drop_append, hkes, hown]
          rw [show off - k.els.length = 0 by omega]
          simp
        · simp only [Rel]
          refine ⟨by simp [G.rebase], _, _, rfl, fun k2 hk2 => ?_⟩
          have el : (g.H.set id (some { k with els := k.els ++ l2 })).length = g.H.length := by simp
          have hk2es : k2.es = k.es := by
            simp only [G.rebase, hget_append, List.length_set] at hk2
            rw [if_neg (Nat.lt_irrefl _), Nat.sub_self] at hk2
            simp [hget] at hk2
            rw [← hk2]
          rw [hk2es]
          refine ⟨by omega, ?_, fun _ => ?_⟩
          · simp only [G.rebase, el, if_true, Nat.zero_add]
            rw [Nat.add_assoc, ← Nat.add_mul]
            exact g2
          · simp [G.rebase, el]
    · -- a new row
      obtain ⟨hgk, hsk⟩ := kill_ok id hg
      have hwk : (g.kill id).w = g.w := rfl
      obtain ⟨v, g', h1, h2, h3, h4, h5⟩ := append_grown (P := P) hgk hi hd hj hj0 hb0 hz hi2 hd2 (A := A0) (B := B) (c := c0) (c2 := c2) (n2 := l2.length) (l1 := k.els.drop off) (l2 := l2) (xs1 := xs1) (xs2 := xs2) (RelL.mono hsk.ren hl1) (RelL.mono hsk.ren hl2) r1 r2 hn2 (by omega) (by rw [hx1]; exact hbound) o.type
      refine ⟨v, g', .inl ?_, by simpa [G.kill] using h2, h3, ?_, hsk.trans h4⟩
      · rw [hexec _ _ _ hA0]
        rw [hx1] at h1
        rw [Sem.run_bind, ← hwk, h1]
        rfl
      · rw [hx1] at h5
        have e0 : (g.kill id).H.length = g.H.length := by simp [G.kill]
        rw [e0] at h5
        exact h5
  · simp only [Option.some.injEq, Prod.mk.injEq] at hr
    obtain ⟨rfl, rfl⟩ := hr
    simp only [Rel] at hx
    obtain ⟨A, hA⟩ := hx
    refine hempty A hA rfl rfl ?_
    unfold lenA at hn1
    split at hn1 <;> simp_all
  · simp only [Option.some.injEq, Prod.mk.injEq] at hr
    obtain ⟨rfl, rfl⟩ := hr
    simp only [Rel] at hx
    refine hempty none hx rfl rfl ?_
    unfold lenA at hn1
    split at hn1 <;> simp_all
  · cases hr
end Go.AM
