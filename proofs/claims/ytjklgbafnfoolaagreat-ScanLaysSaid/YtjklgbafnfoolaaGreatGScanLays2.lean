/- The abstract machine: literals of rows, append, copy, texts as bytes. -/
import Derived.Test.YtjklgbafnfoolaaGreatGScanLays1
import Derived.Laws.StructEq
namespace Go.AM
variable {P : Program} {tm : TM} {H : Heap}

theorem fill_rows {es : Nat} : ∀ (vs : List Value) (s : Nat) (c : Array Value), (∀ v ∈ vs, v.cells.size = es) → (s + vs.length) * es ≤ c.size →
    ∃ c', Instr.fill (fun i => some (i * es, es)) c ((vs.zipIdx s).map fun p => (p.2, p.1)) = some c' ∧ c'.size = c.size ∧ ∀ m : Nat, c'[m]? = if s * es ≤ m ∧ m < (s + vs.length) * es then (flatC vs)[m - s * es]? else c[m]?
  | [], s, c, _, _ => ⟨c, rfl, rfl, fun m => by rw [if_neg (by simp)]⟩
  | v :: vs, s, c, hv, hl => by
    have hv0 := hv v (by simp)
    simp only [List.length_cons] at hl
    have hmul : (s + (vs.length + 1)) * es = s * es + es + vs.length * es := by rw [Nat.add_mul, Nat.add_mul, Nat.one_mul]; omega
    obtain ⟨p1, p2⟩ := fold_put_arr v.cells (s * es) c (by omega)
    have hmul2 : (s + 1 + vs.length) * es = s * es + es + vs.length * es := by rw [Nat.add_mul, Nat.add_mul, Nat.one_mul]
    obtain ⟨c', h1, h2, h3⟩ := fill_rows vs (s + 1) (v.cells.zipIdx.foldl (fun cs (p : Value × Nat) => cs.setIfInBounds (s * es + p.2) p.1) c) (fun x hx => hv x (by simp [hx])) (by omega)
    refine ⟨c', ?_, by omega, fun m => ?_⟩
    · simp only [List.zipIdx_cons, List.map_cons, Instr.fill]
      rw [if_neg (by simp [hv0]; omega)]
      exact h1
    · rw [h3 m, p2 m]
      have e1 : (s + 1) * es = s * es + es := by rw [Nat.add_mul, Nat.one_mul]
      have hmul' : (s + (v :: vs).length) * es = s * es + es + vs.length * es := hmul
      simp only [e1, hmul2, hmul', hv0]
      by_cases ha : s * es + es ≤ m ∧ m < s * es + es + vs.length * es
      · rw [if_pos ha, if_pos (by omega)]
        simp only [flatC, List.flatMap_cons]
        rw [List.getElem?_append_right (by simp [hv0]; omega)]
        congr 1
        simp [hv0]; omega
      · rw [if_neg ha]
        by_cases hb : s * es ≤ m ∧ m < s * es + es
        · rw [if_pos hb, if_pos (by omega)]
          simp only [flatC, List.flatMap_cons]
          rw [List.getElem?_append_left (by simp [hv0]; omega)]
          simp
        · rw [if_neg hb, if_neg (by omega)]
theorem zip_of_range {α : Type} : ∀ (l : List (Nat × α)) (s : Nat), l.map (·.1) = List.range' s l.length → l = ((l.map (·.2)).zipIdx s).map fun p => (p.2, p.1)
  | [], _, _ => rfl
  | (i, x) :: l, s, h => by
    simp only [List.map_cons, List.length_cons, List.range'_succ, List.cons.injEq] at h
    obtain ⟨rfl, h⟩ := h
    simp only [List.map_cons, List.zipIdx_cons, List.cons.injEq, true_and]
    exact zip_of_range l (i + 1) h
theorem fits_list {g : G} {es : Nat} (hes : 0 < es) : ∀ {l : List AV} {ys : List Value}, RelL g l ys → (l.all fun x => fits x es) = true → ∀ y ∈ ys, Flat y es
  | [], ys, h, _ => by simp only [RelL] at h; subst h; simp
  | x :: l, ys, h, hf => by
    simp only [RelL] at h
    obtain ⟨z, zs, rfl, hz, hl⟩ := h
    simp only [List.all_cons, Bool.and_eq_true] at hf
    intro y hy
    rcases List.mem_cons.1 hy with rfl | hy
    · exact (fits_flat hz hf.1 hes).1
    · exact fits_list hes hl hf.2 y hy
theorem ok_buildSlice {o : Oper} {t : TypeId} {n : Nat} {ps : Array (Nat × Operand)} (ho : o.op = .buildSlice t n ps) {i : TI} (hi : tyI P t = some i) {e : TypeId} (hd : i.desc = .slice e) {j : TI} (hj : tyI P e = some j) (hj0 : 0 < j.size)
    (hix : ps.toList.map (·.1) = List.range' 0 n) (hln : ps.toList.length = n) (hsz : n * j.size ≤ 16777216) {l : List AV} (hl : ps.toList.map (fun p => ev tm p.2) = l) (hf : (l.all fun x => fits x j.size) = true) (hz : fits (cav j.zero) j.size = true) :
    OpOk P tm H o (.sl H.length 0 n) (H ++ [some ⟨j.size, true, l⟩]) := by
  intro g a hH hg ht
  subst hH
  obtain ⟨e1, _⟩ := tyI_run hi g.w
  obtain ⟨_, e2, e3, _⟩ := tyI_run hj g.w
  let vs := ps.toList.map fun p => a.eval p.2
  have hrel : RelL g l vs := by
    have := eval_list (g := g) (a := a) (tm := tm) (ps.toList.map (·.2)) (fun y hy => ht y (by simpa [ho, Op.operands] using hy))
    rw [← hl]
    simpa [vs, List.map_map, Function.comp_def] using this
  have hflat := fits_list hj0 hrel hf
  have hvl : vs.length = n := by simp [vs]; simpa using hln
  obtain ⟨hzf, _⟩ := fits_flat (cav_rel g j.zero) hz hj0
  let z0 : Array Value := if n * j.size = 0 then #[] else j.zero.cells
  let c0 : Array Value := (Array.range (n * j.size)).map (z0[· % z0.size]!)
  have hc0 : c0.size = n * j.size := by simp [c0]
  obtain ⟨c, h1, h2, h3⟩ := fill_rows (es := j.size) vs 0 c0 (fun v hv => (hflat v hv).1) (by rw [hvl, Nat.zero_add, hc0]; exact Nat.le_refl _)
  have hparts : (ps.map fun (x : Nat × Operand) => match x with | (i, x) => (i, a.eval x)).toList = (vs.zipIdx 0).map fun p => (p.2, p.1) := by
    have := zip_of_range ((ps.map fun p => (p.1, a.eval p.2)).toList) 0 (by
      simp only [Array.toList_map, List.map_map, Function.comp_def, List.length_map]
      have h := hix
      rw [hln]
      simpa [Function.comp_def] using h)
    have e : (ps.map fun (x : Nat × Operand) => match x with | (i, x) => (i, a.eval x)) = ps.map fun p => (p.1, a.eval p.2) := rfl
    rw [e, this]
    simp [vs, List.map_map, Function.comp_def]
  have hrun : (execOp a.eval o).run P g.w = .ok (.value (.slice (some ⟨g.w.heap.size, 0, none⟩) n n)) (g.w.alloc (.cells c e (0, 0))) := by
    simp only [execOp, ho, Instr.buildSlice, Sem.run_bind, e1, Result.andThen_ok, hd, e2]
    rw [if_neg (by omega)]
    have hfill : Instr.fill (fun i => some (i * j.size, j.size)) ((Array.range (n * j.size)).map (z0[· % z0.size]!)) (ps.map fun (x : Nat × Operand) => match x with | (i, x) => (i, a.eval x)).toList = some c := by
      rw [hparts]; exact h1
    by_cases h : n * j.size = 0
    · rw [if_pos h]
      have hz0 : z0 = #[] := by simp [z0, h]
      rw [hz0] at hfill
      simp only [Sem.run_bind, Sem.run_pure, Result.andThen_ok, hfill, newRow, run_newObj]
      rfl
    · rw [if_neg h]
      have hz0 : z0 = j.zero.cells := by simp [z0, h]
      rw [hz0] at hfill
      simp only [Sem.run_bind, Sem.run_pure, Result.andThen_ok, e3, hfill, newRow, run_newObj]
      rfl
  have hll : l.length = n := by rw [← hrel.length, hvl]
  refine ⟨_, g.push c e (0, 0) ⟨j.size, true, l⟩, .inl hrun, rfl, ?_, ?_, push_ren g _ _ _ _ hg⟩
  · refine push_ok hg rfl hj0 (by simp [hll, h2, hc0]) (.inl rfl) (fun _ => ⟨vs, hrel, fun q x hx => ⟨hflat x (List.mem_of_getElem? hx), fun r hr => ?_⟩⟩)
    have hr' : r < j.size := hr
    show c[0 + (q * j.size + r)]? = x.cells[r]?
    have hq := (List.getElem?_eq_some_iff.1 hx).1
    have h4 : (q + 1) * j.size ≤ vs.length * j.size := Nat.mul_le_mul_right _ hq
    rw [Nat.add_mul, Nat.one_mul] at h4
    rw [h3, if_pos (by simp only [Nat.zero_mul, Nat.zero_add]; omega), Nat.zero_add, Nat.zero_mul, Nat.sub_zero]
    exact flatC_get vs (fun v hv => (hflat v hv).1) q x hx r hr'
  · simp only [Rel]
    refine ⟨by simp [G.push], _, _, rfl, fun k hk => ?_⟩
    rw [push_get] at hk
    cases hk
    refine ⟨Nat.le_refl _, by simp [G.push, h2, hc0], fun _ => by simp [G.push]⟩

-- append
theorem zeroCells_size (z : Array Value) (n : Nat) : (Builtin.zeroCells z n).size = n * z.size := by simp [Builtin.zeroCells]
/-- What a row of the heap or of the frozen says of its cells, at any world over the same memory. -/
structure RowAt (w : World) (A : Option Addr) (es : Nat) (xs : List Value) : Prop where
  flat : ∀ x ∈ xs, Flat x es
  cells : ∀ (m : Nat) v, (flatC xs)[m]? = some v → ∃ a, A = some a ∧ w.cell? (a.add m) = some v
theorem RowAt.of {w : World} {A : Option Addr} {es : Nat} {xs : List Value} (hes : 0 < es) (h : ∀ (i : Nat) x, xs[i]? = some x → Flat x es ∧ ∃ a, A = some a ∧ a.spot = none ∧ ∀ j, j < es → cellAt w a.block (a.off + i * es + j) = x.cells[j]?) : RowAt w A es xs := by
  have hf : ∀ x ∈ xs, Flat x es := fun x hx => by
    obtain ⟨i, hi⟩ := List.getElem?_of_mem hx
    exact (h i x hi).1
  refine ⟨hf, fun m v hm => ?_⟩
  obtain ⟨i, x, j, rfl, hj, hx, hv⟩ := flatC_inv hes (fun x hx => (hf x hx).1) hm
  obtain ⟨_, a, hA, hs, hc⟩ := h i x hx
  refine ⟨a, hA, ?_⟩
  rw [add_spot hs, ← hv, ← hc j hj, Nat.add_assoc]
theorem RowAt.first {w w' : World} (hw : ∀ a, w'.cell? a = w.cell? a) {A : Option Addr} {es : Nat} {xs : List Value} (h : RowAt w A es xs) (len cap : Nat) : (Builtin.firstCells es xs.length (.slice A len cap)).run P w' = .ok (flatC xs).toArray w' := by
  have hl := flatC_length xs (fun x hx => (h.flat x hx).1)
  cases A with
  | none =>
    have : flatC xs = [] := by
      cases hf : flatC xs with
      | nil => rfl
      | cons v l =>
        obtain ⟨a, ha, _⟩ := h.cells 0 v (by rw [hf]; rfl)
        cases ha
    rw [this, run_firstCells_none]
  | some b =>
    refine run_firstCells_some (P := P) w' es xs.length b len cap (flatC xs) hl (fun j v hv => ?_)
    obtain ⟨a, ha, hc⟩ := h.cells j v hv
    cases ha
    rw [hw]; exact hc
theorem flatC_oneCell {es : Nat} {xs : List Value} (h : ∀ x ∈ xs, Flat x es) : ∀ v ∈ flatC xs, v.oneCell' = true := by
  intro v hv
  simp only [flatC, List.mem_flatMap] at hv
  obtain ⟨x, hx, hv⟩ := hv
  obtain ⟨j, hj⟩ := List.getElem?_of_mem hv
  exact (h x hx).2 j v (by simpa using hj)
/-- Elements that lie one behind the other. -/
theorem lies_flat {g : G} {k : Blk} {xs : List Value} {c : Array Value} {o : Nat} (h : RelL g k.els xs) (hf : ∀ x ∈ xs, Flat x k.es) (hc : ∀ m, m < xs.length * k.es → c[o + m]? = (flatC xs)[m]?) : Lies g o k c := by
  refine ⟨xs, h, fun i x hx => ⟨hf x (List.mem_of_getElem? hx), fun j hj => ?_⟩⟩
  have hi := (List.getElem?_eq_some_iff.1 hx).1
  have h4 : (i + 1) * k.es ≤ xs.length * k.es := Nat.mul_le_mul_right _ hi
  rw [Nat.add_mul, Nat.one_mul] at h4
  rw [hc _ (by omega)]
  exact flatC_get xs (fun v hv => (hf v hv).1) i x hx j hj

theorem cut_ge (need old : Nat) (e : TypeId) (t : Nat) : need ≤ (Question.appendCap need old e).cut t := by
  simp [Question.cut]
/-- The arm that lays a new row. -/
theorem append_grown {g : G} (hg : GOk g) {t t2 e : TypeId} {i j : TI} (hi : tyI P t = some i) (hd : i.desc = .slice e) (hj : tyI P e = some j) (hj0 : 0 < j.size) (hb0 : j.bytes ≠ 0) (hz : fits (cav j.zero) j.size = true) {i2 : TI} (hi2 : tyI P t2 = some i2) (hd2 : ∀ k, i2.desc ≠ .int k)
    {A B : Option Addr} {c c2 n2 : Nat} {l1 l2 : List AV} {xs1 xs2 : List Value} (h1 : RelL g l1 xs1) (h2 : RelL g l2 xs2) (r1 : RowAt g.w A j.size xs1) (r2 : RowAt g.w B j.size xs2) (hn2 : n2 = xs2.length) (hgrow : c < xs1.length + n2) (hbound : (xs1.length + n2) * j.bytes ≤ 140737488355328) (ty : TypeId) :
    ∃ v g', (Builtin.append_ #[t, t2] ty #[.slice A xs1.length c, .slice B n2 c2]).run P g.w = .ok v g'.w ∧ g'.H = g.H ++ [some ⟨j.size, true, l1 ++ l2⟩] ∧ GOk g' ∧ Sub g g' ∧ Rel g' (.sl g.H.length 0 (xs1.length + n2)) v := by
  obtain ⟨e1, _⟩ := tyI_run hi g.w
  obtain ⟨e1', _⟩ := tyI_run hi2 g.w
  obtain ⟨_, e2, _⟩ := tyI_run hj g.w
  obtain ⟨_, _, _, _, ti, e4, e5⟩ := tyI_run hj g.w
  obtain ⟨_, _, e3, _⟩ := tyI_run hj g.w.drew
  obtain ⟨_, _, _, _, ti', e4', e5'⟩ := tyI_run hj g.w.drew
  subst hn2
  obtain ⟨hzf, _⟩ := fits_flat (cav_rel g j.zero) hz hj0
  have hz2 : (match i2.desc with | .int _ => true | _ => false) = false := by
    cases hdd : i2.desc <;> first | rfl | exact absurd hdd (hd2 _)
  have hfit := growslice_fits (bytes := j.bytes) hgrow hbound
  let need := xs1.length + xs2.length
  let cap := (Question.appendCap need c e).cut (g.w.tape g.w.drawn (.appendCap need c e))
  have hcap : need ≤ cap := cut_ge _ _ _ _
  let C : Array Value := (flatC xs1).toArray ++ (flatC xs2).toArray ++ Builtin.zeroCells j.zero.cells (cap - need)
  have hw : ∀ a, g.w.drew.cell? a = g.w.cell? a := fun a => rfl
  have hrun : (Builtin.append_ #[t, t2] ty #[.slice A xs1.length c, .slice B xs2.length c2]).run P g.w = .ok (.slice (some ⟨g.w.heap.size, 0, none⟩) need cap) (g.w.drew.alloc (.cells C e (0, 0))) := by
    have hz3 : (i2.desc matches .int _) = false := hz2
    have hn : ¬ (xs1.length + xs2.length ≤ c) := by omega
    have h48 : ¬ (281474976710656 < Builtin.nextslicecap (xs1.length + xs2.length) c * j.bytes) := by omega
    have hf1 := r1.first (P := P) hw xs1.length c
    have hf2 := r2.first (P := P) hw xs2.length c2
    simp only [Builtin.append_, List.getElem?_toArray, List.getElem?_cons_zero, List.getElem?_cons_succ, Sem.run_bind, e1, Result.andThen_ok, hd, e2, e1', Sem.run_pure, hz3, Bool.false_eq_true, if_false, Builtin.lenOf]
    simp [hn, e4, e5, e4', hb0, h48, Question.forced, hf1, hf2, e3, newRow, C, need, cap]
  have hCs : C.size = cap * j.size := by
    have l1' := flatC_length xs1 (fun x hx => (r1.flat x hx).1)
    have l2' := flatC_length xs2 (fun x hx => (r2.flat x hx).1)
    simp only [C, Array.size_append, List.size_toArray, zeroCells_size, l1', l2', hzf.1, ← Nat.add_mul]
    congr 1
    simp only [need]
    omega
  have hfl : ∀ x ∈ xs1 ++ xs2, Flat x j.size := fun x hx => (List.mem_append.1 hx).elim (r1.flat x) (r2.flat x)
  have hlen : (l1 ++ l2).length = need := by simp [need, h1.length, h2.length]
  have hlt : need * j.size ≤ cap * j.size := Nat.mul_le_mul_right _ hcap
  obtain ⟨hgw, hsw⟩ := reworld (w' := g.w.drew) (g := g) rfl ⟨rfl, rfl, rfl⟩ hg
  refine ⟨_, G.push { g with w := g.w.drew } C e (0, 0) ⟨j.size, true, l1 ++ l2⟩, hrun, rfl, ?_, hsw.trans (push_ren _ _ _ _ _ hgw), ?_⟩
  · refine push_ok hgw rfl hj0 (by simp only [hlen, hCs]; exact hlt) (.inl rfl) (fun _ => ?_)
    refine lies_flat (k := ⟨j.size, true, l1 ++ l2⟩) (RelL.mono hsw.ren (h1.append h2)) hfl (fun m hm => ?_)
    have hm' : m < (flatC (xs1 ++ xs2)).length := by rw [flatC_length _ (fun x hx => (hfl x hx).1)]; exact hm
    rw [flatC_append] at hm' ⊢
    simp only [C, Nat.zero_add, ← List.append_toArray]
    rw [Array.getElem?_append_left (by simpa using hm')]
    simp
  · simp only [Rel]
    refine ⟨by simp [G.push], _, _, rfl, fun k hk => ?_⟩
    have := push_get { g with w := g.w.drew } C e (0, 0) ⟨j.size, true, l1 ++ l2⟩
    rw [this] at hk
    cases hk
    refine ⟨hcap, by simp [G.push, hCs], fun _ => by simp [G.push]⟩

/-- Onto what is appended: a row that the state owns to its end, or an empty one. -/
def appA (H : Heap) (x : AV) (es : Nat) (l2 : List AV) : Option (AV × Heap) :=
  match x with
  | .sl id off len => (hget H id).bind fun k => if k.own = true ∧ k.es = es ∧ off + len = k.els.length then some (.sl H.length 0 (len + l2.length), H.set id none ++ [some ⟨es, true, k.els.drop off ++ l2⟩]) else none
  | .z0 => some (.sl H.length 0 l2.length, H ++ [some ⟨es, true, l2⟩])
  | .v (.slice none 0 0) => some (.sl H.length 0 l2.length, H ++ [some ⟨es, true, l2⟩])
  | _ => none
theorem ok_append {o : Oper} {p q : Operand} {t t2 e : TypeId} (ho : o.op = .call ⟨.builtin .append, #[p, q], #[t, t2]⟩) {i j : TI} (hi : tyI P t = some i) (hd : i.desc = .slice e) (hj : tyI P e = some j) (hj0 : 0 < j.size) (hb0 : j.bytes ≠ 0) (hz : fits (cav j.zero) j.size = true)
    {i2 : TI} (hi2 : tyI P t2 = some i2) (hd2 : ∀ k, i2.desc ≠ .int k) {es2 : Nat} {l2 : List AV} (hq : rowA H (ev tm q) = some (es2, l2)) (hes : es2 = j.size ∨ l2 = []) {r : AV} {H' : Heap} (hr : appA H (ev tm p) j.size l2 = some (r, H'))
    {n1 : Nat} (hn1 : lenA H i.desc (ev tm p) = some n1) (hbound : (n1 + l2.length) * j.bytes ≤ 140737488355328) : OpOk P tm H o r H' := by
  intro g a hH hg ht
  subst hH
  obtain ⟨B, c2, xs2, hB, hc2, hl2, hrow2⟩ := rowA_sound hg hq (ht q (by simp [ho, Op.operands, Call.operands]))
  have r2 : RowAt g.w B j.size xs2 := by
    rcases hes with rfl | rfl
    · exact RowAt.of hj0 (fun i x hx => hrow2 i x hx)
    · have := hl2.length
      simp at this
      subst this
      exact ⟨by simp, by simp [flatC]⟩
  have hn2 : l2.length = xs2.length := hl2.length.symm
  have hx := ht p (by simp [ho, Op.operands, Call.operands])
  generalize ev tm p = X at hx hr hn1
  have hexec : ∀ A n c, a.eval p = .slice A n c → execOp a.eval o = (do pure (.value (← Builtin.append_ #[t, t2] o.type #[.slice A n c, .slice B l2.length c2])) : Sem Next) := by
    intro A n c hA
    simp [execOp, ho, resolve, invoke, builtin, hA, hB]
  -- the empty row
  have hempty : ∀ A, a.eval p = .slice A 0 0 → r = .sl g.H.length 0 l2.length → H' = g.H ++ [some ⟨j.size, true, l2⟩] → n1 = 0 →
      ∃ v g', ((execOp a.eval o).run P g.w = .ok (.value v) g'.w ∨ ((execOp a.eval o).run P g.w = .ok .skip g'.w ∧ v = undef)) ∧ g'.H = H' ∧ GOk g' ∧ Rel g' r v ∧ Sub g g' := by
    rintro A hA rfl rfl rfl
    rw [hexec A 0 0 hA]
    by_cases h0 : l2.length = 0
    · have h2 : l2 = [] := List.eq_nil_of_length_eq_zero h0
      subst h2
      have hxs : xs2 = [] := by simpa using hl2.length
      subst hxs
      obtain ⟨hgv, hsv⟩ := vpush_ok (es := j.size) hj0 hg
      refine ⟨.slice A 0 0, g.vpush j.size, .inl ?_, rfl, hgv, ?_, hsv⟩
      · obtain ⟨e1, _⟩ := tyI_run hi g.w
        obtain ⟨e1', _⟩ := tyI_run hi2 g.w
        obtain ⟨_, e2, _⟩ := tyI_run hj g.w
        have hz3 : (i2.desc matches .int _) = false := by
          cases hdd : i2.desc <;> first | rfl | exact absurd hdd (hd2 _)
        have hf2 := r2.first (P := P) (w' := g.w) (fun _ => rfl) 0 c2
        simp only [List.length_nil] at hf2
        simp only [Builtin.append_, List.getElem?_toArray, List.getElem?_cons_zero, List.getElem?_cons_succ, Sem.run_bind, e1, Result.andThen_ok, hd, e2, e1', Sem.run_pure, hz3, Bool.false_eq_true, if_false, Builtin.lenOf, List.length_nil, Nat.le_refl, if_true, Nat.add_zero, Bool.not_false, hf2]
        cases A <;> simp [flatC, storeCells, G.vpush]
      · simp only [Rel]
        refine ⟨by simp [G.vpush], _, _, rfl, fun k hk => ?_⟩
        have e1 : (g.vpush j.size).sz g.H.length = 0 := by simp [G.vpush]
        have e2 : (g.vpush j.size).bs g.H.length = 0 := by simp [G.vpush]
        exact ⟨Nat.le_refl _, by rw [e1, e2]; simp, fun h => absurd rfl h⟩
    · obtain ⟨v, g', h1, h2, h3, h4, h5⟩ := append_grown (P := P) hg hi hd hj hj0 hb0 hz hi2 hd2 (A := A) (B := B) (c := 0) (c2 := c2) (n2 := l2.length) (l1 := []) (l2 := l2) (xs1 := []) (xs2 := xs2) .nil hl2 ⟨by simp, by simp [flatC]⟩ r2 hn2 (by simp; omega) (by simpa using hbound) o.type
      refine ⟨v, g', .inl ?_, by simpa using h2, h3, by simpa using h5, h4⟩
      simp only [List.length_nil] at h1
      rw [Sem.run_bind, h1]
      rfl
  unfold appA at hr
  split at hr
  · rename_i id off len
    obtain ⟨k, hk, hr⟩ := Option.bind_eq_some_iff.1 hr
    split at hr
    case isFalse => cases hr
    rename_i hc
    obtain ⟨hown, hkes, hend⟩ := hc
    simp only [Option.some.injEq, Prod.mk.injEq] at hr
    obtain ⟨rfl, rfl⟩ := hr
    have hrowX : rowA g.H (.sl id off len) = some (j.size, k.els.drop off) := by
      simp only [rowA, hk, Option.bind_some]
      rw [if_pos (by omega), hkes]
      rw [List.take_of_length_le (by simp; omega)]
    obtain ⟨A0, c0, xs1, hA0, hc0, hl1, hrow1⟩ := rowA_sound hg hrowX hx
    have hdl : (k.els.drop off).length = len := by simp; omega
    rw [hdl] at hA0
    have r1 : RowAt g.w A0 j.size xs1 := RowAt.of hj0 (fun i x hx => hrow1 i x hx)
    have hx1 : xs1.length = len := by rw [hl1.length, hdl]
    simp only [Rel] at hx
    obtain ⟨hid, A, c, hA, hx⟩ := hx
    rw [hA0] at hA
    cases hA
    obtain ⟨g1, g2, g3⟩ := hx k hk
    have hb := hg.blk id k hk
    have hn1' : n1 = len := by
      unfold lenA at hn1
      split at hn1 <;> simp_all
    subst hn1'
    by_cases hroom : n1 + l2.length ≤ c0
    · by_cases hc00 : c0 = 0
      · -- nothing onto nothing
        subst hc00
        have hl20 : l2 = [] := List.eq_nil_of_length_eq_zero (by omega)
        have hlen0 : n1 = 0 := by omega
        subst hl20 hlen0
        have hxs : xs2 = [] := by simpa using hl2.length
        subst hxs
        have hels : k.els.drop off ++ [] = [] := by simp; omega
        obtain ⟨hgk, hsk⟩ := kill_ok id hg
        obtain ⟨hgv, hsv⟩ := vpush_ok (es := j.size) hj0 hgk
        refine ⟨.slice A0 0 0, (g.kill id).vpush j.size, .inl ?_, by rw [hels]; simp [G.vpush, G.kill], hgv, ?_, hsk.trans hsv⟩
        · rw [hexec A0 0 0 hA0]
          obtain ⟨e1, _⟩ := tyI_run hi g.w
          obtain ⟨e1', _⟩ := tyI_run hi2 g.w
          obtain ⟨_, e2, _⟩ := tyI_run hj g.w
          have hz3 : (i2.desc matches .int _) = false := by
            cases hdd : i2.desc <;> first | rfl | exact absurd hdd (hd2 _)
          have hf2 := r2.first (P := P) (w' := g.w) (fun _ => rfl) 0 c2
          simp only [List.length_nil] at hf2
          simp only [Builtin.append_, List.getElem?_toArray, List.getElem?_cons_zero, List.getElem?_cons_succ, Sem.run_bind, e1, Result.andThen_ok, hd, e2, e1', Sem.run_pure, hz3, Bool.false_eq_true, if_false, Builtin.lenOf, List.length_nil, Nat.le_refl, if_true, Nat.add_zero, Bool.not_false, hf2]
          cases A0 <;> simp [flatC, storeCells, G.vpush, G.kill]
        · simp only [Rel]
          refine ⟨by simp [G.vpush, G.kill], _, _, rfl, fun k' hk' => ?_⟩
          have e0 : (g.kill id).H.length = g.H.length := by simp [G.kill]
          have e1 : ((g.kill id).vpush j.size).sz g.H.length = 0 := by simp [G.vpush, e0]
          have e2 : ((g.kill id).vpush j.size).bs g.H.length = 0 := by simp [G.vpush, e0]
          exact ⟨Nat.le_refl _, by rw [e1, e2]; simp, fun h => absurd rfl h⟩
      · -- in its place
        have hA := g3 hc00
        subst hA
        have hs0 : g.sz id ≠ 0 := by
          have : 1 * 1 ≤ (off + c0) * k.es := Nat.mul_le_mul (by omega) hb.pos
          omega
        obtain ⟨C, ce, lo, hi', m1, m2, m3, xs, m4, m5⟩ := hb.mem hs0
        let pos := g.bs id + off * k.es + n1 * k.es
        have hposx : pos = g.bs id + k.els.length * k.es := by simp only [pos]; rw [← hend, Nat.add_mul]; omega
        have hfl2 := flatC_length xs2 (fun x hx => (r2.flat x hx).1)
        have hroomC : pos + (flatC xs2).length ≤ C.size := by
          rw [hfl2, m2, ← hn2, ← hkes]
          refine Nat.le_trans ?_ g2
          simp only [pos]
          rw [Nat.add_assoc, Nat.add_assoc, ← Nat.add_mul, ← Nat.add_mul]
          exact Nat.add_le_add_left (Nat.mul_le_mul_right _ (by omega)) _
        have hst := run_stores P (g.φ id) pos ce (lo, hi') (flatC xs2) 0 C g.w m1 m3 (by simpa using hroomC) (flatC_oneCell r2.flat)
        let C' : Array Value := (C.toList.take (pos + 0) ++ flatC xs2 ++ C.toList.drop (pos + 0 + (flatC xs2).length)).toArray
        have hC's : C'.size = C.size := by
          simp only [C', List.size_toArray, List.length_append, List.length_take, List.length_drop, Array.length_toList] at hroomC ⊢
          omega
        have hxsl : xs.length = k.els.length := m4.length
        have hflall : ∀ x ∈ xs ++ xs2, Flat x k.es := fun x hx => (List.mem_append.1 hx).elim (fun hx => by
          obtain ⟨q', hq'⟩ := List.getElem?_of_mem hx; exact (m5 q' x hq').1) (fun hx => by rw [hkes]; exact r2.flat x hx)
        have hlies : Lies g (g.bs id) { k with els := k.els ++ l2 } C' := by
          refine lies_flat (k := { k with els := k.els ++ l2 }) (m4.append hl2) hflall (fun m hm => ?_)
          have hxs' := flatC_length xs (fun x hx => by obtain ⟨q', hq'⟩ := List.getElem?_of_mem hx; exact (m5 q' x hq').1.1)
          rw [flatC_append]
          simp only [C', List.getElem?_toArray, Nat.add_zero, List.append_assoc]
          have hm' : m < (xs ++ xs2).length * k.es := hm
          rw [List.length_append, Nat.add_mul, hkes, ← hfl2, ← hkes, hxsl] at hm'
          rw [hxsl] at hxs'
          by_cases h : m < k.els.length * k.es
          · rw [List.getElem?_append_left (by simp only [List.length_take, Array.length_toList]; omega), List.getElem?_take, if_pos (by omega), List.getElem?_append_left (by omega)]
            have hv := List.getElem?_eq_getElem (l := flatC xs) (i := m) (by omega)
            obtain ⟨q', x', j', e1, e2, e3, e4⟩ := flatC_inv (es := k.es) hb.pos (fun x hx => by obtain ⟨q', hq'⟩ := List.getElem?_of_mem hx; exact (m5 q' x hq').1.1) hv
            rw [hv, ← e4, Array.getElem?_toList, e1]
            exact (m5 q' x' e3).2 j' e2
          · rw [List.getElem?_append_right (by simp only [List.length_take, Array.length_toList]; omega), List.getElem?_append_left (by simp only [List.length_take, Array.length_toList]; omega), List.getElem?_append_right (by omega)]
            congr 1
            simp only [List.length_take, Array.length_toList]
            omega
        have hfit' : g.bs id + (k.els ++ l2).length * k.es ≤ g.sz id := by
          refine Nat.le_trans ?_ g2
          refine Nat.add_le_add_left (Nat.mul_le_mul_right _ ?_) _
          simp; omega
        have hwr := write_ok hg hk hown hs0 m1 hC's (els := k.els ++ l2) hfit' hlies
        simp only at hwr
        obtain ⟨hgw, hsw⟩ := hwr
        have hk' : hget (g.H.set id (some { k with els := k.els ++ l2 })) id = some { k with els := k.els ++ l2 } := by
          rw [hget_set, if_pos ⟨rfl, hid⟩]
        obtain ⟨hgr, hsr⟩ := rebase_ok (id := id) (off := off) hgw hk' (by simp; omega)
        refine ⟨.slice (some ⟨g.φ id, g.bs id + off * k.es, none⟩) (n1 + l2.length) c0, _, .inl ?_, ?_, hgr, ?_, hsw.trans hsr⟩
        · rw [hexec _ _ _ hA0]
          obtain ⟨e1, _⟩ := tyI_run hi g.w
          obtain ⟨e1', _⟩ := tyI_run hi2 g.w
          obtain ⟨_, e2, _⟩ := tyI_run hj g.w
          have hz3 : (i2.desc matches .int _) = false := by
            cases hdd : i2.desc <;> first | rfl | exact absurd hdd (hd2 _)
          have hf2 := r2.first (P := P) (w' := g.w) (fun _ => rfl) xs2.length c2
          rw [← hn2] at hf2
          have hst' : (storeCells ⟨g.φ id, pos, none⟩ (flatC xs2)).run P g.w = .ok () (g.w.setRow (g.φ id) C') := hst
          have hpos2 : (⟨g.φ id, g.bs id + off * k.es, none⟩ : Addr).add (n1 * j.size) = ⟨g.φ id, pos, none⟩ := by
            rw [add_off]; simp only [pos, hkes]
          simp only [Builtin.append_, List.getElem?_toArray, List.getElem?_cons_zero, List.getElem?_cons_succ, Sem.run_bind, e1, Result.andThen_ok, hd, e2, e1', Sem.run_pure, hz3, Bool.false_eq_true, if_false, Builtin.lenOf, hroom, if_true, Bool.not_false, hf2, hpos2, hst', G.rebase]
        · simp [G.rebase, List.drop_append, hkes, hown]
          rw [show off - k.els.length = 0 by omega]
          simp
        · simp only [Rel]
          refine ⟨by simp [G.rebase], _, _, rfl, fun k2 hk2 => ?_⟩
          have el : (g.H.set id (some { k with els := k.els ++ l2 })).length = g.H.length := by simp
          have hk2es : k2.es = k.es := by
            simp only [G.rebase, hget_append, List.length_set] at hk2
            rw [if_neg (Nat.lt_irrefl _), Nat.sub_self] at hk2
            simp [hget] at hk2
            rw [← hk2]
          rw [hk2es]
          refine ⟨by omega, ?_, fun _ => ?_⟩
          · simp only [G.rebase, el, if_true, Nat.zero_add]
            rw [Nat.add_assoc, ← Nat.add_mul]
            exact g2
          · simp [G.rebase, el]
    · -- a new row
      obtain ⟨hgk, hsk⟩ := kill_ok id hg
      have hwk : (g.kill id).w = g.w := rfl
      obtain ⟨v, g', h1, h2, h3, h4, h5⟩ := append_grown (P := P) hgk hi hd hj hj0 hb0 hz hi2 hd2 (A := A0) (B := B) (c := c0) (c2 := c2) (n2 := l2.length) (l1 := k.els.drop off) (l2 := l2) (xs1 := xs1) (xs2 := xs2) (RelL.mono hsk.ren hl1) (RelL.mono hsk.ren hl2) r1 r2 hn2 (by omega) (by rw [hx1]; exact hbound) o.type
      refine ⟨v, g', .inl ?_, by simpa [G.kill] using h2, h3, ?_, hsk.trans h4⟩
      · rw [hexec _ _ _ hA0]
        rw [hx1] at h1
        rw [Sem.run_bind, ← hwk, h1]
        rfl
      · rw [hx1] at h5
        have e0 : (g.kill id).H.length = g.H.length := by simp [G.kill]
        rw [e0] at h5
        exact h5
  · simp only [Option.some.injEq, Prod.mk.injEq] at hr
    obtain ⟨rfl, rfl⟩ := hr
    simp only [Rel] at hx
    obtain ⟨A, hA⟩ := hx
    refine hempty A hA rfl rfl ?_
    unfold lenA at hn1
    split at hn1 <;> simp_all
  · simp only [Option.some.injEq, Prod.mk.injEq] at hr
    obtain ⟨rfl, rfl⟩ := hr
    simp only [Rel] at hx
    refine hempty none hx rfl rfl ?_
    unfold lenA at hn1
    split at hn1 <;> simp_all
  · cases hr
end Go.AM
namespace Go.AM
variable {D : List Deferred} {P : Program} {n k : Nat} {tm : TM} {H : Heap} {Q : Post}

/-- One operation of a statement, a call too. -/
def StepOk (P : Program) (tm : TM) (H : Heap) (o : Oper) (x : AV) (H' : Heap) : Prop :=
  ∀ g a (next : Act → World → Prop) (Q : Exit → Act → World → Prop), g.H = H → GOk g → OpRel g tm a o → (∀ v g', g'.H = H' → GOk g' → Rel g' x v → Sub g g' → next (a.put o.dst v) g'.w) → o.wp P a g.w next Q
theorem OpOk.step {o : Oper} {x : AV} {H' : Heap} (h : OpOk P tm H o x H') : StepOk P tm H o x H' := by
  intro g a next Q hH hg ht hn
  obtain ⟨v, g', h1, h2, h3, h4, h5⟩ := h g a hH hg ht
  have := hn v g' h2 h3 h4 h5
  unfold Oper.wp
  rcases h1 with h1 | ⟨h1, rfl⟩
  · rw [h1, Oper.upon_value]; exact this
  · rw [h1, Oper.upon_skip]; exact this
theorem StepOk.congr {tm' : TM} {o : Oper} {x : AV} {H' : Heap} (h : StepOk P tm H o x H') (he : ∀ y, y ∈ o.op.operands → ev tm' y = ev tm y) : StepOk P tm' H o x H' :=
  fun g a next Q hH hg ht hn => h g a next Q hH hg (fun y hy => he y hy ▸ ht y hy) hn

def tput (tm : TM) (d : Option Tmp) (x : AV) : TM := match d with
  | none => tm
  | some d => (d, x) :: tm
def dOk (n : Nat) (d : Option Tmp) : Bool := match d with
  | none => true
  | some d => Nat.blt d n
theorem tget_tput (d : Option Tmp) (x : AV) (t : Nat) : tget (tput tm d x) t = if d = some t then x else tget tm t := by
  cases d with
  | none => simp [tput]
  | some d => simp [tput, tget]
theorem TmOk.mono {g g' : G} {a : Act} (h : Sub g g') (ht : TmOk D g tm a n) : TmOk D g' tm a n := ⟨ht.size, ht.defers, fun t => Rel.mono h.ren (ht.rel t)⟩
theorem TmOk.put {g : G} {a : Act} {d : Option Tmp} {x : AV} {v : Value} (ht : TmOk D g tm a n) (hx : Rel g x v) (hd : dOk n d = true) : TmOk D g (tput tm d x) (a.put d v) n := by
  cases d with
  | none => exact ht
  | some d =>
    have hd' : d < n := Nat.blt_eq.mp hd
    refine ⟨by simp [Act.put, ht.size], ht.defers, fun t => ?_⟩
    rw [tget_tput]
    by_cases h : d = t
    · subst h
      simp only [if_true]
      have : tmpsOf (a.put (some d) v) d = v := by
        simp [tmpsOf, Act.put, Array.getD_eq_getD_getElem?, ht.size, hd']
      rw [this]; exact hx
    · have h' : ¬ (some d = some t) := fun e => h (Option.some.inj e)
      rw [if_neg h']
      have : tmpsOf (a.put (some d) v) t = tmpsOf a t := by
        simp [tmpsOf, Act.put, Array.getD_eq_getD_getElem?, Array.getElem?_setIfInBounds_ne h]
      rw [this]; exact ht.rel t

/-- Is an operation under a guard wanted? -/
def wantA (ops : Array Oper) (tm : TM) (o : Oper) : Option Bool := match o.guard with
  | none => some true
  | some (j, want) => match (ops[j]?).bind (·.dst) with
    | none => none
    | some d => match tget tm d with
      | .v (.bool b) => some (b == want)
      | .v (.tuple _) => some false
      | _ => none
theorem wantA_sound {ops : Array Oper} {o : Oper} {b : Bool} {g : G} {a : Act} (ht : TmRel g tm (tmpsOf a)) (h : wantA ops tm o = some b) : Region.wanted o (yielded ops a.tmps) = b := by
  unfold wantA at h
  unfold Region.wanted
  split at h
  · rename_i hg; simp at h; simp [hg, h]
  · rename_i j want hg
    simp only [hg]
    split at h
    · cases h
    · rename_i d hd
      have hr := ht d
      simp only [yielded, hd, Option.bind_some]
      split at h
      · rename_i c hc
        rw [hc] at hr
        simp only [Rel, tmpsOf] at hr
        have hs : a.tmps[d]? = some (.bool c) := by
          rw [Array.getD_eq_getD_getElem?] at hr
          cases hh : a.tmps[d]? with
          | none => rw [hh] at hr; simp [undef] at hr
          | some u => rw [hh] at hr; simpa using hr
        simp at h
        simp only [hs]
        subst h
        cases c <;> cases want <;> rfl
      · rename_i cs hc
        rw [hc] at hr
        simp only [Rel, tmpsOf] at hr
        simp at h
        subst h
        rw [Array.getD_eq_getD_getElem?] at hr
        cases hh : a.tmps[d]? with
        | none => rfl
        | some u => rw [hh] at hr; simp at hr; subst hr; rfl
      · cases h

def runOps (P : Program) (n : Nat) (ops : Array Oper) : List Oper → TM → Heap → (TM → Heap → Prop) → Prop
  | [], tm, H, K => K tm H
  | o :: rest, tm, H, K => dOk n o.dst = true ∧ ((wantA ops tm o = some true ∧ ∃ x H', StepOk P tm H o x H' ∧ runOps P n ops rest (tput tm o.dst x) H' K) ∨ (wantA ops tm o = some false ∧ runOps P n ops rest (tput tm o.dst (.v undef)) H K))
theorem ro {ops : Array Oper} {o : Oper} {rest : List Oper} {K : TM → Heap → Prop} {x : AV} {H' : Heap} (hd : dOk n o.dst = true) (hw : wantA ops tm o = some true) (hs : StepOk P tm H o x H') (k : runOps P n ops rest (tput tm o.dst x) H' K) : runOps P n ops (o :: rest) tm H K :=
  ⟨hd, .inl ⟨hw, x, H', hs, k⟩⟩
theorem ro_skip {ops : Array Oper} {o : Oper} {rest : List Oper} {K : TM → Heap → Prop} (hd : dOk n o.dst = true) (hw : wantA ops tm o = some false) (k : runOps P n ops rest (tput tm o.dst (.v undef)) H K) : runOps P n ops (o :: rest) tm H K :=
  ⟨hd, .inr ⟨hw, k⟩⟩
theorem ro_nil {ops : Array Oper} {K : TM → Heap → Prop} (k : K tm H) : runOps P n ops [] tm H K := k

theorem runOps_sound {ops : Array Oper} {K : TM → Heap → Prop} {Qc : Exit → Act → World → Prop} (g0 : G) (hk : ∀ tm g a, K tm g.H → GOk g → TmOk D g tm a n → Ext g0 g → Pin k g0 g → Qc .normal a g.w) :
    ∀ (l : List Oper) (i : Nat), ops.toList.drop i = l → ∀ (tm : TM) (H : Heap), runOps P n ops l tm H K → ∀ g a, g.H = H → GOk g → TmOk D g tm a n → Ext g0 g → Pin k g0 g → wpOps P ops Qc (List.range' i l.length) a g.w
  | [], i, _, tm, H, h, g, a, hH, hg, ht, hx, hp => hk tm g a (hH ▸ h) hg ht hx hp
  | o :: rest, i, hl, tm, H, h, g, a, hH, hg, ht, hx, hp => by
    have hio : ops[i]? = some o := by
      have : (ops.toList.drop i)[0]? = some o := by rw [hl]; rfl
      simpa using this
    have hrest : ops.toList.drop (i + 1) = rest := by
      have : (ops.toList.drop i).drop 1 = rest := by rw [hl]; rfl
      rw [List.drop_drop] at this
      exact this
    simp only [List.length_cons, List.range'_succ, wpOps, hio]
    obtain ⟨hd, h⟩ := h
    rcases h with ⟨hw, x, H', hs, h⟩ | ⟨hw, h⟩
    · have hw' := wantA_sound ht.rel hw
      rw [if_pos hw']
      refine .inl (hs g a _ _ hH hg ht.rel.op fun v g' hH' hg' hr hsub => ?_)
      exact runOps_sound g0 hk rest (i + 1) hrest _ H' h g' _ hH' hg' ((ht.mono hsub).put hr hd) (hx.trans hsub.ext) (hp.trans (hsub.pin hp.len))
    · have hw' := wantA_sound ht.rel hw
      rw [if_neg (by rw [hw']; decide)]
      exact runOps_sound g0 hk rest (i + 1) hrest _ H h g _ hH hg (ht.put (by simp [Rel]) hd) hx hp
theorem T.region {id : Nat} {ops : Array Oper} (h : runOps P n ops ops.toList tm H (Q .normal)) : T D P n k (.region id ops false) tm H Q := by
  intro g a hH hk hg ht
  refine wp_region ?_
  have := runOps_sound (P := P) (k := k) (Qc := Q.up D n k g) g (fun tm' g' a' h1 h2 h3 h4 h5 => ⟨tm', g', rfl, h1, h2, h3, h4, h5⟩) ops.toList 0 (by simp) tm H h g a hH hg ht (.refl g) (.refl (hH ▸ hk))
  simpa [List.range_eq_range'] using this

-- whatever order
def TmEq (tm tm' : TM) : Prop := ∀ t, tget tm t = tget tm' t
theorem TmEq.ev {tm tm' : TM} (h : TmEq tm tm') (x : Operand) : ev tm x = ev tm' x := by
  cases x <;> simp [AM.ev, h _]
theorem TmEq.put {tm tm' : TM} (h : TmEq tm tm') (d : Option Tmp) (x : AV) : TmEq (tput tm d x) (tput tm' d x) := fun t => by
  rw [tget_tput, tget_tput, h t]
theorem TmEq.comm (tm : TM) {d e : Option Tmp} (x y : AV) (h : ∀ t, d = some t → e ≠ some t) : TmEq (tput (tput tm d x) e y) (tput (tput tm e y) d x) := fun t => by
  simp only [tget_tput]
  by_cases h1 : d = some t
  · rw [if_neg (h t h1), if_pos h1]
    simp [h1]
  · simp [h1]
theorem TmEq.want {tm tm' : TM} (h : TmEq tm tm') (ops : Array Oper) (o : Oper) : wantA ops tm o = wantA ops tm' o := by
  unfold wantA
  cases o.guard with
  | none => rfl
  | some p =>
    obtain ⟨j, want⟩ := p
    simp only
    cases (ops[j]?).bind (·.dst) with
    | none => rfl
    | some d => simp only [h d]
theorem TmOk.eq {tm' : TM} {g : G} {a : Act} (h : TmEq tm tm') (ht : TmOk D g tm a n) : TmOk D g tm' a n := ⟨ht.size, ht.defers, fun t => h t ▸ ht.rel t⟩

def stepA (P : Program) (n : Nat) (ops : Array Oper) (i : Nat) (tm : TM) (H : Heap) (C : TM → Heap → Prop) : Prop :=
  ∃ o, ops[i]? = some o ∧ dOk n o.dst = true ∧ ((wantA ops tm o = some true ∧ ∃ x H', StepOk P tm H o x H' ∧ C (tput tm o.dst x) H') ∨ (wantA ops tm o = some false ∧ C (tput tm o.dst (.v undef)) H))
theorem stepA.mono {ops : Array Oper} {i : Nat} {C C' : TM → Heap → Prop} (h : stepA P n ops i tm H C) (hc : ∀ tm H, C tm H → C' tm H) : stepA P n ops i tm H C' := by
  obtain ⟨o, h1, h2, h3⟩ := h
  refine ⟨o, h1, h2, h3.imp ?_ ?_⟩
  · rintro ⟨hw, x, H', hs, h⟩; exact ⟨hw, x, H', hs, hc _ _ h⟩
  · rintro ⟨hw, h⟩; exact ⟨hw, hc _ _ h⟩
def anyJ (P : Program) (n : Nat) (ops : Array Oper) (K : TM → Heap → Prop) (S : Nat → Heap → Prop) : Nat → Array Bool → TM → Heap → Prop
  | 0, listed, tm, H => Region.ready .any ops listed = [] ∧ K tm H
  | f + 1, listed, tm, H => (Region.ready .any ops listed = [] → K tm H) ∧ ∀ i ∈ Region.ready .any ops listed, stepA P n ops i tm H (fun tm' H' => S i H' ∧ anyJ P n ops K S f (listed.setIfInBounds i true) tm' H')
theorem anyJ_sound {ops : Array Oper} {K : TM → Heap → Prop} {S : Nat → Heap → Prop} {Qc : Exit → Act → World → Prop} (g0 : G) (hk : ∀ tm g a, K tm g.H → GOk g → TmOk D g tm a n → Ext g0 g → Pin k g0 g → Qc .normal a g.w) :
    ∀ (f : Nat) (listed : Array Bool) (tm : TM) (H : Heap), anyJ P n ops K S f listed tm H → ∀ g a, g.H = H → GOk g → TmOk D g tm a n → Ext g0 g → Pin k g0 g → wpAny P .any ops Qc f listed a g.w
  | 0, listed, tm, H, h, g, a, hH, hg, ht, hx, hp => ⟨h.1, hk tm g a (hH ▸ h.2) hg ht hx hp⟩
  | f + 1, listed, tm, H, h, g, a, hH, hg, ht, hx, hp => by
    refine ⟨fun hr => hk tm g a (hH ▸ h.1 hr) hg ht hx hp, fun i hi => ?_⟩
    obtain ⟨o, ho, hd, h⟩ := h.2 i hi
    unfold wpOp
    simp only [ho]
    rcases h with ⟨hw, x, H', hs, _, h⟩ | ⟨hw, _, h⟩
    · have hw' := wantA_sound ht.rel hw
      rw [if_pos hw']
      refine .inl (hs g a _ _ hH hg ht.rel.op fun v g' hH' hg' hr hsub => ?_)
      exact anyJ_sound g0 hk f _ _ H' h g' _ hH' hg' ((ht.mono hsub).put hr hd) (hx.trans hsub.ext) (hp.trans (hsub.pin hp.len))
    · have hw' := wantA_sound ht.rel hw
      rw [if_neg (by rw [hw']; decide)]
      exact anyJ_sound g0 hk f _ _ H h g _ hH hg (ht.put (by simp [Rel]) hd) hx hp
/-- The same but for the order in which the temporaries are written down. -/
def upTo (K : TM → Heap → Prop) : TM → Heap → Prop := fun tm H => ∃ tm', TmEq tm tm' ∧ K tm' H
theorem T.draw (hm : P.follows .mixedOrders = true) {id : Nat} {ops : Array Oper} (S : Nat → Heap → Prop) (h : anyJ P n ops (upTo (Q .normal)) S ops.size (Array.replicate ops.size false) tm H) : T D P n k (.region id ops true) tm H Q := by
  intro g a hH hk hg ht
  refine wp_region_any hm ?_
  obtain ⟨hgw, hsw⟩ := reworld (w' := { g.w with drawn := g.w.drawn + 1 }) (g := g) rfl ⟨rfl, rfl, rfl⟩ hg
  exact anyJ_sound (P := P) (k := k) (Qc := Q.up D n k g) g (fun tm' g' a' h1 h2 h3 h4 h5 => by
    obtain ⟨tm'', e, h1⟩ := h1
    exact ⟨tm'', g', rfl, h1, h2, h3.eq e, h4, h5⟩) _ _ tm H h { g with w := { g.w with drawn := g.w.drawn + 1 } } a hH hgw (ht.mono hsw) hsw.ext (hsw.pin (hH ▸ hk))

theorem anyJ.eq {ops : Array Oper} {K : TM → Heap → Prop} {S : Nat → Heap → Prop} : ∀ (f : Nat) (listed : Array Bool) (tm tm' : TM) (H : Heap), TmEq tm' tm → anyJ P n ops (upTo K) S f listed tm H → anyJ P n ops (upTo K) S f listed tm' H
  | 0, listed, tm, tm', H, he, h => ⟨h.1, by obtain ⟨t, e, h⟩ := h.2; exact ⟨t, fun x => (he x).trans (e x), h⟩⟩
  | f + 1, listed, tm, tm', H, he, h => by
    refine ⟨fun hr => by obtain ⟨t, e, h⟩ := h.1 hr; exact ⟨t, fun x => (he x).trans (e x), h⟩, fun i hi => ?_⟩
    obtain ⟨o, ho, hd, h⟩ := h.2 i hi
    refine ⟨o, ho, hd, h.imp ?_ ?_⟩
    · rintro ⟨hw, x, H', hs, hS, h⟩
      exact ⟨by rw [he.want]; exact hw, x, H', hs.congr (fun y _ => he.ev y), hS, anyJ.eq f _ _ _ _ (he.put _ _) h⟩
    · rintro ⟨hw, hS, h⟩
      exact ⟨by rw [he.want]; exact hw, hS, anyJ.eq f _ _ _ _ (he.put _ _) h⟩

/-- What has come up is closed under 'waits for'. -/
def closedB (ops : Array Oper) (listed : Array Bool) : Bool := (List.range ops.size).all fun j => !listed.getD j false || ((ops[j]?).map (·.after.all fun e => !Region.binds .any e || listed.getD e.on false)).getD true
def Closed (ops : Array Oper) (listed : Array Bool) : Prop := ∀ j o, ops[j]? = some o → listed.getD j false = true → ∀ e ∈ o.after, Region.binds .any e = true → listed.getD e.on false = true
theorem closedB_spec {ops : Array Oper} {listed : Array Bool} (h : closedB ops listed = true) : Closed ops listed := by
  intro j o ho hj e he hb
  have hlt := (Array.getElem?_eq_some_iff.1 ho).1
  have := List.all_eq_true.1 h j (by simpa using hlt)
  simp only [ho, Option.map_some, Option.getD_some, hj, Bool.not_true, Bool.false_or] at this
  have := (Array.all_eq_true_iff_forall_mem.1 this) e he
  simpa [hb] using this
theorem Closed.step {ops : Array Oper} {listed : Array Bool} {i : Nat} (h : Closed ops listed) (hi : i ∈ Region.ready .any ops listed) : Closed ops (listed.setIfInBounds i true) := by
  intro j o ho hj e he hb
  by_cases hji : i = j
  · subst hji
    obtain ⟨_, o', ho', hall⟩ := mem_ready.1 hi
    rw [ho] at ho'
    cases ho'
    exact getD_set_true (hall e he hb)
  · rw [getD_set_ne false hji] at hj
    exact getD_set_true (h j o ho hj e he hb)
def preds (ops : Array Oper) : Nat → Nat → List Nat
  | 0, _ => []
  | f + 1, j => match ops[j]? with
    | none => []
    | some o => let d := (o.after.toList.filter (Region.binds .any)).map (·.on); d ++ d.flatMap (preds ops f)
theorem preds_listed {ops : Array Oper} {listed : Array Bool} (hc : Closed ops listed) : ∀ (f j i : Nat), i ∈ preds ops f j → (∀ o, ops[j]? = some o → ∀ e ∈ o.after, Region.binds .any e = true → listed.getD e.on false = true) → listed.getD i false = true
  | 0, _, _, h, _ => by simp [preds] at h
  | f + 1, j, i, h, hj => by
    simp only [preds] at h
    cases ho : ops[j]? with
    | none => rw [ho] at h; simp at h
    | some o =>
      rw [ho] at h
      simp only [List.mem_append, List.mem_map, List.mem_filter, List.mem_flatMap] at h
      rcases h with ⟨e, ⟨he, hb⟩, rfl⟩ | ⟨m, ⟨e, ⟨he, hb⟩, rfl⟩, h⟩
      · exact hj o ho e (by simpa using he) hb
      · have hl := hj o ho e (by simpa using he) hb
        exact preds_listed hc f e.on i h (fun o' ho' => hc e.on o' ho' hl)

/-- Each block is as it was; there may be more. -/
def HeldL : Heap → Heap → Prop
  | [], _ => True
  | none :: H, [] => HeldL H []
  | none :: H, _ :: H' => HeldL H H'
  | some _ :: _, [] => False
  | some b :: H, c :: H' => c = some b ∧ HeldL H H'
theorem HeldL.get : ∀ {H H' : Heap}, HeldL H H' → ∀ {i : Nat} {b : Blk}, hget H i = some b → hget H' i = some b
  | [], _, _, i, b, h => by simp [hget] at h
  | none :: H, [], hh, i, b, h => by
    cases i with
    | zero => simp [hget] at h
    | succ i =>
      have := HeldL.get (H := H) (H' := []) (by simpa [HeldL] using hh) (i := i) (b := b) (by simpa [hget] using h)
      simp [hget] at this
  | none :: H, c :: H', hh, i, b, h => by
    cases i with
    | zero => simp [hget] at h
    | succ i =>
      have := HeldL.get (H := H) (H' := H') (by simpa [HeldL] using hh) (i := i) (b := b) (by simpa [hget] using h)
      simpa [hget] using this
  | some _ :: _, [], hh, i, b, h => by simp [HeldL] at hh
  | some b' :: H, c :: H', hh, i, b, h => by
    simp only [HeldL] at hh
    obtain ⟨rfl, hh⟩ := hh
    cases i with
    | zero => simpa [hget] using h
    | succ i =>
      have := HeldL.get hh (i := i) (b := b) (by simpa [hget] using h)
      simpa [hget] using this
theorem HeldL.refl : ∀ H : Heap, HeldL H H
  | [] => trivial
  | none :: H => by simp only [HeldL]; exact HeldL.refl H
  | some b :: H => ⟨rfl, HeldL.refl H⟩
theorem HeldL.append : ∀ (H R : Heap), HeldL H (H ++ R)
  | [], _ => trivial
  | none :: H, R => by simp only [List.cons_append, HeldL]; exact HeldL.append H R
  | some b :: H, R => ⟨rfl, HeldL.append H R⟩
theorem locA_held {H H' : Heap} (h : HeldL H H') {x : AV} {r : List AV × Nat} (hx : locA H x = some r) : locA H' x = some r := by
  cases x <;> simp only [locA, reduceCtorEq] at hx ⊢
  case fp l f => exact hx
  case ref id i f =>
    obtain ⟨k, hk, hx⟩ := Option.bind_eq_some_iff.1 hx
    rw [h.get hk]
    exact hx
theorem rowA_held {H H' : Heap} (h : HeldL H H') {x : AV} {r : Nat × List AV} (hx : rowA H x = some r) : rowA H' x = some r := by
  unfold rowA at hx ⊢
  split at hx
  · exact hx
  · rename_i id off len
    obtain ⟨k, hk, hx⟩ := Option.bind_eq_some_iff.1 hx
    simp only [h.get hk, Option.bind_some]
    exact hx
  · exact hx
  · exact hx
  · cases hx
theorem sliceA_held {H H' : Heap} (h : HeldL H H') {d : TypeDesc} {x : AV} {sz : Nat} {lo hi mx : Option Int} {r : AV} (hx : sliceA H d sz x lo hi mx = some r) : sliceA H' d sz x lo hi mx = some r := by
  unfold sliceA at hx ⊢
  cases mx with
  | some m => exact hx
  | none =>
    simp only at hx ⊢
    split at hx <;> try exact hx
    rename_i e id off len
    obtain ⟨k, hk, hx⟩ := Option.bind_eq_some_iff.1 hx
    simp only [h.get hk, Option.bind_some]
    exact hx
/-- Behind operation j what is read is as it was, unless all that reads has come up. -/
def SH (late : List Nat) (R : Heap → Prop) : Nat → Heap → Prop := fun j H => late.contains j = true ∨ R H
def takeOk (n : Nat) (ops : Array Oper) (listed : Array Bool) (late : List Nat) (i : Nat) : Bool :=
  Region.free .any ops listed i && (Region.ready .any ops listed).contains i && closedB ops listed && late.all (fun j => (preds ops ops.size j).contains i || j == i) && (match ops[i]? with | some o => dOk n o.dst | none => false)
theorem any_first {ops : Array Oper} {K : TM → Heap → Prop} {S : Nat → Heap → Prop} {i : Nat} {oi : Oper} {x : AV} {R : Heap → Prop} (hi : ops[i]? = some oi) (hdi : dOk n oi.dst = true) (hRS : ∀ H', R H' → S i H') :
    ∀ (f : Nat) (listed : Array Bool) (tm : TM) (H : Heap), Closed ops listed → (∀ j H', listed.getD j true = false → i ∉ preds ops ops.size j → j ≠ i → S j H' → R H') →
      (∀ j oj, ops[j]? = some oj → j ≠ i → listed.getD j true = false → (∀ e ∈ oj.after, Region.binds .any e = true → e.on ≠ i) → oi.apart ops oj = true) →
      i ∈ Region.ready .any ops listed →
      ((wantA ops tm oi = some true ∧ ∀ H', R H' → StepOk P tm H' oi x H') ∨ (wantA ops tm oi = some false ∧ x = .v undef)) → R H →
      anyJ P n ops (upTo K) S f (listed.setIfInBounds i true) (tput tm oi.dst x) H → anyJ P n ops (upTo K) S (f + 1) listed tm H := by
  have here : ∀ (f : Nat) (listed : Array Bool) (tm : TM) (H : Heap), ((wantA ops tm oi = some true ∧ ∀ H', R H' → StepOk P tm H' oi x H') ∨ (wantA ops tm oi = some false ∧ x = .v undef)) → R H → anyJ P n ops (upTo K) S f (listed.setIfInBounds i true) (tput tm oi.dst x) H →
      stepA P n ops i tm H (fun tm' H' => S i H' ∧ anyJ P n ops (upTo K) S f (listed.setIfInBounds i true) tm' H') := by
    intro f listed tm H hy hR h
    refine ⟨oi, hi, hdi, ?_⟩
    rcases hy with ⟨hw, hs⟩ | ⟨hw, rfl⟩
    · exact .inl ⟨hw, x, H, hs H hR, hRS H hR, h⟩
    · exact .inr ⟨hw, hRS H hR, h⟩
  intro f
  induction f with
  | zero =>
    intro listed tm H hc hS hfree hr hy hR h
    refine ⟨fun h0 => (by rw [h0] at hr; cases hr), fun j hj => ?_⟩
    by_cases hji : j = i
    · subst hji; exact here _ _ _ _ hy hR h
    · have := ready_mono hj hji
      rw [h.1] at this
      cases this
  | succ f ih =>
    intro listed tm H hc hS hfree hr hy hR h
    refine ⟨fun h0 => (by rw [h0] at hr; cases hr), fun j hj => ?_⟩
    by_cases hji : j = i
    · subst hji; exact here _ _ _ _ hy hR h
    · have h1 := h.2 j (ready_mono hj hji)
      obtain ⟨hjun, oj', hoj', hall⟩ := mem_ready.1 hj
      have hiun := (mem_ready.1 hr).1
      have hiun' : listed.getD i false = false := by
        rcases Nat.lt_or_ge i listed.size with h' | h'
        · simp [h'] at hiun ⊢; exact hiun
        · simp [Array.getElem?_eq_none h'] at hiun
      have hnot : ∀ e ∈ oj'.after, Region.binds .any e = true → e.on ≠ i := fun e he hb heq => by
        have h1 := hall e he hb
        rw [heq, hiun'] at h1
        cases h1
      have hnp : i ∉ preds ops ops.size j := fun hp => by
        have := preds_listed hc _ j i hp (fun o ho e he hb => by rw [hoj'] at ho; cases ho; exact hall e he hb)
        rw [hiun'] at this
        cases this
      obtain ⟨p1, p2, p3⟩ := Oper.apart_spec (hfree j oj' hoj' hji hjun hnot)
      -- what oj sees
      have hev : ∀ y, y ∈ oj'.op.operands → ev tm y = ev (tput tm oi.dst x) y := fun y hy => by
        cases y with
        | tmp t =>
          simp only [ev, tget_tput]
          rw [if_neg]
          intro hd
          refine p1 t hd ?_
          simp only [Oper.looksAt, List.mem_append, List.mem_filterMap]
          exact .inl ⟨.tmp t, by simpa using hy, rfl⟩
        | _ => rfl
      have hevi : ∀ z (y : Operand), y ∈ oi.op.operands → ev (tput tm oj'.dst z) y = ev tm y := fun z y hy => by
        cases y with
        | tmp t =>
          simp only [ev, tget_tput]
          rw [if_neg]
          intro hd
          refine p3 t hd ?_
          simp only [Oper.looksAt, List.mem_append, List.mem_filterMap]
          exact .inl ⟨.tmp t, by simpa using hy, rfl⟩
        | _ => rfl
      have hwj : wantA ops tm oj' = wantA ops (tput tm oi.dst x) oj' := by
        unfold wantA
        cases hg : oj'.guard with
        | none => rfl
        | some p =>
          obtain ⟨q, want⟩ := p
          simp only
          cases hq : (ops[q]?).bind (·.dst) with
          | none => rfl
          | some d =>
            simp only [tget_tput]
            rw [if_neg]
            intro hd
            refine p1 d hd ?_
            simp [Oper.looksAt, hg, hq]
      have hwi : ∀ z, wantA ops (tput tm oj'.dst z) oi = wantA ops tm oi := fun z => by
        unfold wantA
        cases hg : oi.guard with
        | none => rfl
        | some p =>
          obtain ⟨q, want⟩ := p
          simp only
          cases hq : (ops[q]?).bind (·.dst) with
          | none => rfl
          | some d =>
            simp only [tget_tput]
            rw [if_neg]
            intro hd
            refine p3 d hd ?_
            simp [Oper.looksAt, hg, hq]
      have hfree' : ∀ m om, ops[m]? = some om → m ≠ i → (listed.setIfInBounds j true).getD m true = false → (∀ e ∈ om.after, Region.binds .any e = true → e.on ≠ i) → oi.apart ops om = true := fun m om hm hmi hun hno => by
        refine hfree m om hm hmi ?_ hno
        by_cases hjm : j = m
        · subst hjm; exact hjun
        · rw [getD_set_ne true hjm] at hun; exact hun
      have next : ∀ z H', S j H' → anyJ P n ops (upTo K) S f ((listed.setIfInBounds i true).setIfInBounds j true) (tput (tput tm oi.dst x) oj'.dst z) H' → anyJ P n ops (upTo K) S (f + 1) (listed.setIfInBounds j true) (tput tm oj'.dst z) H' := by
        intro z H' hSj hrest
        have hSS : ∀ m H', (listed.setIfInBounds j true).getD m true = false → i ∉ preds ops ops.size m → m ≠ i → S m H' → R H' := fun m H' hm => hS m H' (by
          by_cases hjm : j = m
          · subst hjm; exact hjun
          · rw [getD_set_ne true hjm] at hm; exact hm)
        refine ih (listed.setIfInBounds j true) _ H' (hc.step hj) hSS hfree' (ready_mono hr (Ne.symm hji)) ?_ (hS j H' hjun hnp hji hSj) ?_
        · rcases hy with ⟨hw, hs⟩ | ⟨hw, rfl⟩
          · exact .inl ⟨by rw [hwi]; exact hw, fun H' hR' => (hs H' hR').congr (hevi z)⟩
          · exact .inr ⟨by rw [hwi]; exact hw, rfl⟩
        · rw [Array.setIfInBounds_comm _ _ hji]
          exact anyJ.eq _ _ _ _ _ (fun t => (TmEq.comm tm x z (fun t h1 h2 => p2 t h1 h2) t).symm) hrest
      obtain ⟨oj, hoj, hdj, h2⟩ := h1
      rw [hoj'] at hoj
      cases hoj
      refine ⟨oj', hoj', hdj, ?_⟩
      rcases h2 with ⟨hw, z, H', hs, hSj, hrest⟩ | ⟨hw, hSj, hrest⟩
      · exact .inl ⟨by rw [hwj]; exact hw, z, H', hs.congr hev, hSj, next z H' hSj hrest⟩
      · exact .inr ⟨by rw [hwj]; exact hw, hSj, next _ H hSj hrest⟩

section
variable {ops : Array Oper} {K : TM → Heap → Prop} {late : List Nat} {R : Heap → Prop} {f : Nat} {listed : Array Bool}
/-- An operation that only reads is taken ahead of the others. -/
theorem any_take (i : Nat) {oi : Oper} (hi : ops[i]? = some oi) (hs : takeOk n ops listed late i = true) (hw : wantA ops tm oi = some true) (hR : R H) {x : AV} (hx : ∀ H', R H' → StepOk P tm H' oi x H')
    (k : anyJ P n ops (upTo K) (SH late R) f (listed.setIfInBounds i true) (tput tm oi.dst x) H) : anyJ P n ops (upTo K) (SH late R) (f + 1) listed tm H := by
  simp only [takeOk, Bool.and_eq_true, hi] at hs
  obtain ⟨⟨⟨⟨h1, h2⟩, h3⟩, h4⟩, h5⟩ := hs
  refine any_first (R := R) hi h5 (fun H' h => .inr h) f listed tm H (closedB_spec h3) (fun j H' _ hn hji hS => ?_) (Region.free_spec hi h1) (by simpa using h2) (.inl ⟨hw, hx⟩) hR k
  rcases hS with hS | hS
  · have := List.all_eq_true.1 h4 j (by simpa using hS)
    simp only [Bool.or_eq_true, beq_iff_eq] at this
    rcases this with h | h
    · exact absurd (by simpa using h) hn
    · exact absurd h hji
  · exact hS
theorem any_skip (i : Nat) {oi : Oper} (hi : ops[i]? = some oi) (hs : takeOk n ops listed late i = true) (hw : wantA ops tm oi = some false) (hR : R H)
    (k : anyJ P n ops (upTo K) (SH late R) f (listed.setIfInBounds i true) (tput tm oi.dst (.v undef)) H) : anyJ P n ops (upTo K) (SH late R) (f + 1) listed tm H := by
  simp only [takeOk, Bool.and_eq_true, hi] at hs
  obtain ⟨⟨⟨⟨h1, h2⟩, h3⟩, h4⟩, h5⟩ := hs
  refine any_first (R := R) hi h5 (fun H' h => .inr h) f listed tm H (closedB_spec h3) (fun j H' _ hn hji hS => ?_) (Region.free_spec hi h1) (by simpa using h2) (.inr ⟨hw, rfl⟩) hR k
  rcases hS with hS | hS
  · have := List.all_eq_true.1 h4 j (by simpa using hS)
    simp only [Bool.or_eq_true, beq_iff_eq] at this
    rcases this with h | h
    · exact absurd (by simpa using h) hn
    · exact absurd h hji
  · exact hS
/-- The one that may come up comes up. -/
theorem any_one {S : Nat → Heap → Prop} (i : Nat) {oi : Oper} (hi : ops[i]? = some oi) (hr : Region.ready .any ops listed = [i]) (hd : dOk n oi.dst = true) (hw : wantA ops tm oi = some true) {x : AV} {H' : Heap} (hx : StepOk P tm H oi x H') (hS : S i H')
    (k : anyJ P n ops (upTo K) S f (listed.setIfInBounds i true) (tput tm oi.dst x) H') : anyJ P n ops (upTo K) S (f + 1) listed tm H :=
  ⟨fun h => (by rw [hr] at h; cases h), fun j hj => by
    rw [hr] at hj
    have : j = i := by simpa using hj
    subst this
    exact ⟨oi, hi, hd, .inl ⟨hw, x, H', hx, hS, k⟩⟩⟩
theorem any_one_skip {S : Nat → Heap → Prop} (i : Nat) {oi : Oper} (hi : ops[i]? = some oi) (hr : Region.ready .any ops listed = [i]) (hd : dOk n oi.dst = true) (hw : wantA ops tm oi = some false) (hS : S i H)
    (k : anyJ P n ops (upTo K) S f (listed.setIfInBounds i true) (tput tm oi.dst (.v undef)) H) : anyJ P n ops (upTo K) S (f + 1) listed tm H :=
  ⟨fun h => (by rw [hr] at h; cases h), fun j hj => by
    rw [hr] at hj
    have : j = i := by simpa using hj
    subst this
    exact ⟨oi, hi, hd, .inr ⟨hw, hS, k⟩⟩⟩
theorem any_done {S : Nat → Heap → Prop} (hr : Region.ready .any ops listed = []) (k : K tm H) : anyJ P n ops (upTo K) S f listed tm H := by
  cases f with
  | zero => exact ⟨hr, tm, fun _ => rfl, k⟩
  | succ f => exact ⟨fun _ => ⟨tm, fun _ => rfl, k⟩, fun i hi => by rw [hr] at hi; cases hi⟩
end
end Go.AM
namespace Go.AM
variable {D : List Deferred} {P : Program} {n k : Nat} {tm : TM} {H : Heap} {Q : Post}

/-- A call of this function comes to its body. -/
def Enters (P : Program) (f : FuncId) : Prop := ∃ fn, P.funcs[f]? = some fn ∧ (fn.name == "runtime.NumGoroutine") = false ∧ fn.body.isNone = false
def CallOk (P : Program) (f : FuncId) (H : Heap) (args : List AV) (x : AV) (H' : Heap) : Prop :=
  Enters P f ∧ ∀ g vals, g.H = H → GOk g → RelL g args vals → Calls P f vals.toArray g.w fun e w' => ∃ v g', e = .returned v ∧ g'.w = w' ∧ g'.H = H' ∧ GOk g' ∧ Rel g' x v ∧ Sub g g'
theorem ok_call {o : Oper} {p : Operand} {as : Array Operand} {ts : Array TypeId} (ho : o.op = .call ⟨.value p, as, ts⟩) {f : FuncId} {l m : List AV} (hp : ev tm p = .fn (.func f) l m) {args : List AV} (ha : l ++ as.toList.map (ev tm) ++ m = args) {x : AV} {H' : Heap} (hc : CallOk P f H args x H') : StepOk P tm H o x H' := by
  intro g a next Q hH hg ht hn
  subst hH
  obtain ⟨⟨fn, e1, e2, e3⟩, hc⟩ := hc
  have hpr := ht p (by simp [ho, Op.operands, Call.operands])
  rw [hp] at hpr
  simp only [Rel] at hpr
  obtain ⟨xs, ys, hpv, hl, hm⟩ := hpr
  have hargs : RelL g (as.toList.map (ev tm)) (as.toList.map a.eval) := eval_list as.toList (fun y hy => ht y (by simp only [ho, Op.operands, Call.operands, Array.mem_append]; exact .inr (by simpa using hy)))
  have hall := (hl.append hargs).append hm
  rw [ha] at hall
  have hx := hc g _ rfl hg hall
  have hrun : (execOp a.eval o).run P g.w = .ok (.enter f (xs.toList ++ as.toList.map a.eval ++ ys.toList).toArray) g.w := by
    have e4 : (xs ++ as.map a.eval ++ ys) = (xs.toList ++ as.toList.map a.eval ++ ys.toList).toArray := by
      apply Array.ext'; simp
    have e3' : fn.body.isNone = false := e3
    simp only [execOp, ho, resolve, hpv, Deferred.ofValue, Sem.run_bind, Sem.run_pure, Result.andThen_ok, invoke, callFunc, run_program, e1, e2, e3', Bool.false_eq_true, if_false]
    rw [← e4]
  unfold Oper.wp
  rw [hrun, Oper.upon_enter]
  refine Calls.mono hx fun e w' he => ?_
  obtain ⟨v, g', rfl, rfl, h1, h2, h3, h4⟩ := he
  exact hn v g' h1 h2 h3 h4

/-- What a function does: the blocks that it is handed, and then what stands in them, and new ones. -/
def CSpec (P : Program) (f : FuncId) (hin : List Blk) (args : List AV) (hout : Heap) (x : AV) : Prop :=
  Enters P f ∧ ∀ g vals, g.H = hin.map some → GOk g → RelL g args vals → Calls P f vals.toArray g.w fun e w' => ∃ v g', e = .returned v ∧ g'.w = w' ∧ g'.H = hout ∧ GOk g' ∧ Rel g' x v ∧ Ext g g' ∧ Pin hin.length g g'

/-- How a callee's number reads in the caller. -/
def back (ids : List Nat) (L j : Nat) : Nat := match ids[j]? with
  | some i => i
  | none => L + (j - ids.length)
def renH (ρ : Nat → Option Nat) (H : Heap) : Heap := H.map fun b => b.map (Blk.ren ρ)
def setIds : Heap → List Nat → Heap → Heap
  | H, i :: ids, b :: bs => setIds (H.set i b) ids bs
  | H, _, _ => H
def mergeH (H : Heap) (ids : List Nat) (hout : Heap) : Heap :=
  let h := renH (fun j => some (back ids H.length j)) hout
  setIds H ids h ++ h.drop ids.length
theorem setIds_length : ∀ (H : Heap) (ids : List Nat) (bs : Heap), (setIds H ids bs).length = H.length
  | H, [], bs => by simp [setIds]
  | H, i :: ids, [] => by simp [setIds]
  | H, i :: ids, b :: bs => by simp [setIds, setIds_length]
theorem setIds_get_not : ∀ (H : Heap) (ids : List Nat) (bs : Heap) (i : Nat), i ∉ ids → (setIds H ids bs)[i]? = H[i]?
  | H, [], bs, i, _ => by simp [setIds]
  | H, j :: ids, [], i, _ => by simp [setIds]
  | H, j :: ids, b :: bs, i, h => by
    simp only [List.mem_cons, not_or] at h
    simp only [setIds]
    rw [setIds_get_not _ ids bs i h.2, List.getElem?_set_ne (fun e => h.1 e.symm)]
theorem setIds_get : ∀ (H : Heap) (ids : List Nat) (bs : Heap), ids.Nodup → (∀ i ∈ ids, i < H.length) → ids.length ≤ bs.length → ∀ (j i : Nat), ids[j]? = some i → (setIds H ids bs)[i]? = bs[j]?
  | H, [], bs, _, _, _, j, i, h => by simp at h
  | H, a :: ids, [], _, _, hl, j, i, h => by simp at hl
  | H, a :: ids, b :: bs, hn, hlt, hl, 0, i, h => by
    simp at h
    subst h
    simp only [setIds]
    rw [setIds_get_not _ ids bs a (List.nodup_cons.1 hn).1]
    simp [hlt a (by simp)]
  | H, a :: ids, b :: bs, hn, hlt, hl, j + 1, i, h => by
    simp only [setIds]
    have := setIds_get (H.set a b) ids bs (List.nodup_cons.1 hn).2 (fun i hi => by simpa using hlt i (by simp [hi])) (by simpa using hl) j i (by simpa using h)
    simpa using this

theorem CSpec.pass {f : FuncId} {hin : List Blk} {args args' : List AV} {hout : Heap} {x : AV} (h : CSpec P f hin args' hout x) (ids : List Nat) (hn : ids.Nodup) (hids : ∀ i ∈ ids, i < H.length) (hin' : normH ids H = hin.map some) (ha : renL (pos ids) args = args') :
    CallOk P f H args (x.ren (fun j => some (back ids H.length j))) (mergeH H ids hout) := by
  refine ⟨h.1, fun g vals hH hg hr => ?_⟩
  subst hH ha
  have hgc := norm_ok hn hg
  have hrc := norm_ren g ids
  have hextc := norm_ext (g := g) (src := ids)
  refine (h.2 (g.norm ids) vals hin' hgc (RelL.ren hrc hr)).mono fun e w' he => ?_
  obtain ⟨v, g1, rfl, rfl, hH1, hg1, hx1, hext1, hpin1⟩ := he
  have hlen : hin.length = ids.length := by
    have := congrArg List.length hin'
    simpa [normH] using this.symm
  have hlo : ids.length ≤ hout.length := by rw [← hH1, ← hlen]; exact hpin1.len
  let ρ : Nat → Option Nat := fun j => some (back ids g.H.length j)
  let inv : Nat → Nat := fun i => match pos ids i with
    | some j => j
    | none => i - g.H.length + ids.length
  let old : Nat → Bool := fun i => decide (i < g.H.length) && (pos ids i).isNone
  let g2 : G := { w := g1.w, H := mergeH g.H ids hout, φ := fun i => if old i then g.φ i else g1.φ (inv i), bs := fun i => if old i then g.bs i else g1.bs (inv i), sz := fun i => if old i then g.sz i else g1.sz (inv i), Z := g1.Z }
  have hposD : ∀ {j i : Nat}, ids[j]? = some i → pos ids i = some j := by
    intro j i hj
    have hm : i ∈ ids := List.mem_of_getElem? hj
    cases hp : pos ids i with
    | none =>
      unfold pos at hp
      rw [List.idxOf?, List.findIdx?_eq_none_iff] at hp
      have := hp i hm
      simp at this
    | some j' =>
      have := pos_some hp
      have hj' := (List.getElem?_eq_some_iff.1 hj).1
      rw [(List.getElem?_inj hj' hn).1 (hj.trans this.symm)]
  have hposN : ∀ {i : Nat}, i ∉ ids → pos ids i = none := by
    intro i hi
    cases hp : pos ids i with
    | none => rfl
    | some j => exact absurd (List.mem_of_getElem? (pos_some hp)) hi
  -- what stands under a number
  have hlen2 : g2.H.length = g.H.length + (hout.length - ids.length) := by
    simp [g2, mergeH, setIds_length, renH]
  have get2 : ∀ i b, hget g2.H i = some b → (i < g.H.length ∧ i ∉ ids ∧ hget g.H i = some b ∧ old i = true) ∨ (∃ j b1, i = back ids g.H.length j ∧ hget hout j = some b1 ∧ b = b1.ren ρ ∧ old i = false ∧ inv i = j) := by
    intro i b hb
    rw [hget_iff] at hb
    simp only [g2, mergeH] at hb
    rw [List.getElem?_append, setIds_length] at hb
    by_cases hi : i < g.H.length
    · rw [if_pos hi] at hb
      by_cases hm : i ∈ ids
      · obtain ⟨j, hj⟩ := List.getElem?_of_mem hm
        rw [setIds_get g.H ids _ hn hids (by simp [renH]; exact hlo) j i hj] at hb
        simp only [renH, List.getElem?_map, Option.map_eq_some_iff] at hb
        obtain ⟨b1, hb1, b2, rfl, rfl⟩ := hb
        right
        have hp := hposD hj
        refine ⟨j, b2, ?_, hget_iff.2 hb1, rfl, ?_, ?_⟩
        · simp [back, hj]
        · simp [old, hp]
        · simp [inv, hp]
      · rw [setIds_get_not _ _ _ _ hm] at hb
        exact .inl ⟨hi, hm, hget_iff.2 hb, by simp [old, hi, hposN hm]⟩
    · rw [if_neg hi, List.getElem?_drop] at hb
      simp only [renH, List.getElem?_map, Option.map_eq_some_iff] at hb
      obtain ⟨b1, hb1, b2, rfl, rfl⟩ := hb
      right
      have hnm : i ∉ ids := fun hm => hi (hids i hm)
      have hp := hposN hnm
      refine ⟨ids.length + (i - g.H.length), b2, ?_, hget_iff.2 hb1, rfl, by simp [old, hi], ?_⟩
      · simp [back]; omega
      · simp [inv, hp]; omega
  have getb : ∀ j, j < hout.length → back ids g.H.length j < g2.H.length ∧ old (back ids g.H.length j) = false ∧ inv (back ids g.H.length j) = j ∧ ∀ b, hget g2.H (back ids g.H.length j) = some b → ∃ b1, hget hout j = some b1 ∧ b = b1.ren ρ := by
    intro j hj
    have hfst : back ids g.H.length j < g2.H.length ∧ old (back ids g.H.length j) = false ∧ inv (back ids g.H.length j) = j := by
      cases hj' : ids[j]? with
      | some i =>
        have hp := hposD hj'
        have hi := hids i (List.mem_of_getElem? hj')
        refine ⟨by simp only [back, hj']; omega, by simp [back, hj', old, hp], by simp [back, hj', inv, hp]⟩
      | none =>
        have hge : ids.length ≤ j := by simpa using hj'
        have hnm : (g.H.length + (j - ids.length)) ∉ ids := fun hm => absurd (hids _ hm) (by omega)
        have hnl : ¬ (g.H.length + (j - ids.length) < g.H.length) := by omega
        refine ⟨by simp only [back, hj']; omega, by simp only [back, hj', old, hnl, decide_false, Bool.false_and], ?_⟩
        simp only [back, hj', inv, hposN hnm]; omega
    refine ⟨hfst.1, hfst.2.1, hfst.2.2, fun b hb => ?_⟩
    rcases get2 _ b hb with ⟨_, _, _, ho⟩ | ⟨j', b1, _, h2, h3, _, h5⟩
    · rw [hfst.2.1] at ho; cases ho
    · rw [hfst.2.2] at h5
      subst h5
      exact ⟨b1, h2, h3⟩
  -- blocks of the callee and of the caller
  have ownc : ∀ b, Own (g.norm ids) b → ∃ i k, i ∈ ids ∧ hget g.H i = some k ∧ k.own = true ∧ g.sz i ≠ 0 ∧ g.φ i = b := by
    rintro b ⟨j, k', h1, h2, h3, h4⟩
    obtain ⟨i, b0, e1, e2, rfl⟩ := norm_get h1
    simp only [G.norm, getD_src e1] at h3 h4
    exact ⟨i, b0, List.mem_of_getElem? e1, e2, h2, h3, h4⟩
  have hlt : ∀ j k, hget g.H j = some k → g.sz j ≠ 0 → g.φ j < g.w.heap.size := fun j k hk h0 => by
    obtain ⟨c, e, lo, hi, m1, _⟩ := (hg.blk j k hk).mem h0
    exact (Array.getElem?_eq_some_iff.1 m1).1
  have notc : ∀ i k, i ∉ ids → hget g.H i = some k → g.sz i ≠ 0 → ¬ Own (g.norm ids) (g.φ i) := by
    intro i k hi hk h0 ho
    obtain ⟨i', k', m, h1, h2, h3, h4⟩ := ownc _ ho
    by_cases hown : k.own = true
    · have := hg.inj i' i k' k h1 hk h2 hown h3 h0 h4
      exact hi (this ▸ m)
    · have hz := (hg.blk i k hk).frz (by simpa using hown) h0
      exact (hg.blk i' k' h1).own h2 h3 (h4 ▸ hz)
  have zc : ∀ b, g.Z b → ¬ Own (g.norm ids) b := by
    intro b hz ho
    obtain ⟨i', k', _, h1, h2, h3, h4⟩ := ownc _ ho
    exact (hg.blk i' k' h1).own h2 h3 (h4 ▸ hz)
  have hren1 : Ren ρ g1 g2 := by
    refine ⟨fun _ h => h, fun _ _ => rfl, fun j i hj hij => ?_⟩
    simp only [ρ, Option.some.injEq] at hij
    subst hij
    rw [hH1] at hj
    obtain ⟨a1, a2, a3, a4⟩ := getb j hj
    refine ⟨a1, fun b hb => ?_⟩
    obtain ⟨b1, e1, rfl⟩ := a4 b hb
    refine ⟨b1, by rw [hH1]; exact e1, rfl, ?_, ?_, ?_⟩ <;> simp only [g2, a2, a3, Bool.false_eq_true, if_false]
  have hren : Ren some g g2 := by
    refine ⟨fun b hb => hext1.z b hb, fun b hb => hext1.keep b (hg.zlt b hb) (zc b hb), fun i i' hi hii => ?_⟩
    cases hii
    refine ⟨by rw [hlen2]; omega, fun b hb => ?_⟩
    rcases get2 i b hb with ⟨_, _, h3, h4⟩ | ⟨j, b1, h1, h2, rfl, h4, h5⟩
    · refine ⟨b, h3, rfl, ?_, ?_, ?_⟩ <;> simp only [g2, h4, if_true]
    · -- one that was handed over
      have hjlt : j < ids.length := by
        rcases Nat.lt_or_ge j ids.length with h | h
        · exact h
        · have : ids[j]? = none := by simpa using h
          simp only [back, this] at h1
          omega
      have hij : ids[j]? = some i := by
        have hs := List.getElem?_eq_getElem hjlt
        rw [hs]
        simp only [back, hs] at h1
        rw [h1]
      obtain ⟨k0, p1, p2, p3, p4, p5⟩ := hpin1.id j b1 (by rw [hlen]; exact hjlt) (by rw [hH1]; exact h2)
      obtain ⟨i', b0, e1, e2, rfl⟩ := norm_get p1
      rw [hij] at e1
      cases e1
      refine ⟨b0, e2, p2, ?_, ?_, ?_⟩
      · simp only [g2, h4, h5, Bool.false_eq_true, if_false]; rw [p3]; simp only [G.norm, getD_src hij]
      · simp only [g2, h4, h5, Bool.false_eq_true, if_false]; rw [p4]; simp only [G.norm, getD_src hij]
      · simp only [g2, h4, h5, Bool.false_eq_true, if_false]; rw [p5]; simp only [G.norm, getD_src hij]
  have hgo : GOk g2 := by
    refine ⟨fun i b hb => ?_, fun i i' b b' hb hb' ho ho' hs hs' hφ => ?_, hg1.zlt⟩
    · rcases get2 i b hb with ⟨h1, h2, h3, h4⟩ | ⟨j, b1, h1, h2, rfl, h4, h5⟩
      · have hb0 := hg.blk i b h3
        have eφ : g2.φ i = g.φ i := by simp only [g2, h4, if_true]
        have eb : g2.bs i = g.bs i := by simp only [g2, h4, if_true]
        have es : g2.sz i = g.sz i := by simp only [g2, h4, if_true]
        refine ⟨fun hown h0 hz => ?_, fun hown h0 => ?_, by rw [eb, es]; exact hb0.fit, hb0.pos, ?_⟩
        · rw [es] at h0
          rw [eφ] at hz
          rcases hext1.z' _ hz with hz | hz | hz
          · exact hb0.own hown h0 hz
          · exact absurd (hlt i b h3 h0) (Nat.not_lt.2 hz)
          · exact notc i b h2 h3 h0 hz
        · rw [es] at h0; rw [eφ]; exact hext1.z _ (hb0.frz hown h0)
        · rw [eφ, eb, es]
          intro h0
          obtain ⟨c, e, lo, hi, m1, m2, m3, xs, m4, m5⟩ := hb0.mem h0
          refine ⟨c, e, lo, hi, ?_, m2, m3, xs, RelL.mono hren m4, m5⟩
          rw [← m1]
          exact hext1.keep _ (hlt i b h3 h0) (notc i b h2 h3 h0)
      · have hb1 := hg1.blk j b1 (by rw [hH1]; exact h2)
        have eφ : g2.φ i = g1.φ j := by simp only [g2, h4, h5, Bool.false_eq_true, if_false]
        have eb : g2.bs i = g1.bs j := by simp only [g2, h4, h5, Bool.false_eq_true, if_false]
        have es : g2.sz i = g1.sz j := by simp only [g2, h4, h5, Bool.false_eq_true, if_false]
        refine ⟨by rw [eφ, es]; exact hb1.own, by rw [eφ, es]; exact hb1.frz, by rw [eb, es]; simpa [Blk.ren, renL_length] using hb1.fit, hb1.pos, ?_⟩
        rw [eφ, eb, es]
        intro h0
        obtain ⟨c, e, lo, hi, m1, m2, m3, m4⟩ := hb1.mem h0
        exact ⟨c, e, lo, hi, m1, m2, m3, m4.ren hren1⟩
    · have mixed : ∀ i i' b b' j b1, i ∉ ids → hget g.H i = some b → b.own = true → g.sz i ≠ 0 → hget hout j = some b1 → b1.own = true → g1.sz j ≠ 0 → b' = b1.ren ρ → g.φ i = g1.φ j → i = i' := by
        intro i i' b b' j b1 hi hbi hob hsi hbj hoj hsj _ hφ
        exfalso
        have : Own g1 (g1.φ j) := ⟨j, b1, by rw [hH1]; exact hbj, hoj, hsj, rfl⟩
        rcases hext1.own _ this with h | h
        · exact notc i b hi hbi hsi (hφ ▸ h)
        · have := hlt i b hbi hsi
          have h' : g.w.heap.size ≤ g1.φ j := h
          omega
      rcases get2 i b hb with ⟨h1, h2, h3, h4⟩ | ⟨j, b1, h1, h2, rfl, h4, h5⟩
      · rcases get2 i' b' hb' with ⟨h1', h2', h3', h4'⟩ | ⟨j', b1', h1', h2', rfl, h4', h5'⟩
        · simp only [g2, h4, h4', if_true] at hs hs' hφ
          exact hg.inj i i' b b' h3 h3' ho ho' hs hs' hφ
        · simp only [g2, h4, h4', h5', if_true, Bool.false_eq_true, if_false] at hs hs' hφ
          exact mixed i i' b _ j' b1' h2 h3 ho hs h2' ho' hs' rfl hφ
      · rcases get2 i' b' hb' with ⟨h1', h2', h3', h4'⟩ | ⟨j', b1', h1', h2', rfl, h4', h5'⟩
        · simp only [g2, h4, h4', h5, if_true, Bool.false_eq_true, if_false] at hs hs' hφ
          exact (mixed i' i b' _ j b1 h2' h3' ho' hs' h2 ho hs rfl hφ.symm).symm
        · simp only [g2, h4, h4', h5, h5', Bool.false_eq_true, if_false] at hs hs' hφ
          have := hg1.inj j j' b1 b1' (by rw [hH1]; exact h2) (by rw [hH1]; exact h2') ho ho' hs hs' hφ
          rw [h1, h1', this]
  have hext : Ext g g2 := by
    refine ⟨hext1.rest, hext1.size, fun b hb hno => hext1.keep b hb (fun h => hno (norm_own h)), fun b hb => hext1.z b hb, fun b hb => ?_, fun b ⟨i, k', h1, h2, h3, h4⟩ => ?_⟩
    · rcases hext1.z' b hb with h | h | h
      · exact .inl h
      · exact .inr (.inl h)
      · exact .inr (.inr (norm_own h))
    · rcases get2 i k' h1 with ⟨e1, e2, e3, e4⟩ | ⟨j, b1, e1, e2, rfl, e4, e5⟩
      · simp only [g2, e4, if_true] at h3 h4
        exact .inl ⟨i, k', e3, h2, h3, h4⟩
      · simp only [g2, e4, e5, Bool.false_eq_true, if_false] at h3 h4
        rcases hext1.own b ⟨j, b1, by rw [hH1]; exact e2, h2, h3, h4⟩ with h | h
        · exact .inl (norm_own h)
        · exact .inr h
  exact ⟨v, g2, rfl, rfl, rfl, hgo, Rel.ren hren1 hx1, hren, hext⟩
end Go.AM
namespace Go.AM
variable {D : List Deferred} {P : Program} {n k : Nat} {tm : TM} {H : Heap} {Q : Post}

theorem Ent.refl (x : AV) : Ent H x x := fun _ _ _ _ h => h
theorem Ent.any (x : AV) : Ent H x .any := fun _ _ _ _ _ => by simp [Rel]
/-- A frozen block's row as a frozen row. -/
theorem Ent.sl {id off len : Nat} {b : Blk} (hb : hget H id = some b) (ho : b.own = false) (hl : off + len ≤ b.els.length) : Ent H (.sl id off len) (.fz b.es ((b.els.drop off).take len)) := by
  intro g y hH hg hx
  subst hH
  have hrow : rowA g.H (.sl id off len) = some (b.es, (b.els.drop off).take len) := by simp [rowA, hb, hl]
  have hrel := hx
  obtain ⟨A, c, xs, rfl, h1, h2, h3⟩ := rowA_sound hg hrow hx
  simp only [Rel] at hrel ⊢
  refine ⟨A, c, xs, rfl, h1, h2, fun i x hx => ?_, fun hN => ?_⟩
  rotate_left
  · subst hN
    obtain ⟨_, A', c', e, hk⟩ := hrel
    obtain ⟨k1, k2, k3⟩ := hk b hb
    injection e with e1 e2 e3
    subst e1 e3
    rcases Nat.eq_zero_or_pos c with h0 | h0
    · exact h0
    · exact absurd (k3 (by omega)) (by simp)
  obtain ⟨f1, a, f2, f3, f4⟩ := h3 i x hx
  refine ⟨f1, a, f2, f3, ?_, f4⟩
  obtain ⟨_, A', c', e, hk⟩ := hrel
  obtain ⟨k1, k2, k3⟩ := hk b hb
  have hi := (List.getElem?_eq_some_iff.1 hx).1
  have hlen : ((b.els.drop off).take len).length = len := by simp; omega
  have h2l := h2.length
  rw [hlen] at h2l
  injection e with e1 e2 e3
  subst e1 e3
  have hc0 : c ≠ 0 := by omega
  have ha := k3 hc0
  rw [f2] at ha
  cases ha
  have hb0 := hg.blk id b hb
  refine hb0.frz ho (fun h0 => ?_)
  have : 1 * 1 ≤ (off + c) * b.es := Nat.mul_le_mul (by omega) hb0.pos
  omega
theorem Ent.fz {es : Nat} {l l' : List AV} (h : ∀ g ys, g.H = H → GOk g → RelL g l ys → RelL g l' ys) : Ent H (.fz es l) (.fz es l') := by
  intro g y hH hg hx
  simp only [Rel] at hx ⊢
  obtain ⟨A, c, xs, rfl, h1, h2, h3, h4⟩ := hx
  have h2' := h g xs hH hg h2
  have e : l'.length = l.length := by rw [← h2'.length, ← h2.length]
  exact ⟨A, c, xs, by rw [e], by rw [e]; exact h1, h2', h3, h4⟩
theorem Ent.agg {l l' : List AV} (h : ∀ g ys, g.H = H → GOk g → RelL g l ys → RelL g l' ys) : Ent H (.agg l) (.agg l') := by
  intro g y hH hg hx
  simp only [Rel] at hx ⊢
  obtain ⟨cs, rfl, h2⟩ := hx
  exact ⟨cs, rfl, h g _ hH hg h2⟩
theorem Ent.trans {x y z : AV} (h : Ent H x y) (h' : Ent H y z) : Ent H x z := fun g v hH hg hx => h' g v hH hg (h g v hH hg hx)
/-- Values one by one. -/
def EntL (H : Heap) (l l' : List AV) : Prop := ∀ g ys, g.H = H → GOk g → RelL g l ys → RelL g l' ys
theorem EntL.nil : EntL H [] [] := fun _ _ _ _ h => h
theorem EntL.cons {x x' : AV} {l l' : List AV} (h : Ent H x x') (h' : EntL H l l') : EntL H (x :: l) (x' :: l') := by
  intro g ys hH hg hx
  simp only [RelL] at hx ⊢
  obtain ⟨z, zs, rfl, h1, h2⟩ := hx
  exact ⟨z, zs, rfl, h g z hH hg h1, h' g zs hH hg h2⟩
theorem EntL.refl (l : List AV) : EntL H l l := fun _ _ _ _ h => h
theorem CallOk.view {f : FuncId} {args args' : List AV} {x : AV} {H' : Heap} (h : CallOk P f H args' x H') (he : EntL H args args') : CallOk P f H args x H' :=
  ⟨h.1, fun g vals hH hg hr => h.2 g vals hH hg (he g _ hH hg hr)⟩
theorem CallOk.eq {f : FuncId} {args : List AV} {x x' : AV} {H' H'' : Heap} (h : CallOk P f H args x H') (hx : x = x') (hH : H' = H'') : CallOk P f H args x' H'' := hx ▸ hH ▸ h
/-- The result in other words. -/
theorem CallOk.ent {f : FuncId} {args : List AV} {x x' : AV} {H' : Heap} (h : CallOk P f H args x H') (he : Ent H' x x') : CallOk P f H args x' H' :=
  ⟨h.1, fun g vals hH hg hr => (h.2 g vals hH hg hr).mono fun e w' ⟨v, g', h1, h2, h3, h4, h5, h6⟩ => ⟨v, g', h1, h2, h3, h4, he g' v h3 h4 h5, h6⟩⟩

-- Nothing frozen in it.
mutual
def AV.nofz : AV → Bool
  | .fz .. => false
  | .fp .. => false
  | .agg l => nofzL l
  | .tup l => nofzL l
  | .fn _ a b => nofzL a && nofzL b
  | _ => true
def nofzL : List AV → Bool
  | [] => true
  | x :: l => x.nofz && nofzL l
end
/-- As 'Ren', without a word on what is frozen. -/
structure RenZ (g g' : G) : Prop where
  id : ∀ i, i < g.H.length → i < g'.H.length ∧ ∀ k', hget g'.H i = some k' → ∃ k, hget g.H i = some k ∧ k'.es = k.es ∧ g'.φ i = g.φ i ∧ g'.bs i = g.bs i ∧ g'.sz i = g.sz i
mutual
theorem Rel.nofz {g g' : G} (hr : RenZ g g') : ∀ {x : AV} {y : Value}, x.nofz = true → Rel g x y → Rel g' x y
  | .any, _, _, _ => by simp [Rel]
  | .v x, y, _, h => by simpa [Rel] using h
  | .z0, y, _, h => by simpa [Rel] using h
  | .ub, y, _, h => by simpa [Rel] using h
  | .fz es l, y, hf, h => by simp [AV.nofz] at hf
  | .fp l f, y, hf, h => by simp [AV.nofz] at hf
  | .sl id off len, y, _, h => by
    simp only [Rel] at h ⊢
    obtain ⟨hi, a, c, e1, h⟩ := h
    obtain ⟨hj, hk⟩ := hr.id id hi
    refine ⟨hj, a, c, e1, fun k' hk' => ?_⟩
    obtain ⟨k, h1, h2, h3, h3b, h4⟩ := hk k' hk'
    obtain ⟨e2, e3, e4⟩ := h k h1
    exact ⟨e2, by rw [h2, h3b, h4]; exact e3, fun hc => by rw [e4 hc, h2, h3, h3b]⟩
  | .ref id i f, y, _, h => by
    simp only [Rel] at h ⊢
    obtain ⟨hi, a, e1, h⟩ := h
    obtain ⟨hj, hk⟩ := hr.id id hi
    refine ⟨hj, a, e1, fun k' hk' => ?_⟩
    obtain ⟨k, h1, h2, h3, h3b, h4⟩ := hk k' hk'
    rw [h k h1, h2, h3, h3b]
  | .agg l, y, hf, h => by
    simp only [Rel] at h ⊢
    obtain ⟨cs, rfl, hl⟩ := h
    exact ⟨cs, rfl, RelL.nofz hr (by simpa [AV.nofz] using hf) hl⟩
  | .tup l, y, hf, h => by
    simp only [Rel] at h ⊢
    obtain ⟨cs, rfl, hl⟩ := h
    exact ⟨cs, rfl, RelL.nofz hr (by simpa [AV.nofz] using hf) hl⟩
  | .fn f a b, y, hf, h => by
    simp only [Rel] at h ⊢
    obtain ⟨xs, ys, rfl, ha, hb⟩ := h
    simp only [AV.nofz, Bool.and_eq_true] at hf
    exact ⟨xs, ys, rfl, RelL.nofz hr hf.1 ha, RelL.nofz hr hf.2 hb⟩
theorem RelL.nofz {g g' : G} (hr : RenZ g g') : ∀ {l : List AV} {ys : List Value}, nofzL l = true → RelL g l ys → RelL g' l ys
  | [], ys, _, h => by simpa [RelL] using h
  | x :: l, ys, hf, h => by
    simp only [nofzL, Bool.and_eq_true] at hf
    simp only [RelL] at h ⊢
    obtain ⟨z, zs, rfl, hx, hl⟩ := h
    exact ⟨z, zs, rfl, Rel.nofz hr hf.1 hx, RelL.nofz hr hf.2 hl⟩
end
/-- For as long as a call lasts all is frozen. -/
def frzH (H : Heap) : Heap := H.map fun b => b.map fun b => { b with own := false }
theorem frzH_length : (frzH H).length = H.length := by simp [frzH]
theorem frzH_get {i : Nat} : hget (frzH H) i = (hget H i).map fun b => { b with own := false } := by
  unfold hget frzH
  rw [List.getElem?_map]
  cases H[i]? with
  | none => rfl
  | some b => cases b <;> rfl
theorem CallOk.lend {f : FuncId} {args : List AV} {x : AV} {R : List Blk} (h : CallOk P f (frzH H) args x (frzH H ++ R.map some)) (hx : x.nofz = true) (hR : (R.all fun b => b.own && nofzL b.els) = true) : CallOk P f H args x (H ++ R.map some) := by
  refine ⟨h.1, fun g vals hH hg hr => ?_⟩
  subst hH
  let gc : G := { g with H := frzH g.H, Z := fun b => g.Z b ∨ Own g b }
  have hownlt : ∀ b, Own g b → b < g.w.heap.size := by
    rintro b ⟨i, k, h1, h2, h3, rfl⟩
    obtain ⟨c, e, lo, hi, m1, _⟩ := (hg.blk i k h1).mem h3
    exact (Array.getElem?_eq_some_iff.1 m1).1
  have hrc : Ren some g gc := by
    refine ⟨fun _ h => .inl h, fun _ _ => rfl, fun i j hi hj => ?_⟩
    cases hj
    refine ⟨by simpa [gc, frzH_length] using hi, fun k' hk' => ?_⟩
    simp only [gc, frzH_get, Option.map_eq_some_iff] at hk'
    obtain ⟨k, hk, rfl⟩ := hk'
    exact ⟨k, hk, rfl, rfl, rfl, rfl⟩
  have hgc : GOk gc := by
    refine ⟨fun i k' hk' => ?_, fun i j k k' hi hj ho => ?_, fun b hb => hb.elim (hg.zlt b) (hownlt b)⟩
    · simp only [gc, frzH_get, Option.map_eq_some_iff] at hk'
      obtain ⟨k, hk, rfl⟩ := hk'
      have hb := hg.blk i k hk
      refine ⟨(fun ho => absurd ho (by simp)), fun _ h0 => ?_, hb.fit, hb.pos, fun h0 => ?_⟩
      · by_cases ho : k.own = true
        · exact .inr ⟨i, k, hk, ho, h0, rfl⟩
        · exact .inl (hb.frz (by simpa using ho) h0)
      · obtain ⟨c, e, lo, hi, m1, m2, m3, xs, m4, m5⟩ := hb.mem h0
        exact ⟨c, e, lo, hi, m1, m2, m3, xs, RelL.mono hrc m4, m5⟩
    · simp only [gc, frzH_get, Option.map_eq_some_iff] at hi
      obtain ⟨k0, _, rfl⟩ := hi
      cases ho
  have hnoc : ∀ b, ¬ Own gc b := by
    rintro b ⟨i, k, h1, h2, _⟩
    simp only [gc, frzH_get, Option.map_eq_some_iff] at h1
    obtain ⟨k0, _, rfl⟩ := h1
    cases h2
  refine (h.2 gc vals rfl hgc (RelL.mono hrc hr)).mono fun e w' he => ?_
  obtain ⟨v, g1, rfl, rfl, hH1, hg1, hx1, hs1⟩ := he
  have hlH : (frzH g.H).length = g.H.length := frzH_length
  let g2 : G := { g1 with H := g.H ++ R.map some, Z := fun b => g1.Z b ∧ ¬ Own g b }
  have get2 : ∀ i b, hget g2.H i = some b → (i < g.H.length ∧ hget g.H i = some b) ∨ (g.H.length ≤ i ∧ hget g1.H i = some b ∧ b ∈ R) := by
    intro i b hb
    simp only [g2, hget_append] at hb
    by_cases hi : i < g.H.length
    · rw [if_pos hi] at hb; exact .inl ⟨hi, hb⟩
    · rw [if_neg hi] at hb
      refine .inr ⟨by omega, ?_, ?_⟩
      · rw [hH1, hget_append, hlH, if_neg hi]; exact hb
      · rw [hget_iff] at hb
        have := List.mem_of_getElem? hb
        simpa using this
  have hsame : ∀ i k, i < g.H.length → hget g.H i = some k → g1.φ i = g.φ i ∧ g1.bs i = g.bs i ∧ g1.sz i = g.sz i := by
    intro i k hi hk
    have hk1 : hget g1.H i = some { k with own := false } := by
      rw [hH1, hget_append, hlH, if_pos hi, frzH_get, hk]; rfl
    obtain ⟨k0, _, _, e1, e2, e3⟩ := (hs1.ren.id i i (by simpa [gc, hlH] using hi) rfl).2 _ hk1
    exact ⟨e1, e2, e3⟩
  have hkeep : ∀ b, b < g.w.heap.size → g1.w.heap[b]? = g.w.heap[b]? := fun b hb => hs1.ext.keep b hb (hnoc b)
  have hren : Ren some g g2 := by
    refine ⟨fun b hb => ⟨hs1.ren.z b (.inl hb), ?_⟩, fun b hb => hkeep b (hg.zlt b hb), fun i j hi hj => ?_⟩
    · rintro ⟨i, k, h1, h2, h3, rfl⟩
      exact (hg.blk i k h1).own h2 h3 hb
    · cases hj
      refine ⟨by simp [g2]; omega, fun k' hk' => ?_⟩
      rcases get2 i k' hk' with ⟨_, h⟩ | ⟨h, _⟩
      · exact ⟨k', h, rfl, hsame i k' hi h⟩
      · omega
  have hrenz : RenZ g1 g2 := by
    refine ⟨fun i hi => ?_⟩
    rw [hH1] at hi
    refine ⟨by simpa [g2, hlH] using hi, fun k' hk' => ?_⟩
    rcases get2 i k' hk' with ⟨hi', h⟩ | ⟨_, h, _⟩
    · exact ⟨{ k' with own := false }, by rw [hH1, hget_append, hlH, if_pos hi', frzH_get, h]; rfl, rfl, rfl, rfl, rfl⟩
    · exact ⟨k', h, rfl, rfl, rfl, rfl⟩
  have hRb : ∀ b ∈ R, b.own = true ∧ nofzL b.els = true := fun b hb => by
    have := List.all_eq_true.1 hR b hb
    simpa using this
  have hnew : ∀ i b, g.H.length ≤ i → hget g1.H i = some b → b.own = true → g1.sz i ≠ 0 → g.w.heap.size ≤ g1.φ i := by
    intro i b hi hb ho h0
    rcases hs1.ext.own _ ⟨i, b, hb, ho, h0, rfl⟩ with h | h
    · exact absurd h (hnoc _)
    · exact h
  have hgo : GOk g2 := by
    refine ⟨fun i b hb => ?_, fun i i' b b' hb hb' ho ho' hs hs' hφ => ?_, fun b hb => hg1.zlt b hb.1⟩
    · rcases get2 i b hb with ⟨hi, h1⟩ | ⟨hi, h1, h2⟩
      · obtain ⟨e1, e2, e3⟩ := hsame i b hi h1
        have hb0 := hg.blk i b h1
        have f1 : g2.φ i = g.φ i := e1
        have f2 : g2.bs i = g.bs i := e2
        have f3 : g2.sz i = g.sz i := e3
        refine ⟨fun ho h0 hz => ?_, fun ho h0 => ?_, by rw [f2, f3]; exact hb0.fit, hb0.pos, ?_⟩
        · rw [f3] at h0
          exact hz.2 ⟨i, b, h1, ho, h0, f1.symm⟩
        · rw [f3] at h0
          rw [f1]
          exact hren.z _ (hb0.frz ho h0)
        · rw [f1, f2, f3]
          intro h0
          obtain ⟨c, e, lo, hi', m1, m2, m3, xs, m4, m5⟩ := hb0.mem h0
          refine ⟨c, e, lo, hi', ?_, m2, m3, xs, RelL.mono hren m4, m5⟩
          rw [← m1]
          exact hkeep _ (Array.getElem?_eq_some_iff.1 m1).1
      · have hb1 := hg1.blk i b h1
        obtain ⟨r1, r2⟩ := hRb b h2
        refine ⟨fun ho h0 hz => hb1.own ho h0 hz.1, fun ho => (by rw [r1] at ho; cases ho), hb1.fit, hb1.pos, fun h0 => ?_⟩
        obtain ⟨c, e, lo, hi', m1, m2, m3, xs, m4, m5⟩ := hb1.mem h0
        exact ⟨c, e, lo, hi', m1, m2, m3, xs, RelL.nofz hrenz r2 m4, m5⟩
    · rcases get2 i b hb with ⟨hi, h1⟩ | ⟨hi, h1, h2⟩
      · obtain ⟨e1, e2, e3⟩ := hsame i b hi h1
        have hs0 : g.sz i ≠ 0 := by rw [← e3]; exact hs
        rcases get2 i' b' hb' with ⟨hi', h1'⟩ | ⟨hi', h1', h2'⟩
        · obtain ⟨e1', e2', e3'⟩ := hsame i' b' hi' h1'
          refine hg.inj i i' b b' h1 h1' ho ho' hs0 (by rw [← e3']; exact hs') ?_
          rw [← e1, ← e1']; exact hφ
        · exfalso
          have q1 := hnew i' b' hi' h1' ho' hs'
          have q2 := hownlt _ ⟨i, b, h1, ho, hs0, rfl⟩
          have q3 : g1.φ i = g1.φ i' := hφ
          omega
      · rcases get2 i' b' hb' with ⟨hi', h1'⟩ | ⟨hi', h1', h2'⟩
        · obtain ⟨e1', e2', e3'⟩ := hsame i' b' hi' h1'
          exfalso
          have hs0 : g.sz i' ≠ 0 := by rw [← e3']; exact hs'
          have q1 := hnew i b hi h1 ho hs
          have q2 := hownlt _ ⟨i', b', h1', ho', hs0, rfl⟩
          have q3 : g1.φ i = g1.φ i' := hφ
          omega
        · exact hg1.inj i i' b b' h1 h1' ho ho' hs hs' hφ
  have hext : Ext g g2 := by
    refine ⟨hs1.ext.rest, hs1.ext.size, fun b hb _ => hkeep b hb, fun b hb => hren.z b hb, fun b hb => ?_, fun b ⟨i, k, h1, h2, h3, h4⟩ => ?_⟩
    · rcases hs1.ext.z' b hb.1 with (h | h) | h | h
      · exact .inl h
      · exact absurd h hb.2
      · exact .inr (.inl h)
      · exact absurd h (hnoc b)
    · rcases get2 i k h1 with ⟨hi, e1⟩ | ⟨hi, e1, e2⟩
      · obtain ⟨p1, p2, p3⟩ := hsame i k hi e1
        exact .inl ⟨i, k, e1, h2, by rw [← p3]; exact h3, by rw [← p1]; exact h4⟩
      · right
        have := hnew i k hi e1 h2 h3
        have h4' : g1.φ i = b := h4
        omega
  exact ⟨v, g2, rfl, rfl, rfl, hgo, Rel.nofz hrenz hx hx1, hren, hext⟩

-- a function out of its body
def argsTM : Nat → List AV → TM
  | _, [] => []
  | i, x :: l => (i, x) :: argsTM (i + 1) l
theorem argsTM_rel {g : G} : ∀ (l : List AV) (i : Nat) (vs : List Value) (f : Nat → Value), RelL g l vs → (∀ (j : Nat) v, vs[j]? = some v → f (i + j) = v) → TmRel g (argsTM i l) f
  | [], i, vs, f, _, _, t => by simp [argsTM, tget, Rel]
  | x :: l, i, vs, f, h, hf, t => by
    simp only [RelL] at h
    obtain ⟨z, zs, rfl, hz, hl⟩ := h
    simp only [argsTM, tget]
    by_cases ht : i = t
    · subst ht
      rw [if_pos rfl]
      have := hf 0 z rfl
      simp at this
      rw [this]; exact hz
    · rw [if_neg ht]
      exact argsTM_rel l (i + 1) zs f hl (fun j v hv => by
        have := hf (j + 1) v (by simpa using hv)
        rw [← this]; congr 1; omega) t
/-- What the result variables hold. -/
def resA (P : Program) (tm : TM) (H : Heap) : List ResultVar → Option (List AV)
  | [] => some []
  | .tmp t :: l => (resA P tm H l).map (tget tm t :: ·)
  | .cell t ty :: l => (tyI P ty).bind fun i => (locA H (tget tm t)).bind fun p => (loadA i p.1 p.2).bind fun r => (resA P tm H l).map (r :: ·)
def tupA : List AV → AV
  | [x] => x
  | l => .tup l
theorem resA_sound {g : G} {a : Act} (hg : GOk g) (ht : TmRel g tm (tmpsOf a)) : ∀ (l : List ResultVar) (rs : List AV), resA P tm g.H l = some rs →
    ∃ vs, (l.mapM (fun r => match r with | .tmp t => pure (a.tmps.getD t undef) | .cell p t => do loadVar t (← asAddr (a.tmps.getD p undef)) : ResultVar → Sem Value)).run P g.w = .ok vs g.w ∧ RelL g rs vs
  | [], rs, h => by
    simp [resA] at h
    subst h
    exact ⟨[], by simp, .nil⟩
  | .tmp t :: l, rs, h => by
    simp only [resA] at h
    obtain ⟨rs', h1, rfl⟩ := Option.map_eq_some_iff.1 h
    obtain ⟨vs, h2, h3⟩ := resA_sound hg ht l rs' h1
    exact ⟨_ :: vs, by simp only [List.mapM_cons, Sem.run_bind, Sem.run_pure, Result.andThen_ok, h2], .cons (ht t) h3⟩
  | .cell p t :: l, rs, h => by
    simp only [resA] at h
    obtain ⟨i, hi, h⟩ := Option.bind_eq_some_iff.1 h
    obtain ⟨⟨cl, f⟩, hp, h⟩ := Option.bind_eq_some_iff.1 h
    obtain ⟨r, hr, h⟩ := Option.bind_eq_some_iff.1 h
    obtain ⟨rs', h1, rfl⟩ := Option.map_eq_some_iff.1 h
    obtain ⟨vs, h2, h3⟩ := resA_sound hg ht l rs' h1
    obtain ⟨b, o, ys, e1, e2, e3⟩ := locA_sound hg hp (ht p)
    obtain ⟨v, h4, h5⟩ := loadVar_sound (P := P) hi e2 e3 hr
    have e1' : a.tmps.getD p undef = .pointer (some ⟨b, o + f, none⟩) := e1
    refine ⟨v :: vs, ?_, .cons h5 h3⟩
    simp only [List.mapM_cons, Sem.run_bind]
    rw [e1']
    have ha : (asAddr (Value.pointer (some ⟨b, o + f, none⟩))).run P g.w = .ok ⟨b, o + f, none⟩ g.w := rfl
    simp only [ha, Sem.run_pure, Result.andThen_ok, h4, h2]
theorem results_run {fn : Func} {g : G} {a : Act} (hg : GOk g) (ht : TmRel g tm (tmpsOf a)) {rs : List AV} (h : resA P tm g.H fn.results.toList = some rs) : ∃ v, (results fn a.tmps).run P g.w = .ok v g.w ∧ Rel g (tupA rs) v := by
  obtain ⟨vs, h1, h2⟩ := resA_sound (P := P) (a := a) hg ht fn.results.toList rs h
  have e : (fn.results.mapM (fun r => match r with | .tmp t => pure (a.tmps.getD t undef) | .cell p t => do loadVar t (← asAddr (a.tmps.getD p undef)) : ResultVar → Sem Value)).run P g.w = .ok vs.toArray g.w := by
    rw [Array.mapM_eq_mapM_toList, Sem.run_map, h1]; rfl
  refine ⟨if h : vs.toArray.size = 1 then vs.toArray[0] else .tuple vs.toArray, ?_, ?_⟩
  · unfold results
    rw [Sem.run_bind]
    refine (congrArg (fun r => Result.andThen r _) e).trans ?_
    rfl
  · match rs, vs, h2 with
    | [], ys, h2 => simp only [RelL] at h2; subst h2; simp [tupA, Rel, RelL]
    | [x], ys, h2 =>
      simp only [RelL] at h2
      obtain ⟨z, zs, rfl, hz, rfl⟩ := h2
      simpa [tupA] using hz
    | x :: y :: l, ys, h2 =>
      have hl := h2.length
      have : ¬ ys.toArray.size = 1 := by simp [hl]
      rw [dif_neg this]
      simp only [tupA, Rel]
      exact ⟨_, rfl, by simpa using h2⟩
theorem CSpec.intro {f : FuncId} {fn : Func} {c : Code} (hf : P.funcs[f]? = some fn) (hb : fn.body = some c) (hnm : (fn.name == "runtime.NumGoroutine") = false) {hin : List Blk} {args : List AV} {hout : Heap} {x : AV} (hn : args.length ≤ fn.ntmps)
    (h : T [] P fn.ntmps hin.length c (argsTM 0 args) (hin.map some) (fun e tm H => (e = .normal ∨ e = .ret) ∧ ∃ rs, resA P tm H fn.results.toList = some rs ∧ TEnt hin.length [(0, tupA rs)] H [(0, x)] hout)) : CSpec P f hin args hout x := by
  refine ⟨⟨fn, hf, hnm, by simp [hb]⟩, fun g vals hH hg hr => calls_of_wp hf hb ?_⟩
  have hvl : vals.length = args.length := hr.length
  have hok : TmOk [] g (argsTM 0 args) { tmps := vals.toArray ++ Array.replicate (fn.ntmps - vals.toArray.size) undef, defers := [] } fn.ntmps := by
    refine ⟨by simp; omega, rfl, argsTM_rel args 0 vals _ hr (fun j v hv => ?_)⟩
    have hj := (List.getElem?_eq_some_iff.1 hv).1
    simp only [tmpsOf, Nat.zero_add, Array.getD_eq_getD_getElem?]
    rw [Array.getElem?_append_left (by simpa using hj)]
    simp [hv]
  refine wp_mono (h g _ hH (by simp) hg hok) fun e a' w' he => ?_
  obtain ⟨tm', g', rfl, ⟨he, rs, h1, h2⟩, h3, h4, h5, h6⟩ := he
  obtain ⟨v, hv1, hv2⟩ := results_run (P := P) (fn := fn) h3 h4.rel h1
  obtain ⟨g2, b1, b2, b3, b4, b5, b6⟩ := h2 g' (fun _ => v) rfl h6.len h3 (fun t => by
    simp only [tget]
    split
    · exact hv2
    · simp [Rel])
  have hfin : ∃ v_1 g'_1, Ending.returned v = Ending.returned v_1 ∧ g'_1.w = g'.w ∧ g'_1.H = hout ∧ GOk g'_1 ∧ Rel g'_1 x v_1 ∧ Ext g g'_1 ∧ Pin hin.length g g'_1 :=
    ⟨v, g2, rfl, b1, b2, b3, by simpa [tget] using b4 0, h5.trans b5, h6.trans b6⟩
  rcases he with rfl | rfl
  · exact ⟨h4.defers, v, hv1, hfin⟩
  · exact ⟨h4.defers, v, hv1, hfin⟩
end Go.AM
namespace Go.AM
variable {D : List Deferred} {P : Program} {n k : Nat} {tm : TM} {H : Heap} {Q : Post}

theorem tyI_of {t : TypeId} {d : TypeDesc} {z : Value} {s b : Nat} (h : (P.info? t).map (fun i => (i.zero, i.size, i.bytes)) = some (some z, s, b)) (hd : P.underlying t = some d) : tyI P t = some ⟨d, s, b, z⟩ := by
  obtain ⟨i, h1, h2⟩ := Option.map_eq_some_iff.1 h
  simp only [Prod.mk.injEq] at h2
  obtain ⟨h2, h3, h4⟩ := h2
  subst h3 h4
  simp [tyI, h1, hd, h2]

theorem T.cond_ub {c : Operand} {x y : Code} (hc : ev tm c = .ub) (ht : T D P n k x tm H Q) (hf : T D P n k y tm H Q) : T D P n k (.cond c x y) tm H Q := by
  intro g a hH hk hg ha
  have h := ev_rel ha.rel c
  rw [hc] at h
  simp only [Rel] at h
  obtain ⟨b, hb⟩ := h
  exact wp_cond_split hb (fun _ => ht g a hH hk hg ha) (fun _ => hf g a hH hk hg ha)
theorem ok_nil_ub {o : Oper} {op : BinOp} {t t' : TypeId} {p q : Operand} (ho : o.op = .binOp op t p q t') {i : TI} (hi : tyI P t = some i) {e : TypeId} (hd : i.desc = .slice e) (hop : op = .eql ∨ op = .neq) {es : Nat} {l : List AV} (hp : ev tm p = .fz es l) (hq : ev tm q = .v (.slice none 0 0)) : OpOk P tm H o .ub H := by
  have hd' : P.underlying t = some (.slice e) := by
    rw [← hd]
    unfold tyI at hi
    obtain ⟨ti, h1, h⟩ := Option.bind_eq_some_iff.1 hi
    obtain ⟨d, h2, h⟩ := Option.bind_eq_some_iff.1 h
    obtain ⟨z, h3, h⟩ := Option.map_eq_some_iff.1 h
    subst h
    exact h2
  refine OpOk.val fun g a hH hg ht => ?_
  have h1 := ht p (by simp [ho, Op.operands])
  have h2 := ht q (by simp [ho, Op.operands])
  rw [hp] at h1
  rw [hq] at h2
  simp only [Rel] at h1 h2
  obtain ⟨A, c, xs, hA, _⟩ := h1
  have hu : ∀ w, (underlying t).run P w = .ok (.slice e) w := fun w => by simp [underlying, hd']
  have hE : (Op.equal t (.slice A l.length c) (.slice none 0 0)).run P g.w = .ok A.isNone g.w := equal_run hd' g.w _ _ _ (fun m => by cases A <;> simp [Op.equalIn, hu])
  rcases hop with rfl | rfl
  · exact ⟨.bool A.isNone, by simp [execOp, ho, hA, h2, eqGuard, binOp, hE], by simp [Rel]⟩
  · exact ⟨.bool (!A.isNone), by simp [execOp, ho, hA, h2, eqGuard, binOp, hE], by simp [Rel]⟩

/-- Each is found. -/
def AllGet (tm : TM) : TM → Prop
  | [] => True
  | (t, x) :: r => tget tm t = x ∧ AllGet tm r
theorem AllGet.spec : ∀ {tm' : TM}, AllGet tm tm' → ∀ t, tget tm' t = .any ∨ tget tm' t = tget tm t
  | [], _, t => .inl rfl
  | (a, x) :: r, h, t => by
    simp only [tget]
    by_cases ha : a = t
    · subst ha; rw [if_pos rfl]; exact .inr h.1.symm
    · rw [if_neg ha]; exact AllGet.spec h.2 t
theorem TEnt.to {tm' : TM} (h : AllGet tm tm') : TEnt k tm H tm' H := .keep h.spec
/-- Blocks counted anew, temporaries dropped. -/
theorem TEnt.fin {tm' : TM} {H' : Heap} (src : List Nat) (hn : src.Nodup) (hk : ∀ j, j < k → src[j]? = some j) (hH : normH src H = H') (ht : AllGet (normT src tm) tm') : TEnt k tm H tm' H' :=
  (TEnt.norm src hn hk).trans (hH ▸ TEnt.to ht)
theorem T.to {c : Code} {tm' : TM} (h : AllGet tm tm') (ht : T D P n k c tm' H Q) : T D P n k c tm H Q := T.ent (.to h) ht
theorem TEnt.toH {tm' : TM} {H' : Heap} (hH : H = H') (h : AllGet tm tm') : TEnt k tm H tm' H' := hH ▸ .to h
/-- An empty row as a block of its own. -/
theorem TEnt.empty (t es : Nat) (he : 0 < es) (h : tget tm t = .z0 ∨ tget tm t = .v (.slice none 0 0)) : TEnt k tm H ((t, .sl H.length 0 0) :: tm) (H ++ [some ⟨es, true, []⟩]) := by
  intro g vs hH hk hg ht
  subst hH
  obtain ⟨hgv, hsv⟩ := vpush_ok he hg
  refine ⟨g.vpush es, rfl, rfl, hgv, fun t' => ?_, hsv.ext, hsv.pin hk⟩
  simp only [tget]
  by_cases ht' : t = t'
  · subst ht'
    rw [if_pos rfl]
    have hr := ht t
    have hv : ∃ A, vs t = .slice A 0 0 := by
      rcases h with h | h
      · rw [h] at hr; simpa only [Rel] using hr
      · rw [h] at hr; simp only [Rel] at hr; exact ⟨none, hr⟩
    obtain ⟨A, hv⟩ := hv
    rw [hv]
    simp only [Rel]
    refine ⟨by simp [G.vpush], A, 0, rfl, fun k' hk' => ⟨Nat.le_refl _, ?_, fun h => absurd rfl h⟩⟩
    have e1 : (g.vpush es).sz g.H.length = 0 := by simp [G.vpush]
    have e2 : (g.vpush es).bs g.H.length = 0 := by simp [G.vpush]
    rw [e1, e2]; simp
  · rw [if_neg ht']
    exact Rel.mono hsv.ren (ht t')
theorem TEnt.put1 (t : Nat) {x' : AV} (h : Ent H (tget tm t) x') : TEnt k tm H ((t, x') :: tm) H := .one fun s => by
  simp only [tget]
  by_cases hs : t = s
  · subst hs; rw [if_pos rfl]; exact h
  · rw [if_neg hs]; exact .refl _

/-- A loop: the states that it may stand in at a round's beginning, each with how many rounds are left. -/
theorem T.loopI {c : Code} {ι : Type} (good : ι → Prop) (μ : ι → Nat) (S : ι → TM × Heap) (i0 : ι) (g0 : good i0) (h0 : TEnt k tm H (S i0).1 (S i0).2)
    (round : ∀ i, good i → T D P n k c (S i).1 (S i).2 (thenK (fun tm' H' => ∃ j, good j ∧ μ j < μ i ∧ TEnt k tm' H' (S j).1 (S j).2) Q)) : T D P n k (.loop c) tm H Q := by
  refine T.ent h0 (T.loop (fun m tm H => ∃ i, good i ∧ μ i = m ∧ TEnt k tm H (S i).1 (S i).2) (μ i0) ⟨i0, g0, rfl, .refl⟩ ?_)
  rintro m tm H ⟨i, hi, rfl, he⟩
  refine T.ent he ((round i hi).mono fun e tm' H' hq => ?_)
  cases e with
  | normal =>
    simp only [thenK] at hq ⊢
    obtain ⟨j, h1, h2, h3⟩ := hq
    exact ⟨μ j, h2, j, h1, rfl, h3⟩
  | _ => exact hq
/-- What follows is walked once, from a state that several ways come to. -/
theorem T.join {y : Code} {K : TM → Heap → Prop} {G : Prop} (hK : ∀ tm H, T D P n k y tm H Q → K tm H) (tmJ : TM) (HJ : Heap) (h1 : (∀ tm H, TEnt k tm H tmJ HJ → K tm H) → G) (h2 : T D P n k y tmJ HJ Q) : G :=
  h1 fun tm H he => hK tm H (T.ent he h2)

/-- A function out of its body; where it ends stands behind a letter. -/
theorem CSpec.body {f : FuncId} {fn : Func} {c : Code} {hin : List Blk} {args : List AV} {hout : Heap} {x : AV} (hf : P.funcs[f]? = some fn) (hb : fn.body = some c) (hnm : (fn.name == "runtime.NumGoroutine") = false) (hn : fn.ntmps = n) (hk : hin.length = k) (hle : Nat.ble args.length n = true)
    (h : ∀ Q : Post, (∀ tm H rs, resA P tm H fn.results.toList = some rs → TEnt k [(0, tupA rs)] H [(0, x)] hout → Q .ret tm H ∧ Q .normal tm H) → T [] P n k c (argsTM 0 args) (hin.map some) Q) : CSpec P f hin args hout x := by
  subst hn hk
  refine CSpec.intro hf hb hnm (Nat.le_of_ble_eq_true hle) (h _ fun tm H rs h1 h2 => ⟨⟨.inr rfl, rs, h1, h2⟩, ⟨.inl rfl, rs, h1, h2⟩⟩)

-- whole numbers of 64 bits
abbrev AV.int (n : Int) : AV := .v (.int .i64 n)
abbrev AV.b (b : Bool) : AV := .v (.bool b)
section
variable {o : Oper} {t t' : TypeId} {p q : Operand} {i : TI} {a b : Int}
theorem ok_add64 (ho : o.op = .binOp .add t p q t') (hi : tyI P t = some i) (hp : ev tm p = .int a) (hq : ev tm q = .int b) (h : -9223372036854775808 ≤ a + b) (h' : a + b ≤ 9223372036854775807) : OpOk P tm H o (.int (a + b)) H :=
  ok_binOp ho hi (by rw [hp, hq]; simp [binA, binV, binI, wrap_i64 h h'])
theorem ok_sub64 (ho : o.op = .binOp .sub t p q t') (hi : tyI P t = some i) (hp : ev tm p = .int a) (hq : ev tm q = .int b) (h : -9223372036854775808 ≤ a - b) (h' : a - b ≤ 9223372036854775807) : OpOk P tm H o (.int (a - b)) H :=
  ok_binOp ho hi (by rw [hp, hq]; simp [binA, binV, binI, wrap_i64 h h'])
theorem ok_mul64 (ho : o.op = .binOp .mul t p q t') (hi : tyI P t = some i) (hp : ev tm p = .int a) (hq : ev tm q = .int b) (h : -9223372036854775808 ≤ a * b) (h' : a * b ≤ 9223372036854775807) : OpOk P tm H o (.int (a * b)) H :=
  ok_binOp ho hi (by rw [hp, hq]; simp [binA, binV, binI, wrap_i64 h h'])
/-- A test whose outcome is known. -/
theorem OpOk.bool {c d : Bool} (h : OpOk P tm H o (.b c) H) (hc : c = d) : OpOk P tm H o (.b d) H := hc ▸ h
end
theorem OpOk.eq {o : Oper} {x x' : AV} {H' H'' : Heap} (h : OpOk P tm H o x H') (hx : x = x') (hH : H' = H'') : OpOk P tm H o x' H'' := hx ▸ hH ▸ h
theorem StepOk.eq {o : Oper} {x x' : AV} {H' H'' : Heap} (h : StepOk P tm H o x H') (hx : x = x') (hH : H' = H'') : StepOk P tm H o x' H'' := hx ▸ hH ▸ h

-- rows of whole numbers
def ints (k : IntKind) (l : List Int) : List AV := l.map fun n => .v (.int k n)
theorem ints_length (k : IntKind) (l : List Int) : (ints k l).length = l.length := by simp [ints]
theorem ints_append (k : IntKind) (l m : List Int) : ints k l ++ ints k m = ints k (l ++ m) := by simp [ints]
theorem ints_get (k : IntKind) (l : List Int) (i : Nat) : (ints k l)[i]? = (l[i]?).map fun n => .v (.int k n) := by simp [ints]
theorem ints_get_of {k : IntKind} {l : List Int} {i : Nat} {x : Int} (h : l[i]? = some x) : (ints k l)[i]? = some (.v (.int k x)) := by simp [ints_get, h]
theorem ints_set (k : IntKind) (l : List Int) (i : Nat) (x : Int) : (ints k l).set i (.v (.int k x)) = ints k (l.set i x) := by simp [ints, List.map_set]
theorem ints_take (k : IntKind) (l : List Int) (i : Nat) : (ints k l).take i = ints k (l.take i) := by simp [ints, List.map_take]
theorem ints_drop (k : IntKind) (l : List Int) (i : Nat) : (ints k l).drop i = ints k (l.drop i) := by simp [ints, List.map_drop]
theorem renL_ints (ρ : Nat → Option Nat) (k : IntKind) (l : List Int) : renL ρ (ints k l) = ints k l := by
  rw [renL_map]; simp [ints, AV.ren]
theorem nofzL_ints (k : IntKind) : ∀ l : List Int, nofzL (ints k l) = true
  | [] => by simp [ints, nofzL]
  | x :: l => by
    have := nofzL_ints k l
    simp only [ints, List.map_cons, nofzL, AV.nofz, Bool.true_and] at this ⊢
    exact this
theorem bytesOf_ints : ∀ l : List Int, bytesOf (ints .u8 l) = some (l.map fun n => UInt8.ofNat n.toNat)
  | [] => rfl
  | x :: l => by
    have := bytesOf_ints l
    simp only [ints, List.map_cons, bytesOf, byteOf, Option.bind_some] at this ⊢
    rw [this]; rfl

theorem ok_moveb {o : Oper} {x : Operand} {c : Bool} (ho : o.op = .move x ∨ o.op = .assign x) (h : ev tm x = .b c) : OpOk P tm H o (.b c) H := h ▸ ok_move ho
theorem ok_pickb {o : Oper} {c x y : Operand} {t d : Bool} (ho : o.op = .pick c x y) (hc : ev tm c = .v (.bool t)) (h : pickA t (ev tm x) (ev tm y) = .b d) : OpOk P tm H o (.b d) H := h ▸ ok_pick ho hc
/-- A truth that is not known: both ways. -/
theorem ro_case {ops : Array Oper} {o : Oper} {rest : List Oper} {K : TM → Heap → Prop} {c : Bool} {H' : Heap} (hd : dOk n o.dst = true) (hw : wantA ops tm o = some true) (hs : StepOk P tm H o (.b c) H')
    (kt : c = true → runOps P n ops rest (tput tm o.dst (.b true)) H' K) (kf : c = false → runOps P n ops rest (tput tm o.dst (.b false)) H' K) : runOps P n ops (o :: rest) tm H K := by
  cases c
  · exact ro hd hw hs (kf rfl)
  · exact ro hd hw hs (kt rfl)
theorem any_take_case {ops : Array Oper} {K : TM → Heap → Prop} {late : List Nat} {R : Heap → Prop} {f : Nat} {listed : Array Bool} (i : Nat) {oi : Oper} (hi : ops[i]? = some oi) (hs : takeOk n ops listed late i = true) (hw : wantA ops tm oi = some true) (hR : R H) {c : Bool} (hx : ∀ H', R H' → StepOk P tm H' oi (.b c) H')
    (kt : c = true → anyJ P n ops (upTo K) (SH late R) f (listed.setIfInBounds i true) (tput tm oi.dst (.b true)) H) (kf : c = false → anyJ P n ops (upTo K) (SH late R) f (listed.setIfInBounds i true) (tput tm oi.dst (.b false)) H) : anyJ P n ops (upTo K) (SH late R) (f + 1) listed tm H := by
  cases c
  · exact any_take i hi hs hw hR hx (kf rfl)
  · exact any_take i hi hs hw hR hx (kt rfl)
/-- An element of a frozen row. -/
theorem ok_index_fz {o : Oper} {t e : TypeId} {x ix : Operand} (ho : o.op = .indexAddr t x ix) {i : TI} (hi : tyI P t = some i) (hd : i.desc = .slice e) {j : TI} (hj : tyI P e = some j) {es : Nat} {l : List AV} (hx : ev tm x = .fz es l) (hs : es = j.size) {kd : IntKind} {z : Int} (hz : ev tm ix = .v (.int kd z)) (h0 : 0 ≤ z) {y : AV} (hy : l[z.toNat]? = some y) {c : AV} {cs : List AV} (hc : y.cells = c :: cs) : OpOk P tm H o (.fp (c :: cs) 0) H :=
  ok_indexAddr ho hi (.inl hd) hj hz h0 (by simp [hx, hd, elemA, hs, hy, hc])
/-- On to what follows: these temporaries are kept, all is written out. -/
theorem keepK {y : Code} {K : TM → Heap → Prop} (hK : ∀ tm H, T D P n k y tm H Q → K tm H) (l : List Nat) {tm' : TM} {H' : Heap} (ht : tkeep l tm = tm') (hH : H = H') (h : T D P n k y tm' H' Q) : K tm H :=
  hK tm H (T.keep l (by rw [ht, hH]; exact h))
theorem T.drawH (hm : P.follows .mixedOrders = true) (late : List Nat) {id : Nat} {ops : Array Oper} (h : anyJ P n ops (upTo (Q .normal)) (SH late (HeldL H)) ops.size (Array.replicate ops.size false) tm H) : T D P n k (.region id ops true) tm H Q := T.draw hm _ h
section
variable {o : Oper} {t t' : TypeId} {p q : Operand} {i : TI} {a b : Int}
theorem ok_quo64 (ho : o.op = .binOp .quo t p q t') (hi : tyI P t = some i) (hp : ev tm p = .int a) (hq : ev tm q = .int b) (h : 0 ≤ a) (h' : a ≤ 9223372036854775807) (hb : 0 < b) : OpOk P tm H o (.int (a / b)) H := by
  have h1 : a / b ≤ a := Int.ediv_le_self b h
  have h2 : 0 ≤ a / b := Int.ediv_nonneg h (by omega)
  refine ok_binOp ho hi ?_
  rw [hp, hq]
  have hb0 : ¬ b = 0 := by omega
  simp only [binA, binV, binI, if_true, hb0, if_false, Option.map_some, Int.tdiv_eq_ediv_of_nonneg h]
  rw [wrap_i64 (by omega) (by omega)]
theorem ok_rem64 (ho : o.op = .binOp .rem t p q t') (hi : tyI P t = some i) (hp : ev tm p = .int a) (hq : ev tm q = .int b) (h : 0 ≤ a) (hb : 0 < b) : OpOk P tm H o (.int (a % b)) H := by
  refine ok_binOp ho hi ?_
  rw [hp, hq]
  have hb0 : ¬ b = 0 := by omega
  simp only [binA, binV, binI, if_true, hb0, if_false, Option.map_some, Int.tmod_eq_emod_of_nonneg h]
end
/-- An element of a frozen row of whole numbers. -/
theorem ok_index_ints {o : Oper} {t e : TypeId} {x ix : Operand} (ho : o.op = .indexAddr t x ix) {i : TI} (hi : tyI P t = some i) (hd : i.desc = .slice e) {j : TI} (hj : tyI P e = some j) (hs : j.size = 1) {k : IntKind} {l : List Int} (hx : ev tm x = .fz 1 (ints k l)) {kd : IntKind} {z : Int} (hz : ev tm ix = .v (.int kd z)) (h0 : 0 ≤ z) {y : Int} (hy : l[z.toNat]? = some y) : OpOk P tm H o (.fp [.v (.int k y)] 0) H :=
  ok_indexAddr ho hi (.inl hd) hj hz h0 (by simp [hx, hd, elemA, hs, ints_get, hy, AV.cells])
/-- An element of a row of a block. -/
theorem ok_index_sl {o : Oper} {t e : TypeId} {x ix : Operand} (ho : o.op = .indexAddr t x ix) {i : TI} (hi : tyI P t = some i) (hd : i.desc = .slice e) {j : TI} (hj : tyI P e = some j) {id off len : Nat} (hx : ev tm x = .sl id off len) {b : Blk} (hb : hget H id = some b) (hs : b.es = j.size) {kd : IntKind} {z : Int} (hz : ev tm ix = .v (.int kd z)) (h0 : 0 ≤ z) (h1 : z < len) : OpOk P tm H o (.ref id (off + z.toNat) 0) H :=
  ok_indexAddr ho hi (.inl hd) hj hz h0 (by
    have : z.toNat < len := by omega
    simp [hx, hd, elemA, hb, hs, this])
/-- What stands at an element of a row of whole numbers. -/
theorem ok_load_ints {o : Oper} {t : TypeId} {x : Operand} (ho : o.op = .load t x) {i : TI} (hi : tyI P t = some i) (hd : isAggD i.desc = false) {id m : Nat} (hx : ev tm x = .ref id m 0) {b : Blk} (hb : hget H id = some b) {k : IntKind} {l : List Int} (hl : b.els = ints k l) {y : Int} (hy : l[m]? = some y) : OpOk P tm H o (.v (.int k y)) H :=
  ok_load ho hi (cl := [.v (.int k y)]) (f := 0) (by simp [hx, locA, hb, hl, ints_get, hy, AV.cells]) (by simp [loadA, hd])
end Go.AM
namespace Go.AM
variable {P : Program} {tm : TM} {H : Heap}

theorem Ent.nil (es : Nat) : Ent H (.v (.slice none 0 0)) (.fz es []) := by
  intro g y hH hg hx
  simp only [Rel] at hx ⊢
  subst hx
  exact ⟨none, 0, [], rfl, Nat.le_refl _, .nil, fun i x hx => by simp at hx, fun _ => rfl⟩
theorem Ent.sl0 {id len : Nat} {b : Blk} (hb : hget H id = some b) (ho : b.own = false) (hl : b.els.length = len) : Ent H (.sl id 0 len) (.fz b.es b.els) := by
  subst hl
  have := Ent.sl (H := H) (off := 0) (len := b.els.length) hb ho (by omega)
  simpa using this
/-- A row of a block that is lent. -/
theorem Ent.lent (id es : Nat) (l : List AV) {len : Nat} (hb : hget (frzH H) id = some ⟨es, false, l⟩) (hl : l.length = len) : Ent (frzH H) (.sl id 0 len) (.fz es l) := Ent.sl0 (b := ⟨es, false, l⟩) hb rfl hl
theorem mergeH_nil (H hout : Heap) : mergeH H [] hout = H ++ renH (fun j => some (H.length + j)) hout := by
  simp [mergeH, setIds, renH, back]
/-- A call of a function that is handed no blocks: rows are lent, a plain value comes back. -/
theorem CSpec.lendV {f : FuncId} {args args' args'' : List AV} {y : Value} (h : CSpec P f [] args' [] (.v y)) (hv : EntL (frzH H) args args'') (ha : renL (pos []) args'' = args') : CallOk P f H args (.v y) H := by
  have h1 := h.pass (H := frzH H) (args := args'') [] (by decide) (by simp) rfl ha
  rw [mergeH_nil] at h1
  have h2 := (h1.view hv)
  have h3 := CallOk.lend (R := []) (h2.eq rfl (by simp [renH])) (by simp [AV.ren, AV.nofz]) rfl
  exact h3.eq (by simp [AV.ren]) (by simp)
/-- A call of a function that is handed no blocks: rows are lent, new blocks come back. -/
theorem CSpec.lendR {f : FuncId} {args args' args'' : List AV} {x : AV} {R : List Blk} (h : CSpec P f [] args' (R.map some) x) (hv : EntL (frzH H) args args'') (ha : renL (pos []) args'' = args') {R' : List Blk} {x' : AV}
    (hR : R.map (Blk.ren fun j => some (H.length + j)) = R') (hx : x.ren (fun j => some (H.length + j)) = x') (hn : x'.nofz = true) (hRn : (R'.all fun b => b.own && nofzL b.els) = true) : CallOk P f H args x' (H ++ R'.map some) := by
  have h1 := h.pass (H := frzH H) (args := args'') [] (by decide) (by simp) rfl ha
  rw [mergeH_nil, frzH_length] at h1
  have h2 := h1.view hv
  refine CallOk.lend (R := R') (h2.eq ?_ ?_) hn hRn
  · rw [← hx]; rfl
  · rw [← hR]; simp [renH, Function.comp_def]
theorem rowA_sl0 {id len : Nat} {k : Blk} (hk : hget H id = some k) (hl : k.els.length = len) : rowA H (.sl id 0 len) = some (k.es, k.els) := by
  subst hl
  simp [rowA, hk]
theorem rowA_sl {x : AV} {id len : Nat} {k : Blk} (hx : x = .sl id 0 len) (hk : hget H id = some k) (hl : k.els.length = len) : rowA H x = some (k.es, k.els) := hx ▸ rowA_sl0 hk hl
section
variable {o : Oper} {p q : Operand} {t t2 e : TypeId}
/-- Onto a row of a block. -/
theorem ok_append_sl (ho : o.op = .call ⟨.builtin .append, #[p, q], #[t, t2]⟩) {i j : TI} (hi : tyI P t = some i) (hd : i.desc = .slice e) (hj : tyI P e = some j) (hj0 : 0 < j.size) (hb0 : j.bytes ≠ 0) (hz : fits (cav j.zero) j.size = true)
    {i2 : TI} (hi2 : tyI P t2 = some i2) (hd2 : ∀ k, i2.desc ≠ .int k) {es2 : Nat} {l2 : List AV} (hq : rowA H (ev tm q) = some (es2, l2)) (hes : es2 = j.size ∨ l2 = []) {id off len : Nat} (hp : ev tm p = .sl id off len) {k : Blk} (hk : hget H id = some k) (hown : k.own = true) (hke : k.es = j.size) (hend : off + len = k.els.length)
    (hbound : (len + l2.length) * j.bytes ≤ 140737488355328) : OpOk P tm H o (.sl H.length 0 (len + l2.length)) (H.set id none ++ [some ⟨j.size, true, k.els.drop off ++ l2⟩]) :=
  ok_append ho hi hd hj hj0 hb0 hz hi2 hd2 hq hes (by rw [hp]; simp [appA, hk, hown, hke, hend]) (n1 := len) (by rw [hp, hd]; rfl) hbound
theorem ok_append_ints (ho : o.op = .call ⟨.builtin .append, #[p, q], #[t, t2]⟩) {i j : TI} (hi : tyI P t = some i) (hd : i.desc = .slice e) (hj : tyI P e = some j) (hj1 : j.size = 1) (hb0 : j.bytes ≠ 0) (hz : fits (cav j.zero) j.size = true)
    {i2 : TI} (hi2 : tyI P t2 = some i2) (hd2 : ∀ k, i2.desc ≠ .int k) {k : IntKind} {xs ys : List Int} {es2 : Nat} {l2 : List AV} (hq : rowA H (ev tm q) = some (es2, l2)) (he2 : es2 = 1) (hl2 : l2 = ints k ys) {id len : Nat} (hp : ev tm p = .sl id 0 len) {b : Blk} (hk : hget H id = some b) (hown : b.own = true) (hbe : b.es = 1) (hbl : b.els = ints k xs) (hlen : len = xs.length)
    (hbound : (xs.length + ys.length) * j.bytes ≤ 140737488355328) : OpOk P tm H o (.sl H.length 0 (xs ++ ys).length) (H.set id none ++ [some ⟨1, true, ints k (xs ++ ys)⟩]) := by
  subst hlen hl2 he2
  refine (ok_append_sl ho hi hd hj (by omega) hb0 hz hi2 hd2 hq (.inl hj1.symm) hp hk hown (by rw [hbe, hj1]) (by rw [hbl, ints_length, Nat.zero_add]) (by rw [ints_length]; exact hbound)).eq ?_ ?_
  · rw [ints_length, List.length_append]
  · rw [hbl, List.drop_zero, ints_append, hj1]
end
theorem ok_nil_no {o : Oper} {op : BinOp} {t t' : TypeId} {p q : Operand} (ho : o.op = .binOp op t p q t') {i : TI} (hi : tyI P t = some i) {e : TypeId} (hd : i.desc = .slice e) (hop : op = .eql ∨ op = .neq) {es : Nat} {l : List AV} (hp : ev tm p = .fz es l) (hl : l ≠ []) (hq : ev tm q = .v (.slice none 0 0)) : OpOk P tm H o (.v (.bool (op == .neq))) H := by
  have hd' : P.underlying t = some (.slice e) := by
    rw [← hd]
    unfold tyI at hi
    obtain ⟨ti, h1, h⟩ := Option.bind_eq_some_iff.1 hi
    obtain ⟨d, h2, h⟩ := Option.bind_eq_some_iff.1 h
    obtain ⟨z, h3, h⟩ := Option.map_eq_some_iff.1 h
    subst h
    exact h2
  refine OpOk.val fun g a hH hg ht => ?_
  have h1 := ht p (by simp [ho, Op.operands])
  have h2 := ht q (by simp [ho, Op.operands])
  rw [hp] at h1
  rw [hq] at h2
  simp only [Rel] at h1 h2
  obtain ⟨A, c, xs, hA, hc, _, _, hN⟩ := h1
  have hA' : A.isNone = false := by
    cases A with
    | none => have := hN rfl; have : l.length ≠ 0 := fun h => hl (List.length_eq_zero_iff.1 h); omega
    | some a => rfl
  have hu : ∀ w, (underlying t).run P w = .ok (.slice e) w := fun w => by simp [underlying, hd']
  have hE : (Op.equal t (.slice A l.length c) (.slice none 0 0)).run P g.w = .ok A.isNone g.w := equal_run hd' g.w _ _ _ (fun m => by cases A <;> simp [Op.equalIn, hu])
  rw [hA'] at hE
  rcases hop with rfl | rfl
  · exact ⟨.bool false, by simp [execOp, ho, hA, h2, eqGuard, binOp, hE], by simp [Rel]⟩
  · exact ⟨.bool true, by simp [execOp, ho, hA, h2, eqGuard, binOp, hE], by simp [Rel]⟩
theorem EntL.append {l l' m m' : List AV} (h : EntL H l l') (h' : EntL H m m') : EntL H (l ++ m) (l' ++ m') := by
  intro g ys hH hg hx
  have h1 := hx.take l.length
  have h2 := hx.drop l.length
  rw [List.take_left] at h1
  rw [List.drop_left] at h2
  have := (h g _ hH hg h1).append (h' g _ hH hg h2)
  rwa [List.take_append_drop] at this
/-- A new row, frozen as it comes. -/
theorem CSpec.frz {f : FuncId} {args : List AV} {es len : Nat} {own : Bool} {l : List AV} (h : CSpec P f [] args [some ⟨es, own, l⟩] (.sl 0 0 len)) (hl : l.length = len) (hr : renL (pos []) l = l) : CSpec P f [] args [] (.fz es l) := by
  refine ⟨h.1, fun g vals hH hg hx => (h.2 g vals hH hg hx).mono fun e w' ⟨v, g', h1, h2, h3, h4, h5, h6, _⟩ => ?_⟩
  have he : TEnt 0 [(0, AV.sl 0 0 len)] [some ⟨es, own, l⟩] [(0, .fz es l)] [] :=
    ((TEnt.freeze 0 (b := ⟨es, own, l⟩) rfl).trans (TEnt.put1 0 (Ent.sl0 (b := ⟨es, false, l⟩) (by rfl) rfl hl))).trans (TEnt.fin [] (by decide) (by simp) rfl ⟨by simp [normT, tget, AV.ren, hr], trivial⟩)
  obtain ⟨g2, k1, k2, k3, k4, k5, k6⟩ := he g' (fun _ => v) h3 (Nat.zero_le _) h4 (fun t => by
    simp only [tget]
    split
    · exact h5
    · simp [Rel])
  have k4' := k4 0
  simp only [tget, if_true] at k4'
  exact ⟨v, g2, h1, k1.trans h2, k2, k3, k4', h6.trans k5, ⟨Nat.zero_le _, fun i k' hi => by simp at hi⟩⟩
/-- A call of a function that is handed nothing of the call's own and makes nothing that may be written. -/
theorem CSpec.plain {f : FuncId} {args args' : List AV} {x : AV} (h : CSpec P f [] args' [] x) (ha : renL (pos []) args = args') (hx : x.ren (fun j => some (H.length + j)) = x) : CallOk P f H args x H := by
  have h1 := h.pass (H := H) (args := args) [] (by decide) (by simp) rfl ha
  rw [mergeH_nil] at h1
  refine h1.eq ?_ (by simp [renH])
  rw [← hx]
  simp only [back, List.getElem?_nil, List.length_nil, Nat.sub_zero]
  rw [hx]
  exact hx
/-- The same, with new blocks. -/
theorem CSpec.fresh {f : FuncId} {args args' : List AV} {x x' : AV} {hout H' : Heap} (h : CSpec P f [] args' hout x) (ha : renL (pos []) args = args') (hx : x.ren (fun j => some (H.length + j)) = x') (hH : renH (fun j => some (H.length + j)) hout = H') : CallOk P f H args x' (H ++ H') := by
  have h1 := h.pass (H := H) (args := args) [] (by decide) (by simp) rfl ha
  rw [mergeH_nil] at h1
  exact h1.eq hx (by rw [hH])
end Go.AM
namespace Go.AM
variable {P : Program} {tm : TM} {H : Heap}

theorem flatC_zeros {z : Value} {es : Nat} (hz : Flat z es) (hes : 0 < es) (n : Nat) : (Builtin.zeroCells z.cells n).toList = flatC (List.replicate n z) := by
  have hc : ∀ x ∈ List.replicate n z, x.cells.size = es := fun x hx => by rw [List.eq_of_mem_replicate hx]; exact hz.1
  have hl := flatC_length _ hc
  rw [List.length_replicate] at hl
  apply List.ext_getElem?
  intro m
  unfold Builtin.zeroCells
  rw [Array.getElem?_toList, zeroArr_get, hz.1]
  by_cases h : m < n * es
  · rw [if_pos h]
    obtain ⟨v, hv⟩ : ∃ v, (flatC (List.replicate n z))[m]? = some v := ⟨_, List.getElem?_eq_getElem (by omega)⟩
    obtain ⟨i, x, j, rfl, hj, hxi, hxj⟩ := flatC_inv hes hc hv
    rw [hv, ← hxj]
    have hx := List.eq_of_mem_replicate (List.mem_of_getElem? hxi)
    subst hx
    have : (i * es + j) % es = j := by rw [Nat.mul_comm, Nat.mul_add_mod, Nat.mod_eq_of_lt hj]
    rw [this, Array.getElem!_eq_getD, Array.getD_eq_getD_getElem?, Array.getElem?_eq_getElem (by rw [hz.1]; exact hj)]
    rfl
  · rw [if_neg h, List.getElem?_eq_none (by omega)]
/-- The arm that lays a new row, of zeros at its end. -/
theorem append_grown_z {g : G} (hg : GOk g) {t t2 e : TypeId} {i j : TI} (hi : tyI P t = some i) (hd : i.desc = .slice e) (hj : tyI P e = some j) (hj0 : 0 < j.size) (hb0 : j.bytes ≠ 0) (hz : fits (cav j.zero) j.size = true) {i2 : TI} (hi2 : tyI P t2 = some i2) {kk : IntKind} (hd2 : i2.desc = .int kk)
    {A : Option Addr} {c n2 : Nat} {kx : IntKind} {l1 : List AV} {xs1 : List Value} (h1 : RelL g l1 xs1) (r1 : RowAt g.w A j.size xs1) (hgrow : c < xs1.length + n2) (hbound : (xs1.length + n2) * j.bytes ≤ 140737488355328) (ty : TypeId) :
    ∃ v g', (Builtin.append_ #[t, t2] ty #[.slice A xs1.length c, .int kx n2]).run P g.w = .ok v g'.w ∧ g'.H = g.H ++ [some ⟨j.size, true, l1 ++ List.replicate n2 (cav j.zero)⟩] ∧ GOk g' ∧ Sub g g' ∧ Rel g' (.sl g.H.length 0 (xs1.length + n2)) v := by
  obtain ⟨e1, _⟩ := tyI_run hi g.w
  obtain ⟨e1', _⟩ := tyI_run hi2 g.w
  obtain ⟨_, e2, _⟩ := tyI_run hj g.w
  obtain ⟨_, _, _, _, ti, e4, e5⟩ := tyI_run hj g.w
  obtain ⟨_, _, e3, _⟩ := tyI_run hj g.w.drew
  obtain ⟨_, _, _, _, ti', e4', e5'⟩ := tyI_run hj g.w.drew
  obtain ⟨hzf, _⟩ := fits_flat (cav_rel g j.zero) hz hj0
  have hfit := growslice_fits (bytes := j.bytes) hgrow hbound
  let need := xs1.length + n2
  let cap := (Question.appendCap need c e).cut (g.w.tape g.w.drawn (.appendCap need c e))
  have hcap : need ≤ cap := cut_ge _ _ _ _
  let C : Array Value := (flatC xs1).toArray ++ (Builtin.zeroCells j.zero.cells n2) ++ Builtin.zeroCells j.zero.cells (cap - need)
  have hw : ∀ a, g.w.drew.cell? a = g.w.cell? a := fun a => rfl
  have hb1 : 1 ≤ j.bytes := by omega
  have hmul1 : n2 * j.bytes ≤ (xs1.length + n2) * j.bytes := Nat.mul_le_mul_right _ (by omega)
  have hmul2 : n2 * 1 ≤ n2 * j.bytes := Nat.mul_le_mul_left _ hb1
  have hwrap : IntKind.i64.wrap (n2 : Int) = n2 := wrap_i64 (by omega) (by omega)
  have hneg : ¬ ((n2 : Int) < 0) := by omega
  have hbig' : ¬ (281474976710656 < (n2 : Int) * (j.bytes : Int)) := by
    have : ((n2 * j.bytes : Nat) : Int) = (n2 : Int) * (j.bytes : Int) := Int.natCast_mul _ _
    omega
  have hrun : (Builtin.append_ #[t, t2] ty #[.slice A xs1.length c, .int kx n2]).run P g.w = .ok (.slice (some ⟨g.w.heap.size, 0, none⟩) need cap) (g.w.drew.alloc (.cells C e (0, 0))) := by
    have hn : ¬ (xs1.length + n2 ≤ c) := by omega
    have h48 : ¬ (281474976710656 < Builtin.nextslicecap (xs1.length + n2) c * j.bytes) := by omega
    have hf1 := r1.first (P := P) hw xs1.length c
    have hap : ∀ w' : World, (∃ z, (zeroValue e).run P w' = .ok z w' ∧ z = j.zero) → ((if n2 * j.size = 0 then pure #[] else do pure (Builtin.zeroCells (← zeroValue e).cells n2) : Sem (Array Value))).run P w' = .ok (Builtin.zeroCells j.zero.cells n2) w' := by
      rintro w' ⟨z, hz1, rfl⟩
      by_cases h : n2 * j.size = 0
      · rw [if_pos h]
        have : n2 = 0 := by rcases Nat.mul_eq_zero.1 h with h | h <;> omega
        subst this
        simp [Builtin.zeroCells]
      · rw [if_neg h]; simp [hz1]
    have hap' := hap g.w.drew ⟨_, e3, rfl⟩
    have hn63 : ¬ (9223372036854775807 < ((xs1.length : Int) + (n2 : Int))) := by
      have : ((xs1.length + n2) * 1) ≤ (xs1.length + n2) * j.bytes := Nat.mul_le_mul_left _ hb1
      omega
    have hmx : IntKind.i64.max = 9223372036854775807 := by decide
    simp only [Builtin.append_, List.getElem?_toArray, List.getElem?_cons_zero, List.getElem?_cons_succ, Sem.run_bind, e1, Result.andThen_ok, hd, e2, e1', Sem.run_pure, hd2, if_true, Bool.not_true, Bool.false_eq_true, if_false, asInt, asIntOf]
    simp [hn, e4, e5, e4', hb0, h48, Question.forced, hf1, e3, newRow, C, need, cap, hwrap, hneg, hbig', hmx, hn63]
    intro h
    have hn0 : n2 = 0 := by rcases Nat.mul_eq_zero.1 h with h | h <;> omega
    subst hn0
    simp [Builtin.zeroCells, show Array.range 0 = #[] from rfl]
  have hCs : C.size = cap * j.size := by
    have l1' := flatC_length xs1 (fun x hx => (r1.flat x hx).1)
    simp only [C, Array.size_append, List.size_toArray, zeroCells_size, l1', hzf.1, ← Nat.add_mul]
    congr 1
    simp only [need]
    omega
  have hfz : ∀ x ∈ List.replicate n2 j.zero, Flat x j.size := fun x hx => by rw [List.eq_of_mem_replicate hx]; exact hzf
  have hfl : ∀ x ∈ xs1 ++ List.replicate n2 j.zero, Flat x j.size := fun x hx => (List.mem_append.1 hx).elim (r1.flat x) (hfz x)
  have hlen : (l1 ++ List.replicate n2 (cav j.zero)).length = need := by simp [need, h1.length]
  have hlt : need * j.size ≤ cap * j.size := Nat.mul_le_mul_right _ hcap
  obtain ⟨hgw, hsw⟩ := reworld (w' := g.w.drew) (g := g) rfl ⟨rfl, rfl, rfl⟩ hg
  refine ⟨_, G.push { g with w := g.w.drew } C e (0, 0) ⟨j.size, true, l1 ++ List.replicate n2 (cav j.zero)⟩, hrun, rfl, ?_, hsw.trans (push_ren _ _ _ _ _ hgw), ?_⟩
  · refine push_ok hgw rfl hj0 (by simp only [hlen, hCs]; exact hlt) (.inl rfl) (fun _ => ?_)
    refine lies_flat (k := ⟨j.size, true, l1 ++ List.replicate n2 (cav j.zero)⟩) (RelL.mono hsw.ren (h1.append (RelL.replicate (cav_rel g j.zero) n2))) hfl (fun m hm => ?_)
    have hm' : m < (flatC (xs1 ++ List.replicate n2 j.zero)).length := by rw [flatC_length _ (fun x hx => (hfl x hx).1)]; exact hm
    rw [flatC_append, ← flatC_zeros hzf hj0] at hm' ⊢
    simp only [C, Nat.zero_add]
    rw [Array.getElem?_append_left (by simpa using hm')]
    rw [← Array.getElem?_toList]
    simp
  · simp only [Rel]
    refine ⟨by simp [G.push], _, _, rfl, fun k hk => ?_⟩
    have := push_get { g with w := g.w.drew } C e (0, 0) ⟨j.size, true, l1 ++ List.replicate n2 (cav j.zero)⟩
    rw [this] at hk
    cases hk
    refine ⟨hcap, by simp [G.push, hCs], fun _ => by simp [G.push]⟩
/-- Zeros onto a row of a block. -/
theorem ok_append_zeros {o : Oper} {p q : Operand} {t t2 e : TypeId} (ho : o.op = .call ⟨.builtin .append, #[p, q], #[t, t2]⟩) {i j : TI} (hi : tyI P t = some i) (hd : i.desc = .slice e) (hj : tyI P e = some j) (hj0 : 0 < j.size) (hb0 : j.bytes ≠ 0) (hz : fits (cav j.zero) j.size = true)
    {i2 : TI} (hi2 : tyI P t2 = some i2) {kk : IntKind} (hd2 : i2.desc = .int kk) {kx : IntKind} {n2 : Nat} (hq : ev tm q = .v (.int kx n2)) {id off n1 : Nat} (hp : ev tm p = .sl id off n1) {k : Blk} (hk : hget H id = some k) (hown : k.own = true) (hkes : k.es = j.size) (hend : off + n1 = k.els.length)
    (hbound : (n1 + n2) * j.bytes ≤ 140737488355328) : OpOk P tm H o (.sl H.length 0 (n1 + n2)) (H.set id none ++ [some ⟨j.size, true, k.els.drop off ++ List.replicate n2 (cav j.zero)⟩]) := by
  intro g a hH hg ht
  subst hH
  have hqv := ht q (by simp [ho, Op.operands, Call.operands])
  rw [hq] at hqv
  simp only [Rel] at hqv
  obtain ⟨hzf, _⟩ := fits_flat (cav_rel g j.zero) hz hj0
  let l2 := List.replicate n2 (cav j.zero)
  let xs2 := List.replicate n2 j.zero
  have hl2 : RelL g l2 xs2 := RelL.replicate (cav_rel g j.zero) n2
  have hl2n : l2.length = n2 := by simp [l2]
  have hn2 : l2.length = xs2.length := by simp [l2, xs2]
  have hx2f : ∀ x ∈ xs2, Flat x j.size := fun x hx => by rw [List.eq_of_mem_replicate hx]; exact hzf
  have hx := ht p (by simp [ho, Op.operands, Call.operands])
  rw [hp] at hx
  have hexec : ∀ A n c, a.eval p = .slice A n c → execOp a.eval o = (do pure (.value (← Builtin.append_ #[t, t2] o.type #[.slice A n c, .int kx n2])) : Sem Next) := by
    intro A n c hA
    simp [execOp, ho, resolve, invoke, builtin, hA, hqv]
  have hrowX : rowA g.H (.sl id off n1) = some (j.size, k.els.drop off) := by
    simp only [rowA, hk, Option.bind_some]
    rw [if_pos (by omega), hkes]
    rw [List.take_of_length_le (by simp; omega)]
  obtain ⟨A0, c0, xs1, hA0, hc0, hl1, hrow1⟩ := rowA_sound hg hrowX hx
  have hdl : (k.els.drop off).length = n1 := by simp; omega
  rw [hdl] at hA0
  have r1 : RowAt g.w A0 j.size xs1 := RowAt.of hj0 (fun i x hx => hrow1 i x hx)
  have hx1 : xs1.length = n1 := by rw [hl1.length, hdl]
  simp only [Rel] at hx
  obtain ⟨hid, A, c, hA, hx⟩ := hx
  rw [hA0] at hA
  cases hA
  obtain ⟨g1, g2, g3⟩ := hx k hk
  have hb := hg.blk id k hk
  obtain ⟨e1, _⟩ := tyI_run hi g.w
  obtain ⟨e1', _⟩ := tyI_run hi2 g.w
  obtain ⟨_, e2, e3, _, ti, e4, e5⟩ := tyI_run hj g.w
  have hb1 : 1 ≤ j.bytes := by omega
  have hmul1 : n2 * j.bytes ≤ (n1 + n2) * j.bytes := Nat.mul_le_mul_right _ (by omega)
  have hmul2 : n2 * 1 ≤ n2 * j.bytes := Nat.mul_le_mul_left _ hb1
  have hwrap : IntKind.i64.wrap (n2 : Int) = n2 := wrap_i64 (by omega) (by omega)
  have hneg : ¬ ((n2 : Int) < 0) := by omega
  have hbig' : ¬ (281474976710656 < (n2 : Int) * (j.bytes : Int)) := by
    have : ((n2 * j.bytes : Nat) : Int) = (n2 : Int) * (j.bytes : Int) := Int.natCast_mul _ _
    omega
  have hap : ((if n2 * j.size = 0 then pure #[] else do pure (Builtin.zeroCells (← zeroValue e).cells n2) : Sem (Array Value))).run P g.w = .ok (Builtin.zeroCells j.zero.cells n2) g.w := by
    by_cases h : n2 * j.size = 0
    · rw [if_pos h]
      have : n2 = 0 := by rcases Nat.mul_eq_zero.1 h with h | h <;> omega
      subst this
      simp [Builtin.zeroCells]
    · rw [if_neg h]; simp [e3]
  have hzl : (Builtin.zeroCells j.zero.cells n2).toList = flatC xs2 := flatC_zeros hzf hj0 n2
  by_cases hroom : n1 + n2 ≤ c0
  · by_cases hc00 : c0 = 0
    · subst hc00
      have hn20 : n2 = 0 := by omega
      have hlen0 : n1 = 0 := by omega
      subst hn20 hlen0
      have hels : k.els.drop off ++ List.replicate 0 (cav j.zero) = [] := by simp; omega
      obtain ⟨hgk, hsk⟩ := kill_ok id hg
      obtain ⟨hgv, hsv⟩ := vpush_ok (es := j.size) hj0 hgk
      refine ⟨.slice A0 0 0, (g.kill id).vpush j.size, .inl ?_, by rw [hels]; simp [G.vpush, G.kill], hgv, ?_, hsk.trans hsv⟩
      · rw [hexec A0 0 0 hA0]
        simp only [Builtin.append_, List.getElem?_toArray, List.getElem?_cons_zero, List.getElem?_cons_succ, Sem.run_bind, e1, Result.andThen_ok, hd, e2, e1', Sem.run_pure, hd2, if_true, asInt, asIntOf]
        have hw0 : IntKind.i64.wrap 0 = 0 := by decide
        cases A0 <;> simp [storeCells, G.vpush, G.kill, hw0, e4]
      · simp only [Rel]
        refine ⟨by simp [G.vpush, G.kill], _, _, rfl, fun k' hk' => ?_⟩
        have e0 : (g.kill id).H.length = g.H.length := by simp [G.kill]
        have e1 : ((g.kill id).vpush j.size).sz g.H.length = 0 := by simp [G.vpush, e0]
        have e2 : ((g.kill id).vpush j.size).bs g.H.length = 0 := by simp [G.vpush, e0]
        exact ⟨Nat.le_refl _, by rw [e1, e2]; simp, fun h => absurd rfl h⟩
    · have hA := g3 hc00
      subst hA
      have hs0 : g.sz id ≠ 0 := by
        have : 1 * 1 ≤ (off + c0) * k.es := Nat.mul_le_mul (by omega) hb.pos
        omega
      obtain ⟨C, ce, lo, hi', m1, m2, m3, xs, m4, m5⟩ := hb.mem hs0
      let pos := g.bs id + off * k.es + n1 * k.es
      have hposx : pos = g.bs id + k.els.length * k.es := by simp only [pos]; rw [← hend, Nat.add_mul]; omega
      have hfl2 := flatC_length xs2 (fun x hx => (hx2f x hx).1)
      have hxs2n : xs2.length = n2 := by simp [xs2]
      have hroomC : pos + (flatC xs2).length ≤ C.size := by
        rw [hfl2, m2, hxs2n, ← hkes]
        refine Nat.le_trans ?_ g2
        simp only [pos]
        rw [Nat.add_assoc, Nat.add_assoc, ← Nat.add_mul, ← Nat.add_mul]
        exact Nat.add_le_add_left (Nat.mul_le_mul_right _ (by omega)) _
      have hst := run_stores P (g.φ id) pos ce (lo, hi') (flatC xs2) 0 C g.w m1 m3 (by simpa using hroomC) (flatC_oneCell hx2f)
      let C' : Array Value := (C.toList.take (pos + 0) ++ flatC xs2 ++ C.toList.drop (pos + 0 + (flatC xs2).length)).toArray
      have hC's : C'.size = C.size := by
        simp only [C', List.size_toArray, List.length_append, List.length_take, List.length_drop, Array.length_toList] at hroomC ⊢
        omega
      have hxsl : xs.length = k.els.length := m4.length
      have hflall : ∀ x ∈ xs ++ xs2, Flat x k.es := fun x hx => (List.mem_append.1 hx).elim (fun hx => by
        obtain ⟨q', hq'⟩ := List.getElem?_of_mem hx; exact (m5 q' x hq').1) (fun hx => by rw [hkes]; exact hx2f x hx)
      have hlies : Lies g (g.bs id) { k with els := k.els ++ l2 } C' := by
        refine lies_flat (k := { k with els := k.els ++ l2 }) (m4.append hl2) hflall (fun m hm => ?_)
        have hxs' := flatC_length xs (fun x hx => by obtain ⟨q', hq'⟩ := List.getElem?_of_mem hx; exact (m5 q' x hq').1.1)
        rw [flatC_append]
        simp only [C', List.getElem?_toArray, Nat.add_zero, List.append_assoc]
        have hm' : m < (xs ++ xs2).length * k.es := hm
        rw [List.length_append, Nat.add_mul, hkes, ← hfl2, ← hkes, hxsl] at hm'
        rw [hxsl] at hxs'
        by_cases h : m < k.els.length * k.es
        · rw [List.getElem?_append_left (by simp only [List.length_take, Array.length_toList]; omega), List.getElem?_take, if_pos (by omega), List.getElem?_append_left (by omega)]
          have hv := List.getElem?_eq_getElem (l := flatC xs) (i := m) (by omega)
          obtain ⟨q', x', j', e1, e2, e3, e4⟩ := flatC_inv (es := k.es) hb.pos (fun x hx => by obtain ⟨q', hq'⟩ := List.getElem?_of_mem hx; exact (m5 q' x hq').1.1) hv
          rw [hv, ← e4, Array.getElem?_toList, e1]
          exact (m5 q' x' e3).2 j' e2
        · rw [List.getElem?_append_right (by simp only [List.length_take, Array.length_toList]; omega), List.getElem?_append_left (by simp only [List.length_take, Array.length_toList]; omega), List.getElem?_append_right (by omega)]
          congr 1
          simp only [List.length_take, Array.length_toList]
          omega
      have hfit' : g.bs id + (k.els ++ l2).length * k.es ≤ g.sz id := by
        refine Nat.le_trans ?_ g2
        refine Nat.add_le_add_left (Nat.mul_le_mul_right _ ?_) _
        simp [l2]; omega
      have hwr := write_ok hg hk hown hs0 m1 hC's (els := k.els ++ l2) hfit' hlies
      simp only at hwr
      obtain ⟨hgw, hsw⟩ := hwr
      have hk' : hget (g.H.set id (some { k with els := k.els ++ l2 })) id = some { k with els := k.els ++ l2 } := by
        rw [hget_set, if_pos ⟨rfl, hid⟩]
      obtain ⟨hgr, hsr⟩ := rebase_ok (id := id) (off := off) hgw hk' (by simp; omega)
      refine ⟨.slice (some ⟨g.φ id, g.bs id + off * k.es, none⟩) (n1 + n2) c0, _, .inl ?_, ?_, hgr, ?_, hsw.trans hsr⟩
      · rw [hexec _ _ _ hA0]
        have hst' : (storeCells ⟨g.φ id, pos, none⟩ (flatC xs2)).run P g.w = .ok () (g.w.setRow (g.φ id) C') := hst
        rw [← hzl] at hst'
        have hpos2 : (⟨g.φ id, g.bs id + off * k.es, none⟩ : Addr).add (n1 * j.size) = ⟨g.φ id, pos, none⟩ := by
          rw [add_off]; simp only [pos, hkes]
        simp only [Builtin.append_, List.getElem?_toArray, List.getElem?_cons_zero, List.getElem?_cons_succ, Sem.run_bind, e1, Result.andThen_ok, hd, e2, e1', Sem.run_pure, hd2, if_true, asInt, asIntOf, Bool.not_true, Bool.false_eq_true, if_false]
        by_cases hzz : n2 * j.size = 0
        · have h0 : n2 = 0 := by rcases Nat.mul_eq_zero.1 hzz with h | h <;> omega
          have hnil : (Builtin.zeroCells j.zero.cells n2).toList = [] := by rw [h0]; simp [Builtin.zeroCells, show Array.range 0 = #[] from rfl]
          rw [hnil] at hst'
          simp [hwrap, hneg, e4, e5, hbig', hroom, hzz, hpos2, hst', G.rebase]
        · simp [hwrap, hneg, e4, e5, hbig', hroom, hzz, e3, hpos2, hst', G.rebase]
      · simp [G.rebase, List.drop_append, hkes, hown]
        rw [show off - k.els.length = 0 by omega]
        simp [l2]
      · simp only [Rel]
        refine ⟨by simp [G.rebase], _, _, rfl, fun k2 hk2 => ?_⟩
        have el : (g.H.set id (some { k with els := k.els ++ l2 })).length = g.H.length := by simp
        have hk2es : k2.es = k.es := by
          simp only [G.rebase, hget_append, List.length_set] at hk2
          rw [if_neg (Nat.lt_irrefl _), Nat.sub_self] at hk2
          simp [hget] at hk2
          rw [← hk2]
        rw [hk2es]
        refine ⟨by omega, ?_, fun _ => ?_⟩
        · simp only [G.rebase, el, if_true, Nat.zero_add]
          rw [Nat.add_assoc, ← Nat.add_mul]
          exact g2
        · simp [G.rebase, el]
  · obtain ⟨hgk, hsk⟩ := kill_ok id hg
    have hwk : (g.kill id).w = g.w := rfl
    obtain ⟨v, g', h1, h2, h3, h4, h5⟩ := append_grown_z (P := P) hgk hi hd hj hj0 hb0 hz hi2 hd2 (A := A0) (c := c0) (n2 := n2) (kx := kx) (l1 := k.els.drop off) (xs1 := xs1) (RelL.mono hsk.ren hl1) r1 (by omega) (by rw [hx1]; exact hbound) o.type
    refine ⟨v, g', .inl ?_, by simpa [G.kill] using h2, h3, ?_, hsk.trans h4⟩
    · rw [hexec _ _ _ hA0]
      rw [hx1] at h1
      rw [Sem.run_bind, ← hwk, h1]
      rfl
    · rw [hx1] at h5
      have e0 : (g.kill id).H.length = g.H.length := by simp [G.kill]
      rw [e0] at h5
      exact h5

-- structs of single cells compared
def eqLeaf : AV → AV → Option Bool
  | .v (.int k a), .v (.int k' b) => if k = k' then some (a == b) else none
  | .v (.bool a), .v (.bool b) => some (a == b)
  | .v (.string a), .v (.string b) => some (a.toList == b.toList)
  | _, _ => none
def eqLeafs : List AV → List AV → Option Bool
  | [], [] => some true
  | x :: l, y :: m => (eqLeaf x y).bind fun b => (eqLeafs l m).map (b && ·)
  | _, _ => none
def leafD : TypeDesc → AV → Bool
  | .int _, .v (.int _ _) => true
  | .bool, .v (.bool _) => true
  | .string, .v (.string _) => true
  | _, _ => false
/-- Fields that lie one behind the other, one cell each. -/
def flatS (P : Program) : Nat → List Field → List AV → Bool
  | _, [], [] => true
  | o, f :: fs, x :: l => (f.offset == o) && (f.name != "_") && (match P.underlying f.type with | some d => leafD d x | none => false) && flatS P (o + 1) fs l
  | _, _, _ => false
theorem leaf_eq {g : G} {x y : AV} {u v : Value} {d : TypeDesc} {t : TypeId} {b : Bool} (hu : P.underlying t = some d) (hd : leafD d x = true) (hx : Rel g x u) (hy : Rel g y v) (h : eqLeaf x y = some b) (n : Nat) (w : World) :
    (Op.equalIn (n + 1) t u v).run P w = .ok b w := by
  unfold eqLeaf at h
  split at h
  · split at h
    · rename_i k a k' b' hk
      subst hk
      simp only [Rel] at hx hy
      subst hx hy
      cases d <;> simp only [leafD, Bool.false_eq_true, reduceCtorEq] at hd
      rw [run_equalIn_int w n t k _ a b' hu]
      simpa using h
    · cases h
  · simp only [Rel] at hx hy
    subst hx hy
    cases d <;> simp only [leafD, Bool.false_eq_true, reduceCtorEq] at hd
    rw [run_equalIn_bool' w n t _ _ hu]
    simpa using h
  · simp only [Rel] at hx hy
    subst hx hy
    cases d <;> simp only [leafD, Bool.false_eq_true, reduceCtorEq] at hd
    rw [run_equalIn_string w n t _ _ hu]
    simpa using h
  · cases h
theorem flatS_eq {g : G} {d : Nat} {cx cy : Array Value} (w : World) : ∀ (fs : List Field) (o : Nat) (l m : List AV) (b : Bool), flatS P o fs l = true → RelL g l (cx.toList.drop o) → RelL g m (cy.toList.drop o) → eqLeafs l m = some b →
    (Op.eqFields (d + 1) cx cy fs).run P w = .ok b w
  | [], o, l, m, b, hf, hx, hy, he => by
    cases l <;> simp [flatS] at hf
    cases m <;> simp [eqLeafs] at he
    subst he
    simp [Op.eqFields]
  | f :: fs, o, l, m, b, hf, hx, hy, he => by
    cases l with
    | nil => simp [flatS] at hf
    | cons x l =>
      cases m with
      | nil => simp [eqLeafs] at he
      | cons y m =>
        simp only [flatS, Bool.and_eq_true, beq_iff_eq, bne_iff_ne] at hf
        obtain ⟨⟨⟨ho, hn⟩, hty⟩, hf⟩ := hf
        simp only [eqLeafs] at he
        obtain ⟨b1, hb1, he⟩ := Option.bind_eq_some_iff.1 he
        obtain ⟨b2, hb2, rfl⟩ := Option.map_eq_some_iff.1 he
        simp only [RelL] at hx hy
        obtain ⟨u, us, hu, hxu, hxl⟩ := hx
        obtain ⟨v, vs, hv, hyv, hym⟩ := hy
        have hu0 : cx[o]? = some u := by
          have : (cx.toList.drop o)[0]? = some u := by rw [hu]; rfl
          simpa using this
        have hv0 : cy[o]? = some v := by
          have : (cy.toList.drop o)[0]? = some v := by rw [hv]; rfl
          simpa using this
        have hus : cx.toList.drop (o + 1) = us := by
          have : (cx.toList.drop o).drop 1 = us := by rw [hu]; rfl
          rwa [List.drop_drop] at this
        have hvs : cy.toList.drop (o + 1) = vs := by
          have : (cy.toList.drop o).drop 1 = vs := by rw [hv]; rfl
          rwa [List.drop_drop] at this
        split at hty
        case h_2 => cases hty
        rename_i dd hdd
        have hna : isAggD dd = false := by
          cases dd <;> simp_all [leafD, isAggD]
        have hagg : (isAgg f.type).run P w = .ok false w := by
          have hu' : ∀ w, (underlying f.type).run P w = .ok dd w := fun w => by simp [underlying, hdd]
          simp only [isAgg, Sem.run_bind, hu', Result.andThen_ok]
          cases dd <;> first | rfl | cases hna
        have hp1 : (part f.type cx f.offset).run P w = .ok u w := by
          unfold part
          simp [hagg, ho, hu0]
        have hp2 : (part f.type cy f.offset).run P w = .ok v w := by
          unfold part
          simp [hagg, ho, hv0]
        have hle := leaf_eq hdd hty hxu hyv hb1 d w
        have ih := flatS_eq (d := d) w fs (o + 1) l m b2 hf (hus ▸ hxl) (hvs ▸ hym) hb2
        simp only [Op.eqFields]
        rw [if_pos hn]
        simp only [Sem.run_bind, hp1, Result.andThen_ok, hp2, hle]
        cases b1
        · simp
        · simp [ih]
theorem ok_eqS {o : Oper} {op : BinOp} {t t' : TypeId} {p q : Operand} (ho : o.op = .binOp op t p q t') {fs : Array Field} (hu : P.underlying t = some (.struct fs)) (hst : P.stoodInHeld t = false) (hgt : P.eqGuardType P.depth t = false) (hop : op = .eql ∨ op = .neq)
    {l m : List AV} (hl : aggCells (ev tm p) = some l) (hm : aggCells (ev tm q) = some m) (hf : flatS P 0 fs.toList l = true) {b : Bool} (hb : eqLeafs l m = some b) : OpOk P tm H o (.v (.bool (if op = .eql then b else !b))) H := by
  refine OpOk.val fun g a hH hg ht => ?_
  obtain ⟨cx, hcx, hrx⟩ := agg_rel (ht p (by simp [ho, Op.operands, Call.operands])) hl
  obtain ⟨cy, hcy, hry⟩ := agg_rel (ht q (by simp [ho, Op.operands, Call.operands])) hm
  have hfs : P.fieldsOf t = fs := by simp [Program.fieldsOf, hu]
  have hrun := flatS_eq (P := P) (d := 9998) g.w fs.toList 0 l m b hf (by simpa using hrx) (by simpa using hry) hb
  have heq : (Op.equalIn 10000 t (.agg cx) (.agg cy)).run P g.w = .ok b g.w := by
    rw [run_equalIn_struct g.w 9999 t cx cy (by rw [hfs]; exact hu) hst, hfs]
    exact hrun
  have hgd := run_eqGuard_agg (P := P) g.w op t p q cx cy hgt
  rcases hop with rfl | rfl
  · refine ⟨.bool b, ?_, by simp [Rel]⟩
    simp only [execOp, ho, hcx, hcy, Sem.run_bind, hgd, Result.andThen_ok, run_eql_struct, heq, Sem.run_pure]
  · refine ⟨.bool (!b), ?_, by simp [Rel]⟩
    simp only [execOp, ho, hcx, hcy, Sem.run_bind, hgd, Result.andThen_ok, run_neq_struct, heq, Sem.run_pure]

-- literals whose parts are single cells, all told in order
theorem fill_flat (place : Nat → Option (Nat × Nat)) : ∀ (xs : List AV) (s : Nat) (cells : List AV), (∀ x ∈ xs, x.cells = [x]) → cells.length = s + xs.length → (∀ i, s ≤ i → i < s + xs.length → place i = some (i, 1)) →
    fillA place cells ((List.range' s xs.length).zip xs) = some (cells.take s ++ xs)
  | [], s, cells, _, hl, _ => by
    simp only [List.length_nil, Nat.add_zero] at hl
    simp [fillA, ← hl]
  | x :: xs, s, cells, hx, hl, hp => by
    have h0 := hx x (by simp)
    simp only [List.length_cons] at hl
    simp only [List.length_cons, List.range'_succ, List.zip_cons_cons, fillA, hp s (Nat.le_refl _) (by simp), h0]
    rw [if_pos ⟨rfl, by simp, by omega⟩]
    have hs : splice cells s [x] = cells.take s ++ [x] ++ cells.drop (s + 1) := rfl
    have hlen : (splice cells s [x]).length = s + 1 + xs.length := by
      rw [hs]; simp; omega
    rw [fill_flat place xs (s + 1) _ (fun y hy => hx y (by simp [hy])) hlen (fun i h1 h2 => hp i (by omega) (by simp; omega))]
    have e : (splice cells s [x]).take (s + 1) = cells.take s ++ [x] := by
      rw [hs]
      exact List.take_left' (by simp; omega)
    rw [e]
    simp
def flatPl (P : Program) (i : TI) (n : Nat) : Bool := match i.desc with
  | .struct fs => placesA P fs.toList == some ((List.range n).map fun k => (k, 1))
  | .array m e => m == n && (tyI P e).map (·.size) == some 1
  | _ => false
def AV.single : AV → Bool
  | .agg _ => false
  | .any => false
  | .v (.agg _) => false
  | _ => true
theorem single_cells {x : AV} (h : x.single = true) : x.cells = [x] := by
  cases x with
  | v u => cases u <;> simp_all [AV.single, AV.cells]
  | _ => simp_all [AV.single, AV.cells]
theorem ok_build_flat {o : Oper} {t : TypeId} {ps : Array (Nat × Operand)} (n : Nat) (ho : o.op = .build t ps) {i : TI} (hi : tyI P t = some i) (hpl : flatPl P i n = true) (hz : (cav i.zero).cells.length = n) (hix : ps.toList.map (·.1) = List.range' 0 n) {xs : List AV} (hl : ps.toList.map (fun p => ev tm p.2) = xs) (hs : xs.all AV.single = true) : OpOk P tm H o (.agg xs) H := by
  have hn : xs.length = n := by
    have := congrArg List.length hix
    rw [← hl]; simpa using this
  have hsx : ∀ x ∈ xs, x.cells = [x] := fun x hx => single_cells (List.all_eq_true.1 hs x hx)
  have hzip : (ps.toList.map fun p => (p.1, ev tm p.2)) = (List.range' 0 xs.length).zip xs := by
    rw [hn, ← hix, ← hl]
    simp [List.zip_map']
  refine ok_build ho hi ?_
  rw [hzip]
  unfold buildA
  unfold flatPl at hpl
  split at hpl
  · rename_i fs hd
    have hpl' : placesA P fs.toList = some ((List.range n).map fun k => (k, 1)) := by simpa using hpl
    simp only [hd, hpl', Option.bind_some]
    rw [fill_flat _ xs 0 _ hsx (by rw [hz, hn]; simp) (fun k _ hk => by
      simp only [List.getElem?_map]
      rw [List.getElem?_range (by omega)]
      rfl)]
    simp
  · rename_i m e hd
    simp only [Bool.and_eq_true, beq_iff_eq] at hpl
    obtain ⟨j, hj, hj1⟩ := Option.map_eq_some_iff.1 hpl.2
    simp only [hd, hj, Option.bind_some]
    rw [fill_flat _ xs 0 _ hsx (by rw [hz, hn]; simp) (fun k _ hk => by simp [hj1])]
    simp
  · cases hpl
end Go.AM
namespace Go.AM
variable {D : List Deferred} {P : Program} {n k : Nat} {tm : TM} {H : Heap} {Q : Post} {ops : Array Oper} {K : TM → Heap → Prop} {late : List Nat} {R : Heap → Prop} {f : Nat} {listed : Array Bool}
/-- Whichever of those that may come up comes up. -/
theorem any_many {S : Nat → Heap → Prop} (L : List Nat) (hr : Region.ready .any ops listed = L) (hne : L ≠ []) (h : ∀ i ∈ L, stepA P n ops i tm H (fun tm' H' => S i H' ∧ anyJ P n ops (upTo K) S f (listed.setIfInBounds i true) tm' H')) : anyJ P n ops (upTo K) S (f + 1) listed tm H :=
  ⟨fun h0 => absurd (hr.symm.trans h0) hne, fun i hi => h i (hr ▸ hi)⟩
theorem step_one {i : Nat} {o : Oper} {S : Nat → Heap → Prop} {C : TM → Heap → Prop} {x : AV} {H' : Heap} (hi : ops[i]? = some o) (hd : dOk n o.dst = true) (hw : wantA ops tm o = some true) (hs : StepOk P tm H o x H') (hS : S i H') (k : C (tput tm o.dst x) H') : stepA P n ops i tm H (fun tm' H' => S i H' ∧ C tm' H') :=
  ⟨o, hi, hd, .inl ⟨hw, x, H', hs, hS, k⟩⟩
section
variable {R0 : Heap → Prop} {early : List Nat}
end
end Go.AM
