/- The abstract machine: rows and structs made. -/
import Derived.Test.YtlegolcbjjjofaaAm8
import Derived.Laws.Tables
namespace Go.AM
variable {P : Program} {tm : TM} {H : Heap}

theorem wrap_i64 {n : Int} (h : -9223372036854775808 ≤ n) (h' : n ≤ 9223372036854775807) : IntKind.i64.wrap n = n := by
  simp [IntKind.wrap, IntKind.bits, IntKind.signed]
  split <;> omega
theorem wrap_u8 (n : Int) : IntKind.u8.wrap n = n % 256 := by simp [IntKind.wrap, IntKind.bits, IntKind.signed]
theorem wrap_u16 (n : Int) : IntKind.u16.wrap n = n % 65536 := by simp [IntKind.wrap, IntKind.bits, IntKind.signed]
theorem wrap_u32 (n : Int) : IntKind.u32.wrap n = n % 4294967296 := by simp [IntKind.wrap, IntKind.bits, IntKind.signed]
theorem wrap_u64 (n : Int) : IntKind.u64.wrap n = n % 18446744073709551616 := by simp [IntKind.wrap, IntKind.bits, IntKind.signed]

theorem zeroArr_get (z : Array Value) (N m : Nat) : ((Array.range N).map (z[· % z.size]!))[m]? = if m < N then some (z[m % z.size]!) else none := by
  simp only [Array.getElem?_map]
  by_cases h : m < N
  · rw [if_pos h, Array.getElem?_eq_getElem (by simpa using h)]; simp
  · rw [if_neg h, Array.getElem?_eq_none (by simpa using h)]; simp
theorem zeros_lie {g : G} {z : Value} {es n : Nat} (hf : Flat z es) (hes : 0 < es) {x : AV} (hx : Rel g x z) (own : Bool) : Lies g 0 ⟨es, own, List.replicate n x⟩ ((Array.range (n * es)).map (z.cells[· % z.cells.size]!)) := by
  refine ⟨List.replicate n z, RelL.replicate hx n, fun i y hy => ?_⟩
  rw [List.getElem?_replicate] at hy
  split at hy
  case isFalse => cases hy
  rename_i hi
  simp at hy
  subst hy
  refine ⟨hf, fun j hj => ?_⟩
  have hj' : j < es := hj
  have h1 : (i + 1) * es ≤ n * es := Nat.mul_le_mul_right _ hi
  rw [Nat.add_mul, Nat.one_mul] at h1
  have hlt : i * es + j < n * es := by omega
  show ((Array.range (n * es)).map (z.cells[· % z.cells.size]!))[0 + (i * es + j)]? = z.cells[j]?
  rw [zeroArr_get, Nat.zero_add, if_pos hlt, hf.1]
  have : (i * es + j) % es = j := by rw [Nat.mul_comm, Nat.mul_add_mod, Nat.mod_eq_of_lt hj']
  simp only [this]
  rw [Array.getElem!_eq_getD, Array.getD_eq_getD_getElem?, Array.getElem?_eq_getElem (by rw [hf.1]; exact hj')]
  rfl
theorem ok_makeSlice {o : Oper} {t : TypeId} {p q : Operand} (ho : o.op = .makeSlice t p q) {i : TI} (hi : tyI P t = some i) {e : TypeId} (hd : i.desc = .slice e) {j : TI} (hj : tyI P e = some j) {k k' : IntKind} {n : Int}
    (hp : ev tm p = .v (.int k n)) (hq : ev tm q = .v (.int k' n)) (h0 : 0 ≤ n) (h1 : n ≤ 4611686018427387904) (hb : j.bytes * n ≤ 281474976710656) (hf : fits (cav j.zero) j.size = true) (hj0 : 0 < j.size) :
    OpOk P tm H o (.sl H.length 0 n.toNat) (H ++ [some ⟨j.size, true, List.replicate n.toNat (cav j.zero)⟩]) := by
  intro g a hH hg ht
  subst hH
  obtain ⟨e1, _⟩ := tyI_run hi g.w
  obtain ⟨_, e2, e3, _, ti, e4, e5⟩ := tyI_run hj g.w
  have hp' := ht p (by simp [ho, Op.operands, Call.operands])
  have hq' := ht q (by simp [ho, Op.operands, Call.operands])
  rw [hp] at hp'
  rw [hq] at hq'
  simp only [Rel] at hp' hq'
  obtain ⟨hfl, _⟩ := fits_flat (cav_rel g j.zero) hf hj0
  have hw : IntKind.i64.wrap n = n := wrap_i64 (by omega) (by omega)
  let c := (Array.range (n.toNat * j.size)).map (j.zero.cells[· % j.zero.cells.size]!)
  have hcs : c.size = n.toNat * j.size := by simp [c]
  have hrun : (execOp a.eval o).run P g.w = .ok (.value (.slice (some ⟨g.w.heap.size, 0, none⟩) n.toNat n.toNat)) (g.w.alloc (.cells c e (0, 0))) := by
    have hc1 : (decide (n < 0) || decide (↑ti.bytes * n > 2 ^ 48)) = false := by
      simp only [Bool.or_eq_false_iff, decide_eq_false_iff_not]
      rw [e5]
      constructor
      · omega
      · have : (2 : Int) ^ 48 = 281474976710656 := by decide
        omega
    have hc2 : ((decide (n < 0) || decide (↑ti.bytes * n > 2 ^ 48)) || decide (n < 0) || decide (n > n)) = false := by
      rw [hc1]; simp; omega
    by_cases h : n.toNat * j.size = 0
    · have hcc : (Array.range (n.toNat * j.size)).map (fun x => (#[] : Array Value)[x % (#[] : Array Value).size]!) = c := by simp [c, h]
      simp only [execOp, ho, Instr.makeSlice, Sem.run_bind, e1, Result.andThen_ok, hd, hp', hq', asInt, asIntOf, Sem.run_pure, e4, hw, hc2, Bool.false_eq_true, if_false, run_askRoom, e2]
      rw [if_pos h]
      simp only [Sem.run_bind, Sem.run_pure, Result.andThen_ok, newRow, run_newObj, hcc]
      rfl
    · simp only [execOp, ho, Instr.makeSlice, Sem.run_bind, e1, Result.andThen_ok, hd, hp', hq', asInt, asIntOf, Sem.run_pure, e4, hw, hc2, Bool.false_eq_true, if_false, run_askRoom, e2]
      rw [if_neg h]
      simp only [Sem.run_bind, Sem.run_pure, Result.andThen_ok, e3, newRow, run_newObj]
      rfl
  refine ⟨_, g.push c e (0, 0) ⟨j.size, true, List.replicate n.toNat (cav j.zero)⟩, .inl hrun, rfl, ?_, ?_, push_ren g _ _ _ _ hg⟩
  · refine push_ok hg rfl hj0 (by simp [hcs]) (.inl rfl) (fun _ => ?_)
    exact zeros_lie hfl hj0 (cav_rel g j.zero) true
  · simp only [Rel]
    refine ⟨by simp [G.push], _, _, rfl, fun k hk => ?_⟩
    rw [push_get] at hk
    cases hk
    refine ⟨Nat.le_refl _, by simp [G.push, hcs], fun _ => by simp [G.push]⟩

-- a literal's parts
theorem fold_put : ∀ (l : List Value) (s off : Nat) (c : Array Value), off + s + l.length ≤ c.size →
    ((l.zipIdx s).foldl (fun cs (p : Value × Nat) => cs.setIfInBounds (off + p.2) p.1) c).size = c.size ∧
    ∀ m : Nat, ((l.zipIdx s).foldl (fun cs (p : Value × Nat) => cs.setIfInBounds (off + p.2) p.1) c)[m]? = if off + s ≤ m ∧ m < off + s + l.length then l[m - (off + s)]? else c[m]?
  | [], s, off, c, _ => ⟨rfl, fun m => by rw [if_neg (by simp only [List.length_nil]; omega)]; rfl⟩
  | v :: l, s, off, c, h => by
    simp only [List.length_cons] at h
    obtain ⟨h1, h2⟩ := fold_put l (s + 1) off (c.setIfInBounds (off + s) v) (by simp; omega)
    simp only [List.zipIdx_cons, List.foldl_cons]
    refine ⟨by rw [h1]; simp, fun m => ?_⟩
    rw [h2 m]
    simp only [List.length_cons]
    by_cases hm : off + (s + 1) ≤ m ∧ m < off + (s + 1) + l.length
    · rw [if_pos hm, if_pos (by omega)]
      have : m - (off + s) = (m - (off + (s + 1))) + 1 := by omega
      rw [this, List.getElem?_cons_succ]
    · rw [if_neg hm, Array.getElem?_setIfInBounds]
      by_cases he : off + s = m
      · subst he
        rw [if_pos rfl, if_pos (by omega), if_pos (by omega)]
        simp
      · rw [if_neg he, if_neg (by omega)]
theorem fold_put_arr (v : Array Value) (off : Nat) (c : Array Value) (h : off + v.size ≤ c.size) :
    (v.zipIdx.foldl (fun cs (p : Value × Nat) => cs.setIfInBounds (off + p.2) p.1) c).size = c.size ∧
    ∀ m : Nat, (v.zipIdx.foldl (fun cs (p : Value × Nat) => cs.setIfInBounds (off + p.2) p.1) c)[m]? = if off ≤ m ∧ m < off + v.size then v[m - off]? else c[m]? := by
  have := fold_put v.toList 0 off c (by simpa using h)
  rw [← Array.foldl_toList, Array.toList_zipIdx]
  simpa using this
theorem fold_put_list (v : Array Value) (off : Nat) (c : Array Value) (h : off + v.size ≤ c.size) :
    (v.zipIdx.foldl (fun cs (p : Value × Nat) => cs.setIfInBounds (off + p.2) p.1) c).toList = splice c.toList off v.toList := by
  obtain ⟨h1, h2⟩ := fold_put_arr v off c h
  apply List.ext_getElem?
  intro m
  rw [Array.getElem?_toList, h2 m]
  simp only [splice, Array.length_toList]
  by_cases h3 : m < off
  · rw [if_neg (by omega), List.append_assoc, List.getElem?_append_left (by simp; omega), List.getElem?_take, if_pos h3]; simp
  · by_cases h4 : m < off + v.size
    · rw [if_pos ⟨by omega, h4⟩, List.getElem?_append_left (by simp; omega), List.getElem?_append_right (by simp; omega)]
      simp only [List.length_take, Array.length_toList, Array.getElem?_toList]
      congr 1
      omega
    · rw [if_neg (by omega), List.getElem?_append_right (by simp; omega), List.getElem?_drop]
      simp only [List.length_append, List.length_take, Array.length_toList, Array.getElem?_toList]
      congr 1
      omega
def fillA (place : Nat → Option (Nat × Nat)) (cells : List AV) : List (Nat × AV) → Option (List AV)
  | [] => some cells
  | (i, x) :: rest => match place i with
    | none => none
    | some (off, size) => if x.cells.length = size ∧ x.cells ≠ [] ∧ off + size ≤ cells.length then fillA place (splice cells off x.cells) rest else none
theorem fill_sound {g : G} (place : Nat → Option (Nat × Nat)) : ∀ (ps : List (Nat × AV)) (vs : List (Nat × Value)) (cells : List AV) (c : Array Value) (r : List AV), RelL g cells c.toList → vs.map (·.1) = ps.map (·.1) → RelL g (ps.map (·.2)) (vs.map (·.2)) →
    fillA place cells ps = some r → ∃ c', Instr.fill place c vs = some c' ∧ RelL g r c'.toList
  | [], vs, cells, c, r, h1, h2, h3, h4 => by
    simp at h2
    subst h2
    simp [fillA] at h4
    subst h4
    exact ⟨c, rfl, h1⟩
  | (i, x) :: ps, vs, cells, c, r, h1, h2, h3, h4 => by
    cases vs with
    | nil => simp at h2
    | cons q vs =>
      obtain ⟨i', v⟩ := q
      simp only [List.map_cons, List.cons.injEq] at h2
      obtain ⟨rfl, h2⟩ := h2
      simp only [List.map_cons, RelL] at h3
      obtain ⟨z, zs, hz, hx, h3⟩ := h3
      cases hz
      simp only [fillA] at h4
      cases hp : place i' with
      | none => rw [hp] at h4; cases h4
      | some pl =>
        obtain ⟨off, size⟩ := pl
        rw [hp] at h4
        simp only at h4
        split at h4
        case isFalse => cases h4
        rename_i hc
        obtain ⟨c1, c2, c3⟩ := hc
        have hxc := cells_rel hx c2
        have hl1 : v.cells.size = size := by rw [← c1, ← hxc.length]; simp
        have hl2 : c.size = cells.length := by rw [← h1.length]; simp
        have hput := fold_put_list v.cells off c (by omega)
        obtain ⟨c', e1, e2⟩ := fill_sound place ps vs (splice cells off x.cells) (v.cells.zipIdx.foldl (fun cs (p : Value × Nat) => cs.setIfInBounds (off + p.2) p.1) c) r (by rw [hput]; exact h1.splice off hxc) h2 h3 h4
        refine ⟨c', ?_, e2⟩
        simp only [Instr.fill, hp]
        rw [if_neg (by simp [hl1]; omega)]
        exact e1
/-- The places of a struct's fields. -/
def placesA (P : Program) (fs : List Field) : Option (List (Nat × Nat)) := fs.mapM fun f => (tyI P f.type).map fun i => (f.offset, i.size)
theorem placesA_sound : ∀ (fs : List Field) (ps : List (Nat × Nat)), placesA P fs = some ps → fs.mapM (fun f => (P.info? f.type).map fun i => (f.offset, i.size)) = some ps
  | [], ps, h => by simpa [placesA] using h
  | f :: fs, ps, h => by
    simp only [placesA, List.mapM_cons, Option.bind_eq_bind, Option.pure_def] at h ⊢
    obtain ⟨a, ha, h⟩ := Option.bind_eq_some_iff.1 h
    obtain ⟨b, hb, h⟩ := Option.bind_eq_some_iff.1 h
    have hb' := placesA_sound fs b hb
    obtain ⟨i, hi, rfl⟩ := Option.map_eq_some_iff.1 ha
    unfold tyI at hi
    obtain ⟨ti, h1, hi⟩ := Option.bind_eq_some_iff.1 hi
    obtain ⟨d, h2, hi⟩ := Option.bind_eq_some_iff.1 hi
    obtain ⟨z, h3, hi⟩ := Option.map_eq_some_iff.1 hi
    subst hi
    simp only [h1, Option.map_some, Option.bind_some, hb']
    exact h
def buildA (P : Program) (i : TI) (ps : List (Nat × AV)) : Option (List AV) :=
  match i.desc with
  | .struct fs => (placesA P fs.toList).bind fun pl => fillA (fun k => pl[k]?) (cav i.zero).cells ps
  | .array _ e => (tyI P e).bind fun j => fillA (fun k => some (k * j.size, j.size)) (cav i.zero).cells ps
  | _ => none
theorem cav_cells {g : G} {z : Value} : RelL g (cav z).cells z.cells.toList := by
  cases z <;> first | exact RelL.vs g _ | exact RelL.cons (by simp [Rel]) .nil
theorem ok_build {o : Oper} {t : TypeId} {ps : Array (Nat × Operand)} (ho : o.op = .build t ps) {i : TI} (hi : tyI P t = some i) {r : List AV} (hr : buildA P i (ps.toList.map fun p => (p.1, ev tm p.2)) = some r) : OpOk P tm H o (.agg r) H := by
  refine OpOk.val fun g a hH hg ht => ?_
  have hti : ∃ ti, P.info? t = some ti ∧ P.underlying t = some i.desc ∧ ti.zero = some i.zero := by
    unfold tyI at hi
    obtain ⟨ti, h1, hi⟩ := Option.bind_eq_some_iff.1 hi
    obtain ⟨d, h2, hi⟩ := Option.bind_eq_some_iff.1 hi
    obtain ⟨z, h3, hi⟩ := Option.map_eq_some_iff.1 hi
    subst hi
    exact ⟨ti, h1, h2, h3⟩
  obtain ⟨ti, t1, t2, t3⟩ := hti
  let vs := (ps.map fun p => (p.1, a.eval p.2)).toList
  have hv1 : vs.map (·.1) = (ps.toList.map fun p => (p.1, ev tm p.2)).map (·.1) := by simp [vs]
  have hv2 : RelL g ((ps.toList.map fun p => (p.1, ev tm p.2)).map (·.2)) (vs.map (·.2)) := by
    have := eval_list (g := g) (a := a) (tm := tm) (ps.toList.map (·.2)) (fun y hy => ht y (by simpa [ho, Op.operands] using hy))
    simpa [vs, List.map_map, Function.comp_def] using this
  have hb : ∃ c, P.built t vs = some c ∧ RelL g r c.toList := by
    unfold buildA at hr
    split at hr
    · rename_i fs hd
      obtain ⟨pl, hpl, hr⟩ := Option.bind_eq_some_iff.1 hr
      obtain ⟨c, h1, h2⟩ := fill_sound _ _ vs _ i.zero.cells r cav_cells hv1 hv2 hr
      refine ⟨c, ?_, h2⟩
      have := placesA_sound _ _ hpl
      unfold Program.built
      simp only [t1, t2, hd, t3, this]
      simpa using h1
    · rename_i n e hd
      obtain ⟨j, hj, hr⟩ := Option.bind_eq_some_iff.1 hr
      obtain ⟨c, h1, h2⟩ := fill_sound _ _ vs _ i.zero.cells r cav_cells hv1 hv2 hr
      refine ⟨c, ?_, h2⟩
      unfold tyI at hj
      obtain ⟨tj, j1, hj⟩ := Option.bind_eq_some_iff.1 hj
      obtain ⟨d, j2, hj⟩ := Option.bind_eq_some_iff.1 hj
      obtain ⟨z, j3, hj⟩ := Option.map_eq_some_iff.1 hj
      subst hj
      unfold Program.built
      simp only [t1, t2, hd, t3, j1]
      exact h1
    · cases hr
  obtain ⟨c, hc1, hc2⟩ := hb
  refine ⟨.agg c, ?_, by simp only [Rel]; exact ⟨c, rfl, hc2⟩⟩
  have := run_build (P := P) g.w t (ps.map fun p => (p.1, a.eval p.2)) c hc1
  simp only [execOp, ho, Sem.run_bind]
  have e : (ps.map fun (x : Nat × Operand) => match x with | (i, x) => (i, a.eval x)) = ps.map fun p => (p.1, a.eval p.2) := rfl
  rw [e, this]
  rfl
end Go.AM
