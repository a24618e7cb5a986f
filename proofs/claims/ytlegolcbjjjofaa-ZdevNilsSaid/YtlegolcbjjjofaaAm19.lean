/- Arrays of whole numbers compared. -/
import Derived.Test.YtlegolcbjjjofaaAm18
import Derived.ChangeKeysEq
namespace Go.AM
open Go
set_option linter.unusedSimpArgs false
set_option linter.unusedVariables false
section
variable {P : Program} {tm : TM} {H : Heap}
theorem items_eq {g : G} {d : Nat} {cx cy : Array Value} {e : TypeId} {kk k : IntKind} (w : World) (hu : P.underlying e = some (.int kk)) (hc : P.cellsOf e = 1) : ∀ (l m : List Int) (o : Nat), l.length = m.length → RelL g (ints k l) (cx.toList.drop o) → RelL g (ints k m) (cy.toList.drop o) →
    (Op.eqItems (d + 1) e (P.cellsOf e) cx cy (List.range' o l.length)).run P w = .ok (decide (l = m)) w
  | [], m, o, hl, hx, hy => by
    cases m with
    | nil => simp [Op.eqItems]
    | cons _ _ => simp at hl
  | x :: l, m, o, hl, hx, hy => by
    cases m with
    | nil => simp at hl
    | cons y m =>
      simp only [ints, List.map_cons, RelL] at hx hy
      obtain ⟨u, us, hu1, hxu, hxl⟩ := hx
      obtain ⟨v, vs, hv1, hyv, hym⟩ := hy
      simp only [Rel] at hxu hyv
      subst hxu hyv
      have hu0 : cx[o]? = some (.int k x) := by
        have : (cx.toList.drop o)[0]? = some (.int k x) := by rw [hu1]; rfl
        simpa using this
      have hv0 : cy[o]? = some (.int k y) := by
        have : (cy.toList.drop o)[0]? = some (.int k y) := by rw [hv1]; rfl
        simpa using this
      have hus : cx.toList.drop (o + 1) = us := by
        have : (cx.toList.drop o).drop 1 = us := by rw [hu1]; rfl
        rwa [List.drop_drop] at this
      have hvs : cy.toList.drop (o + 1) = vs := by
        have : (cy.toList.drop o).drop 1 = vs := by rw [hv1]; rfl
        rwa [List.drop_drop] at this
      have hagg : (isAgg e).run P w = .ok false w := by
        have hu' : ∀ w, (underlying e).run P w = .ok (.int kk) w := fun w => by simp [underlying, hu]
        simp only [isAgg, Sem.run_bind, hu', Result.andThen_ok]
        rfl
      have hp1 : (part e cx (o * P.cellsOf e)).run P w = .ok (.int k x) w := by
        unfold part
        simp [hagg, hc, hu0]
      have hp2 : (part e cy (o * P.cellsOf e)).run P w = .ok (.int k y) w := by
        unfold part
        simp [hagg, hc, hv0]
      have hle := run_equalIn_int (P := P) w d e k kk x y hu
      have ih := items_eq (d := d) w hu hc l m (o + 1) (by simpa using hl) (by rw [hus]; exact hxl) (by rw [hvs]; exact hym)
      simp only [List.length_cons, List.range'_succ, Op.eqItems, Sem.run_bind, hp1, hp2, Result.andThen_ok, hle]
      by_cases h : x = y
      · subst h
        simp [ih]
      · simp [h]
theorem tyI_parts {t : TypeId} {j : TI} (h : tyI P t = some j) : ∃ i, P.info? t = some i ∧ P.underlying t = some j.desc ∧ i.size = j.size := by
  unfold tyI at h
  obtain ⟨ti, h1, h⟩ := Option.bind_eq_some_iff.1 h
  obtain ⟨d, h2, h⟩ := Option.bind_eq_some_iff.1 h
  obtain ⟨z, h3, h⟩ := Option.map_eq_some_iff.1 h
  subst h
  exact ⟨ti, h1, h2, rfl⟩
/-- Two arrays of whole numbers, compared. -/
theorem ok_eqA {o : Oper} {op : BinOp} {t t' : TypeId} {p q : Operand} (ho : o.op = .binOp op t p q t') {n : Nat} {e : TypeId} {j1 j2 : TI} (hj1 : tyI P t = some j1) (hd1 : j1.desc = .array n e) (hj2 : tyI P e = some j2) {kk : IntKind} (hd2 : j2.desc = .int kk) (hs2 : j2.size = 1) (hgt : P.eqGuardType P.depth t = false) (hop : op = .eql ∨ op = .neq)
    {k : IntKind} {l m : List Int} (hl : aggCells (ev tm p) = some (ints k l)) (hm : aggCells (ev tm q) = some (ints k m)) (hn : l.length = n) (hnm : m.length = n) : OpOk P tm H o (.v (.bool (if op = .eql then decide (l = m) else !decide (l = m)))) H := by
  obtain ⟨i1, hi1, hu, hz1⟩ := tyI_parts hj1
  rw [hd1] at hu
  obtain ⟨i, hi, he, hz⟩ := tyI_parts hj2
  rw [hd2] at he
  have hc : P.cellsOf e = 1 := by simp [Program.cellsOf, hi, hz, hs2]
  refine OpOk.val fun g a hH hg ht => ?_
  obtain ⟨cx, hcx, hrx⟩ := agg_rel (ht p (by simp [ho, Op.operands, Call.operands])) hl
  obtain ⟨cy, hcy, hry⟩ := agg_rel (ht q (by simp [ho, Op.operands, Call.operands])) hm
  have hrun := items_eq (P := P) (d := 9998) g.w he hc l m 0 (by omega) (by simpa using hrx) (by simpa using hry)
  have heq : (Op.equalIn 10000 t (.agg cx) (.agg cy)).run P g.w = .ok (decide (l = m)) g.w := by
    rw [run_equalIn_array (w := g.w) 9999 cx cy hu hi, List.range_eq_range', ← hn]
    exact hrun
  have hgd := run_eqGuard_agg (P := P) g.w op t p q cx cy hgt
  rcases hop with rfl | rfl
  · refine ⟨.bool (decide (l = m)), ?_, by simp [Rel]⟩
    simp only [execOp, ho, hcx, hcy, Sem.run_bind, hgd, Result.andThen_ok, run_eql_struct, heq, Sem.run_pure]
  · refine ⟨.bool (!decide (l = m)), ?_, by simp [Rel]⟩
    simp only [execOp, ho, hcx, hcy, Sem.run_bind, hgd, Result.andThen_ok, run_neq_struct, heq, Sem.run_pure]
end
end Go.AM
