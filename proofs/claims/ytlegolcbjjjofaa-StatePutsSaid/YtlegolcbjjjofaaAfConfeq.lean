/- Two settings, are they the same; and settings as a row hands them. -/
import Derived.Test.YtlegolcbjjjofaaAfConf
namespace Go.Proofs.Ytlegolcbjjjofaa.AmF
open Go Go.AM
set_option maxRecDepth 100000
set_option linter.unusedSimpArgs false
set_option linter.unusedVariables false
attribute [local simp] tkeep tget tput ev cav argsTM pickA normT putA splice AV.cells ints_length
theorem eqLeafs_ints (k : IntKind) : ∀ (a b : List Int), a.length = b.length → eqLeafs (ints k a) (ints k b) = some (decide (a = b))
  | [], [], _ => by simp [ints, eqLeafs]
  | x :: a, y :: b, h => by
    have ih := eqLeafs_ints k a b (by simpa using h)
    simp only [ints, List.map_cons, eqLeafs, eqLeaf, if_true, Option.bind_some] at ih ⊢
    rw [ih]
    simp only [Option.map_some, Option.some.injEq]
    by_cases h1 : x = y
    · subst h1; simp
    · simp [h1]
theorem Cf.l_inj {c d : Cf} : c.l = d.l ↔ c = d := by
  cases c; cases d; simp [Cf.l]
theorem und_of {P : Program} {t : TypeId} {i : TI} {d : TypeDesc} (hi : tyI P t = some i) (hd : i.desc = d) : P.underlying t = some d := by
  subst hd
  unfold tyI at hi
  obtain ⟨ti, h1, h⟩ := Option.bind_eq_some_iff.1 hi
  obtain ⟨d, h2, h⟩ := Option.bind_eq_some_iff.1 h
  obtain ⟨z, h3, h⟩ := Option.map_eq_some_iff.1 h
  subst h
  exact h2
theorem eq_conf {tm : TM} {H : Heap} {o : Oper} {op : BinOp} {t' : TypeId} {p q : Operand} {c d : Cf} (ho : o.op = .binOp op 47 p q t') (hop : op = .eql ∨ op = .neq) (hp : ev tm p = .agg (CC c)) (hq : ev tm q = .agg (CC d)) :
    OpOk Try.prog tm H o (.b (if op = .eql then decide (c = d) else !decide (c = d))) H := by
  refine ok_eqS ho (und_of ti_api_Conf rfl) (by kernel_rfl) (by kernel_rfl) hop (l := CC c) (m := CC d) (by rw [hp]; rfl) (by rw [hq]; rfl) rfl ?_
  have := eqLeafs_ints .i64 c.l d.l rfl
  rw [CC, CC, this]
  congr 1
  rw [decide_eq_decide]
  exact Cf.l_inj
abbrev Cf11 := Int × Int × Int × Int × Int × Int × Int × Int × Int × Int × Int
def cfOf (a : Cf11) : Cf := ⟨a.1, a.2.1, a.2.2.1, a.2.2.2.1, a.2.2.2.2.1, a.2.2.2.2.2.1, a.2.2.2.2.2.2.1, a.2.2.2.2.2.2.2.1, a.2.2.2.2.2.2.2.2.1, a.2.2.2.2.2.2.2.2.2.1, a.2.2.2.2.2.2.2.2.2.2⟩
end Go.Proofs.Ytlegolcbjjjofaa.AmF
