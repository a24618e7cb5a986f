-- Written by wip/tools/mine.py (a program of this session, over the kit's print and texts of its own).
import Derived.Test.YthpggaglmdnncaaMrlaw19p2
import Derived.Test.YthpggaglmdnncaaMyRow
namespace Go.Proofs.Ythpggaglmdnncaa.AskBitmapPlays
open Go.RowKit Go.Proofs.Ythpggaglmdnncaa.M Go.Proofs.YthpggaglmdnncaaW.PrintWords Go.Proofs.YthpggaglmdnncaaW.PrintLast Go.Proofs.YthpggaglmdnncaaW.MyWords
set_option linter.unusedVariables false
def W102 (x : S102) : Prop := ((Lit.int .i64 x.f0).wf = true) ∧ (True) ∧ (x.f2.length ≤ 9223372036854775807 ∧ x.f2.length * 8 ≤ 140737488351232 ∧ ∀ y ∈ x.f2, (Lit.int .i64 y).wf = true) ∧ ((Lit.int .i64 x.f3).wf = true) ∧ ((Lit.int .i64 x.f4).wf = true)
theorem open102 (w : World) : Opens Try.prog w k102 102 W102 :=
  Opens.struct (fun a => ⟨a.1, a.2.1, a.2.2.1, a.2.2.2.1, a.2.2.2.2⟩) Try.underlying102 (by kernel_rfl) (FOpens.cons (Opens.int Try.underlying3) rfl (by kernel_rfl) (FOpens.cons (Opens.bool Try.underlying4) rfl (by kernel_rfl) (FOpens.cons (Opens.slice (Opens.int Try.underlying3) Try.underlying100 (by kernel_rfl) (by kernel_rfl)) rfl (by kernel_rfl) (FOpens.cons (Opens.int Try.underlying3) rfl (by kernel_rfl) (FOpens.one (Opens.int Try.underlying3) rfl (by kernel_rfl)))))) (fun _ => rfl)

/-- What is left of BitmapPlays: yours. -/
def Pure : Prop := ∀ (a0 : Int) (l1 : List (S102)) (a2 : Int), ((Lit.int .i64 a0).wf = true) → (l1.length ≤ 9223372036854775807 ∧ l1.length * 56 ≤ 140737488351232 ∧ ∀ y ∈ l1, W102 y) → ((Lit.int .i64 a2).wf = true) → ∃ k, revetmentlaw19_BitmapPlays.f k a0 l1 a2 = some true
end Go.Proofs.Ythpggaglmdnncaa.AskBitmapPlays
