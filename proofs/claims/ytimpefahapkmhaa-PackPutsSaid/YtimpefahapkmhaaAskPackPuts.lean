-- Written by wip/tools/mine.py (a program of this session, over the kit's print and texts of its own).
import Derived.Test.YtimpefahapkmhaaMrlaw01p2
import Derived.Test.YtimpefahapkmhaaMyRow
namespace Go.Proofs.Ytimpefahapkmhaa.AskPackPuts
open Go.RowKit Go.Proofs.Ytimpefahapkmhaa.M Go.Proofs.YtimpefahapkmhaaW.PrintWords Go.Proofs.YtimpefahapkmhaaW.PrintLast Go.Proofs.YtimpefahapkmhaaW.MyWords
set_option linter.unusedVariables false
/-- What is left of PackPuts: yours. -/
def Pure : Prop := ∀ (l0 : List Int) (a1 : Int) (l2 : List Int) (a3 : Bool) (a4 : Int), (l0.length ≤ 9223372036854775807 ∧ l0.length * 1 ≤ 140737488351232 ∧ ∀ y ∈ l0, (Lit.int .u8 y).wf = true) → ((Lit.int .i64 a1).wf = true) → (l2.length ≤ 9223372036854775807 ∧ l2.length * 1 ≤ 140737488351232 ∧ ∀ y ∈ l2, (Lit.int .u8 y).wf = true) → ((Lit.int .i64 a4).wf = true) → ∃ k, revetmentlaw01_PackPuts.f k l0 a1 l2 a3 a4 = some true
end Go.Proofs.Ytimpefahapkmhaa.AskPackPuts
