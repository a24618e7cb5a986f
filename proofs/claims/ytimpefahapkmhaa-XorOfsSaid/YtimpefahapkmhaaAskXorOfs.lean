-- Written by wip/tools/mine.py (a program of this session, over the kit's print and texts of its own).
import Derived.Test.YtimpefahapkmhaaMrlaw03p3
import Derived.Test.YtimpefahapkmhaaMyRow
namespace Go.Proofs.Ytimpefahapkmhaa.AskXorOfs
open Go.RowKit Go.Proofs.Ytimpefahapkmhaa.M Go.Proofs.YtimpefahapkmhaaW.PrintWords Go.Proofs.YtimpefahapkmhaaW.PrintLast Go.Proofs.YtimpefahapkmhaaW.MyWords
set_option linter.unusedVariables false
/-- What is left of XorOfs: yours. -/
def Pure : Prop := ∀ (l0 : List (List Int)) (l1 : List Int) (l2 : List Int), (l0.length ≤ 9223372036854775807 ∧ l0.length * 24 ≤ 140737488351232 ∧ ∀ y ∈ l0, y.length ≤ 9223372036854775807 ∧ y.length * 1 ≤ 140737488351232 ∧ ∀ z ∈ y, (Lit.int .u8 z).wf = true) → (l1.length ≤ 9223372036854775807 ∧ l1.length * 1 ≤ 140737488351232 ∧ ∀ y ∈ l1, (Lit.int .u8 y).wf = true) → (l2.length ≤ 9223372036854775807 ∧ l2.length * 1 ≤ 140737488351232 ∧ ∀ y ∈ l2, (Lit.int .u8 y).wf = true) → ∃ k, revetmentlaw03_XorOfs.f k l0 l1 l2 = some true
end Go.Proofs.Ytimpefahapkmhaa.AskXorOfs
