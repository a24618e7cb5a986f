-- Written by wip/tools/mine.py (a program of this session, over the kit's print and texts of its own).
import Derived.Test.YtimpefahapkmhaaMrlaw04p2
import Derived.Test.YtimpefahapkmhaaMyRow
namespace Go.Proofs.Ytimpefahapkmhaa.AskZoneReads
open Go.RowKit Go.Proofs.Ytimpefahapkmhaa.M Go.Proofs.YtimpefahapkmhaaW.PrintWords Go.Proofs.YtimpefahapkmhaaW.PrintLast Go.Proofs.YtimpefahapkmhaaW.MyWords
set_option linter.unusedVariables false
/-- What is left of ZoneReads: yours. -/
def Pure : Prop := ∀ (a0 : Int) (l1 : List Int) (a2 : Int) (a3 : Int), ((Lit.int .u8 a0).wf = true) → (l1.length ≤ 9223372036854775807 ∧ l1.length * 1 ≤ 140737488351232 ∧ ∀ y ∈ l1, (Lit.int .u8 y).wf = true) → ((Lit.int .i64 a2).wf = true) → ((Lit.int .i64 a3).wf = true) → ∃ k, revetmentlaw04_ZoneReads.f k a0 l1 a2 a3 = some true
end Go.Proofs.Ytimpefahapkmhaa.AskZoneReads
