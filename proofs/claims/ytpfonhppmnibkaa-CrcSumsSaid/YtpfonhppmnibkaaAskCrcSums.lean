-- Written by wip/tools/mine.py (a program of this session, over the kit's print and texts of its own).
import Derived.Test.YtpfonhppmnibkaaM11
import Derived.Test.YtpfonhppmnibkaaMyRow
namespace Go.Proofs.Ytpfonhppmnibkaa.AskCrcSums
open Go.RowKit Go.Proofs.Ytpfonhppmnibkaa.M Go.Proofs.YtpfonhppmnibkaaW.PrintWords Go.Proofs.YtpfonhppmnibkaaW.PrintLast Go.Proofs.YtpfonhppmnibkaaW.MyWords
set_option linter.unusedVariables false
/-- What is left of CrcSums: yours. -/
def Pure : Prop := ∀ (l0 : List Int) (a1 : Int) (a2 : Int), (l0.length ≤ 9223372036854775807 ∧ l0.length * 1 ≤ 140737488351232 ∧ ∀ y ∈ l0, (Lit.int .u8 y).wf = true) → ((Lit.int .u32 a1).wf = true) → ((Lit.int .u8 a2).wf = true) → ∃ k, revetmentlaw02_CrcSums.f k l0 a1 a2 = some true
end Go.Proofs.Ytpfonhppmnibkaa.AskCrcSums
