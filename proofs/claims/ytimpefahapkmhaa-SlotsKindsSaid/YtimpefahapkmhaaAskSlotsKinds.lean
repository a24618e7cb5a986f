-- Written by wip/tools/mine.py (a program of this session, over the kit's print and texts of its own).
import Derived.Test.YtimpefahapkmhaaMrlaw20p2
import Derived.Test.YtimpefahapkmhaaMyRow
namespace Go.Proofs.Ytimpefahapkmhaa.AskSlotsKinds
open Go.RowKit Go.Proofs.Ytimpefahapkmhaa.M Go.Proofs.YtimpefahapkmhaaW.PrintWords Go.Proofs.YtimpefahapkmhaaW.PrintLast Go.Proofs.YtimpefahapkmhaaW.MyWords
set_option linter.unusedVariables false
def W52 (x : S52) : Prop := ((Lit.int .i64 x.f0).wf = true) ∧ ((Lit.int .i64 x.f1).wf = true) ∧ ((Lit.int .i64 x.f2).wf = true) ∧ ((Lit.int .i64 x.f3).wf = true) ∧ ((Lit.int .i64 x.f4).wf = true) ∧ ((Lit.int .i64 x.f5).wf = true) ∧ ((Lit.int .i64 x.f6).wf = true) ∧ ((Lit.int .i64 x.f7).wf = true) ∧ ((Lit.int .i64 x.f8).wf = true) ∧ ((Lit.int .i64 x.f9).wf = true) ∧ ((Lit.int .i64 x.f10).wf = true)
theorem open52 (w : World) : Opens Try.prog w k52 52 W52 :=
  Opens.struct (fun a => ⟨a.1, a.2.1, a.2.2.1, a.2.2.2.1, a.2.2.2.2.1, a.2.2.2.2.2.1, a.2.2.2.2.2.2.1, a.2.2.2.2.2.2.2.1, a.2.2.2.2.2.2.2.2.1, a.2.2.2.2.2.2.2.2.2.1, a.2.2.2.2.2.2.2.2.2.2⟩) Try.underlying52 (by kernel_rfl) (FOpens.cons (Opens.int Try.underlying3) rfl (by kernel_rfl) (FOpens.cons (Opens.int Try.underlying3) rfl (by kernel_rfl) (FOpens.cons (Opens.int Try.underlying3) rfl (by kernel_rfl) (FOpens.cons (Opens.int Try.underlying3) rfl (by kernel_rfl) (FOpens.cons (Opens.int Try.underlying3) rfl (by kernel_rfl) (FOpens.cons (Opens.int Try.underlying3) rfl (by kernel_rfl) (FOpens.cons (Opens.int Try.underlying3) rfl (by kernel_rfl) (FOpens.cons (Opens.int Try.underlying3) rfl (by kernel_rfl) (FOpens.cons (Opens.int Try.underlying3) rfl (by kernel_rfl) (FOpens.cons (Opens.int Try.underlying3) rfl (by kernel_rfl) (FOpens.one (Opens.int Try.underlying3) rfl (by kernel_rfl)))))))))))) (fun _ => rfl)

/-- What is left of SlotsKinds: yours. -/
def Pure : Prop := ∀ (x0 : S52) (a1 : Int), (W52 x0) → ((Lit.int .i64 a1).wf = true) → ∃ k, revetmentlaw20_SlotsKinds.f k x0.f0 x0.f1 x0.f2 x0.f3 x0.f4 x0.f5 x0.f6 x0.f7 x0.f8 x0.f9 x0.f10 a1 = some true
end Go.Proofs.Ytimpefahapkmhaa.AskSlotsKinds
