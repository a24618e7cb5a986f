/- What conf says of any settings is what the reference says: the numbers, and whether they may be. No condition. -/
import Derived.Test.YtimpefahapkmhaaAskConfChecks
import Derived.Test.YtimpefahapkmhaaConfLib
namespace Go.Proofs.Ytimpefahapkmhaa.Pure
open Go.RowKit Go.Proofs.Ytimpefahapkmhaa.M Go.Proofs.Ytimpefahapkmhaa.ConfLib Go.Proofs.Ytimpefahapkmhaa.AskConfChecks Go.Proofs.YtimpefahapkmhaaW.PrintWords Go.Proofs.YtimpefahapkmhaaW.PrintLast Go.Proofs.YtimpefahapkmhaaW.PrintMore Go.Proofs.YtimpefahapkmhaaW.MyWords Go.Proofs.YtimpefahapkmhaaW.MyPure
theorem live7 : revetmentlaw07_live.f = some true := by decide +kernel
theorem ConfChecks : AskConfChecks.Pure := by
  rintro ⟨i, v1, v2, v3, v4, v5, v6, v7, v8, v9, v10⟩ h
  have hw := wf_i64 h.2.2.2.2.2.2.2.2.2.2
  simp only at hw
  refine ⟨100, ?_⟩
  unfold revetmentlaw07_ConfChecks.f
  simp only
  rw [numbers_tells 100 (by omega), check_tells 100 (by omega) _ _ _ _ _ _ _ _ _ _ _ hw.1, live7]
  simp only [Option.bind_some, conf_Data.f, conf_Row.f, conf_Stripes.f, conf_Size.f, conf_Slots.f, conf_All.f, conf_Room.f, conf_Check.f, revetmentlaw07_code.f, if_pos]
end Go.Proofs.Ytimpefahapkmhaa.Pure
