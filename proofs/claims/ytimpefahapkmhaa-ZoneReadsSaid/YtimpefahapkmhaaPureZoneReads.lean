/- Which blocks any range of a zone has, or that it goes too far, is as the reference has it. No condition. -/
import Derived.Test.YtimpefahapkmhaaAskZoneReads
import Derived.Test.YtimpefahapkmhaaZoneLib
namespace Go.Proofs.Ytimpefahapkmhaa.Pure
open Go.RowKit Go.Proofs.Ytimpefahapkmhaa.M Go.Proofs.Ytimpefahapkmhaa.ZoneLib Go.Proofs.Ytimpefahapkmhaa.AskZoneReads Go.Proofs.YtimpefahapkmhaaW.PrintWords Go.Proofs.YtimpefahapkmhaaW.PrintLast Go.Proofs.YtimpefahapkmhaaW.PrintMore Go.Proofs.YtimpefahapkmhaaW.MyPure
theorem live04_20 : revetmentlaw04_live.f 20 = some true := by decide +kernel
theorem live04 (k : Nat) (hk : 20 ≤ k) : revetmentlaw04_live.f k = some true := at_rounds (fun k => revetmentlaw04_live.mono k) hk live04_20
theorem ZoneReads : AskZoneReads.Pure := by
  intro blk0 b p n hblk hb hp hn
  refine ⟨6000, ?_⟩
  unfold revetmentlaw04_ZoneReads.f
  by_cases c : (b.length : Int) > 500
  · rw [if_pos c, live04 _ (by omega)]; rfl
  rw [if_neg c]
  obtain ⟨cap, blk, h1, h2, h3⟩ := new_tells 600 (wrap64 blk0)
  rw [h1, h2]
  simp only [Option.bind_some]
  rcases append_tells h3 false b (by omega) 6000 (by omega) with ⟨e, he, a1, a2⟩ | ⟨_, L', a1, a2, a3, M, _⟩
  · rw [a1, a2]
    simp only [Option.bind_some, revetmentlaw04_code.f, if_true]
    have he0 : ¬ e = 0 := by omega
    rw [if_neg he0, live04 _ (by omega)]
    rfl
  · rw [a1, a2]
    simp only [Option.bind_some, revetmentlaw04_code.f, if_true]
    obtain ⟨s, e, r1, r2, _⟩ := read_tells a3 false p n 6000 (by omega)
    simp only [List.nil_append] at r1 ⊢
    rw [r1, r2, live04 _ (by omega)]
    simp only [Option.bind_some, if_true]
end Go.Proofs.Ytimpefahapkmhaa.Pure
