/- What a zone is for, of any settings and any number, as the reference says. No condition. -/
import Derived.Test.YtimpefahapkmhaaAskSlotsKinds
import Derived.Test.YtimpefahapkmhaaConfLib
namespace Go.Proofs.Ytimpefahapkmhaa.Pure
open Go.RowKit Go.Proofs.Ytimpefahapkmhaa.M Go.Proofs.Ytimpefahapkmhaa.ConfLib Go.Proofs.Ytimpefahapkmhaa.AskSlotsKinds Go.Proofs.YtimpefahapkmhaaW.PrintWords Go.Proofs.YtimpefahapkmhaaW.PrintLast Go.Proofs.YtimpefahapkmhaaW.PrintMore Go.Proofs.YtimpefahapkmhaaW.MyWords Go.Proofs.YtimpefahapkmhaaW.MyPure
theorem live20 : revetmentlaw20_live.f = some true := by decide +kernel
theorem checked {i v1 v2 v3 v4 v5 v6 v7 v8 v9 v10 : Int} (h : conf_Check.v i v1 v2 v3 v4 v5 v6 v7 v8 v9 v10 = 0) :
    1 ≤ v5 ∧ v5 ≤ 64 ∧ 1 ≤ v6 ∧ v6 ≤ 64 ∧ 3 ≤ v7 ∧ v7 ≤ 64 ∧ conf_All.v v1 v2 v3 v4 v5 v6 v7 v8 v9 v10 = v7 + v5 + v6 ∧ conf_Slots.v v1 v2 v3 v4 v5 v6 v7 v8 v9 v10 = v5 + v6 := by
  have hok : conf_Check.ok i v1 v2 v3 v4 v5 v6 v7 v8 v9 v10 = true := by
    cases hh : conf_Check.ok i v1 v2 v3 v4 v5 v6 v7 v8 v9 v10 with
    | true => rfl
    | false => unfold conf_Check.v at h; rw [hh] at h; simp at h
  simp only [conf_Check.ok, inB, Bool.and_eq_true, decide_eq_true_eq, beq_iff_eq] at hok
  obtain ⟨c0, c1, c2, c3, c4, _, c5, c6, c7, _, c9, c8, ca⟩ := hok
  have hs : saneB [v1, v2, v3, v4, v5, v6, v7, v8, v9, v10] = true := by
    simp only [saneB, okN, List.all_cons, List.all_nil, Bool.and_eq_true, decide_eq_true_eq, Bool.and_true]
    refine ⟨⟨by omega, by omega⟩, ⟨by omega, by omega⟩, ⟨by omega, by omega⟩, ⟨by omega, by omega⟩, ⟨by omega, by omega⟩, ⟨by omega, by omega⟩, ⟨by omega, by omega⟩, ⟨by omega, by omega⟩, ⟨by omega, by omega⟩, by omega, by omega⟩
  refine ⟨by omega, by omega, by omega, by omega, by omega, by omega, ?_, ?_⟩
  · unfold conf_All.v; rw [if_pos hs]
  · unfold conf_Slots.v; rw [if_pos hs]
theorem within_tells (i v1 v2 v3 v4 v5 v6 v7 v8 v9 v10 a n : Int) : slots_within.f i v1 v2 v3 v4 v5 v6 v7 v8 v9 v10 a n = some (decide (conf_Check.v i v1 v2 v3 v4 v5 v6 v7 v8 v9 v10 = 0) && (decide (0 ≤ a) && decide (a < n))) := by
  unfold slots_within.f conf_Check.f
  simp only [Option.bind_some]
  by_cases c : conf_Check.v i v1 v2 v3 v4 v5 v6 v7 v8 v9 v10 = 0
  · rw [if_pos c, decide_eq_true c]
    by_cases d : a ≥ 0
    · rw [if_pos d, decide_eq_true d]; rfl
    · rw [if_neg d, decide_eq_false d]; rfl
  · rw [if_neg c, decide_eq_false c]; rfl
theorem SlotsKinds : AskSlotsKinds.Pure := by
  rintro ⟨i, v1, v2, v3, v4, v5, v6, v7, v8, v9, v10⟩ a h ha
  have hw := wf_i64 h.2.2.2.2.2.2.2.2.2.2
  have haw := wf_i64 ha
  simp only at hw
  refine ⟨101, ?_⟩
  unfold revetmentlaw20_SlotsKinds.f slots_Kind.f revetmentref20_Kind.f
  simp only
  rw [check_tells 101 (by omega) _ _ _ _ _ _ _ _ _ _ _ hw.1]
  simp only [Option.bind_some, conf_All.f, within_tells]
  have jj : ∀ b : Bool, b = false → revetmentlaw20_SlotsKinds.j0 101 a b i v1 v2 v3 v4 v5 v6 v7 v8 v9 v10 = some true := by
    rintro b rfl
    simp only [revetmentlaw20_SlotsKinds.j0]
    rw [if_neg (by simp), check_tells 100 (by omega) _ _ _ _ _ _ _ _ _ _ _ hw.1, live20]
    unfold slots_Meta.f slots_Slot.f
    simp only [Option.bind_some, conf_Slots.f, within_tells]
    by_cases c : conf_Check.v i v1 v2 v3 v4 v5 v6 v7 v8 v9 v10 = 0
    · obtain ⟨q1, q2, q3, q4, q5, q6, q7, q8⟩ := checked c
      rw [decide_eq_true c, q8]
      simp only [if_pos c]
      have w1 : wrap64 (v5 + v6) = v5 + v6 := wrap64_id (by omega) (by omega)
      simp only [w1]
      by_cases d : a ≥ 0
      · have d0 : 0 ≤ a := d
        simp only [decide_eq_true d0, if_pos d, Bool.true_and]
        by_cases e1 : a < v7
        · by_cases e2 : a < v5 + v6
          · have w2 : v7 + a = a + v7 := by omega
            simp [e1, e2, w2]
          · simp [e1, e2]
        · by_cases e2 : a < v5 + v6
          · have w2 : v7 + a = a + v7 := by omega
            simp [e1, e2, w2]
          · simp [e1, e2]
      · have d0 : ¬ 0 ≤ a := d
        simp only [decide_eq_false d0, if_neg d]
        simp
    · rw [decide_eq_false c]
      simp only [if_neg c]
      simp
  have kk : ∀ b : Bool, revetmentref20_Kind.j0 101 a b i v1 v2 v3 v4 v5 v6 v7 v8 v9 v10 = if b = true then some (0, false, false) else if a < v7 then some (a, true, true) else some (wrap64 (a - v7), false, true) := fun b => by
    simp only [revetmentref20_Kind.j0]
  by_cases c : conf_Check.v i v1 v2 v3 v4 v5 v6 v7 v8 v9 v10 = 0
  · obtain ⟨q1, q2, q3, q4, q5, q6, q7, q8⟩ := checked c
    rw [decide_eq_true c, q7, if_pos c]
    have w1 : wrap64 (v7 + v5) = v7 + v5 := wrap64_id (by omega) (by omega)
    have w2 : wrap64 (v7 + v5 + v6) = v7 + v5 + v6 := wrap64_id (by omega) (by omega)
    rw [w1, w2, kk, kk]
    by_cases d : a < 0
    · have d' : ¬ 0 ≤ a := by omega
      rw [if_pos d, decide_eq_false d']
      simpa using jj false rfl
    · have d' : 0 ≤ a := by omega
      rw [if_neg d, decide_eq_true d']
      by_cases e : a < v7 + v5 + v6
      · have e' : ¬ a ≥ v7 + v5 + v6 := by omega
        rw [decide_eq_true e, decide_eq_false e']
        by_cases f : a < v7
        · simpa [f] using jj false rfl
        · simpa [f] using jj false rfl
      · have e' : a ≥ v7 + v5 + v6 := by omega
        rw [decide_eq_false e, decide_eq_true e']
        simpa using jj false rfl
  · rw [decide_eq_false c, if_neg c, kk]
    simpa using jj false rfl
end Go.Proofs.Ytimpefahapkmhaa.Pure
