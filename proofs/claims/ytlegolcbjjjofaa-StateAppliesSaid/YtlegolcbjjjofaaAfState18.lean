/- The law StateApplies. -/
import Derived.Test.YtlegolcbjjjofaaAfState17
namespace Go.Proofs.Ytlegolcbjjjofaa.AmF
open Go Go.AM
set_option maxRecDepth 100000
set_option maxHeartbeats 4000000
set_option linter.unusedSimpArgs false
set_option linter.unusedVariables false
attribute [local simp] tkeep tget tput ev cav argsTM pickA normT putA splice AV.cells ints_length rowsA_length Prs_len Zns_len
def SizedS (s : St) : Prop := s.st.length ≤ 140737488355328 ∧ s.zs.length ≤ 140737488355328 ∧ (∀ z ∈ s.zs, z.pars.length ≤ 140737488355328) ∧ ∀ z ∈ s.zs, ∀ p ∈ z.pars, p.b.length ≤ 140737488355328
theorem last2_len (l : List Pr) : (last2 l).length ≤ 2 := by unfold last2; rw [List.length_drop]; omega
theorem stepZ_pars {c : Cf} {zs : List Zn} {rb : Bool} {z z' : Zn} {x : Rc} (h : stepZ c zs rb z x = some z') : z'.pars.length ≤ max z.pars.length 2 := by
  have h2 := last2_len (z.pars ++ [⟨x.w, x.body⟩])
  unfold stepZ at h
  repeat' split at h
  all_goals first | (cases h; done) | (cases h; simp; done) | (cases h; simp; omega) | (cases h; show z.pars.length ≤ _; omega)
theorem applyS_few {s : St} {x : Rc} (hf : FewS s) : (applyS s x).1.st.length ≤ 1000000 ∧ (applyS s x).1.zs.length ≤ 1000000 ∧ ∀ z ∈ (applyS s x).1.zs, z.pars.length ≤ 1000000 := by
  have h1 := hf.2.1
  have h2 := hf.2.2
  unfold applyS
  split
  · split
    · split
      · rename_i t ht
        unfold stepS at ht
        split at ht
        · split at ht
          · cases ht
            refine ⟨by simp; omega, by simp; omega, fun z hz => ?_⟩
            obtain ⟨y, hy, rfl⟩ := List.mem_map.1 hz
            have := FewS_pars hf hy
            show y.pars.length ≤ _; omega
          · cases ht
        · split at ht
          · split at ht
            · rename_i z hz
              rw [Option.map_eq_some_iff] at ht
              obtain ⟨z', hz', rfl⟩ := ht
              refine ⟨by show s.st.length ≤ _; omega, by simp; omega, fun y hy => ?_⟩
              have h3 := stepZ_pars hz'
              have h4 := FewS_pars hf (List.mem_of_getElem? hz)
              rcases List.mem_or_eq_of_mem_set hy with h | rfl
              · have := FewS_pars hf h; omega
              · omega
            · cases ht
          · cases ht
      · exact ⟨by simp [St0], by simp [St0], fun z hz => by simp [St0] at hz⟩
    · exact ⟨by simp [St0], by simp [St0], fun z hz => by simp [St0] at hz⟩
  · exact ⟨by simp [St0], by simp [St0], fun z hz => by simp [St0] at hz⟩
theorem stateApplies_ok (s : St) (x : Rc) (hs : SizedS s) (hxg : -9223372036854775808 ≤ x.gen ∧ x.gen ≤ 9223372036854775807) (hxs : -9223372036854775808 ≤ x.seq ∧ x.seq ≤ 9223372036854775807) : CSpec Try.prog 5 [] [.agg (StC s), .agg (RcC x)] [] (.b true) := by
 refine CSpec.body Try.func5 rfl rfl rfl rfl rfl fun Q hQ => ?_
 refine T.seq fun K1 hK1 => ?_
 refine T.region ?_ -- region 0
 refine ro rfl rfl (OpOk.step (ok_box (n := 15) rfl rfl (by decide))) ?_
 refine ro rfl rfl (OpOk.step (ok_box (n := 10) rfl rfl (by decide))) ?_
 refine ro rfl rfl (OpOk.step (ok_moveb (c := false) (.inr rfl) rfl)) ?_
 refine ro_nil ?_
 refine keepK hK1 [2, 3] (by dsimp) (by dsimp) ?_
 refine T.seq fun K2 hK2 => ?_
 refine T.seq fun K3 hK3 => ?_
 refine T.region ?_ -- region 1
 refine ro rfl rfl (OpOk.step (ok_load rfl ti_api_State rfl rfl)) ?_
 refine ro rfl rfl (ok_call rfl rfl rfl ((smuch_ok s hs.1 hs.2.1 hs.2.2.1 hs.2.2.2).plain (by simp [renL, AV.ren, StC_take, StC_ren]) rfl)) ?_
 refine ro_case rfl rfl (OpOk.step (ok_moveb (.inl rfl) rfl)) (fun hb => ?_) (fun hb => ?_)
 ·(try simp only [dE] at hb)
  refine ro_skip rfl rfl ?_
  refine ro_skip rfl rfl ?_
  refine ro_skip rfl rfl ?_
  refine ro_skip rfl rfl ?_
  refine ro rfl rfl (OpOk.step (ok_pickb (t := true) (d := true) rfl rfl rfl)) ?_
  refine ro_nil ?_
  refine keepK hK3 [2, 3, 16] (by dsimp) (by dsimp) ?_
  refine T.cond_true rfl ?_
  refine T.seq fun K4 hK4 => ?_
  refine T.region ?_ -- region 2
  refine ro rfl rfl (ok_call rfl rfl rfl (live11_ok.plain rfl rfl)) ?_
  refine ro rfl rfl (OpOk.step (ok_move (.inr rfl))) ?_
  refine ro_nil ?_
  refine keepK hK4 [4] (by dsimp) (by dsimp) ?_
  refine T.ret (hQ _ _ _ rfl ?_).1 -- ret 1
  exact TEnt.fin [] (by decide) (by simp) rfl ⟨rfl, trivial⟩
 ·(try simp only [dE] at hb)
  refine ro rfl rfl (OpOk.step (ok_fieldAddr rfl ti_api_Rec rfl rfl ti_Luint8 (by decide) rfl)) ?_
  refine ro rfl rfl (OpOk.step (ok_load rfl ti_Luint8 rfl rfl)) ?_
  refine ro rfl rfl (OpOk.step (ok_len' rfl rfl ti_Luint8 rfl (by first | exact ints_length _ _ | exact rowsA_length _ _ | exact Cms_len _ | exact mapLen _ | rfl))) ?_
  refine ro rfl rfl (OpOk.step (ok_binOp rfl ti_int rfl)) ?_
  refine ro rfl rfl (OpOk.step (ok_pick rfl rfl)) ?_
  refine ro_nil ?_
  refine keepK hK3 [2, 3, 16] (by dsimp) (by dsimp) ?_
  refine T.cond rfl (fun hc => ?_) (fun hc => ?_) -- cond 1
  ·(try simp only [dE] at hc)
   refine T.seq fun K5 hK5 => ?_
   refine T.region ?_ -- region 2
   refine ro rfl rfl (ok_call rfl rfl rfl (live11_ok.plain rfl rfl)) ?_
   refine ro rfl rfl (OpOk.step (ok_move (.inr rfl))) ?_
   refine ro_nil ?_
   refine keepK hK5 [4] (by dsimp) (by dsimp) ?_
   refine T.ret (hQ _ _ _ rfl ?_).1 -- ret 2
   exact TEnt.fin [] (by decide) (by simp) rfl ⟨rfl, trivial⟩
  ·(try simp only [dE] at hc)
   refine T.skip ?_
   refine keepK hK2 [2, 3] (by dsimp) (by dsimp) ?_
   refine T.seq fun K6 hK6 => ?_
   have hf : FewS s := FewS_of (by assumption)
   have hap := applyS_few (x := x) hf
   have hp6 : ∀ z ∈ s.zs, z.pars.length ≤ 1000000 := fun z hz => by have := FewS_pars hf hz; omega
   have hst6 := hf.2.2
   have hzs6 := hf.2.1
   refine T.region ?_ -- region 3
   refine ro rfl rfl (OpOk.step (ok_load rfl ti_api_State rfl rfl)) ?_
   refine ro rfl rfl (OpOk.step (ok_load rfl ti_api_Rec rfl rfl)) ?_
   refine ro rfl rfl (ok_call rfl rfl rfl ((sapply_ok s x (by omega) (by omega) hp6 hs.2.2.2 (by omega)).plain (by simp [renL, AV.ren, StC_take, StC_ren, RcC_take, RcC_ren]) (by simp [AV.ren, renL, StC_ren]))) ?_
   refine ro rfl rfl (OpOk.step (ok_move (.inl rfl))) ?_
   refine ro rfl rfl (OpOk.step (ok_extract rfl rfl rfl)) ?_
   refine ro rfl rfl (OpOk.step (ok_extract rfl rfl rfl)) ?_
   refine ro rfl rfl (OpOk.step (ok_alloc rfl ti_api_State rfl (by decide))) ?_
   refine ro rfl rfl (OpOk.step (ok_store rfl ti_api_State (by decide) rfl rfl rfl rfl rfl (by first | exact Nat.le_of_ble_eq_true rfl | simp) (by first | exact .inl ⟨rfl, rfl⟩ | exact .inr rfl))) ?_
   refine ro rfl rfl (OpOk.step (ok_move (.inr rfl))) ?_
   refine ro_nil ?_
   refine keepK hK6 [2, 3, 5, 6] (by dsimp) (by dsimp) ?_
   refine T.seq fun K7 hK7 => ?_
   refine T.region ?_ -- region 4
   refine ro rfl rfl (OpOk.step (ok_load rfl ti_api_State rfl rfl)) ?_
   refine ro rfl rfl (OpOk.step (ok_load rfl ti_api_Rec rfl rfl)) ?_
   refine ro rfl rfl (ok_call rfl rfl rfl ((rapply_ok s x hxg hxs (by omega) (by omega) (by omega)).plain (by simp [renL, AV.ren, StC_take, StC_ren, RcC_take, RcC_ren]) (by simp [AV.ren, renL, StC_ren]))) ?_
   refine ro rfl rfl (OpOk.step (ok_move (.inl rfl))) ?_
   refine ro rfl rfl (OpOk.step (ok_extract rfl rfl rfl)) ?_
   refine ro rfl rfl (OpOk.step (ok_extract rfl rfl rfl)) ?_
   refine ro rfl rfl (OpOk.step (ok_alloc rfl ti_api_State rfl (by decide))) ?_
   refine ro rfl rfl (OpOk.step (ok_store rfl ti_api_State (by decide) rfl rfl rfl rfl rfl (by first | exact Nat.le_of_ble_eq_true rfl | simp) (by first | exact .inl ⟨rfl, rfl⟩ | exact .inr rfl))) ?_
   refine ro rfl rfl (OpOk.step (ok_move (.inr rfl))) ?_
   refine ro_nil ?_
   refine keepK hK7 [5, 6, 7, 8] (by dsimp) (by dsimp) ?_
   refine T.seq fun K8 hK8 => ?_
   refine T.region ?_ -- region 5
   refine ro rfl rfl (OpOk.step (ok_load rfl ti_api_State rfl rfl)) ?_
   refine ro rfl rfl (OpOk.step (ok_load rfl ti_api_State rfl rfl)) ?_
   refine ro rfl rfl (ok_call rfl rfl rfl ((((rsame11_ok (applyS s x).1 (applyS s x).1 ⟨hap.1, hap.2.1⟩ hap.2.2).plain (by simp [renL, AV.ren, StC_take, StC_ren]) rfl)).eq (x' := .b true) (by rw [seB_true (SE_refl _)]) rfl)) ?_
   refine ro rfl rfl (OpOk.step (OpOk.bool (d := true) (ok_moveb (.inl rfl) rfl) (rfl))) ?_
   refine ro rfl rfl (OpOk.step (ok_move (.inl rfl))) ?_
   refine ro rfl rfl (ok_call rfl rfl rfl ((code11_ok (applyS s x).2).plain rfl rfl)) ?_
   refine ro rfl rfl (OpOk.step (ok_move (.inl rfl))) ?_
   refine ro rfl rfl (OpOk.step ((ok_binOp rfl ti_int rfl).eq (x' := .b true) (by simp) rfl)) ?_
   refine ro rfl rfl (OpOk.step (ok_pick rfl rfl)) ?_
   refine ro rfl rfl (OpOk.step (OpOk.bool (d := true) (ok_moveb (.inl rfl) rfl) (rfl))) ?_
   refine ro rfl rfl (ok_call rfl rfl rfl (live11_ok.plain rfl rfl)) ?_
   refine ro rfl rfl (OpOk.step (ok_pick rfl rfl)) ?_
   refine ro rfl rfl (OpOk.step (ok_move (.inr rfl))) ?_
   refine ro_nil ?_
   refine keepK hK8 [4] (by dsimp) (by dsimp) ?_
   refine T.ret (hQ _ _ _ rfl ?_).1 -- ret 3
   exact TEnt.fin [] (by decide) (by simp) rfl ⟨rfl, trivial⟩
end Go.Proofs.Ytlegolcbjjjofaa.AmF
