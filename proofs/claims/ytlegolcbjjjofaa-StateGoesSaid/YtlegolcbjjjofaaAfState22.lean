/- The law StateGoes. -/
import Derived.Test.YtlegolcbjjjofaaAfState21
namespace Go.Proofs.Ytlegolcbjjjofaa.AmF
open Go Go.AM
set_option maxRecDepth 100000
set_option maxHeartbeats 4000000
set_option linter.unusedSimpArgs false
set_option linter.unusedVariables false
attribute [local simp] tkeep tget tput ev cav argsTM pickA normT putA splice AV.cells ints_length rowsA_length Prs_len Zns_len
theorem stateGoes_ok (c : Cf) (l : List Rc) (hl : l.length ≤ 140737488355328) (hbd : ∀ x ∈ l, x.body.length ≤ 140737488355328) : CSpec Try.prog 6 [] [.agg (CC c), .fz 10 (Rcl l)] [] (.b true) := by
 obtain ⟨s0, hs0⟩ : ∃ s, (newR c).1 = s := ⟨_, rfl⟩
 have hnew := snewR_ok c
 rw [hs0, newR_err] at hnew
 have hsame := newR_same c
 rw [hs0] at hsame
 have hfew := newR_few c
 rw [hs0] at hfew
 refine CSpec.body Try.func6 rfl rfl rfl rfl rfl fun Q hQ => ?_
 refine T.seq fun K1 hK1 => ?_
 refine T.region ?_ -- region 0
 refine ro rfl rfl (OpOk.step (ok_box (n := 11) rfl rfl (by decide))) ?_
 refine ro rfl rfl (OpOk.step (ok_moveb (c := false) (.inr rfl) rfl)) ?_
 refine ro_nil ?_
 refine keepK hK1 [1, 2] (by dsimp) (by dsimp) ?_
 refine T.seq fun K2 hK2 => ?_
 refine T.region ?_ -- region 1
 refine ro rfl rfl (OpOk.step (ok_load rfl ti_api_Conf rfl rfl)) ?_
 refine ro rfl rfl (ok_call rfl rfl rfl (hnew.plain (by show renL _ [.agg (CC c)] = _; simp [renL, AV.ren, CC_ren]) (by simp [AV.ren, renL, StC_ren]))) ?_
 refine ro rfl rfl (OpOk.step (ok_move (.inl rfl))) ?_
 refine ro rfl rfl (OpOk.step (ok_extract rfl rfl rfl)) ?_
 refine ro rfl rfl (OpOk.step (ok_extract rfl rfl rfl)) ?_
 refine ro rfl rfl (OpOk.step (ok_alloc rfl ti_api_State rfl (by decide))) ?_
 refine ro rfl rfl (OpOk.step (ok_store rfl ti_api_State (by decide) rfl rfl rfl rfl rfl (by first | exact Nat.le_of_ble_eq_true rfl | simp) (by first | exact .inl ⟨rfl, rfl⟩ | exact .inr rfl))) ?_
 refine ro rfl rfl (OpOk.step (ok_move (.inr rfl))) ?_
 refine ro_nil ?_
 refine keepK hK2 [1, 2, 5, 6] (by dsimp) (by dsimp) ?_
 refine T.seq fun K3 hK3 => ?_
 refine T.seq fun K4 hK4 => ?_
 refine T.draw mixed (SH [] (HeldL ([some (CB c), some (StB s0)]))) ?_ -- region 2
 refine any_take 0 rfl (by first | rfl | decide +kernel) rfl (by first | (simp [HeldL]; done) | (simp only [HeldL, List.map_cons, List.map_nil, List.cons_append, List.nil_append, List.set_cons_zero, List.set_cons_succ]; (repeat' first | trivial | rfl | constructor))) (fun H' hH => OpOk.step (ok_move (.inl rfl))) ?_
 refine any_take 2 rfl (by first | rfl | decide +kernel) rfl (by first | (simp [HeldL]; done) | (simp only [HeldL, List.map_cons, List.map_nil, List.cons_append, List.nil_append, List.set_cons_zero, List.set_cons_succ]; (repeat' first | trivial | rfl | constructor))) (fun H' hH => OpOk.step (ok_load rfl ti_api_Conf (locA_held hH rfl) rfl)) ?_
 refine any_one 1 rfl (by first | rfl | decide +kernel) rfl rfl (ok_call rfl rfl rfl ((code11_ok (chkC c)).plain rfl rfl)) (.inr (by first | (simp [HeldL]; done) | (simp only [HeldL, List.map_cons, List.map_nil, List.cons_append, List.nil_append, List.set_cons_zero, List.set_cons_succ]; (repeat' first | trivial | rfl | constructor)))) ?_
 refine any_one 3 rfl (by first | rfl | decide +kernel) rfl rfl (ok_call rfl rfl rfl ((rcheck_ok c).plain (by show renL _ [.agg (CC c)] = _; simp [renL, AV.ren, CC_ren]) rfl)) (.inr (by first | (simp [HeldL]; done) | (simp only [HeldL, List.map_cons, List.map_nil, List.cons_append, List.nil_append, List.set_cons_zero, List.set_cons_succ]; (repeat' first | trivial | rfl | constructor)))) ?_
 refine any_take 4 rfl (by first | rfl | decide +kernel) rfl (by first | (simp [HeldL]; done) | (simp only [HeldL, List.map_cons, List.map_nil, List.cons_append, List.nil_append, List.set_cons_zero, List.set_cons_succ]; (repeat' first | trivial | rfl | constructor))) (fun H' hH => OpOk.step (OpOk.bool (d := false) (ok_binOp rfl ti_int rfl) ((by simp)))) ?_
 refine any_done rfl ?_
 refine keepK hK4 [1, 2, 5, 6, 22] (by dsimp) (by dsimp) ?_
 refine T.cond_false rfl ?_
 refine T.skip ?_
 refine keepK hK3 [1, 2, 5, 6] (by dsimp) (by dsimp) ?_
 refine T.seq fun K5 hK5 => ?_
 refine T.seq fun K6 hK6 => ?_
 refine T.region ?_ -- region 4
 refine ro rfl rfl (OpOk.step (ok_move (.inl rfl))) ?_
 refine ro rfl rfl (ok_call rfl rfl rfl ((code11_ok (chkC c)).plain rfl rfl)) ?_
 refine ro rfl rfl (OpOk.step (ok_binOp rfl ti_int rfl)) ?_
 refine ro_case rfl rfl (OpOk.step (ok_moveb (.inl rfl) rfl)) (fun hb => ?_) (fun hb => ?_)
 ·(try simp only [dE] at hb)
  refine ro_skip rfl rfl ?_
  refine ro_skip rfl rfl ?_
  refine ro_skip rfl rfl ?_
  refine ro rfl rfl (OpOk.step (ok_pickb (t := true) (d := true) rfl rfl rfl)) ?_
  refine ro rfl rfl (OpOk.step (ok_moveb (c := true) (.inl rfl) rfl)) ?_
  refine ro_skip rfl rfl ?_
  refine ro_skip rfl rfl ?_
  refine ro_skip rfl rfl ?_
  refine ro rfl rfl (OpOk.step (ok_pickb (t := true) (d := true) rfl rfl rfl)) ?_
  refine ro_nil ?_
  refine keepK hK6 [1, 2, 5, 6, 35] (by dsimp) (by dsimp) ?_
  refine T.cond_true rfl ?_
  refine T.seq fun K7 hK7 => ?_
  refine T.region ?_ -- region 5
  refine ro rfl rfl (OpOk.step (ok_load rfl ti_api_State rfl rfl)) ?_
  refine ro rfl rfl (OpOk.step ((ok_build rfl ti_api_State rfl).tent ((TEnt.put1 0 (x' := .agg (StC St0)) Ent.st0).trans (TEnt.to ⟨rfl, trivial⟩)))) ?_
  refine ro rfl rfl (ok_call rfl rfl rfl ((rsame11_ok s0 St0 hfew.1 hfew.2).plain (by simp [renL, AV.ren, StC_take, StC_ren]) rfl)) ?_
  refine ro rfl rfl (OpOk.step (ok_move (.inl rfl))) ?_
  refine ro rfl rfl (ok_call rfl rfl rfl ((code11_ok (chkC c)).plain rfl rfl)) ?_
  refine ro rfl rfl (OpOk.step (ok_binOp rfl ti_int rfl)) ?_
  refine ro rfl rfl (OpOk.step ((ok_binOp rfl ti_bool rfl).eq (x' := .b true) (by rw [hsame]; by_cases h : chkC c = 0 <;> simp [h]) rfl)) ?_
  refine ro rfl rfl (OpOk.step (OpOk.bool (d := true) (ok_moveb (.inl rfl) rfl) (rfl))) ?_
  refine ro rfl rfl (ok_call rfl rfl rfl (live11_ok.plain rfl rfl)) ?_
  refine ro rfl rfl (OpOk.step (ok_pick rfl rfl)) ?_
  refine ro rfl rfl (OpOk.step (ok_move (.inr rfl))) ?_
  refine ro_nil ?_
  refine keepK hK7 [4] (by dsimp) (by dsimp) ?_
  refine T.ret (hQ _ _ _ rfl ?_).1 -- ret 1
  exact TEnt.fin [] (by decide) (by simp) rfl ⟨rfl, trivial⟩
 ·(try simp only [dE] at hb)
  refine ro rfl rfl (OpOk.step (ok_move (.inl rfl))) ?_
  refine ro rfl rfl (OpOk.step (ok_len' rfl rfl ti_Lapi_Rec rfl (by first | exact ints_length _ _ | exact rowsA_length _ _ | exact Cms_len _ | exact mapLen _ | rfl))) ?_
  refine ro rfl rfl (OpOk.step (ok_binOp rfl ti_int rfl)) ?_
  refine ro rfl rfl (OpOk.step (ok_pick rfl rfl)) ?_
  refine ro_case rfl rfl (OpOk.step (ok_moveb (.inl rfl) rfl)) (fun hb => ?_) (fun hb => ?_)
  ·(try simp only [dE] at hb)
   refine ro_skip rfl rfl ?_
   refine ro_skip rfl rfl ?_
   refine ro_skip rfl rfl ?_
   refine ro rfl rfl (OpOk.step (ok_pickb (t := true) (d := true) rfl rfl rfl)) ?_
   refine ro_nil ?_
   refine keepK hK6 [1, 2, 5, 6, 35] (by dsimp) (by dsimp) ?_
   refine T.cond_true rfl ?_
   refine T.seq fun K8 hK8 => ?_
   refine T.region ?_ -- region 5
   refine ro rfl rfl (OpOk.step (ok_load rfl ti_api_State rfl rfl)) ?_
   refine ro rfl rfl (OpOk.step ((ok_build rfl ti_api_State rfl).tent ((TEnt.put1 0 (x' := .agg (StC St0)) Ent.st0).trans (TEnt.to ⟨rfl, trivial⟩)))) ?_
   refine ro rfl rfl (ok_call rfl rfl rfl ((rsame11_ok s0 St0 hfew.1 hfew.2).plain (by simp [renL, AV.ren, StC_take, StC_ren]) rfl)) ?_
   refine ro rfl rfl (OpOk.step (ok_move (.inl rfl))) ?_
   refine ro rfl rfl (ok_call rfl rfl rfl ((code11_ok (chkC c)).plain rfl rfl)) ?_
   refine ro rfl rfl (OpOk.step (ok_binOp rfl ti_int rfl)) ?_
   refine ro rfl rfl (OpOk.step ((ok_binOp rfl ti_bool rfl).eq (x' := .b true) (by rw [hsame]; by_cases h : chkC c = 0 <;> simp [h]) rfl)) ?_
   refine ro rfl rfl (OpOk.step (OpOk.bool (d := true) (ok_moveb (.inl rfl) rfl) (rfl))) ?_
   refine ro rfl rfl (ok_call rfl rfl rfl (live11_ok.plain rfl rfl)) ?_
   refine ro rfl rfl (OpOk.step (ok_pick rfl rfl)) ?_
   refine ro rfl rfl (OpOk.step (ok_move (.inr rfl))) ?_
   refine ro_nil ?_
   refine keepK hK8 [4] (by dsimp) (by dsimp) ?_
   refine T.ret (hQ _ _ _ rfl ?_).1 -- ret 2
   exact TEnt.fin [] (by decide) (by simp) rfl ⟨rfl, trivial⟩
  ·(try simp only [dE] at hb)
   refine ro rfl rfl (OpOk.step (ok_load rfl ti_api_Conf rfl rfl)) ?_
   refine ro rfl rfl (ok_call rfl rfl rfl ((small_ok c).plain (by show renL _ [.agg (CC c)] = _; simp [renL, AV.ren, CC_ren]) rfl)) ?_
   refine ro rfl rfl (OpOk.step (ok_unOp rfl rfl)) ?_
   refine ro rfl rfl (OpOk.step (ok_pick rfl rfl)) ?_
   refine ro_nil ?_
   refine keepK hK6 [1, 2, 5, 6, 35] (by dsimp) (by dsimp) ?_
   refine T.cond rfl (fun hc => ?_) (fun hc => ?_) -- cond 1
   ·(try simp only [dE] at hc)
    refine T.seq fun K9 hK9 => ?_
    refine T.region ?_ -- region 5
    refine ro rfl rfl (OpOk.step (ok_load rfl ti_api_State rfl rfl)) ?_
    refine ro rfl rfl (OpOk.step ((ok_build rfl ti_api_State rfl).tent ((TEnt.put1 0 (x' := .agg (StC St0)) Ent.st0).trans (TEnt.to ⟨rfl, trivial⟩)))) ?_
    refine ro rfl rfl (ok_call rfl rfl rfl ((rsame11_ok s0 St0 hfew.1 hfew.2).plain (by simp [renL, AV.ren, StC_take, StC_ren]) rfl)) ?_
    refine ro rfl rfl (OpOk.step (ok_move (.inl rfl))) ?_
    refine ro rfl rfl (ok_call rfl rfl rfl ((code11_ok (chkC c)).plain rfl rfl)) ?_
    refine ro rfl rfl (OpOk.step (ok_binOp rfl ti_int rfl)) ?_
    refine ro rfl rfl (OpOk.step ((ok_binOp rfl ti_bool rfl).eq (x' := .b true) (by rw [hsame]; by_cases h : chkC c = 0 <;> simp [h]) rfl)) ?_
    refine ro rfl rfl (OpOk.step (OpOk.bool (d := true) (ok_moveb (.inl rfl) rfl) (rfl))) ?_
    refine ro rfl rfl (ok_call rfl rfl rfl (live11_ok.plain rfl rfl)) ?_
    refine ro rfl rfl (OpOk.step (ok_pick rfl rfl)) ?_
    refine ro rfl rfl (OpOk.step (ok_move (.inr rfl))) ?_
    refine ro_nil ?_
    refine keepK hK9 [4] (by dsimp) (by dsimp) ?_
    refine T.ret (hQ _ _ _ rfl ?_).1 -- ret 3
    exact TEnt.fin [] (by decide) (by simp) rfl ⟨rfl, trivial⟩
   ·(try simp only [dE] at hc)
    refine T.skip ?_
    refine keepK hK5 [1, 2, 5] (by dsimp) (by dsimp) ?_
    refine T.seq fun K10 hK10 => ?_
    refine T.seq fun K11 hK11 => ?_
    have hc0 : chkC c = 0 := by first | assumption | omega
    have hrn : s0 = newS c := by rw [← hs0, newR_ok hc0]
    have hr0 : RS s0 := by rw [hrn]; exact RS_new hc0
    have hrun := runS_right l hr0
    have hcc : s0.c = c := by rw [hrn]; rfl
    refine T.draw mixed (SH [] (HeldL ([some (CB c), some (StB s0)]))) ?_ -- region 6
    refine any_take 0 rfl (by first | rfl | decide +kernel) rfl (by first | (simp [HeldL]; done) | (simp only [HeldL, List.map_cons, List.map_nil, List.cons_append, List.nil_append, List.set_cons_zero, List.set_cons_succ]; (repeat' first | trivial | rfl | constructor))) (fun H' hH => OpOk.step (ok_load rfl ti_api_State (locA_held hH rfl) rfl)) ?_
    refine any_take 1 rfl (by first | rfl | decide +kernel) rfl (by first | (simp [HeldL]; done) | (simp only [HeldL, List.map_cons, List.map_nil, List.cons_append, List.nil_append, List.set_cons_zero, List.set_cons_succ]; (repeat' first | trivial | rfl | constructor))) (fun H' hH => OpOk.step (ok_load rfl ti_api_Conf (locA_held hH rfl) rfl)) ?_
    refine any_one 2 rfl (by first | rfl | decide +kernel) rfl rfl (ok_call rfl rfl rfl ((hrn ▸ rnew11_ok c hc0).plain (by show renL _ [.agg (CC c)] = _; simp [renL, AV.ren, CC_ren]) (by simp [AV.ren, StC_ren]))) (.inr (by first | (simp [HeldL]; done) | (simp only [HeldL, List.map_cons, List.map_nil, List.cons_append, List.nil_append, List.set_cons_zero, List.set_cons_succ]; (repeat' first | trivial | rfl | constructor)))) ?_
    refine any_one 3 rfl (by first | rfl | decide +kernel) rfl rfl (ok_call rfl rfl rfl (((rsame11_ok s0 s0 hfew.1 hfew.2).plain (by simp [renL, AV.ren, StC_take, StC_ren]) rfl).eq (x' := .b true) (by rw [seB_true (SE_refl _)]) rfl)) (.inr (by first | (simp [HeldL]; done) | (simp only [HeldL, List.map_cons, List.map_nil, List.cons_append, List.nil_append, List.set_cons_zero, List.set_cons_succ]; (repeat' first | trivial | rfl | constructor)))) ?_
    refine any_take 4 rfl (by first | rfl | decide +kernel) rfl (by first | (simp [HeldL]; done) | (simp only [HeldL, List.map_cons, List.map_nil, List.cons_append, List.nil_append, List.set_cons_zero, List.set_cons_succ]; (repeat' first | trivial | rfl | constructor))) (fun H' hH => OpOk.step (OpOk.bool (d := false) (ok_unOp rfl rfl) (rfl))) ?_
    refine any_done rfl ?_
    refine keepK hK11 [1, 2, 5, 50] (by dsimp) (by dsimp) ?_
    refine T.cond_false rfl ?_
    refine T.skip ?_
    refine keepK hK10 [1, 2, 5] (by dsimp) (by dsimp) ?_
    refine T.seq fun K12 hK12 => ?_
    refine T.seq fun K13 hK13 => ?_
    refine T.region ?_ -- region 8
    refine ro rfl rfl (OpOk.step (ok_move (.inr rfl))) ?_
    refine ro_nil ?_
    refine keepK hK13 [1, 2, 5, 7] (by dsimp) (by dsimp) ?_
    refine T.block ?_
    refine T.loopI (ι := Nat) (fun i => i ≤ l.length) (fun i => l.length - i) (fun i => ([(1, .fz 10 (Rcl l)), (2, .ref 0 0 0), (5, .ref 1 0 0), (7, .int i)], [some (CB c), some (StB (runS s0 l i))])) 0 (Nat.zero_le _) (TEnt.toH rfl ⟨rfl, rfl, rfl, rfl, trivial⟩) (fun i hi => ?_) -- loop 1
    have hri := (hrun i).1
    have hfi := RS_few hri
    refine T.seq fun K14 hK14 => ?_
    refine T.seq fun K15 hK15 => ?_
    refine T.region ?_ -- region 9
    refine ro rfl rfl (OpOk.step (ok_move (.inl rfl))) ?_
    refine ro rfl rfl (OpOk.step (ok_move (.inl rfl))) ?_
    refine ro rfl rfl (OpOk.step (ok_len' rfl rfl ti_Lapi_Rec rfl (by first | exact ints_length _ _ | exact rowsA_length _ _ | exact Cms_len _ | exact mapLen _ | rfl))) ?_
    refine ro rfl rfl (OpOk.step (ok_binOp rfl ti_int rfl)) ?_
    refine ro_nil ?_
    refine keepK hK15 [1, 2, 5, 7, 54] (by dsimp) (by dsimp) ?_
    refine T.cond rfl (fun hc => ?_) (fun hc => ?_) -- cond 2
    ·(try simp only [dE] at hc)
     rw [Rcl_len] at hc
     obtain ⟨w, hw⟩ : ∃ w, w = i := ⟨_, rfl⟩
     subst hw
     obtain ⟨x, hx⟩ : ∃ x, l[w]? = some x := ⟨_, List.getElem?_eq_getElem (by omega)⟩
     have hxb := hbd x (List.mem_of_getElem? hx)
     have hsq := hri.2.2.1
     have hrs := runS_succ (s := s0) hx
     obtain ⟨s, hs⟩ : ∃ s, runS s0 l w = s := ⟨_, rfl⟩
     have hcs := (hrun w).2
     rw [hs] at hri hfi hsq hrs hcs
     rw [hcc] at hcs
     obtain ⟨t, ht⟩ : ∃ t, runS s0 l (w + 1) = t := ⟨_, rfl⟩
     have hrt := hrun (w + 1)
     rw [ht] at hrs hrt
     rw [hcc] at hrt
     refine T.skip ?_
     refine keepK hK14 [1, 2, 5, 7] (by dsimp) (by dsimp) ?_
     refine T.seq fun K16 hK16 => ?_
     refine T.block ?_
     refine T.seq fun K17 hK17 => ?_
     refine T.region ?_ -- region 11
     refine ro rfl rfl (OpOk.step (ok_move (.inl rfl))) ?_
     refine ro rfl rfl (OpOk.step (ok_move (.inl rfl))) ?_
     refine ro rfl rfl (OpOk.step (by exact ok_index_map (F := RcC) rfl ti_Lapi_Rec rfl ti_api_Rec rfl rfl rfl hx (by simp [RcC]))) ?_
     refine ro rfl rfl (OpOk.step (ok_load rfl ti_api_Rec rfl rfl)) ?_
     refine ro rfl rfl (OpOk.step (ok_alloc rfl ti_api_Rec rfl (by decide))) ?_
     refine ro rfl rfl (OpOk.step (ok_store rfl ti_api_Rec (by decide) rfl rfl rfl rfl rfl (by first | exact Nat.le_of_ble_eq_true rfl | simp) (by first | exact .inl ⟨rfl, rfl⟩ | exact .inr rfl))) ?_
     refine ro_nil ?_
     refine keepK hK17 [1, 2, 5, 7, 8] (by dsimp) (by dsimp) ?_
     refine T.seq fun K18 hK18 => ?_
     refine T.ent (TEnt.toH (tm' := [(1, .fz 10 (Rcl l)), (2, .ref 0 0 0), (5, .ref 1 0 0), (7, .int w), (8, .ref 2 0 0)]) (H' := [some (CB c), some (StB s), some (RcB x)]) (by rw [hs]; rfl) ⟨rfl, rfl, rfl, rfl, rfl, trivial⟩) ?_
     refine T.draw mixed (SH [] (HeldL ([some (CB c), some (StB s)]))) ?_ -- region 12
     refine any_take 0 rfl (by first | rfl | decide +kernel) rfl (by first | (simp [HeldL]; done) | (simp only [HeldL, List.map_cons, List.map_nil, List.cons_append, List.nil_append, List.set_cons_zero, List.set_cons_succ]; (repeat' first | trivial | rfl | constructor))) (fun H' hH => OpOk.step (ok_fieldAddr rfl ti_api_State rfl rfl ti_int (by decide) rfl)) ?_
     refine any_take 1 rfl (by first | rfl | decide +kernel) rfl (by first | (simp [HeldL]; done) | (simp only [HeldL, List.map_cons, List.map_nil, List.cons_append, List.nil_append, List.set_cons_zero, List.set_cons_succ]; (repeat' first | trivial | rfl | constructor))) (fun H' hH => OpOk.step (ok_load rfl ti_int (locA_held hH rfl) rfl)) ?_
     refine any_take 2 rfl (by first | rfl | decide +kernel) rfl (by first | (simp [HeldL]; done) | (simp only [HeldL, List.map_cons, List.map_nil, List.cons_append, List.nil_append, List.set_cons_zero, List.set_cons_succ]; (repeat' first | trivial | rfl | constructor))) (fun H' hH => OpOk.step (ok_fieldAddr rfl ti_api_State rfl rfl ti_int (by decide) rfl)) ?_
     refine any_take 3 rfl (by first | rfl | decide +kernel) rfl (by first | (simp [HeldL]; done) | (simp only [HeldL, List.map_cons, List.map_nil, List.cons_append, List.nil_append, List.set_cons_zero, List.set_cons_succ]; (repeat' first | trivial | rfl | constructor))) (fun H' hH => OpOk.step (ok_load rfl ti_int (locA_held hH rfl) rfl)) ?_
     refine any_take 4 rfl (by first | rfl | decide +kernel) rfl (by first | (simp [HeldL]; done) | (simp only [HeldL, List.map_cons, List.map_nil, List.cons_append, List.nil_append, List.set_cons_zero, List.set_cons_succ]; (repeat' first | trivial | rfl | constructor))) (fun H' hH => OpOk.step (ok_add64 rfl ti_int rfl rfl (by omega) (by omega))) ?_
     refine any_take 5 rfl (by first | rfl | decide +kernel) rfl (by first | (simp [HeldL]; done) | (simp only [HeldL, List.map_cons, List.map_nil, List.cons_append, List.nil_append, List.set_cons_zero, List.set_cons_succ]; (repeat' first | trivial | rfl | constructor))) (fun H' hH => OpOk.step (ok_fieldAddr rfl ti_api_Rec rfl rfl ti_int (by decide) rfl)) ?_
     refine any_one 6 rfl (by first | rfl | decide +kernel) rfl rfl (OpOk.step (ok_store rfl ti_int (by decide) rfl rfl rfl rfl rfl (by first | exact Nat.le_of_ble_eq_true rfl | simp) (by first | exact .inl ⟨rfl, rfl⟩ | exact .inr rfl))) (.inr (by first | (simp [HeldL]; done) | (simp only [HeldL, List.map_cons, List.map_nil, List.cons_append, List.nil_append, List.set_cons_zero, List.set_cons_succ]; (repeat' first | trivial | rfl | constructor)))) ?_
     refine any_take 7 rfl (by first | rfl | decide +kernel) rfl (by first | (simp [HeldL]; done) | (simp only [HeldL, List.map_cons, List.map_nil, List.cons_append, List.nil_append, List.set_cons_zero, List.set_cons_succ]; (repeat' first | trivial | rfl | constructor))) (fun H' hH => OpOk.step (ok_fieldAddr rfl ti_api_Rec rfl rfl ti_int (by decide) rfl)) ?_
     refine any_one 8 rfl (by first | rfl | decide +kernel) rfl rfl (OpOk.step (ok_store rfl ti_int (by decide) rfl rfl rfl rfl rfl (by first | exact Nat.le_of_ble_eq_true rfl | simp) (by first | exact .inl ⟨rfl, rfl⟩ | exact .inr rfl))) (.inr (by first | (simp [HeldL]; done) | (simp only [HeldL, List.map_cons, List.map_nil, List.cons_append, List.nil_append, List.set_cons_zero, List.set_cons_succ]; (repeat' first | trivial | rfl | constructor)))) ?_
     refine any_done rfl ?_
     refine keepK hK18 [1, 2, 5, 7, 8] (by dsimp) (by dsimp) ?_
     refine T.seq fun K19 hK19 => ?_
     refine T.ent (TEnt.toH (tm' := [(1, .fz 10 (Rcl l)), (2, .ref 0 0 0), (5, .ref 1 0 0), (7, .int w), (8, .ref 2 0 0)]) (H' := [some (CB c), some (StB s), some (RcB (atS s x))]) rfl ⟨rfl, rfl, rfl, rfl, rfl, trivial⟩) ?_
     refine T.region ?_ -- region 13
     refine ro rfl rfl (OpOk.step (ok_load rfl ti_api_State rfl rfl)) ?_
     refine ro rfl rfl (OpOk.step (ok_load rfl ti_api_Rec rfl rfl)) ?_
     refine ro rfl rfl (ok_call rfl rfl rfl ((sapply_ok s (atS s x) (by omega) (by omega) (fun z hz => by have := hfi.2.2.1 z hz; omega) hfi.2.2.2 hxb).plain (by simp [renL, AV.ren, StC_take, StC_ren, RcC_take, RcC_ren]) (by simp [AV.ren, renL, StC_ren]))) ?_
     refine ro rfl rfl (OpOk.step (ok_move (.inl rfl))) ?_
     refine ro rfl rfl (OpOk.step (ok_extract rfl rfl rfl)) ?_
     refine ro rfl rfl (OpOk.step (ok_extract rfl rfl rfl)) ?_
     refine ro rfl rfl (OpOk.step (ok_alloc rfl ti_api_State rfl (by decide))) ?_
     refine ro rfl rfl (OpOk.step (ok_store rfl ti_api_State (by decide) rfl rfl rfl rfl rfl (by first | exact Nat.le_of_ble_eq_true rfl | simp) (by first | exact .inl ⟨rfl, rfl⟩ | exact .inr rfl))) ?_
     refine ro rfl rfl (OpOk.step (ok_move (.inr rfl))) ?_
     refine ro_nil ?_
     refine keepK hK19 [1, 2, 5, 7, 9, 10] (by dsimp) (by dsimp) ?_
     refine T.seq fun K20 hK20 => ?_
     refine T.seq fun K21 hK21 => ?_
     refine T.region ?_ -- region 14
     refine ro rfl rfl (OpOk.step (ok_move (.inl rfl))) ?_
     refine ro rfl rfl (ok_call rfl rfl rfl ((code11_ok (applyS s (atS s x)).2).plain rfl rfl)) ?_
     refine ro rfl rfl (OpOk.step (ok_binOp rfl ti_int rfl)) ?_
     refine ro_nil ?_
     refine keepK hK21 [1, 2, 5, 7, 9, 76] (by dsimp) (by dsimp) ?_
     refine T.join hK20 [(1, .fz 10 (Rcl l)), (2, .ref 0 0 0), (5, .ref 1 0 0), (7, .int w)] [some (CB c), some (StB t)] (fun hJ22 => ?_) ?_ -- join 1
     · -- the two ways
      refine T.cond rfl (fun hc => ?_) (fun hc => ?_) -- cond 3
      ·(try simp only [dE] at hc)
       refine T.region ?_ -- region 15
       refine ro rfl rfl (OpOk.step (ok_load rfl ti_api_State rfl rfl)) ?_
       refine ro rfl rfl (OpOk.step (ok_store rfl ti_api_State (by decide) rfl rfl rfl rfl rfl (by first | exact Nat.le_of_ble_eq_true rfl | simp) (by first | exact .inl ⟨rfl, rfl⟩ | exact .inr rfl))) ?_
       refine ro_nil ?_
       exact hJ22 _ _ (TEnt.fin [0, 1] (by decide) (by simp) (by show [some (Blk.ren _ (CB c)), some (Blk.ren _ (StB _))] = _; rw [CB_ren, StB_ren, hrs, nextS]; first | rw [if_pos (by assumption)] | rw [if_neg (by assumption)]) ⟨by simp [AV.ren, Rcl_ren], rfl, rfl, rfl, trivial⟩)
      ·(try simp only [dE] at hc)
       refine T.skip ?_
       exact hJ22 _ _ (TEnt.fin [0, 1] (by decide) (by simp) (by show [some (Blk.ren _ (CB c)), some (Blk.ren _ (StB _))] = _; rw [CB_ren, StB_ren, hrs, nextS]; first | rw [if_pos (by assumption)] | rw [if_neg (by assumption)]) ⟨by simp [AV.ren, Rcl_ren], rfl, rfl, rfl, trivial⟩)
     refine T.seq fun K23 hK23 => ?_
     refine T.region ?_ -- region 16
     refine ro rfl rfl (OpOk.step (ok_fieldAddr rfl ti_api_Conf rfl rfl ti_int (by decide) rfl)) ?_
     refine ro rfl rfl (OpOk.step (ok_load rfl ti_int rfl rfl)) ?_
     refine ro rfl rfl (OpOk.step (ok_move (.inr rfl))) ?_
     refine ro_nil ?_
     refine keepK hK23 [1, 2, 5, 7, 11] (by dsimp) (by dsimp) ?_
     refine T.seq fun K24 hK24 => ?_
     refine T.seq fun K25 hK25 => ?_
     refine T.region ?_ -- region 17
     refine ro rfl rfl (OpOk.step (ok_move (.inr rfl))) ?_
     refine ro_nil ?_
     refine keepK hK25 [1, 2, 5, 7, 11, 12] (by dsimp) (by dsimp) ?_
     refine T.block ?_
     refine T.loopI (ι := Nat) (fun k => k ≤ t.zs.length) (fun k => t.zs.length - k) (fun k => ([(1, .fz 10 (Rcl l)), (2, .ref 0 0 0), (5, .ref 1 0 0), (7, .int w), (11, .int (c.spa + bareN (t.zs.take k))), (12, .int k)], [some (CB c), some (StB t)])) 0 (Nat.zero_le _) (TEnt.toH rfl ⟨rfl, rfl, rfl, rfl, by simp [bareN], rfl, trivial⟩) (fun i hi => ?_) -- loop 2
     have hbl := bareN_le t.zs i
     have hspa : 0 ≤ c.spa ∧ c.spa ≤ 64 := by have := chkC_ok hc0; unfold okC at this; omega
     have hft := RS_few hrt.1
     refine T.seq fun K26 hK26 => ?_
     refine T.seq fun K27 hK27 => ?_
     refine T.region ?_ -- region 18
     refine ro rfl rfl (OpOk.step (ok_move (.inl rfl))) ?_
     refine ro rfl rfl (OpOk.step (ok_fieldAddr rfl ti_api_State rfl rfl ti_Lapi_Zone (by decide) rfl)) ?_
     refine ro rfl rfl (OpOk.step (ok_load rfl ti_Lapi_Zone rfl rfl)) ?_
     refine ro rfl rfl (OpOk.step (ok_len' rfl rfl ti_Lapi_Zone rfl (by first | exact ints_length _ _ | exact rowsA_length _ _ | exact Cms_len _ | exact mapLen _ | rfl))) ?_
     refine ro rfl rfl (OpOk.step (ok_binOp rfl ti_int rfl)) ?_
     refine ro_nil ?_
     refine keepK hK27 [1, 2, 5, 7, 11, 12, 84] (by dsimp) (by dsimp) ?_
     refine T.cond rfl (fun hc => ?_) (fun hc => ?_) -- cond 4
     ·(try simp only [dE] at hc)
      rw [Zns_len] at hc
      obtain ⟨z, hz⟩ : ∃ z, t.zs[i]? = some z := ⟨_, List.getElem?_eq_getElem (by omega)⟩
      have hbs := bareN_snoc hz
      refine T.skip ?_
      refine keepK hK26 [1, 2, 5, 7, 11, 12] (by dsimp) (by dsimp) ?_
      refine T.seq fun K28 hK28 => ?_
      refine T.block ?_
      refine T.seq fun K29 hK29 => ?_
      refine T.region ?_ -- region 20
      refine ro rfl rfl (OpOk.step (ok_fieldAddr rfl ti_api_State rfl rfl ti_Lapi_Zone (by decide) rfl)) ?_
      refine ro rfl rfl (OpOk.step (ok_load rfl ti_Lapi_Zone rfl rfl)) ?_
      refine ro rfl rfl (OpOk.step (ok_move (.inl rfl))) ?_
      refine ro rfl rfl (OpOk.step (by exact ok_index_map (F := ZnC) rfl ti_Lapi_Zone rfl ti_api_Zone rfl rfl rfl hz (by simp [ZnC]))) ?_
      refine ro rfl rfl (OpOk.step (ok_fieldAddr rfl ti_api_Zone rfl rfl ti_int (by decide) rfl)) ?_
      refine ro rfl rfl (OpOk.step (ok_load rfl ti_int rfl rfl)) ?_
      refine ro rfl rfl (OpOk.step (ok_binOp rfl ti_int rfl)) ?_
      refine ro_nil ?_
      refine keepK hK29 [1, 2, 5, 7, 11, 12, 93] (by dsimp) (by dsimp) ?_
      refine T.join hK28 [(1, .fz 10 (Rcl l)), (2, .ref 0 0 0), (5, .ref 1 0 0), (7, .int w), (11, .int (c.spa + bareN (t.zs.take (i + 1)))), (12, .int i)] [some (CB c), some (StB t)] (fun hJ30 => ?_) ?_ -- join 2
      · -- the two ways
       refine T.cond rfl (fun hc => ?_) (fun hc => ?_) -- cond 5
       ·(try simp only [dE] at hc)
        refine T.region ?_ -- region 21
        refine ro rfl rfl (OpOk.step (ok_move (.inl rfl))) ?_
        refine ro rfl rfl (OpOk.step (ok_add64 rfl ti_int rfl rfl (by omega) (by omega))) ?_
        refine ro rfl rfl (OpOk.step (ok_move (.inr rfl))) ?_
        refine ro_nil ?_
        exact hJ30 _ _ (TEnt.toH rfl ⟨rfl, rfl, rfl, rfl, by rw [hbs]; first | (rw [if_pos (by assumption)]; exact congrArg AV.int (by omega)) | (rw [if_neg (by assumption)]; exact congrArg AV.int (by omega)), rfl, trivial⟩)
       ·(try simp only [dE] at hc)
        refine T.skip ?_
        exact hJ30 _ _ (TEnt.toH rfl ⟨rfl, rfl, rfl, rfl, by rw [hbs]; first | (rw [if_pos (by assumption)]; exact congrArg AV.int (by omega)) | (rw [if_neg (by assumption)]; exact congrArg AV.int (by omega)), rfl, trivial⟩)
      refine T.region ?_ -- region 19
      refine ro rfl rfl (OpOk.step (ok_move (.inl rfl))) ?_
      refine ro rfl rfl (OpOk.step (ok_add64 rfl ti_int rfl rfl (by omega) (by omega))) ?_
      refine ro rfl rfl (OpOk.step (ok_move (.inr rfl))) ?_
      refine ro_nil ?_
      exact ⟨i + 1, by omega, by omega, TEnt.toH rfl ⟨rfl, rfl, rfl, rfl, rfl, rfl, trivial⟩⟩
     ·(try simp only [dE] at hc)
      rw [Zns_len] at hc
      have hfr := free_bare hrt.1
      rw [hrt.2] at hfr
      have htk : t.zs.take i = t.zs := List.take_of_length_le (by omega)
      rw [htk]
      refine T.exit ?_
      refine keepK hK24 [1, 2, 5, 7, 11] (by dsimp) (by dsimp) ?_
      refine T.seq fun K31 hK31 => ?_
      refine T.region ?_ -- region 22
      refine ro rfl rfl (OpOk.step (ok_load rfl ti_api_State rfl rfl)) ?_
      refine ro rfl rfl (ok_call rfl rfl rfl (((rsright_ok t (by omega) (by omega)).plain (by simp [renL, AV.ren, StC_take, StC_ren]) rfl).eq (x' := .b true) (by rw [decide_eq_true hrt.1]) rfl)) ?_
      refine ro rfl rfl (OpOk.step (ok_unOp rfl rfl)) ?_
      refine ro rfl rfl (OpOk.step (OpOk.bool (d := false) (ok_moveb (.inl rfl) rfl) (rfl))) ?_
      refine ro rfl rfl (OpOk.step (ok_load rfl ti_api_State rfl rfl)) ?_
      refine ro rfl rfl (ok_call rfl rfl rfl ((free_frz t (by omega)).plain (by simp [renL, AV.ren, StC_take, StC_ren]) (by simp [AV.ren, renL_ints]))) ?_
      refine ro rfl rfl (OpOk.step (ok_len' rfl rfl ti_Lint rfl (by first | exact ints_length _ _ | exact rowsA_length _ _ | exact Cms_len _ | exact mapLen _ | rfl))) ?_
      refine ro rfl rfl (OpOk.step (ok_move (.inl rfl))) ?_
      refine ro rfl rfl (OpOk.step ((ok_binOp rfl ti_int rfl).eq (x' := .b false) (by simp; rw [hrt.2, hfr]) rfl)) ?_
      refine ro rfl rfl (OpOk.step (OpOk.bool (d := false) (ok_pickb rfl rfl rfl) (rfl))) ?_
      refine ro_nil ?_
      refine keepK hK31 [1, 2, 5, 7, 105] (by dsimp) (by dsimp) ?_
      refine T.cond_false rfl ?_
      refine T.skip ?_
      refine keepK hK16 [1, 2, 5, 7] (by dsimp) (by dsimp) ?_
      refine T.region ?_ -- region 10
      refine ro rfl rfl (OpOk.step (ok_move (.inl rfl))) ?_
      refine ro rfl rfl (OpOk.step (ok_add64 rfl ti_int rfl rfl (by omega) (by omega))) ?_
      refine ro rfl rfl (OpOk.step (ok_move (.inr rfl))) ?_
      refine ro_nil ?_
      exact ⟨w + 1, by omega, by omega, TEnt.fin [0, 1] (by decide) (by simp) (by show [some (Blk.ren _ (CB c)), some (Blk.ren _ (StB t))] = _; rw [CB_ren, StB_ren, ht]) ⟨by simp [AV.ren, Rcl_ren], rfl, rfl, rfl, trivial⟩⟩
    ·(try simp only [dE] at hc)
     refine T.exit ?_
     refine keepK hK12 [] (by dsimp) (by dsimp) ?_
     refine T.seq fun K32 hK32 => ?_
     refine T.region ?_ -- region 24
     refine ro rfl rfl (ok_call rfl rfl rfl (live11_ok.plain rfl rfl)) ?_
     refine ro rfl rfl (OpOk.step (ok_move (.inr rfl))) ?_
     refine ro_nil ?_
     refine keepK hK32 [4] (by dsimp) (by dsimp) ?_
     refine T.ret (hQ _ _ _ rfl ?_).1 -- ret 4
     exact TEnt.fin [] (by decide) (by simp) rfl ⟨rfl, trivial⟩
theorem stateGoes_row (a : Cf11) (l : List Rc10) (hl : l.length ≤ 140737488355328) (hs : ∀ x ∈ l, x.2.2.2.2.2.2.2.2.2.length ≤ 140737488355328) : CSpec Try.prog 6 [] [.agg (CC (cfOf a)), .fz 10 (l.map fun x => .agg (RcC (rcOf x)))] [] (.b true) := by
  have e : (l.map fun x => AV.agg (RcC (rcOf x))) = Rcl (l.map rcOf) := by simp [Rcl]
  rw [e]
  refine stateGoes_ok (cfOf a) (l.map rcOf) (by simpa using hl) ?_
  intro x hx
  obtain ⟨y, hy, rfl⟩ := List.mem_map.1 hx
  exact hs y hy
end Go.Proofs.Ytlegolcbjjjofaa.AmF
