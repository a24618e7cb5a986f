/- Walks over the abstract machine: states of the log: the document's application. -/
import Derived.Test.YtlegolcbjjjofaaAfState13
namespace Go.Proofs.Ytlegolcbjjjofaa.AmF
open Go Go.AM
set_option maxRecDepth 100000
set_option maxHeartbeats 4000000
set_option linter.unusedSimpArgs false
set_option linter.unusedVariables false
attribute [local simp] tkeep tget tput ev cav argsTM pickA normT putA splice AV.cells ints_length rowsA_length Prs_len Zns_len
theorem sret {k : Nat} {tm : TM} {H : Heap} {s : St} {e : Int} (hk : k = 0) (h : tget tm 0 = .tup [.agg (StC s), .int e]) : TEnt k tm H [(0, .tup [.agg (StC s), .int e])] [] := by
  subst hk
  exact TEnt.fin [] (by decide) (by simp) rfl ⟨by rw [tget_normT, h]; simp [AV.ren, renL, StC_ren], trivial⟩
theorem rapply_ok (s : St) (x : Rc) (hxg : -9223372036854775808 ≤ x.gen ∧ x.gen ≤ 9223372036854775807) (hxs : -9223372036854775808 ≤ x.seq ∧ x.seq ≤ 9223372036854775807) (hn : s.st.length ≤ 1000000) (hm : s.zs.length ≤ 1000000) (hxb : x.body.length ≤ 1000000) : CSpec Try.prog 28 [] [.agg (StC s), .agg (RcC x)] [] (.tup [.agg (StC (applyS s x).1), .int (applyS s x).2]) := by
 refine CSpec.body Try.func28 rfl rfl rfl rfl rfl fun Q hQ => ?_
 refine T.seq fun K1 hK1 => ?_
 refine T.region ?_ -- region 0
 refine ro rfl rfl (OpOk.step (ok_box (n := 15) rfl rfl (by decide))) ?_
 refine ro rfl rfl (OpOk.step (ok_box (n := 10) rfl rfl (by decide))) ?_
 refine ro rfl rfl (OpOk.step (ok_alloc rfl ti_api_State rfl (by decide))) ?_
 refine ro rfl rfl (OpOk.step (ok_move (.inr rfl))) ?_
 refine ro_nil ?_
 refine keepK hK1 [2, 3, 4] (by dsimp) (by dsimp) ?_
 refine T.seq fun K2 hK2 => ?_
 refine T.seq fun K3 hK3 => ?_
 refine T.region ?_ -- region 1
 refine ro rfl rfl (OpOk.step (ok_load rfl ti_api_State rfl rfl)) ?_
 refine ro rfl rfl (ok_call rfl rfl rfl ((rsright_ok s (by omega) (by omega)).plain (by simp [renL, AV.ren, StC_take, StC_ren]) rfl)) ?_
 refine ro rfl rfl (OpOk.step (ok_unOp rfl rfl)) ?_
 refine ro_nil ?_
 refine keepK hK3 [2, 3, 4, 12] (by dsimp) (by dsimp) ?_
 refine T.cond rfl (fun hc => ?_) (fun hc => ?_) -- cond 1
 ·(try simp only [dE] at hc)
  rw [applyS_no hc] at hQ
  refine T.seq fun K4 hK4 => ?_
  refine T.region ?_ -- region 2
  refine ro rfl rfl (OpOk.step (ok_build rfl ti_api_State rfl)) ?_
  refine ro rfl rfl (OpOk.step (ok_store rfl ti_api_State (by decide) rfl rfl rfl rfl rfl (by first | exact Nat.le_of_ble_eq_true rfl | simp) (by first | exact .inl ⟨rfl, rfl⟩ | exact .inr rfl))) ?_
  refine ro rfl rfl (OpOk.step (ok_move (.inr rfl))) ?_
  refine ro_nil ?_
  refine keepK hK4 [4, 5] (by dsimp) (by dsimp) ?_
  refine T.ret (hQ _ _ _ rfl ?_).1 -- ret 1
  exact by exact ap_no (e := 1) rfl rfl
 ·(try simp only [dE] at hc)
  have hrs := hc
  have hck := hrs.1
  have hsq := hrs.2.2.1
  have hws := wrap_sub1 (v := s.sq) hxs.1 hxs.2 hrs.2.2.1
  refine T.skip ?_
  refine keepK hK2 [2, 3, 4] (by dsimp) (by dsimp) ?_
  refine T.seq fun K5 hK5 => ?_
  refine T.seq fun K6 hK6 => ?_
  refine T.region ?_ -- region 3
  refine ro rfl rfl (OpOk.step (ok_fieldAddr rfl ti_api_Rec rfl rfl ti_int (by decide) rfl)) ?_
  refine ro rfl rfl (OpOk.step (ok_load rfl ti_int rfl rfl)) ?_
  refine ro rfl rfl (OpOk.step (ok_fieldAddr rfl ti_api_State rfl rfl ti_int (by decide) rfl)) ?_
  refine ro rfl rfl (OpOk.step (ok_load rfl ti_int rfl rfl)) ?_
  refine ro rfl rfl (OpOk.step (ok_binOp rfl ti_int rfl)) ?_
  refine ro_case rfl rfl (OpOk.step (ok_moveb (.inl rfl) rfl)) (fun hb => ?_) (fun hb => ?_)
  ·(try simp only [dE] at hb)
   refine ro_skip rfl rfl ?_
   refine ro_skip rfl rfl ?_
   refine ro_skip rfl rfl ?_
   refine ro_skip rfl rfl ?_
   refine ro_skip rfl rfl ?_
   refine ro_skip rfl rfl ?_
   refine ro rfl rfl (OpOk.step (ok_pickb (t := true) (d := true) rfl rfl rfl)) ?_
   refine ro rfl rfl (OpOk.step (ok_moveb (c := true) (.inl rfl) rfl)) ?_
   refine ro_skip rfl rfl ?_
   refine ro_skip rfl rfl ?_
   refine ro_skip rfl rfl ?_
   refine ro rfl rfl (OpOk.step (ok_pickb (t := true) (d := true) rfl rfl rfl)) ?_
   refine ro rfl rfl (OpOk.step (ok_moveb (c := true) (.inl rfl) rfl)) ?_
   refine ro_skip rfl rfl ?_
   refine ro_skip rfl rfl ?_
   refine ro_skip rfl rfl ?_
   refine ro rfl rfl (OpOk.step (ok_pickb (t := true) (d := true) rfl rfl rfl)) ?_
   refine ro_nil ?_
   refine keepK hK6 [2, 3, 4, 36] (by dsimp) (by dsimp) ?_
   refine T.cond_true rfl ?_
   refine T.seq fun K7 hK7 => ?_
   refine T.region ?_ -- region 4
   refine ro rfl rfl (OpOk.step (ok_build rfl ti_api_State rfl)) ?_
   refine ro rfl rfl (OpOk.step (ok_store rfl ti_api_State (by decide) rfl rfl rfl rfl rfl (by first | exact Nat.le_of_ble_eq_true rfl | simp) (by first | exact .inl ⟨rfl, rfl⟩ | exact .inr rfl))) ?_
   refine ro rfl rfl (OpOk.step (ok_move (.inr rfl))) ?_
   refine ro_nil ?_
   refine keepK hK7 [4, 5] (by dsimp) (by dsimp) ?_
   refine T.ret (hQ _ _ _ rfl ?_).1 -- ret 2
   exact by (rw [applyS_form hrs (by unfold Goes; omega)]; exact ap_no (e := 13) rfl rfl)
  ·(try simp only [dE] at hb)
   refine ro rfl rfl (OpOk.step (ok_fieldAddr rfl ti_api_Rec rfl rfl ti_int (by decide) rfl)) ?_
   refine ro rfl rfl (OpOk.step (ok_load rfl ti_int rfl rfl)) ?_
   refine ro rfl rfl (OpOk.step (ok_binOp rfl ti_int rfl)) ?_
   refine ro rfl rfl (OpOk.step (ok_fieldAddr rfl ti_api_State rfl rfl ti_int (by decide) rfl)) ?_
   refine ro rfl rfl (OpOk.step (ok_load rfl ti_int rfl rfl)) ?_
   refine ro rfl rfl (OpOk.step (ok_binOp rfl ti_int rfl)) ?_
   refine ro rfl rfl (OpOk.step (ok_pick rfl rfl)) ?_
   refine ro_case rfl rfl (OpOk.step (ok_moveb (.inl rfl) rfl)) (fun hb => ?_) (fun hb => ?_)
   ·(try simp only [dE] at hb)
    refine ro_skip rfl rfl ?_
    refine ro_skip rfl rfl ?_
    refine ro_skip rfl rfl ?_
    refine ro rfl rfl (OpOk.step (ok_pickb (t := true) (d := true) rfl rfl rfl)) ?_
    refine ro rfl rfl (OpOk.step (ok_moveb (c := true) (.inl rfl) rfl)) ?_
    refine ro_skip rfl rfl ?_
    refine ro_skip rfl rfl ?_
    refine ro_skip rfl rfl ?_
    refine ro rfl rfl (OpOk.step (ok_pickb (t := true) (d := true) rfl rfl rfl)) ?_
    refine ro_nil ?_
    refine keepK hK6 [2, 3, 4, 36] (by dsimp) (by dsimp) ?_
    refine T.cond_true rfl ?_
    refine T.seq fun K8 hK8 => ?_
    refine T.region ?_ -- region 4
    refine ro rfl rfl (OpOk.step (ok_build rfl ti_api_State rfl)) ?_
    refine ro rfl rfl (OpOk.step (ok_store rfl ti_api_State (by decide) rfl rfl rfl rfl rfl (by first | exact Nat.le_of_ble_eq_true rfl | simp) (by first | exact .inl ⟨rfl, rfl⟩ | exact .inr rfl))) ?_
    refine ro rfl rfl (OpOk.step (ok_move (.inr rfl))) ?_
    refine ro_nil ?_
    refine keepK hK8 [4, 5] (by dsimp) (by dsimp) ?_
    refine T.ret (hQ _ _ _ rfl ?_).1 -- ret 3
    exact by (rw [applyS_form hrs (by unfold Goes; omega)]; exact ap_no (e := 13) rfl rfl)
   ·(try simp only [dE] at hb)
    refine ro rfl rfl (OpOk.step (ok_fieldAddr rfl ti_api_Rec rfl rfl ti_int (by decide) rfl)) ?_
    refine ro rfl rfl (OpOk.step (ok_load rfl ti_int rfl rfl)) ?_
    refine ro rfl rfl (OpOk.step (ok_binOp rfl ti_int rfl)) ?_
    refine ro rfl rfl (OpOk.step (ok_pick rfl rfl)) ?_
    refine ro_case rfl rfl (OpOk.step (ok_moveb (.inl rfl) rfl)) (fun hb => ?_) (fun hb => ?_)
    ·(try simp only [dE] at hb)
     refine ro_skip rfl rfl ?_
     refine ro_skip rfl rfl ?_
     refine ro_skip rfl rfl ?_
     refine ro rfl rfl (OpOk.step (ok_pickb (t := true) (d := true) rfl rfl rfl)) ?_
     refine ro_nil ?_
     refine keepK hK6 [2, 3, 4, 36] (by dsimp) (by dsimp) ?_
     refine T.cond_true rfl ?_
     refine T.seq fun K9 hK9 => ?_
     refine T.region ?_ -- region 4
     refine ro rfl rfl (OpOk.step (ok_build rfl ti_api_State rfl)) ?_
     refine ro rfl rfl (OpOk.step (ok_store rfl ti_api_State (by decide) rfl rfl rfl rfl rfl (by first | exact Nat.le_of_ble_eq_true rfl | simp) (by first | exact .inl ⟨rfl, rfl⟩ | exact .inr rfl))) ?_
     refine ro rfl rfl (OpOk.step (ok_move (.inr rfl))) ?_
     refine ro_nil ?_
     refine keepK hK9 [4, 5] (by dsimp) (by dsimp) ?_
     refine T.ret (hQ _ _ _ rfl ?_).1 -- ret 4
     exact by (rw [applyS_form hrs (by unfold Goes; omega)]; exact ap_no (e := 13) rfl rfl)
    ·(try simp only [dE] at hb)
     refine ro rfl rfl (OpOk.step (ok_fieldAddr rfl ti_api_Rec rfl rfl ti_int (by decide) rfl)) ?_
     refine ro rfl rfl (OpOk.step (ok_load rfl ti_int rfl rfl)) ?_
     refine ro rfl rfl (OpOk.step (ok_binOp rfl ti_int rfl)) ?_
     refine ro rfl rfl (OpOk.step (ok_pick rfl rfl)) ?_
     refine ro_nil ?_
     refine keepK hK6 [2, 3, 4, 36] (by dsimp) (by dsimp) ?_
     refine T.cond rfl (fun hc => ?_) (fun hc => ?_) -- cond 2
     ·(try simp only [dE] at hc)
      refine T.seq fun K10 hK10 => ?_
      refine T.region ?_ -- region 4
      refine ro rfl rfl (OpOk.step (ok_build rfl ti_api_State rfl)) ?_
      refine ro rfl rfl (OpOk.step (ok_store rfl ti_api_State (by decide) rfl rfl rfl rfl rfl (by first | exact Nat.le_of_ble_eq_true rfl | simp) (by first | exact .inl ⟨rfl, rfl⟩ | exact .inr rfl))) ?_
      refine ro rfl rfl (OpOk.step (ok_move (.inr rfl))) ?_
      refine ro_nil ?_
      refine keepK hK10 [4, 5] (by dsimp) (by dsimp) ?_
      refine T.ret (hQ _ _ _ rfl ?_).1 -- ret 5
      exact by (rw [applyS_form hrs (by unfold Goes; omega)]; exact ap_no (e := 13) rfl rfl)
     ·(try simp only [dE] at hc)
      refine T.skip ?_
      refine keepK hK5 [2, 3, 4] (by dsimp) (by dsimp) ?_
      refine T.seq fun K11 hK11 => ?_
      refine T.seq fun K12 hK12 => ?_
      refine T.region ?_ -- region 5
      refine ro rfl rfl (OpOk.step (ok_fieldAddr rfl ti_api_Rec rfl rfl ti_int (by decide) rfl)) ?_
      refine ro rfl rfl (OpOk.step (ok_load rfl ti_int rfl rfl)) ?_
      refine ro rfl rfl (OpOk.step (ok_binOp rfl ti_int rfl)) ?_
      refine ro_nil ?_
      refine keepK hK12 [2, 3, 4, 40] (by dsimp) (by dsimp) ?_
      refine T.cond rfl (fun hc => ?_) (fun hc => ?_) -- cond 3
      ·(try simp only [dE] at hc)
       refine T.seq fun K13 hK13 => ?_
       refine T.region ?_ -- region 6
       refine ro rfl rfl (OpOk.step (ok_load rfl ti_api_State rfl rfl)) ?_
       refine ro rfl rfl (OpOk.step (ok_load rfl ti_api_Rec rfl rfl)) ?_
       refine ro rfl rfl (ok_call rfl rfl rfl ((rstatus_ok s x hn hm).plain (by simp [renL, AV.ren, StC_take, StC_ren, RcC_take, RcC_ren]) (by simp [AV.ren, renL, StC_ren]))) ?_
       refine ro rfl rfl (OpOk.step (ok_move (.inl rfl))) ?_
       refine ro rfl rfl (OpOk.step (ok_extract rfl rfl rfl)) ?_
       refine ro rfl rfl (OpOk.step (ok_extract rfl rfl rfl)) ?_
       refine ro rfl rfl (OpOk.step (ok_alloc rfl ti_api_State rfl (by decide))) ?_
       refine ro rfl rfl (OpOk.step (ok_store rfl ti_api_State (by decide) rfl rfl rfl rfl rfl (by first | exact Nat.le_of_ble_eq_true rfl | simp) (by first | exact .inl ⟨rfl, rfl⟩ | exact .inr rfl))) ?_
       refine ro rfl rfl (OpOk.step (ok_move (.inr rfl))) ?_
       refine ro_nil ?_
       refine keepK hK13 [3, 4, 6, 7] (by dsimp) (by dsimp) ?_
       refine T.seq fun K14 hK14 => ?_
       refine T.seq fun K15 hK15 => ?_
       refine T.region ?_ -- region 7
       refine ro rfl rfl (OpOk.step (ok_move (.inl rfl))) ?_
       refine ro rfl rfl (OpOk.step (ok_unOp rfl rfl)) ?_
       refine ro_nil ?_
       refine keepK hK15 [3, 4, 6, 48] (by dsimp) (by dsimp) ?_
       refine T.cond rfl (fun hc => ?_) (fun hc => ?_) -- cond 4
       ·(try simp only [dE] at hc)
        refine T.seq fun K16 hK16 => ?_
        refine T.region ?_ -- region 8
        refine ro rfl rfl (OpOk.step (ok_build rfl ti_api_State rfl)) ?_
        refine ro rfl rfl (OpOk.step (ok_store rfl ti_api_State (by decide) rfl rfl rfl rfl rfl (by first | exact Nat.le_of_ble_eq_true rfl | simp) (by first | exact .inl ⟨rfl, rfl⟩ | exact .inr rfl))) ?_
        refine ro rfl rfl (OpOk.step (ok_move (.inr rfl))) ?_
        refine ro_nil ?_
        refine keepK hK16 [4, 5] (by dsimp) (by dsimp) ?_
        refine T.ret (hQ _ _ _ rfl ?_).1 -- ret 6
        exact by (rw [applyS_bad hrs (by unfold Goes; omega) (by rw [stepS_st (by assumption), if_neg (by assumption)])]; exact ap_no (e := 13) rfl rfl)
       ·(try simp only [dE] at hc)
        refine T.skip ?_
        refine keepK hK14 [3, 4, 6] (by dsimp) (by dsimp) ?_
        refine T.seq fun K17 hK17 => ?_
        refine T.region ?_ -- region 9
        refine ro rfl rfl (OpOk.step (ok_fieldAddr rfl ti_api_Rec rfl rfl ti_int (by decide) rfl)) ?_
        refine ro rfl rfl (OpOk.step (ok_load rfl ti_int rfl rfl)) ?_
        refine ro rfl rfl (OpOk.step (ok_fieldAddr rfl ti_api_State rfl rfl ti_int (by decide) rfl)) ?_
        refine ro rfl rfl (OpOk.step (ok_store rfl ti_int (by decide) rfl rfl rfl rfl rfl (by first | exact Nat.le_of_ble_eq_true rfl | simp) (by first | exact .inl ⟨rfl, rfl⟩ | exact .inr rfl))) ?_
        refine ro_nil ?_
        refine keepK hK17 [4, 6] (by dsimp) (by dsimp) ?_
        refine T.seq fun K18 hK18 => ?_
        refine T.region ?_ -- region 10
        refine ro rfl rfl (OpOk.step (ok_load rfl ti_api_State rfl rfl)) ?_
        refine ro rfl rfl (OpOk.step (ok_store rfl ti_api_State (by decide) rfl rfl rfl rfl rfl (by first | exact Nat.le_of_ble_eq_true rfl | simp) (by first | exact .inl ⟨rfl, rfl⟩ | exact .inr rfl))) ?_
        refine ro rfl rfl (OpOk.step (ok_move (.inr rfl))) ?_
        refine ro_nil ?_
        refine keepK hK18 [4, 5] (by dsimp) (by dsimp) ?_
        refine T.ret (hQ _ _ _ rfl ?_).1 -- ret 7
        exact by (rw [applyS_ok (t := { stO s x with sq := x.seq }) hrs (by unfold Goes; omega) (by rw [stepS_st (by assumption), if_pos (by assumption)]; unfold stO; rw [if_pos (by assumption)])]; exact sret rfl rfl)
      ·(try simp only [dE] at hc)
       refine T.skip ?_
       refine keepK hK11 [2, 3, 4] (by dsimp) (by dsimp) ?_
       refine T.seq fun K19 hK19 => ?_
       refine T.seq fun K20 hK20 => ?_
       refine T.region ?_ -- region 11
       refine ro rfl rfl (OpOk.step (ok_fieldAddr rfl ti_api_Rec rfl rfl ti_int (by decide) rfl)) ?_
       refine ro rfl rfl (OpOk.step (ok_load rfl ti_int rfl rfl)) ?_
       refine ro rfl rfl (OpOk.step (ok_binOp rfl ti_int rfl)) ?_
       refine ro_case rfl rfl (OpOk.step (ok_moveb (.inl rfl) rfl)) (fun hb => ?_) (fun hb => ?_)
       ·(try simp only [dE] at hb)
        refine ro_skip rfl rfl ?_
        refine ro_skip rfl rfl ?_
        refine ro_skip rfl rfl ?_
        refine ro_skip rfl rfl ?_
        refine ro_skip rfl rfl ?_
        refine ro_skip rfl rfl ?_
        refine ro rfl rfl (OpOk.step (ok_pickb (t := true) (d := true) rfl rfl rfl)) ?_
        refine ro_nil ?_
        refine keepK hK20 [2, 3, 4, 64] (by dsimp) (by dsimp) ?_
        refine T.cond_true rfl ?_
        refine T.seq fun K21 hK21 => ?_
        refine T.region ?_ -- region 12
        refine ro rfl rfl (OpOk.step (ok_build rfl ti_api_State rfl)) ?_
        refine ro rfl rfl (OpOk.step (ok_store rfl ti_api_State (by decide) rfl rfl rfl rfl rfl (by first | exact Nat.le_of_ble_eq_true rfl | simp) (by first | exact .inl ⟨rfl, rfl⟩ | exact .inr rfl))) ?_
        refine ro rfl rfl (OpOk.step (ok_move (.inr rfl))) ?_
        refine ro_nil ?_
        refine keepK hK21 [4, 5] (by dsimp) (by dsimp) ?_
        refine T.ret (hQ _ _ _ rfl ?_).1 -- ret 8
        exact by (rw [applyS_bad hrs (by unfold Goes; omega) (stepS_no (by assumption) (by first | omega | (simp only [Zns_len] at *; omega)))]; exact ap_no (e := 13) rfl rfl)
       ·(try simp only [dE] at hb)
        refine ro rfl rfl (OpOk.step (ok_fieldAddr rfl ti_api_Rec rfl rfl ti_int (by decide) rfl)) ?_
        refine ro rfl rfl (OpOk.step (ok_load rfl ti_int rfl rfl)) ?_
        refine ro rfl rfl (OpOk.step (ok_fieldAddr rfl ti_api_State rfl rfl ti_Lapi_Zone (by decide) rfl)) ?_
        refine ro rfl rfl (OpOk.step (ok_load rfl ti_Lapi_Zone rfl rfl)) ?_
        refine ro rfl rfl (OpOk.step (ok_len' rfl rfl ti_Lapi_Zone rfl (by first | exact ints_length _ _ | exact rowsA_length _ _ | exact Cms_len _ | exact mapLen _ | rfl))) ?_
        refine ro rfl rfl (OpOk.step (ok_binOp rfl ti_int rfl)) ?_
        refine ro rfl rfl (OpOk.step (ok_pick rfl rfl)) ?_
        refine ro_nil ?_
        refine keepK hK20 [2, 3, 4, 64] (by dsimp) (by dsimp) ?_
        refine T.cond rfl (fun hc => ?_) (fun hc => ?_) -- cond 5
        ·(try simp only [dE] at hc)
         refine T.seq fun K22 hK22 => ?_
         refine T.region ?_ -- region 12
         refine ro rfl rfl (OpOk.step (ok_build rfl ti_api_State rfl)) ?_
         refine ro rfl rfl (OpOk.step (ok_store rfl ti_api_State (by decide) rfl rfl rfl rfl rfl (by first | exact Nat.le_of_ble_eq_true rfl | simp) (by first | exact .inl ⟨rfl, rfl⟩ | exact .inr rfl))) ?_
         refine ro rfl rfl (OpOk.step (ok_move (.inr rfl))) ?_
         refine ro_nil ?_
         refine keepK hK22 [4, 5] (by dsimp) (by dsimp) ?_
         refine T.ret (hQ _ _ _ rfl ?_).1 -- ret 9
         exact by (rw [applyS_bad hrs (by unfold Goes; omega) (stepS_no (by assumption) (by first | omega | (simp only [Zns_len] at *; omega)))]; exact ap_no (e := 13) rfl rfl)
        ·(try simp only [dE] at hc)
         obtain ⟨z, hz⟩ : ∃ z, s.zs[x.zone.toNat]? = some z := ⟨_, List.getElem?_eq_getElem (by simp only [Zns_len] at *; omega)⟩
         have hzr : 0 ≤ x.zone ∧ x.zone < s.zs.length := by simp only [Zns_len] at *; omega
         refine T.skip ?_
         refine keepK hK19 [2, 3, 4] (by dsimp) (by dsimp) ?_
         refine T.seq fun K23 hK23 => ?_
         refine T.region ?_ -- region 13
         refine ro rfl rfl (OpOk.step (ok_load rfl ti_api_State rfl rfl)) ?_
         refine ro rfl rfl (OpOk.step (ok_load rfl ti_api_Rec rfl rfl)) ?_
         refine ro rfl rfl (ok_call rfl rfl rfl ((rstep_ok s x z hz hzr hck (hrs.2.2.2.2.2.2.2.1 z (List.mem_of_getElem? hz)) hxg hn hm hxb).plain (by simp [renL, AV.ren, StC_take, StC_ren, RcC_take, RcC_ren]) (by simp [AV.ren, renL, ZnC_ren]))) ?_
         refine ro rfl rfl (OpOk.step (ok_move (.inl rfl))) ?_
         refine ro rfl rfl (OpOk.step (ok_extract rfl rfl rfl)) ?_
         refine ro rfl rfl (OpOk.step (ok_extract rfl rfl rfl)) ?_
         refine ro rfl rfl (OpOk.step (ok_alloc rfl ti_api_Zone rfl (by decide))) ?_
         refine ro rfl rfl (OpOk.step (ok_store rfl ti_api_Zone (by decide) rfl rfl rfl rfl rfl (by first | exact Nat.le_of_ble_eq_true rfl | simp) (by first | exact .inl ⟨rfl, rfl⟩ | exact .inr rfl))) ?_
         refine ro rfl rfl (OpOk.step (ok_move (.inr rfl))) ?_
         refine ro_nil ?_
         refine keepK hK23 [2, 3, 4, 8, 9] (by dsimp) (by dsimp) ?_
         refine T.seq fun K24 hK24 => ?_
         refine T.seq fun K25 hK25 => ?_
         refine T.region ?_ -- region 14
         refine ro rfl rfl (OpOk.step (ok_move (.inl rfl))) ?_
         refine ro rfl rfl (OpOk.step (ok_unOp rfl rfl)) ?_
         refine ro_nil ?_
         refine keepK hK25 [2, 3, 4, 8, 73] (by dsimp) (by dsimp) ?_
         refine T.cond rfl (fun hc => ?_) (fun hc => ?_) -- cond 6
         ·(try simp only [dE] at hc)
          refine T.seq fun K26 hK26 => ?_
          refine T.region ?_ -- region 15
          refine ro rfl rfl (OpOk.step (ok_build rfl ti_api_State rfl)) ?_
          refine ro rfl rfl (OpOk.step (ok_store rfl ti_api_State (by decide) rfl rfl rfl rfl rfl (by first | exact Nat.le_of_ble_eq_true rfl | simp) (by first | exact .inl ⟨rfl, rfl⟩ | exact .inr rfl))) ?_
          refine ro rfl rfl (OpOk.step (ok_move (.inr rfl))) ?_
          refine ro_nil ?_
          refine keepK hK26 [4, 5] (by dsimp) (by dsimp) ?_
          refine T.ret (hQ _ _ _ rfl ?_).1 -- ret 10
          have h1 : (stepZ s.c s.zs (decide (2 ∈ s.st)) z x).isSome = false := by assumption
          rw [applyS_bad hrs (by unfold Goes; omega) (by rw [stepS_zn (by assumption) hzr hz, stepZ_rz, h1]; rfl)]; exact ap_no (e := 13) rfl rfl
         ·(try simp only [dE] at hc)
          refine T.skip ?_
          refine keepK hK24 [2, 3, 4, 8] (by dsimp) (by dsimp) ?_
          refine T.seq fun K27 hK27 => ?_
          refine T.region ?_ -- region 16
          refine ro rfl rfl (OpOk.step (ok_load rfl ti_api_State rfl rfl)) ?_
          refine ro rfl rfl (OpOk.step (ok_fieldAddr rfl ti_api_Rec rfl rfl ti_int (by decide) rfl)) ?_
          refine ro rfl rfl (OpOk.step (ok_load rfl ti_int rfl rfl)) ?_
          refine ro rfl rfl (OpOk.step (ok_load rfl ti_api_Zone rfl rfl)) ?_
          refine ro rfl rfl (ok_call rfl rfl rfl ((rwith_ok s x.zone (rz (decide (2 ∈ s.st)) z x) hzr hm).plain (by simp [renL, AV.ren, StC_take, StC_ren]; exact ZnC_ren _ (rz (decide (2 ∈ s.st)) z x)) (by simp [AV.ren, StC_ren]))) ?_
          refine ro rfl rfl (OpOk.step (ok_store rfl ti_api_State (by decide) rfl rfl rfl rfl rfl (by first | exact Nat.le_of_ble_eq_true rfl | simp) (by first | exact .inl ⟨rfl, rfl⟩ | exact .inr rfl))) ?_
          refine ro_nil ?_
          refine keepK hK27 [2, 3, 4] (by dsimp) (by dsimp) ?_
          refine T.seq fun K28 hK28 => ?_
          refine T.region ?_ -- region 17
          refine ro rfl rfl (OpOk.step (ok_fieldAddr rfl ti_api_Rec rfl rfl ti_int (by decide) rfl)) ?_
          refine ro rfl rfl (OpOk.step (ok_load rfl ti_int rfl rfl)) ?_
          refine ro rfl rfl (OpOk.step (ok_fieldAddr rfl ti_api_State rfl rfl ti_int (by decide) rfl)) ?_
          refine ro rfl rfl (OpOk.step (ok_store rfl ti_int (by decide) rfl rfl rfl rfl rfl (by first | exact Nat.le_of_ble_eq_true rfl | simp) (by first | exact .inl ⟨rfl, rfl⟩ | exact .inr rfl))) ?_
          refine ro_nil ?_
          refine keepK hK28 [2, 4] (by dsimp) (by dsimp) ?_
          refine T.seq fun K29 hK29 => ?_
          refine T.region ?_ -- region 18
          refine ro rfl rfl (OpOk.step (ok_load rfl ti_api_State rfl rfl)) ?_
          refine ro rfl rfl (OpOk.step (ok_store rfl ti_api_State (by decide) rfl rfl rfl rfl rfl (by first | exact Nat.le_of_ble_eq_true rfl | simp) (by first | exact .inl ⟨rfl, rfl⟩ | exact .inr rfl))) ?_
          refine ro rfl rfl (OpOk.step (ok_move (.inr rfl))) ?_
          refine ro_nil ?_
          refine keepK hK29 [4, 5] (by dsimp) (by dsimp) ?_
          refine T.ret (hQ _ _ _ rfl ?_).1 -- ret 11
          have h1 : (stepZ s.c s.zs (decide (2 ∈ s.st)) z x).isSome = true := by assumption
          rw [applyS_ok (t := { s with zs := s.zs.set x.zone.toNat (rz (decide (2 ∈ s.st)) z x), sq := x.seq }) hrs (by unfold Goes; omega) (by rw [stepS_zn (by assumption) hzr hz, stepZ_rz, h1]; rfl)]; exact sret rfl rfl
end Go.Proofs.Ytlegolcbjjjofaa.AmF
