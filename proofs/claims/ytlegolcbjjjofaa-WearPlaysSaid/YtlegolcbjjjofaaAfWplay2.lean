/- Walks over the abstract machine: how often slots are reset by records, as the document has it. -/
import Derived.Test.YtlegolcbjjjofaaAfWplay1
namespace Go.Proofs.Ytlegolcbjjjofaa.AmF
open Go Go.AM
set_option maxRecDepth 100000
set_option maxHeartbeats 4000000
set_option linter.unusedSimpArgs false
set_option linter.unusedVariables false
attribute [local simp] tkeep tget tput ev cav argsTM pickA normT putA splice AV.cells ints_length rowsA_length Prs_len Zns_len tbl_len
theorem rplay40_ok (c : Cf) (l : List Rc) (hck : chkC c = 0) (hl : l.length ≤ 1000000) (hb : ∀ x ∈ l, x.body.length ≤ 1000000) (hg : ∀ x ∈ l, -9223372036854775808 ≤ x.gen ∧ x.gen ≤ 9223372036854775807) : CSpec Try.prog 44 [] [.agg (CC c), .fz 10 (Rcl l)] [] (.agg (ints .i64 (tbl (playV (newS c) l l.length)))) := by
 obtain ⟨s0, hs0⟩ : ∃ s, newS c = s := ⟨_, rfl⟩
 have hnew := rnew11_ok c hck
 have hr0 : RS s0 := by rw [← hs0]; exact RS_new hck
 rw [hs0] at hnew ⊢
 have hrun := runS_right l hr0
 refine CSpec.body Try.func44 rfl rfl rfl rfl rfl fun Q hQ => ?_
 refine T.seq fun K1 hK1 => ?_
 refine T.region ?_ -- region 0
 refine ro rfl rfl (OpOk.step (ok_box (n := 11) rfl rfl (by decide))) ?_
 refine ro rfl rfl (OpOk.step (ok_alloc rfl ti_A64int rfl (by decide))) ?_
 refine ro_nil ?_
 refine keepK hK1 [1, 2, 4] (by dsimp) (by dsimp) ?_
 refine T.seq fun K2 hK2 => ?_
 refine T.region ?_ -- region 1
 refine ro rfl rfl (OpOk.step (ok_alloc rfl ti_A64int rfl (by decide))) ?_
 refine ro_nil ?_
 refine keepK hK2 [1, 2, 4, 5] (by dsimp) (by dsimp) ?_
 refine T.seq fun K3 hK3 => ?_
 refine T.region ?_ -- region 2
 refine ro rfl rfl (OpOk.step (ok_load rfl ti_api_Conf rfl rfl)) ?_
 refine ro rfl rfl (ok_call rfl rfl rfl (hnew.plain (by show renL _ [.agg (CC c)] = _; simp [renL, AV.ren, CC_ren]) (by simp [AV.ren, renL, StC_ren]))) ?_
 refine ro rfl rfl (OpOk.step (ok_alloc rfl ti_api_State rfl (by decide))) ?_
 refine ro rfl rfl (OpOk.step (ok_store rfl ti_api_State (by decide) rfl rfl rfl rfl rfl (by first | exact Nat.le_of_ble_eq_true rfl | simp) (by first | exact .inl ⟨rfl, rfl⟩ | exact .inr rfl))) ?_
 refine ro_nil ?_
 refine keepK hK3 [1, 4, 5, 6] (by dsimp) (by dsimp) ?_
 refine T.seq fun K4 hK4 => ?_
 refine T.seq fun K5 hK5 => ?_
 refine T.region ?_ -- region 3
 refine ro rfl rfl (OpOk.step (ok_move (.inr rfl))) ?_
 refine ro_nil ?_
 refine keepK hK5 [1, 4, 5, 6, 7] (by dsimp) (by dsimp) ?_
 refine T.block ?_
 refine T.loopI (ι := Nat) (fun i => i ≤ l.length) (fun i => l.length - i) (fun i => ([(1, .fz 10 (Rcl l)), (4, .ref 0 0 0), (5, .ref 1 0 0), (6, .ref 2 0 0), (7, .int i)], [some (TBl fun _ => 0), some (TBl (playV s0 l i)), some (StB (runS s0 l i))])) 0 (Nat.zero_le _) (TEnt.fin [1, 2, 3] (by decide) (by simp) (by show [some (Blk.ren _ (TBl fun _ => 0)), some (Blk.ren _ (TBl fun _ => 0)), some (Blk.ren _ (StB s0))] = _; rw [TBl_ren, StB_ren]; rfl) ⟨by simp [AV.ren, Rcl_ren], rfl, rfl, rfl, rfl, trivial⟩) (fun i hi => ?_) -- loop 1
 refine T.seq fun K6 hK6 => ?_
 refine T.seq fun K7 hK7 => ?_
 refine T.region ?_ -- region 4
 refine ro rfl rfl (OpOk.step (ok_move (.inl rfl))) ?_
 refine ro rfl rfl (OpOk.step (ok_move (.inl rfl))) ?_
 refine ro rfl rfl (OpOk.step (ok_len' rfl rfl ti_Lapi_Rec rfl (by first | exact ints_length _ _ | exact rowsA_length _ _ | exact Cms_len _ | exact mapLen _ | rfl))) ?_
 refine ro rfl rfl (OpOk.step (ok_binOp rfl ti_int rfl)) ?_
 refine ro_nil ?_
 refine keepK hK7 [1, 4, 5, 6, 7, 17] (by dsimp) (by dsimp) ?_
 refine T.cond rfl (fun hc => ?_) (fun hc => ?_) -- cond 1
 ·(try simp only [dE] at hc)
  rw [Rcl_len] at hc
  obtain ⟨w, hw⟩ : ∃ w, w = i := ⟨_, rfl⟩
  subst hw
  obtain ⟨x, hx⟩ : ∃ x, l[w]? = some x := ⟨_, List.getElem?_eq_getElem (by omega)⟩
  have hxb := hb x (List.mem_of_getElem? hx)
  have hxg := hg x (List.mem_of_getElem? hx)
  have hri := (hrun w).1
  have hfi := RS_few hri
  have hsq := hri.2.2.1
  have hrt := runS_succ (s := s0) hx
  have hpv := playV_succ (s := s0) hx
  have hvb := playV_le s0 l w
  obtain ⟨s, hs⟩ : ∃ s, runS s0 l w = s := ⟨_, rfl⟩
  obtain ⟨t, ht⟩ : ∃ t, runS s0 l (w + 1) = t := ⟨_, rfl⟩
  obtain ⟨v, hv⟩ : ∃ v, playV s0 l w = v := ⟨_, rfl⟩
  obtain ⟨v', hv'⟩ : ∃ v, playV s0 l (w + 1) = v := ⟨_, rfl⟩
  rw [hs] at hri hfi hsq hrt hpv
  rw [ht] at hrt
  rw [hv] at hpv hvb
  rw [hv'] at hpv
  refine T.ent (TEnt.toH (tm' := [(1, .fz 10 (Rcl l)), (4, .ref 0 0 0), (5, .ref 1 0 0), (6, .ref 2 0 0), (7, .int w)]) (H' := [some (TBl fun _ => 0), some (TBl v), some (StB s)]) (by rw [hs, hv]) ⟨rfl, rfl, rfl, rfl, rfl, trivial⟩) ?_
  refine T.skip ?_
  refine keepK hK6 [1, 4, 5, 6, 7] (by dsimp) (by dsimp) ?_
  refine T.seq fun K8 hK8 => ?_
  refine T.block ?_
  refine T.seq fun K9 hK9 => ?_
  refine T.region ?_ -- region 6
  refine ro rfl rfl (OpOk.step (ok_move (.inl rfl))) ?_
  refine ro rfl rfl (OpOk.step (ok_move (.inl rfl))) ?_
  refine ro rfl rfl (OpOk.step (by exact ok_index_map (F := RcC) rfl ti_Lapi_Rec rfl ti_api_Rec rfl rfl rfl hx (by simp [RcC]))) ?_
  refine ro rfl rfl (OpOk.step (ok_load rfl ti_api_Rec rfl rfl)) ?_
  refine ro rfl rfl (OpOk.step (ok_alloc rfl ti_api_Rec rfl (by decide))) ?_
  refine ro rfl rfl (OpOk.step (ok_store rfl ti_api_Rec (by decide) rfl rfl rfl rfl rfl (by first | exact Nat.le_of_ble_eq_true rfl | simp) (by first | exact .inl ⟨rfl, rfl⟩ | exact .inr rfl))) ?_
  refine ro_nil ?_
  refine keepK hK9 [1, 4, 5, 6, 7, 8] (by dsimp) (by dsimp) ?_
  refine T.seq fun K10 hK10 => ?_
  refine T.draw mixed (SH [] (HeldL ([some (TBl fun _ => 0), some (TBl v), some (StB s)]))) ?_ -- region 7
  refine any_take 0 rfl (by first | rfl | decide +kernel) rfl (by first | (simp [HeldL]; done) | (simp only [HeldL, List.map_cons, List.map_nil, List.cons_append, List.nil_append, List.set_cons_zero, List.set_cons_succ]; (repeat' first | trivial | rfl | constructor))) (fun H' hH => OpOk.step (ok_fieldAddr rfl ti_api_State rfl rfl ti_int (by decide) rfl)) ?_
  refine any_take 1 rfl (by first | rfl | decide +kernel) rfl (by first | (simp [HeldL]; done) | (simp only [HeldL, List.map_cons, List.map_nil, List.cons_append, List.nil_append, List.set_cons_zero, List.set_cons_succ]; (repeat' first | trivial | rfl | constructor))) (fun H' hH => OpOk.step (ok_load rfl ti_int (locA_held hH rfl) rfl)) ?_
  refine any_take 2 rfl (by first | rfl | decide +kernel) rfl (by first | (simp [HeldL]; done) | (simp only [HeldL, List.map_cons, List.map_nil, List.cons_append, List.nil_append, List.set_cons_zero, List.set_cons_succ]; (repeat' first | trivial | rfl | constructor))) (fun H' hH => OpOk.step (ok_fieldAddr rfl ti_api_State rfl rfl ti_int (by decide) rfl)) ?_
  refine any_take 3 rfl (by first | rfl | decide +kernel) rfl (by first | (simp [HeldL]; done) | (simp only [HeldL, List.map_cons, List.map_nil, List.cons_append, List.nil_append, List.set_cons_zero, List.set_cons_succ]; (repeat' first | trivial | rfl | constructor))) (fun H' hH => OpOk.step (ok_load rfl ti_int (locA_held hH rfl) rfl)) ?_
  refine any_take 4 rfl (by first | rfl | decide +kernel) rfl (by first | (simp [HeldL]; done) | (simp only [HeldL, List.map_cons, List.map_nil, List.cons_append, List.nil_append, List.set_cons_zero, List.set_cons_succ]; (repeat' first | trivial | rfl | constructor))) (fun H' hH => OpOk.step (ok_add64 rfl ti_int rfl rfl (by omega) (by omega))) ?_
  refine any_take 5 rfl (by first | rfl | decide +kernel) rfl (by first | (simp [HeldL]; done) | (simp only [HeldL, List.map_cons, List.map_nil, List.cons_append, List.nil_append, List.set_cons_zero, List.set_cons_succ]; (repeat' first | trivial | rfl | constructor))) (fun H' hH => OpOk.step (ok_fieldAddr rfl ti_api_Rec rfl rfl ti_int (by decide) rfl)) ?_
  refine any_one 6 rfl (by first | rfl | decide +kernel) rfl rfl (OpOk.step (ok_store rfl ti_int (by decide) rfl rfl rfl rfl rfl (by first | exact Nat.le_of_ble_eq_true rfl | simp) (by first | exact .inl ⟨rfl, rfl⟩ | exact .inr rfl))) (.inr (by first | (simp [HeldL]; done) | (simp only [HeldL, List.map_cons, List.map_nil, List.cons_append, List.nil_append, List.set_cons_zero, List.set_cons_succ]; (repeat' first | trivial | rfl | constructor)))) ?_
  refine any_take 7 rfl (by first | rfl | decide +kernel) rfl (by first | (simp [HeldL]; done) | (simp only [HeldL, List.map_cons, List.map_nil, List.cons_append, List.nil_append, List.set_cons_zero, List.set_cons_succ]; (repeat' first | trivial | rfl | constructor))) (fun H' hH => OpOk.step (ok_fieldAddr rfl ti_api_Rec rfl rfl ti_int (by decide) rfl)) ?_
  refine any_one 8 rfl (by first | rfl | decide +kernel) rfl rfl (OpOk.step (ok_store rfl ti_int (by decide) rfl rfl rfl rfl rfl (by first | exact Nat.le_of_ble_eq_true rfl | simp) (by first | exact .inl ⟨rfl, rfl⟩ | exact .inr rfl))) (.inr (by first | (simp [HeldL]; done) | (simp only [HeldL, List.map_cons, List.map_nil, List.cons_append, List.nil_append, List.set_cons_zero, List.set_cons_succ]; (repeat' first | trivial | rfl | constructor)))) ?_
  refine any_done rfl ?_
  refine keepK hK10 [1, 4, 5, 6, 7, 8] (by dsimp) (by dsimp) ?_
  refine T.seq fun K11 hK11 => ?_
  refine T.ent (TEnt.toH (tm' := [(1, .fz 10 (Rcl l)), (4, .ref 0 0 0), (5, .ref 1 0 0), (6, .ref 2 0 0), (7, .int w), (8, .ref 3 0 0)]) (H' := [some (TBl fun _ => 0), some (TBl v), some (StB s), some (RcB (atS s x))]) rfl ⟨rfl, rfl, rfl, rfl, rfl, rfl, trivial⟩) ?_
  refine T.region ?_ -- region 8
  refine ro rfl rfl (OpOk.step (ok_load rfl ti_api_State rfl rfl)) ?_
  refine ro rfl rfl (OpOk.step (ok_load rfl ti_api_Rec rfl rfl)) ?_
  refine ro rfl rfl (ok_call rfl rfl rfl ((rapply_ok s (atS s x) hxg (by show -9223372036854775808 ≤ s.sq + 1 ∧ s.sq + 1 ≤ 9223372036854775807; omega) (by omega) (by omega) hxb).plain (by simp [renL, AV.ren, StC_take, StC_ren, RcC_take, RcC_ren]) (by simp [AV.ren, renL, StC_ren]))) ?_
  refine ro rfl rfl (OpOk.step (ok_move (.inl rfl))) ?_
  refine ro rfl rfl (OpOk.step (ok_extract rfl rfl rfl)) ?_
  refine ro rfl rfl (OpOk.step (ok_extract rfl rfl rfl)) ?_
  refine ro rfl rfl (OpOk.step (ok_alloc rfl ti_api_State rfl (by decide))) ?_
  refine ro rfl rfl (OpOk.step (ok_store rfl ti_api_State (by decide) rfl rfl rfl rfl rfl (by first | exact Nat.le_of_ble_eq_true rfl | simp) (by first | exact .inl ⟨rfl, rfl⟩ | exact .inr rfl))) ?_
  refine ro rfl rfl (OpOk.step (ok_move (.inr rfl))) ?_
  refine ro_nil ?_
  refine keepK hK11 [1, 4, 5, 6, 7, 8, 9, 10] (by dsimp) (by dsimp) ?_
  refine T.seq fun K12 hK12 => ?_
  refine T.seq fun K13 hK13 => ?_
  refine T.region ?_ -- region 9
  refine ro rfl rfl (OpOk.step (ok_move (.inl rfl))) ?_
  refine ro rfl rfl (OpOk.step (ok_binOp rfl ti_int rfl)) ?_
  refine ro_nil ?_
  refine keepK hK13 [1, 4, 5, 6, 7, 8, 9, 38] (by dsimp) (by dsimp) ?_
  refine T.cond rfl (fun hc => ?_) (fun hc => ?_) -- cond 2
  ·(try simp only [dE] at hc)
   have e1 := rnd_bad hrt hc
   have e2 := bump_not hpv (fun h => hc h.1)
   refine T.exit ?_
   refine keepK hK8 [1, 4, 5, 6, 7] (by dsimp) (by dsimp) ?_
   refine T.region ?_ -- region 5
   refine ro rfl rfl (OpOk.step (ok_move (.inl rfl))) ?_
   refine ro rfl rfl (OpOk.step (ok_add64 rfl ti_int rfl rfl (by omega) (by omega))) ?_
   refine ro rfl rfl (OpOk.step (ok_move (.inr rfl))) ?_
   refine ro_nil ?_
   exact ⟨w + 1, by omega, by omega, TEnt.fin [0, 1, 2] (by decide) (by simp) (by show [some (Blk.ren _ (TBl _)), some (Blk.ren _ (TBl _)), some (Blk.ren _ (StB _))] = _; first | (rw [TBl_ren, TBl_ren, StB_ren, ht, hv', e1]; done) | (rw [TBl_ren, TBl_ren, StB_ren, ht, hv', e1, e2])) ⟨by simp [AV.ren, Rcl_ren], rfl, rfl, rfl, rfl, trivial⟩⟩
  ·(try simp only [dE] at hc)
   have hc0 := hc
   have e1 := rnd_good hrt hc
   refine T.skip ?_
   refine keepK hK12 [1, 4, 5, 6, 7, 8, 9] (by dsimp) (by dsimp) ?_
   refine T.seq fun K14 hK14 => ?_
   refine T.seq fun K15 hK15 => ?_
   refine T.region ?_ -- region 10
   refine ro rfl rfl (OpOk.step (ok_fieldAddr rfl ti_api_Rec rfl rfl ti_int (by decide) rfl)) ?_
   refine ro rfl rfl (OpOk.step (ok_load rfl ti_int rfl rfl)) ?_
   refine ro rfl rfl (OpOk.step (ok_binOp rfl ti_int rfl)) ?_
   refine ro_case rfl rfl (OpOk.step (ok_moveb (.inl rfl) rfl)) (fun hb => ?_) (fun hb => ?_)
   ·(try simp only [dE] at hb)
    have hzr := apply_zone hri hc0 hb
    obtain ⟨z, hz⟩ : ∃ z, s.zs[x.zone.toNat]? = some z := ⟨_, List.getElem?_eq_getElem (by omega)⟩
    have hsl := slot_lt hri (List.mem_of_getElem? hz)
    refine ro rfl rfl (OpOk.step (ok_fieldAddr rfl ti_api_State rfl rfl ti_Lapi_Zone (by decide) rfl)) ?_
    refine ro rfl rfl (OpOk.step (ok_load rfl ti_Lapi_Zone rfl rfl)) ?_
    refine ro rfl rfl (OpOk.step (ok_fieldAddr rfl ti_api_Rec rfl rfl ti_int (by decide) rfl)) ?_
    refine ro rfl rfl (OpOk.step (ok_load rfl ti_int rfl rfl)) ?_
    refine ro rfl rfl (OpOk.step (by exact ok_index_map (F := ZnC) rfl ti_Lapi_Zone rfl ti_api_Zone rfl rfl (show x.zone = (x.zone.toNat : Int) by omega) hz (by simp [ZnC]))) ?_
    refine ro rfl rfl (OpOk.step (ok_fieldAddr rfl ti_api_Zone rfl rfl ti_int (by decide) rfl)) ?_
    refine ro rfl rfl (OpOk.step (ok_load rfl ti_int rfl rfl)) ?_
    refine ro rfl rfl (OpOk.step (ok_binOp rfl ti_int rfl)) ?_
    refine ro rfl rfl (OpOk.step (ok_pick rfl rfl)) ?_
    refine ro_nil ?_
    refine keepK hK15 [1, 4, 5, 6, 7, 8, 9, 51] (by dsimp) (by dsimp) ?_
    refine T.join hK14 [(1, .fz 10 (Rcl l)), (4, .ref 0 0 0), (5, .ref 1 0 0), (6, .ref 2 0 0), (7, .int w), (9, .ref 4 0 0)] [some (TBl fun _ => 0), some (TBl v'), some (StB s), some (RcB (atS s x)), some (StB (applyS s (atS s x)).1)] (fun hJ16 => ?_) ?_ -- join 1
    · -- the two ways
     refine T.cond rfl (fun hc => ?_) (fun hc => ?_) -- cond 3
     ·(try simp only [dE] at hc)
      obtain ⟨k, hk⟩ : ∃ k : Nat, z.slot = k := ⟨z.slot.toNat, by omega⟩
      have e2 := bump_did hpv hc0 hb hz hk
      have hk64 : k < 64 := by omega
      have e3 : TBl v' = ⟨64, true, [.agg (splice (ints .i64 (tbl v)) k [.v (.int .i64 ((v k : Int) + 1))])]⟩ := by
        rw [splice_ints (by rw [tbl_len]; exact hk64), tbl_bump hk64, e2]
        rfl
      have hvk := hvb k
      refine T.seq fun K17 hK17 => ?_
      refine T.region ?_ -- region 11
      refine ro rfl rfl (OpOk.step (ok_fieldAddr rfl ti_api_State rfl rfl ti_Lapi_Zone (by decide) rfl)) ?_
      refine ro rfl rfl (OpOk.step (ok_load rfl ti_Lapi_Zone rfl rfl)) ?_
      refine ro rfl rfl (OpOk.step (ok_fieldAddr rfl ti_api_Rec rfl rfl ti_int (by decide) rfl)) ?_
      refine ro rfl rfl (OpOk.step (ok_load rfl ti_int rfl rfl)) ?_
      refine ro rfl rfl (OpOk.step (by exact ok_index_map (F := ZnC) rfl ti_Lapi_Zone rfl ti_api_Zone rfl rfl (show x.zone = (x.zone.toNat : Int) by omega) hz (by simp [ZnC]))) ?_
      refine ro rfl rfl (OpOk.step (ok_fieldAddr rfl ti_api_Zone rfl rfl ti_int (by decide) rfl)) ?_
      refine ro rfl rfl (OpOk.step ((ok_load rfl ti_int rfl rfl).eq (x' := .int k) (by exact congrArg AV.int hk) rfl)) ?_
      refine ro rfl rfl (OpOk.step (ok_move (.inr rfl))) ?_
      refine ro_nil ?_
      refine keepK hK17 [1, 4, 5, 6, 7, 9, 11] (by dsimp) (by dsimp) ?_
      refine T.region ?_ -- region 12
      refine ro rfl rfl (OpOk.step (ok_move (.inl rfl))) ?_
      refine ro rfl rfl (OpOk.step (ok_index_arr rfl ti_A64int rfl ti_int rfl rfl rfl rfl hk64)) ?_
      refine ro rfl rfl (OpOk.step (ok_load rfl ti_int (locA_arr rfl rfl rfl (tbl_ne v)) (loadA_ints rfl (tbl_get hk64)))) ?_
      refine ro rfl rfl (OpOk.step (ok_add64 rfl ti_int rfl rfl (by omega) (by omega))) ?_
      refine ro rfl rfl (OpOk.step (ok_index_arr rfl ti_A64int rfl ti_int rfl rfl rfl rfl hk64)) ?_
      refine ro rfl rfl (OpOk.step (by exact ok_store rfl ti_int (by decide) rfl rfl rfl (el := .agg (ints .i64 (tbl v))) rfl rfl (Nat.succ_le_of_lt hk64) (.inr (by simp [TBl])))) ?_
      refine ro_nil ?_
      exact hJ16 _ _ (TEnt.toH (by first | (rw [e3]; simp [TBl]; rfl) | (rw [e2]; done) | (rw [e2]; rfl)) ⟨rfl, rfl, rfl, rfl, rfl, rfl, trivial⟩)
     ·(try simp only [dE] at hc)
      have e2 := bump_none hpv hz (by omega)
      refine T.skip ?_
      exact hJ16 _ _ (TEnt.toH (by first | (rw [e3]; simp [TBl]; rfl) | (rw [e2]; done) | (rw [e2]; rfl)) ⟨rfl, rfl, rfl, rfl, rfl, rfl, trivial⟩)
    refine T.region ?_ -- region 13
    refine ro rfl rfl (OpOk.step (ok_load rfl ti_api_State rfl rfl)) ?_
    refine ro rfl rfl (OpOk.step (ok_store rfl ti_api_State (by decide) rfl rfl rfl rfl rfl (by first | exact Nat.le_of_ble_eq_true rfl | simp) (by first | exact .inl ⟨rfl, rfl⟩ | exact .inr rfl))) ?_
    refine ro_nil ?_
    refine keepK hK8 [1, 4, 5, 6, 7] (by dsimp) (by dsimp) ?_
    refine T.region ?_ -- region 5
    refine ro rfl rfl (OpOk.step (ok_move (.inl rfl))) ?_
    refine ro rfl rfl (OpOk.step (ok_add64 rfl ti_int rfl rfl (by omega) (by omega))) ?_
    refine ro rfl rfl (OpOk.step (ok_move (.inr rfl))) ?_
    refine ro_nil ?_
    exact ⟨w + 1, by omega, by omega, TEnt.fin [0, 1, 2] (by decide) (by simp) (by show [some (Blk.ren _ (TBl _)), some (Blk.ren _ (TBl _)), some (Blk.ren _ (StB _))] = _; first | (rw [TBl_ren, TBl_ren, StB_ren, ht, hv', e1]; done) | (rw [TBl_ren, TBl_ren, StB_ren, ht, hv', e1, e2])) ⟨by simp [AV.ren, Rcl_ren], rfl, rfl, rfl, rfl, trivial⟩⟩
   ·(try simp only [dE] at hb)
    have e2 := bump_not hpv (fun h => hb h.2.1)
    refine ro_skip rfl rfl ?_
    refine ro_skip rfl rfl ?_
    refine ro_skip rfl rfl ?_
    refine ro_skip rfl rfl ?_
    refine ro_skip rfl rfl ?_
    refine ro_skip rfl rfl ?_
    refine ro_skip rfl rfl ?_
    refine ro_skip rfl rfl ?_
    refine ro rfl rfl (OpOk.step (ok_pickb (t := false) (d := false) rfl rfl rfl)) ?_
    refine ro_nil ?_
    refine keepK hK15 [1, 4, 5, 6, 7, 8, 9, 51] (by dsimp) (by dsimp) ?_
    refine T.cond_false rfl ?_
    refine T.skip ?_
    refine keepK hK14 [1, 4, 5, 6, 7, 9] (by dsimp) (by dsimp) ?_
    refine T.region ?_ -- region 13
    refine ro rfl rfl (OpOk.step (ok_load rfl ti_api_State rfl rfl)) ?_
    refine ro rfl rfl (OpOk.step (ok_store rfl ti_api_State (by decide) rfl rfl rfl rfl rfl (by first | exact Nat.le_of_ble_eq_true rfl | simp) (by first | exact .inl ⟨rfl, rfl⟩ | exact .inr rfl))) ?_
    refine ro_nil ?_
    refine keepK hK8 [1, 4, 5, 6, 7] (by dsimp) (by dsimp) ?_
    refine T.region ?_ -- region 5
    refine ro rfl rfl (OpOk.step (ok_move (.inl rfl))) ?_
    refine ro rfl rfl (OpOk.step (ok_add64 rfl ti_int rfl rfl (by omega) (by omega))) ?_
    refine ro rfl rfl (OpOk.step (ok_move (.inr rfl))) ?_
    refine ro_nil ?_
    exact ⟨w + 1, by omega, by omega, TEnt.fin [0, 1, 2] (by decide) (by simp) (by show [some (Blk.ren _ (TBl _)), some (Blk.ren _ (TBl _)), some (Blk.ren _ (StB _))] = _; first | (rw [TBl_ren, TBl_ren, StB_ren, ht, hv', e1]; done) | (rw [TBl_ren, TBl_ren, StB_ren, ht, hv', e1, e2])) ⟨by simp [AV.ren, Rcl_ren], rfl, rfl, rfl, rfl, trivial⟩⟩
 ·(try simp only [dE] at hc)
  rw [Rcl_len] at hc
  have hin : i = l.length := by omega
  subst hin
  refine T.exit ?_
  refine keepK hK4 [4, 5] (by dsimp) (by dsimp) ?_
  refine T.seq fun K18 hK18 => ?_
  refine T.region ?_ -- region 14
  refine ro rfl rfl (OpOk.step ((ok_load rfl ti_A64int (locA_arr rfl rfl rfl (tbl_ne _)) rfl).eq (x' := .agg (ints .i64 (tbl (playV s0 l l.length)))) (by simp [List.take_of_length_le]) rfl)) ?_
  refine ro rfl rfl (OpOk.step (by exact ok_store (x := .tmp 65) rfl ti_A64int (by decide) rfl rfl rfl (el := .agg (ints .i64 (tbl fun _ => 0))) rfl (fits_ints (tbl_len _)) (by simp [TBl]) (.inl ⟨rfl, rfl⟩))) ?_
  refine ro_nil ?_
  refine keepK hK18 [4] (by dsimp) (by dsimp) ?_
  refine T.ret (hQ _ _ _ rfl ?_).1 -- ret 1
  exact TEnt.fin [] (by decide) (by simp) rfl ⟨by show AV.ren _ (.agg (((ints .i64 (tbl (playV s0 l l.length))).drop 0).take 64)) = _; simp [AV.ren, renL_ints, List.take_of_length_le], trivial⟩
end Go.Proofs.Ytlegolcbjjjofaa.AmF
