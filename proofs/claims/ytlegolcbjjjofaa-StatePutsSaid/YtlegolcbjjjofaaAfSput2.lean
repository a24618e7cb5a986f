/- Walks over the abstract machine: states of the log as bytes. -/
import Derived.Test.YtlegolcbjjjofaaAfSput1
namespace Go.Proofs.Ytlegolcbjjjofaa.AmF
open Go Go.AM
set_option maxRecDepth 100000
set_option maxHeartbeats 4000000
set_option linter.unusedSimpArgs false
set_option linter.unusedVariables false
attribute [local simp] tkeep tget tput ev cav argsTM pickA normT putA splice AV.cells ints_length rowsA_length Prs_len Zns_len
theorem sput_ok (s : St) (hT : RS s → (encSt s).length ≤ 1000000) (hsl : s.st.length ≤ 1000000) (hzl : s.zs.length ≤ 1000000) (hpl : ∀ z ∈ s.zs, z.pars.length ≤ 1000000) : CSpec Try.prog 39 [] [.agg (StC s)] [] (.fz 1 (ints .u8 (putS s))) := by
 refine CSpec.body Try.func39 rfl rfl rfl rfl rfl fun Q hQ => ?_
 refine T.seq fun K1 hK1 => ?_
 refine T.region ?_ -- region 0
 refine ro rfl rfl (OpOk.step (ok_box (n := 15) rfl rfl (by decide))) ?_
 refine ro rfl rfl (OpOk.step (ok_move (.inr rfl))) ?_
 refine ro_nil ?_
 refine keepK hK1 [1] (by dsimp) (by dsimp) ?_
 refine T.seq fun K2 hK2 => ?_
 refine T.seq fun K3 hK3 => ?_
 refine T.region ?_ -- region 1
 refine ro rfl rfl (OpOk.step (ok_load rfl ti_api_State rfl rfl)) ?_
 refine ro rfl rfl (ok_call rfl rfl rfl ((sright_ok s (by omega) (by omega) (fun z hz => by have := hpl z hz; omega)).plain (by simp [renL, AV.ren, StC_take, StC_ren]) rfl)) ?_
 refine ro rfl rfl (OpOk.step (ok_unOp rfl rfl)) ?_
 refine ro_nil ?_
 refine keepK hK3 [1, 12] (by dsimp) (by dsimp) ?_
 refine T.cond rfl (fun hc => ?_) (fun hc => ?_) -- cond 1
 ·(try simp only [dE] at hc)
  rw [putS_bad hc] at hQ
  refine T.seq fun K4 hK4 => ?_
  refine T.region ?_ -- region 2
  refine ro rfl rfl (OpOk.step (ok_move (.inr rfl))) ?_
  refine ro_nil ?_
  refine keepK hK4 [2] (by dsimp) (by dsimp) ?_
  refine T.ret (hQ _ _ _ rfl ?_).1 -- ret 1
  exact (TEnt.put1 0 (x' := .fz 1 []) (Ent.nil 1)).trans (TEnt.fin [] (by decide) (by simp) rfl ⟨rfl, trivial⟩)
 ·(try simp only [dE] at hc)
  have hrs := hc
  have hT := hT hrs
  rw [putS_ok hrs] at hQ
  have hl0 := headS_len s
  have hT0 : (encSt s).length = (headS s).length + ((encs s.st).length + (encZs s.zs).length) := by rw [encSt, List.length_append, List.length_append]
  have hcl : (encs s.c.l).length = 88 := by rw [encs_len]; rfl
  refine T.skip ?_
  refine keepK hK2 [1] (by dsimp) (by dsimp) ?_
  refine T.seq fun K5 hK5 => ?_
  refine T.drawH mixed [] ?_ -- region 3
  refine any_take 0 rfl (by first | rfl | decide +kernel) rfl (HeldL.refl _) (fun H' hH => OpOk.step (ok_fieldAddr rfl ti_api_State rfl rfl ti_api_Conf (by decide) rfl)) ?_
  refine any_take 1 rfl (by first | rfl | decide +kernel) rfl (HeldL.refl _) (fun H' hH => OpOk.step (ok_load rfl ti_api_Conf (locA_held hH rfl) rfl)) ?_
  refine any_take 3 rfl (by first | rfl | decide +kernel) rfl (HeldL.refl _) (fun H' hH => OpOk.step (ok_fieldAddr rfl ti_api_State rfl rfl ti_int (by decide) rfl)) ?_
  refine any_take 4 rfl (by first | rfl | decide +kernel) rfl (HeldL.refl _) (fun H' hH => OpOk.step (ok_load rfl ti_int (locA_held hH rfl) rfl)) ?_
  refine any_take 6 rfl (by first | rfl | decide +kernel) rfl (HeldL.refl _) (fun H' hH => OpOk.step (ok_fieldAddr rfl ti_api_State rfl rfl ti_int (by decide) rfl)) ?_
  refine any_take 7 rfl (by first | rfl | decide +kernel) rfl (HeldL.refl _) (fun H' hH => OpOk.step (ok_load rfl ti_int (locA_held hH rfl) rfl)) ?_
  refine any_one 2 rfl (by first | rfl | decide +kernel) rfl rfl (ok_call rfl rfl rfl ((cput_frz s.c).plain (by show renL _ [.agg (CC s.c)] = _; simp [renL, AV.ren, CC_ren]) (by simp [AV.ren, renL_ints]))) (.inr (by first | (simp [HeldL]; done) | (simp only [HeldL, List.map_cons, List.map_nil, List.cons_append, List.nil_append, List.set_cons_zero, List.set_cons_succ]; (repeat' first | trivial | rfl | constructor)))) ?_
  refine any_one 5 rfl (by first | rfl | decide +kernel) rfl rfl (ok_call rfl rfl rfl ((pkint_frz (l := encs s.c.l) (v := s.ep) (r := encs s.c.l ++ enc s.ep 8) rfl (by omega)).plain (by simp [renL, AV.ren, renL_ints]) (by simp [AV.ren, renL_ints]))) (.inr (by first | (simp [HeldL]; done) | (simp only [HeldL, List.map_cons, List.map_nil, List.cons_append, List.nil_append, List.set_cons_zero, List.set_cons_succ]; (repeat' first | trivial | rfl | constructor)))) ?_
  refine any_one 8 rfl (by first | rfl | decide +kernel) rfl rfl (ok_call rfl rfl rfl ((pkint_frz (l := encs s.c.l ++ enc s.ep 8) (v := s.sq) (r := headS s) (by simp [headS]) (by simp [enc_len]; omega)).plain (by simp [renL, AV.ren, renL_ints]) (by simp [AV.ren, renL_ints]))) (.inr (by first | (simp [HeldL]; done) | (simp only [HeldL, List.map_cons, List.map_nil, List.cons_append, List.nil_append, List.set_cons_zero, List.set_cons_succ]; (repeat' first | trivial | rfl | constructor)))) ?_
  refine any_take 9 rfl (by first | rfl | decide +kernel) rfl (by first | exact HeldL.refl _ | exact HeldL.append _ _ | simp [HeldL]) (fun H' hH => OpOk.step (ok_move (.inr rfl))) ?_
  refine any_done rfl ?_
  refine keepK hK5 [1, 3] (by dsimp) (by dsimp) ?_
  refine T.seq fun K6 hK6 => ?_
  refine T.seq fun K7 hK7 => ?_
  refine T.region ?_ -- region 4
  refine ro rfl rfl (OpOk.step (ok_fieldAddr rfl ti_api_State rfl rfl ti_Lint (by decide) rfl)) ?_
  refine ro rfl rfl (OpOk.step (ok_load rfl ti_Lint rfl rfl)) ?_
  refine ro rfl rfl (OpOk.step (ok_len' rfl rfl ti_Lint rfl (by first | exact ints_length _ _ | exact rowsA_length _ _ | exact Cms_len _ | exact mapLen _ | rfl))) ?_
  refine ro rfl rfl (OpOk.step (ok_move (.inl rfl))) ?_
  refine ro_nil ?_
  refine keepK hK7 [1, 3, 23, 24, 25] (by dsimp) (by dsimp) ?_
  refine T.block ?_
  refine T.loopI (ι := Nat) (fun i => i ≤ s.st.length) (fun i => s.st.length - i) (fun i => ([(1, .ref 0 0 0), (3, .fz 1 (ints .u8 (headS s ++ encs (s.st.take i)))), (23, .fz 1 (ints .i64 s.st)), (24, .int s.st.length), (25, .int i)], [some (StB s)])) 0 (Nat.zero_le _) (TEnt.toH rfl ⟨rfl, by simp [encs], rfl, rfl, rfl, trivial⟩) (fun i hi => ?_) -- loop 1
  have hti := encs_take s.st i
  refine T.seq fun K8 hK8 => ?_
  refine T.region ?_ -- region 5
  refine ro rfl rfl (OpOk.step (ok_binOp rfl ti_int rfl)) ?_
  refine ro_nil ?_
  refine keepK hK8 [1, 3, 23, 24, 25, 26] (by dsimp) (by dsimp) ?_
  refine T.seq fun K9 hK9 => ?_
  refine T.cond rfl (fun hc => ?_) (fun hc => ?_) -- cond 2
  ·(try simp only [dE] at hc)
   obtain ⟨v, hv⟩ : ∃ v, s.st[i]? = some v := ⟨_, List.getElem?_eq_getElem (by omega)⟩
   refine T.skip ?_
   refine keepK hK9 [1, 3, 23, 24, 25] (by dsimp) (by dsimp) ?_
   refine T.seq fun K10 hK10 => ?_
   refine T.block ?_
   refine T.seq fun K11 hK11 => ?_
   refine T.region ?_ -- region 6
   refine ro rfl rfl (OpOk.step (by exact ok_index_ints rfl ti_Lint rfl ti_int rfl rfl rfl (by omega) (by simpa using hv))) ?_
   refine ro rfl rfl (OpOk.step (ok_load rfl ti_int rfl rfl)) ?_
   refine ro rfl rfl (OpOk.step (ok_move (.inr rfl))) ?_
   refine ro_nil ?_
   refine keepK hK11 [1, 3, 5, 23, 24, 25] (by dsimp) (by dsimp) ?_
   refine T.region ?_ -- region 7
   refine ro rfl rfl (OpOk.step (ok_move (.inl rfl))) ?_
   refine ro rfl rfl (OpOk.step (ok_move (.inl rfl))) ?_
   refine ro rfl rfl (ok_call rfl rfl rfl ((pkint_frz (l := headS s ++ encs (s.st.take i)) (v := v) (r := headS s ++ encs (s.st.take (i + 1))) (by rw [encs_snoc' hv, List.append_assoc]) (by rw [List.length_append]; omega)).plain (by simp [renL, AV.ren, renL_ints]) (by simp [AV.ren, renL_ints]))) ?_
   refine ro rfl rfl (OpOk.step (ok_move (.inr rfl))) ?_
   refine ro_nil ?_
   refine keepK hK10 [1, 3, 23, 24, 25] (by dsimp) (by dsimp) ?_
   refine T.region ?_ -- region 8
   refine ro rfl rfl (OpOk.step (ok_add64 rfl ti_int rfl rfl (by omega) (by omega))) ?_
   refine ro rfl rfl (OpOk.step (ok_move (.inl rfl))) ?_
   refine ro_nil ?_
   exact ⟨i + 1, by omega, by omega, TEnt.toH rfl ⟨rfl, rfl, rfl, rfl, rfl, trivial⟩⟩
  ·(try simp only [dE] at hc)
   have hin : i = s.st.length := by omega
   subst hin
   have htk : s.st.take s.st.length = s.st := List.take_length ..
   obtain ⟨A, hA⟩ : ∃ A, headS s ++ encs s.st = A := ⟨_, rfl⟩
   have hAl : A.length = (headS s).length + (encs s.st).length := by rw [← hA, List.length_append]
   refine T.exit ?_
   refine keepK hK6 [1, 3] (by dsimp) (by dsimp) ?_
   refine T.seq fun K12 hK12 => ?_
   refine T.seq fun K13 hK13 => ?_
   refine T.region ?_ -- region 9
   refine ro rfl rfl (OpOk.step (ok_fieldAddr rfl ti_api_State rfl rfl ti_Lapi_Zone (by decide) rfl)) ?_
   refine ro rfl rfl (OpOk.step (ok_load rfl ti_Lapi_Zone rfl rfl)) ?_
   refine ro rfl rfl (OpOk.step (ok_len' rfl rfl ti_Lapi_Zone rfl (by first | exact ints_length _ _ | exact rowsA_length _ _ | exact Cms_len _ | exact mapLen _ | rfl))) ?_
   refine ro rfl rfl (OpOk.step (ok_move (.inl rfl))) ?_
   refine ro_nil ?_
   refine keepK hK13 [3, 34, 35, 36] (by dsimp) (by dsimp) ?_
   refine T.block ?_
   refine T.loopI (ι := Nat) (fun i => i ≤ s.zs.length) (fun i => s.zs.length - i) (fun i => ([(3, .fz 1 (ints .u8 (A ++ encZs (s.zs.take i)))), (34, .fz 6 (Zns s.zs)), (35, .int s.zs.length), (36, .int i)], [])) 0 (Nat.zero_le _) (TEnt.fin [] (by decide) (by simp) rfl ⟨by rw [htk, hA]; simp [encZs, AV.ren, renL_ints], by simp [AV.ren, Zns_ren], by rw [Zns_len]; rfl, rfl, trivial⟩) (fun i hi => ?_) -- loop 2
   have hzi := encZs_take s.zs i
   refine T.seq fun K14 hK14 => ?_
   refine T.region ?_ -- region 10
   refine ro rfl rfl (OpOk.step (ok_binOp rfl ti_int rfl)) ?_
   refine ro_nil ?_
   refine keepK hK14 [3, 34, 35, 36, 37] (by dsimp) (by dsimp) ?_
   refine T.seq fun K15 hK15 => ?_
   refine T.cond rfl (fun hc => ?_) (fun hc => ?_) -- cond 3
   ·(try simp only [dE] at hc)
    obtain ⟨w, hw⟩ : ∃ w, w = i := ⟨_, rfl⟩
    subst hw
    obtain ⟨z, hz⟩ : ∃ z, s.zs[w]? = some z := ⟨_, List.getElem?_eq_getElem (by omega)⟩
    have hzs := encZs_snoc hz
    have hzi1 := encZs_take s.zs (w + 1)
    obtain ⟨B, hBq⟩ : ∃ B, A ++ encZs (s.zs.take w) = B := ⟨_, rfl⟩
    have hBl : B.length = A.length + (encZs (s.zs.take w)).length := by rw [← hBq, List.length_append]
    have hzl1 : (encZs (s.zs.take w)).length + ((headZ z).length + (encPs z.pars).length) = (encZs (s.zs.take (w + 1))).length := by rw [hzs, List.length_append, encZ, List.length_append]
    have hhz := headZ_len z
    have hB1 : B.length + 34 + (encPs z.pars).length ≤ 1000000 := by omega
    have hpz := hpl z (List.mem_of_getElem? hz)
    rw [hBq]
    refine T.skip ?_
    refine keepK hK15 [3, 34, 35, 36] (by dsimp) (by dsimp) ?_
    refine T.seq fun K16 hK16 => ?_
    refine T.block ?_
    refine T.seq fun K17 hK17 => ?_
    refine T.region ?_ -- region 11
    refine ro rfl rfl (OpOk.step (by exact ok_index_map (F := ZnC) rfl ti_Lapi_Zone rfl ti_api_Zone rfl rfl rfl hz (by simp [ZnC]))) ?_
    refine ro rfl rfl (OpOk.step (ok_load rfl ti_api_Zone rfl rfl)) ?_
    refine ro rfl rfl (OpOk.step (ok_alloc rfl ti_api_Zone rfl (by decide))) ?_
    refine ro rfl rfl (OpOk.step (ok_store rfl ti_api_Zone (by decide) rfl rfl rfl rfl rfl (by first | exact Nat.le_of_ble_eq_true rfl | simp) (by first | exact .inl ⟨rfl, rfl⟩ | exact .inr rfl))) ?_
    refine ro_nil ?_
    refine keepK hK17 [3, 7, 34, 35, 36] (by dsimp) (by dsimp) ?_
    refine T.seq fun K18 hK18 => ?_
    refine T.ent (TEnt.toH (tm' := [(3, .fz 1 (ints .u8 B)), (7, .ref 0 0 0), (34, .fz 6 (Zns s.zs)), (35, .int s.zs.length), (36, .int w)]) (H' := [some (ZnB z)]) rfl ⟨rfl, rfl, rfl, rfl, rfl, trivial⟩) ?_
    refine T.drawH mixed [] ?_ -- region 12
    refine any_take 0 rfl (by first | rfl | decide +kernel) rfl (HeldL.refl _) (fun H' hH => OpOk.step (ok_move (.inl rfl))) ?_
    refine any_take 1 rfl (by first | rfl | decide +kernel) rfl (HeldL.refl _) (fun H' hH => OpOk.step (ok_fieldAddr rfl ti_api_Zone rfl rfl ti_int (by decide) rfl)) ?_
    refine any_take 2 rfl (by first | rfl | decide +kernel) rfl (HeldL.refl _) (fun H' hH => OpOk.step (ok_load rfl ti_int (locA_held hH rfl) rfl)) ?_
    refine any_take 4 rfl (by first | rfl | decide +kernel) rfl (HeldL.refl _) (fun H' hH => OpOk.step (ok_fieldAddr rfl ti_api_Zone rfl rfl ti_int (by decide) rfl)) ?_
    refine any_take 5 rfl (by first | rfl | decide +kernel) rfl (HeldL.refl _) (fun H' hH => OpOk.step (ok_load rfl ti_int (locA_held hH rfl) rfl)) ?_
    refine any_take 7 rfl (by first | rfl | decide +kernel) rfl (HeldL.refl _) (fun H' hH => OpOk.step (ok_fieldAddr rfl ti_api_Zone rfl rfl ti_bool (by decide) rfl)) ?_
    refine any_take 8 rfl (by first | rfl | decide +kernel) rfl (HeldL.refl _) (fun H' hH => OpOk.step (ok_load rfl ti_bool (locA_held hH rfl) rfl)) ?_
    refine any_take 10 rfl (by first | rfl | decide +kernel) rfl (HeldL.refl _) (fun H' hH => OpOk.step (ok_fieldAddr rfl ti_api_Zone rfl rfl ti_int (by decide) rfl)) ?_
    refine any_take 11 rfl (by first | rfl | decide +kernel) rfl (HeldL.refl _) (fun H' hH => OpOk.step (ok_load rfl ti_int (locA_held hH rfl) rfl)) ?_
    refine any_one 3 rfl (by first | rfl | decide +kernel) rfl rfl (ok_call rfl rfl rfl ((pkint_frz (l := B) (v := z.gen) (r := B ++ enc z.gen 8) rfl (by omega)).plain (by simp [renL, AV.ren, renL_ints]) (by simp [AV.ren, renL_ints]))) (.inr (by first | (simp [HeldL]; done) | (simp only [HeldL, List.map_cons, List.map_nil, List.cons_append, List.nil_append, List.set_cons_zero, List.set_cons_succ]; (repeat' first | trivial | rfl | constructor)))) ?_
    refine any_one 6 rfl (by first | rfl | decide +kernel) rfl rfl (ok_call rfl rfl rfl ((pkint_frz (l := B ++ enc z.gen 8) (v := z.slot) (r := B ++ enc z.gen 8 ++ enc z.slot 8) rfl (by simp [enc_len]; omega)).plain (by simp [renL, AV.ren, renL_ints]) (by simp [AV.ren, renL_ints]))) (.inr (by first | (simp [HeldL]; done) | (simp only [HeldL, List.map_cons, List.map_nil, List.cons_append, List.nil_append, List.set_cons_zero, List.set_cons_succ]; (repeat' first | trivial | rfl | constructor)))) ?_
    refine any_one 9 rfl (by first | rfl | decide +kernel) rfl rfl (ok_call rfl rfl rfl ((pkflag_frz (l := B ++ enc z.gen 8 ++ enc z.slot 8) (is := z.full) (r := B ++ enc z.gen 8 ++ enc z.slot 8 ++ flagB z.full) rfl (by simp [enc_len]; omega)).plain (by simp [renL, AV.ren, renL_ints]) (by simp [AV.ren, renL_ints]))) (.inr (by first | (simp [HeldL]; done) | (simp only [HeldL, List.map_cons, List.map_nil, List.cons_append, List.nil_append, List.set_cons_zero, List.set_cons_succ]; (repeat' first | trivial | rfl | constructor)))) ?_
    refine any_one 12 rfl (by first | rfl | decide +kernel) rfl rfl (ok_call rfl rfl rfl ((pkint_frz (l := B ++ enc z.gen 8 ++ enc z.slot 8 ++ flagB z.full) (v := z.w) (r := B ++ enc z.gen 8 ++ enc z.slot 8 ++ flagB z.full ++ enc z.w 8) rfl (by simp [enc_len, flagB]; omega)).plain (by simp [renL, AV.ren, renL_ints]) (by simp [AV.ren, renL_ints]))) (.inr (by first | (simp [HeldL]; done) | (simp only [HeldL, List.map_cons, List.map_nil, List.cons_append, List.nil_append, List.set_cons_zero, List.set_cons_succ]; (repeat' first | trivial | rfl | constructor)))) ?_
    refine any_take 13 rfl (by first | rfl | decide +kernel) rfl (by first | exact HeldL.refl _ | exact HeldL.append _ _ | simp [HeldL]) (fun H' hH => OpOk.step (ok_move (.inr rfl))) ?_
    refine any_done rfl ?_
    refine keepK hK18 [3, 7, 34, 35, 36] (by dsimp) (by dsimp) ?_
    refine T.seq fun K19 hK19 => ?_
    refine T.drawH mixed [] ?_ -- region 13
    refine any_take 0 rfl (by first | rfl | decide +kernel) rfl (HeldL.refl _) (fun H' hH => OpOk.step (ok_move (.inl rfl))) ?_
    refine any_take 1 rfl (by first | rfl | decide +kernel) rfl (HeldL.refl _) (fun H' hH => OpOk.step (ok_fieldAddr rfl ti_api_Zone rfl rfl ti_bool (by decide) rfl)) ?_
    refine any_take 2 rfl (by first | rfl | decide +kernel) rfl (HeldL.refl _) (fun H' hH => OpOk.step (ok_load rfl ti_bool (locA_held hH rfl) rfl)) ?_
    refine any_take 4 rfl (by first | rfl | decide +kernel) rfl (HeldL.refl _) (fun H' hH => OpOk.step (ok_fieldAddr rfl ti_api_Zone rfl rfl ti_Lapi_Par (by decide) rfl)) ?_
    refine any_take 5 rfl (by first | rfl | decide +kernel) rfl (HeldL.refl _) (fun H' hH => OpOk.step (ok_load rfl ti_Lapi_Par (locA_held hH rfl) rfl)) ?_
    refine any_take 6 rfl (by first | rfl | decide +kernel) rfl (HeldL.refl _) (fun H' hH => OpOk.step (by exact ok_len' rfl rfl ti_Lapi_Par rfl (Prs_len _))) ?_
    refine any_one 3 rfl (by first | rfl | decide +kernel) rfl rfl (ok_call rfl rfl rfl ((pkflag_frz (l := B ++ enc z.gen 8 ++ enc z.slot 8 ++ flagB z.full ++ enc z.w 8) (is := z.whole) (r := B ++ enc z.gen 8 ++ enc z.slot 8 ++ flagB z.full ++ enc z.w 8 ++ flagB z.whole) rfl (by simp [enc_len, flagB]; omega)).plain (by simp [renL, AV.ren, renL_ints]) (by simp [AV.ren, renL_ints]))) (.inr (by first | (simp [HeldL]; done) | (simp only [HeldL, List.map_cons, List.map_nil, List.cons_append, List.nil_append, List.set_cons_zero, List.set_cons_succ]; (repeat' first | trivial | rfl | constructor)))) ?_
    refine any_one 7 rfl (by first | rfl | decide +kernel) rfl rfl (ok_call rfl rfl rfl ((pkint_frz (l := B ++ enc z.gen 8 ++ enc z.slot 8 ++ flagB z.full ++ enc z.w 8 ++ flagB z.whole) (v := z.pars.length) (r := B ++ headZ z) (by simp [headZ]) (by simp [enc_len, flagB]; omega)).plain (by simp [renL, AV.ren, renL_ints]) (by simp [AV.ren, renL_ints]))) (.inr (by first | (simp [HeldL]; done) | (simp only [HeldL, List.map_cons, List.map_nil, List.cons_append, List.nil_append, List.set_cons_zero, List.set_cons_succ]; (repeat' first | trivial | rfl | constructor)))) ?_
    refine any_take 8 rfl (by first | rfl | decide +kernel) rfl (by first | exact HeldL.refl _ | exact HeldL.append _ _ | simp [HeldL]) (fun H' hH => OpOk.step (ok_move (.inr rfl))) ?_
    refine any_done rfl ?_
    refine keepK hK19 [3, 7, 34, 35, 36] (by dsimp) (by dsimp) ?_
    refine T.seq fun K20 hK20 => ?_
    refine T.region ?_ -- region 14
    refine ro rfl rfl (OpOk.step (ok_fieldAddr rfl ti_api_Zone rfl rfl ti_Lapi_Par (by decide) rfl)) ?_
    refine ro rfl rfl (OpOk.step (ok_load rfl ti_Lapi_Par rfl rfl)) ?_
    refine ro rfl rfl (OpOk.step (by exact ok_len' rfl rfl ti_Lapi_Par rfl (Prs_len _))) ?_
    refine ro rfl rfl (OpOk.step (ok_move (.inl rfl))) ?_
    refine ro_nil ?_
    refine keepK hK20 [3, 34, 35, 36, 62, 63, 64] (by dsimp) (by dsimp) ?_
    refine T.block ?_
    refine T.loopI (ι := Nat) (fun k => k ≤ z.pars.length) (fun k => z.pars.length - k) (fun k => ([(3, .fz 1 (ints .u8 (B ++ headZ z ++ encPs (z.pars.take k)))), (34, .fz 6 (Zns s.zs)), (35, .int s.zs.length), (36, .int w), (62, .fz 2 (Prs z.pars)), (63, .int z.pars.length), (64, .int k)], [])) 0 (Nat.zero_le _) (TEnt.fin [] (by decide) (by simp) rfl ⟨by simp [encPs, AV.ren, renL_ints], by simp [AV.ren, Zns_ren], rfl, rfl, by simp [AV.ren, Prs_ren], rfl, rfl, trivial⟩) (fun i hi => ?_) -- loop 3
    have hpi := encPs_take z.pars i
    refine T.seq fun K21 hK21 => ?_
    refine T.region ?_ -- region 15
    refine ro rfl rfl (OpOk.step (ok_binOp rfl ti_int rfl)) ?_
    refine ro_nil ?_
    refine keepK hK21 [3, 34, 35, 36, 62, 63, 64, 65] (by dsimp) (by dsimp) ?_
    refine T.seq fun K22 hK22 => ?_
    refine T.cond rfl (fun hc => ?_) (fun hc => ?_) -- cond 4
    ·(try simp only [dE] at hc)
     obtain ⟨p, hp⟩ : ∃ p, z.pars[i]? = some p := ⟨_, List.getElem?_eq_getElem (by omega)⟩
     have hps : B ++ headZ z ++ encPs (z.pars.take i) ++ enc p.w 8 ++ enc p.b.length 8 ++ p.b = B ++ headZ z ++ encPs (z.pars.take (i + 1)) := by rw [encPs_snoc hp, encP]; simp
     have hpi1 := encPs_take z.pars (i + 1)
     have hpll : (encPs (z.pars.take i)).length + (16 + p.b.length) = (encPs (z.pars.take (i + 1))).length := by rw [encPs_snoc hp, List.length_append, encP]; simp [enc_len]; omega
     refine T.skip ?_
     refine keepK hK22 [3, 34, 35, 36, 62, 63, 64] (by dsimp) (by dsimp) ?_
     refine T.seq fun K23 hK23 => ?_
     refine T.block ?_
     refine T.seq fun K24 hK24 => ?_
     refine T.region ?_ -- region 16
     refine ro rfl rfl (OpOk.step (by exact ok_index_map (F := PrC) rfl ti_Lapi_Par rfl ti_api_Par rfl rfl rfl hp (by simp [PrC]))) ?_
     refine ro rfl rfl (OpOk.step (ok_load rfl ti_api_Par rfl rfl)) ?_
     refine ro rfl rfl (OpOk.step (ok_alloc rfl ti_api_Par rfl (by decide))) ?_
     refine ro rfl rfl (OpOk.step (ok_store rfl ti_api_Par (by decide) rfl rfl rfl rfl rfl (by first | exact Nat.le_of_ble_eq_true rfl | simp) (by first | exact .inl ⟨rfl, rfl⟩ | exact .inr rfl))) ?_
     refine ro_nil ?_
     refine keepK hK24 [3, 9, 34, 35, 36, 62, 63, 64] (by dsimp) (by dsimp) ?_
     refine T.drawH mixed [] ?_ -- region 17
     refine any_take 0 rfl (by first | rfl | decide +kernel) rfl (HeldL.refl _) (fun H' hH => OpOk.step (ok_move (.inl rfl))) ?_
     refine any_take 1 rfl (by first | rfl | decide +kernel) rfl (HeldL.refl _) (fun H' hH => OpOk.step (ok_fieldAddr rfl ti_api_Par rfl rfl ti_int (by decide) rfl)) ?_
     refine any_take 2 rfl (by first | rfl | decide +kernel) rfl (HeldL.refl _) (fun H' hH => OpOk.step (ok_load rfl ti_int (locA_held hH rfl) rfl)) ?_
     refine any_take 4 rfl (by first | rfl | decide +kernel) rfl (HeldL.refl _) (fun H' hH => OpOk.step (ok_fieldAddr rfl ti_api_Par rfl rfl ti_Luint8 (by decide) rfl)) ?_
     refine any_take 5 rfl (by first | rfl | decide +kernel) rfl (HeldL.refl _) (fun H' hH => OpOk.step (ok_load rfl ti_Luint8 (locA_held hH rfl) rfl)) ?_
     refine any_one 3 rfl (by first | rfl | decide +kernel) rfl rfl (ok_call rfl rfl rfl ((pkint_frz (l := B ++ headZ z ++ encPs (z.pars.take i)) (v := p.w) (r := B ++ headZ z ++ encPs (z.pars.take i) ++ enc p.w 8) rfl (by simp; omega)).plain (by simp [renL, AV.ren, renL_ints]) (by simp [AV.ren, renL_ints]))) (.inr (by first | (simp [HeldL]; done) | (simp only [HeldL, List.map_cons, List.map_nil, List.cons_append, List.nil_append, List.set_cons_zero, List.set_cons_succ]; (repeat' first | trivial | rfl | constructor)))) ?_
     refine any_one 6 rfl (by first | rfl | decide +kernel) rfl rfl (ok_call rfl rfl rfl ((pkbytes_frz (l := B ++ headZ z ++ encPs (z.pars.take i) ++ enc p.w 8) (x := p.b) hps (by simp [enc_len]; omega) (by omega)).plain (by simp [renL, AV.ren, renL_ints]) (by simp [AV.ren, renL_ints]))) (.inr (by first | (simp [HeldL]; done) | (simp only [HeldL, List.map_cons, List.map_nil, List.cons_append, List.nil_append, List.set_cons_zero, List.set_cons_succ]; (repeat' first | trivial | rfl | constructor)))) ?_
     refine any_take 7 rfl (by first | rfl | decide +kernel) rfl (by first | exact HeldL.refl _ | exact HeldL.append _ _ | simp [HeldL]) (fun H' hH => OpOk.step (ok_move (.inr rfl))) ?_
     refine any_done rfl ?_
     refine keepK hK23 [3, 34, 35, 36, 62, 63, 64] (by dsimp) (by dsimp) ?_
     refine T.region ?_ -- region 18
     refine ro rfl rfl (OpOk.step (ok_add64 rfl ti_int rfl rfl (by omega) (by omega))) ?_
     refine ro rfl rfl (OpOk.step (ok_move (.inl rfl))) ?_
     refine ro_nil ?_
     exact ⟨i + 1, by omega, by omega, TEnt.fin [] (by decide) (by simp) rfl ⟨by simp [AV.ren, renL_ints], by simp [AV.ren, Zns_ren], rfl, rfl, by simp [AV.ren, Prs_ren], rfl, rfl, trivial⟩⟩
    ·(try simp only [dE] at hc)
     have hzf : A ++ encZs (s.zs.take (w + 1)) = B ++ headZ z ++ encPs (z.pars.take i) := by
       rw [hzs, encZ, ← hBq, show z.pars.take i = z.pars from List.take_of_length_le (by omega)]
       simp
     refine T.exit ?_
     refine keepK hK16 [3, 34, 35, 36] (by dsimp) (by dsimp) ?_
     refine T.region ?_ -- region 19
     refine ro rfl rfl (OpOk.step (ok_add64 rfl ti_int rfl rfl (by omega) (by omega))) ?_
     refine ro rfl rfl (OpOk.step (ok_move (.inl rfl))) ?_
     refine ro_nil ?_
     exact ⟨w + 1, by omega, by omega, TEnt.fin [] (by decide) (by simp) rfl ⟨by rw [hzf]; simp [AV.ren, renL_ints], by simp [AV.ren, Zns_ren], rfl, rfl, trivial⟩⟩
   ·(try simp only [dE] at hc)
    have hin : i = s.zs.length := by omega
    have hfin : A ++ encZs (s.zs.take i) = encSt s := by rw [← hA, show s.zs.take i = s.zs from List.take_of_length_le (by omega), encSt, List.append_assoc]
    rw [hfin]
    refine T.exit ?_
    refine keepK hK12 [3] (by dsimp) (by dsimp) ?_
    refine T.seq fun K25 hK25 => ?_
    refine T.region ?_ -- region 20
    refine ro rfl rfl (OpOk.step (ok_move (.inl rfl))) ?_
    refine ro rfl rfl (OpOk.step (ok_move (.inr rfl))) ?_
    refine ro_nil ?_
    refine keepK hK25 [2] (by dsimp) (by dsimp) ?_
    refine T.ret (hQ _ _ _ rfl ?_).1 -- ret 2
    exact TEnt.fin [] (by decide) (by simp) rfl ⟨by simp [tupA, AV.ren, renL_ints], trivial⟩
end Go.Proofs.Ytlegolcbjjjofaa.AmF
