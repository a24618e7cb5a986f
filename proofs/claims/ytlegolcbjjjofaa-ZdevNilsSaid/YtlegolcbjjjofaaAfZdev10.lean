/- The law ZdevNils. -/
import Derived.Test.YtlegolcbjjjofaaAfZdev8
namespace Go.Proofs.Ytlegolcbjjjofaa.AmF
open Go Go.AM
set_option maxRecDepth 100000
set_option maxHeartbeats 4000000
set_option linter.unusedSimpArgs false
set_option linter.unusedVariables false
attribute [local simp] tkeep tget tput ev cav argsTM pickA normT putA splice AV.cells ints_length rowsA_length Zqs_len
theorem nil_call {e : Int} : DCallOk Try.prog 47 [some (ErB e)] [.v (.pointer none), .ref 0 0 0] [some (ErB e)] :=
  ((cnt_nil e).pass (H := [some (ErB e)]) [0] (by decide) (by simp) (congrArg (fun b => [b]) (ErB_ren (pos [0]) e)) rfl).eq (congrArg (fun b => [b]) (ErB_ren (fun j => some (back [0] 1 j)) e))
theorem change_nil (z : Int) (f : FuncId) : CSpec Try.prog 52 [] [.v (.pointer none), .int z, .fn (.func f) [] []] [] (.int 16) := by
 refine CSpec.bodyD (B := ErB 0) (tm1 := [(0, .v (.pointer none)), (1, .int z), (2, .fn (.func f) [] []), (6, .ref 0 0 0)]) (fd := 47) Try.func52 rfl rfl rfl rfl rfl ?_ rfl rfl rfl rfl rfl rfl rfl rfl rfl rfl rfl rfl rfl (fun D Q hQ => ?_)
 ·
  refine T.region ?_
  refine rs rfl rfl (ok_alloc rfl ti_api_Errno rfl (by decide)) ?_
  refine ro_nil ?_
  exact ⟨rfl, TEnt.toH rfl ⟨rfl, rfl, rfl, rfl, trivial⟩⟩
 ·
  refine T.seq fun K1 hK1 => ?_
  refine T.seq fun K2 hK2 => ?_
  refine T.region ?_
  refine rs rfl rfl (ok_move (.inl rfl)) ?_
  refine rs rfl rfl (ok_move (.inl rfl)) ?_
  refine ro rfl rfl (ok_call rfl rfl rfl ((dright_nil z).plain rfl rfl)) ?_
  refine rs rfl rfl ((ok_store rfl ti_api_Errno (by decide) rfl rfl rfl rfl rfl (by first | exact Nat.le_of_ble_eq_true rfl | simp) (by first | exact .inl ⟨rfl, rfl⟩ | exact .inr rfl)).eq (x' := .any) (H'' := [some (ErB 16)]) rfl rfl) ?_
  refine ro_nil ?_
  refine keepK hK2 [0, 1, 2, 6] (by dsimp) (by dsimp) ?_
  refine T.seq fun K3 hK3 => ?_
  refine T.region ?_
  refine rs rfl rfl (ok_load rfl ti_api_Errno rfl rfl) ?_
  refine rs rfl rfl (OpOk.bool (d := false) (ok_binOp rfl ti_api_Errno rfl) (rfl)) ?_
  refine ro_nil ?_
  refine keepK hK3 [0, 1, 2, 6, 12] (by dsimp) (by dsimp) ?_
  refine T.cond_false rfl ?_
  refine T.skip ?_
  refine keepK hK1 [6] (by dsimp) (by dsimp) ?_
  refine T.seq fun K4 hK4 => ?_
  refine T.region ?_
  refine rs rfl rfl (ok_load rfl ti_api_Errno rfl rfl) ?_
  refine rs rfl rfl (ok_store rfl ti_api_Errno (by decide) rfl rfl rfl rfl rfl (by first | exact Nat.le_of_ble_eq_true rfl | simp) (by first | exact .inl ⟨rfl, rfl⟩ | exact .inr rfl)) ?_
  refine ro_nil ?_
  refine keepK hK4 [6] (by dsimp) (by dsimp) ?_
  refine T.ret (hQ _ _ _ _ (nil_call) rfl ?_).1 -- ret 1
  exact TEnt.fin [] (by decide) (by simp) rfl ⟨rfl, trivial⟩
theorem zdreset_nil (z : Int) : CSpec Try.prog 16 [] [.v (.pointer none), .int z] [] (.int 16) := by
 refine CSpec.body Try.func16 rfl rfl rfl rfl rfl fun Q hQ => ?_
 refine T.seq fun K1 hK1 => ?_
 refine T.region ?_
 refine rs rfl rfl (ok_move (.inr rfl)) ?_
 refine ro_nil ?_
 refine keepK hK1 [0, 1] (by dsimp) (by dsimp) ?_
 refine T.seq fun K2 hK2 => ?_
 refine T.region ?_
 refine rs rfl rfl (ok_move (.inl rfl)) ?_
 refine rs rfl rfl (ok_move (.inl rfl)) ?_
 refine ro rfl rfl (ok_call rfl rfl rfl ((change_nil z 53).plain rfl rfl)) ?_
 refine rs rfl rfl (ok_move (.inr rfl)) ?_
 refine ro_nil ?_
 refine keepK hK2 [4] (by dsimp) (by dsimp) ?_
 refine T.ret (hQ _ _ _ rfl ?_).1 -- ret 1
 exact TEnt.fin [] (by decide) (by simp) rfl ⟨rfl, trivial⟩
theorem zdfinish_nil (z : Int) : CSpec Try.prog 17 [] [.v (.pointer none), .int z] [] (.int 16) := by
 refine CSpec.body Try.func17 rfl rfl rfl rfl rfl fun Q hQ => ?_
 refine T.seq fun K1 hK1 => ?_
 refine T.region ?_
 refine rs rfl rfl (ok_move (.inr rfl)) ?_
 refine ro_nil ?_
 refine keepK hK1 [0, 1] (by dsimp) (by dsimp) ?_
 refine T.seq fun K2 hK2 => ?_
 refine T.region ?_
 refine rs rfl rfl (ok_move (.inl rfl)) ?_
 refine rs rfl rfl (ok_move (.inl rfl)) ?_
 refine ro rfl rfl (ok_call rfl rfl rfl ((change_nil z 54).plain rfl rfl)) ?_
 refine rs rfl rfl (ok_move (.inr rfl)) ?_
 refine ro_nil ?_
 refine keepK hK2 [4] (by dsimp) (by dsimp) ?_
 refine T.ret (hQ _ _ _ rfl ?_).1 -- ret 1
 exact TEnt.fin [] (by decide) (by simp) rfl ⟨rfl, trivial⟩
theorem zdapp_nil (z : Int) (b : List Int) : CSpec Try.prog 14 [] [.v (.pointer none), .int z, .fz 1 (ints .u8 b)] [] (.int 16) := by
 refine CSpec.bodyD (B := ErB 0) (tm1 := [(0, .v (.pointer none)), (1, .int z), (2, .fz 1 (ints .u8 b)), (6, .ref 0 0 0)]) (fd := 47) Try.func14 rfl rfl rfl rfl rfl ?_ rfl rfl rfl rfl rfl rfl rfl rfl rfl rfl rfl rfl rfl (fun D Q hQ => ?_)
 ·
  refine T.region ?_
  refine rs rfl rfl (ok_alloc rfl ti_api_Errno rfl (by decide)) ?_
  refine ro_nil ?_
  exact ⟨rfl, TEnt.toH rfl ⟨rfl, rfl, rfl, rfl, trivial⟩⟩
 ·
  refine T.seq fun K1 hK1 => ?_
  refine T.seq fun K2 hK2 => ?_
  refine T.region ?_
  refine rs rfl rfl (ok_move (.inl rfl)) ?_
  refine rs rfl rfl (ok_move (.inl rfl)) ?_
  refine ro rfl rfl (ok_call rfl rfl rfl ((dright_nil z).plain rfl rfl)) ?_
  refine rs rfl rfl ((ok_store rfl ti_api_Errno (by decide) rfl rfl rfl rfl rfl (by first | exact Nat.le_of_ble_eq_true rfl | simp) (by first | exact .inl ⟨rfl, rfl⟩ | exact .inr rfl)).eq (x' := .any) (H'' := [some (ErB 16)]) rfl rfl) ?_
  refine ro_nil ?_
  refine keepK hK2 [0, 1, 2, 6] (by dsimp) (by dsimp) ?_
  refine T.seq fun K3 hK3 => ?_
  refine T.region ?_
  refine rs rfl rfl (ok_load rfl ti_api_Errno rfl rfl) ?_
  refine rs rfl rfl (OpOk.bool (d := true) (ok_binOp rfl ti_api_Errno rfl) (rfl)) ?_
  refine ro_nil ?_
  refine keepK hK3 [0, 1, 2, 6, 13] (by dsimp) (by dsimp) ?_
  refine T.cond_true rfl ?_
  refine T.seq fun K4 hK4 => ?_
  refine T.region ?_
  refine rs rfl rfl (ok_load rfl ti_api_Errno rfl rfl) ?_
  refine rs rfl rfl (ok_store rfl ti_api_Errno (by decide) rfl rfl rfl rfl rfl (by first | exact Nat.le_of_ble_eq_true rfl | simp) (by first | exact .inl ⟨rfl, rfl⟩ | exact .inr rfl)) ?_
  refine ro_nil ?_
  refine keepK hK4 [6] (by dsimp) (by dsimp) ?_
  refine T.ret (hQ _ _ _ _ (nil_call) rfl ?_).1 -- ret 1
  exact TEnt.fin [] (by decide) (by simp) rfl ⟨rfl, trivial⟩
theorem zdread_nil (z p n : Int) : CSpec Try.prog 22 [] [.v (.pointer none), .int z, .int p, .int n] [] (.tup [.v (.slice none 0 0), .int 16]) := by
 refine CSpec.bodyD (B := ErB 0) (tm1 := [(0, .v (.pointer none)), (1, .int z), (2, .int p), (3, .int n), (8, .v (.slice none 0 0)), (9, .ref 0 0 0)]) (fd := 47) Try.func22 rfl rfl rfl rfl rfl ?_ rfl rfl rfl rfl rfl rfl rfl rfl rfl rfl rfl rfl rfl (fun D Q hQ => ?_)
 ·
  refine T.region ?_
  refine rs rfl rfl (ok_move (.inr rfl)) ?_
  refine rs rfl rfl (ok_alloc rfl ti_api_Errno rfl (by decide)) ?_
  refine ro_nil ?_
  exact ⟨rfl, TEnt.toH rfl ⟨rfl, rfl, rfl, rfl, rfl, rfl, trivial⟩⟩
 ·
  refine T.seq fun K1 hK1 => ?_
  refine T.seq fun K2 hK2 => ?_
  refine T.region ?_
  refine rs rfl rfl (ok_move (.inl rfl)) ?_
  refine rs rfl rfl (ok_move (.inl rfl)) ?_
  refine ro rfl rfl (ok_call rfl rfl rfl ((dright_nil z).plain rfl rfl)) ?_
  refine rs rfl rfl ((ok_store rfl ti_api_Errno (by decide) rfl rfl rfl rfl rfl (by first | exact Nat.le_of_ble_eq_true rfl | simp) (by first | exact .inl ⟨rfl, rfl⟩ | exact .inr rfl)).eq (x' := .any) (H'' := [some (ErB 16)]) rfl rfl) ?_
  refine ro_nil ?_
  refine keepK hK2 [0, 1, 2, 3, 9] (by dsimp) (by dsimp) ?_
  refine T.seq fun K3 hK3 => ?_
  refine T.region ?_
  refine rs rfl rfl (ok_load rfl ti_api_Errno rfl rfl) ?_
  refine rs rfl rfl (OpOk.bool (d := true) (ok_binOp rfl ti_api_Errno rfl) (rfl)) ?_
  refine ro_nil ?_
  refine keepK hK3 [0, 1, 2, 3, 9, 15] (by dsimp) (by dsimp) ?_
  refine T.cond_true rfl ?_
  refine T.seq fun K4 hK4 => ?_
  refine T.drawH mixed [2] ?_
  refine any_take 0 rfl (by first | rfl | decide +kernel) rfl (HeldL.refl _) (fun H' hH => OpOk.step (ok_load rfl ti_api_Errno (locA_held hH rfl) rfl)) ?_
  refine any_take 1 rfl (by first | rfl | decide +kernel) rfl (HeldL.refl _) (fun H' hH => OpOk.step (ok_move (.inr rfl))) ?_
  refine any_one 2 rfl (by first | rfl | decide +kernel) rfl rfl (OpOk.step (ok_store rfl ti_api_Errno (by decide) rfl rfl rfl rfl rfl (by first | exact Nat.le_of_ble_eq_true rfl | simp) (by first | exact .inl ⟨rfl, rfl⟩ | exact .inr rfl))) (.inl (by simp)) ?_
  refine any_done rfl ?_
  refine keepK hK4 [8, 9] (by dsimp) (by dsimp) ?_
  refine T.ret (hQ _ _ _ _ (nil_call) rfl ?_).1 -- ret 1
  exact TEnt.fin [] (by decide) (by simp) rfl ⟨rfl, trivial⟩
theorem zdlook_nil (z : Int) : CSpec Try.prog 21 [] [.v (.pointer none), .int z] [] (.tup [.agg [.int 0, .int 0, .b false], .b false]) := by
 refine CSpec.body Try.func21 rfl rfl rfl rfl rfl fun Q hQ => ?_
 refine T.seq fun K1 hK1 => ?_
 refine T.region ?_
 refine rs rfl rfl (ok_alloc rfl ti_api_Look rfl (by decide)) ?_
 refine rs rfl rfl (ok_moveb (c := false) (.inr rfl) rfl) ?_
 refine ro_nil ?_
 refine keepK hK1 [0, 1, 4] (by dsimp) (by dsimp) ?_
 refine T.seq fun K2 hK2 => ?_
 refine T.seq fun K3 hK3 => ?_
 refine T.region ?_
 refine rs rfl rfl (ok_move (.inl rfl)) ?_
 refine rs rfl rfl (ok_move (.inl rfl)) ?_
 refine ro rfl rfl (ok_call rfl rfl rfl ((dright_nil z).plain rfl rfl)) ?_
 refine rs rfl rfl (OpOk.bool (d := true) (ok_binOp rfl ti_api_Errno rfl) (rfl)) ?_
 refine ro_nil ?_
 refine keepK hK3 [0, 1, 4, 9] (by dsimp) (by dsimp) ?_
 refine T.cond_true rfl ?_
 refine T.seq fun K4 hK4 => ?_
 refine T.region ?_
 refine rs rfl rfl (ok_build rfl ti_api_Look rfl) ?_
 refine rs rfl rfl (ok_store rfl ti_api_Look (by decide) rfl rfl rfl rfl rfl (by first | exact Nat.le_of_ble_eq_true rfl | simp) (by first | exact .inl ⟨rfl, rfl⟩ | exact .inr rfl)) ?_
 refine rs rfl rfl (ok_moveb (c := false) (.inr rfl) rfl) ?_
 refine ro_nil ?_
 refine keepK hK4 [4, 5] (by dsimp) (by dsimp) ?_
 refine T.ret (hQ _ _ _ rfl ?_).1 -- ret 1
 exact TEnt.fin [] (by decide) (by simp) rfl ⟨rfl, trivial⟩
/-- A member that is lost. -/
def lvK : Dv := { lvD1 with dead := true }
theorem lvapp3 (z : Int) (b : List Int) (hb : b.length ≤ 500) : CSpec Try.prog 14 [DvB lvK 1, ZqsB lvK.zs] [.ref 0 0 0, .int z, .fz 1 (ints .u8 b)] [some (DvB lvK 1), some (ZqsB lvK.zs)] (.int 11) := by
  have h := zdapp_ok lvK z b lv1_ok (by decide) (by omega) (by decide)
  have e : appD lvK z b = (lvK, 11) := by
    have h11 : rightD lvK z = 11 := rightD_11 rfl
    rw [appD_no (by rw [h11]; decide), h11]
    rfl
  rw [e] at h; exact h
theorem lvfl : CSpec Try.prog 15 [DvB lvK 1, ZqsB lvK.zs] [.ref 0 0 0] [some (DvB lvK 1), some (ZqsB lvK.zs)] (.int 11) := zdflush_ok lvK (fun z hz => (lv1_ok z hz).1) (by decide)
theorem zdevNils_ok (z : Int) (b : List Int) : CSpec Try.prog 4 [] [.int z, .fz 1 (ints .u8 b)] [] (.b true) := by
 refine CSpec.body Try.func4 rfl rfl rfl rfl rfl fun Q hQ => ?_
 refine T.seq fun K1 hK1 => ?_
 refine T.region ?_
 refine rs rfl rfl (ok_moveb (c := false) (.inr rfl) rfl) ?_
 refine ro_nil ?_
 refine keepK hK1 [0, 1] (by dsimp) (by dsimp) ?_
 refine T.seq fun K2 hK2 => ?_
 refine T.seq fun K3 hK3 => ?_
 refine T.region ?_
 refine rs rfl rfl (ok_move (.inl rfl)) ?_
 refine rs rfl rfl (ok_len' rfl rfl ti_Luint8 rfl (by first | exact ints_length _ _ | exact rowsA_length _ _ | exact Cms_len _ | exact mapLen _ | rfl)) ?_
 refine rs rfl rfl (ok_binOp rfl ti_int rfl) ?_
 refine ro_nil ?_
 refine keepK hK3 [0, 1, 14] (by dsimp) (by dsimp) ?_
 refine T.cond rfl (fun hc => ?_) (fun hc => ?_) -- cond 1
 ·(try simp only [dE] at hc)
  refine T.seq fun K4 hK4 => ?_
  refine T.region ?_
  refine ro rfl rfl (ok_call rfl rfl rfl (live5_ok.plain rfl rfl)) ?_
  refine rs rfl rfl (ok_move (.inr rfl)) ?_
  refine ro_nil ?_
  refine keepK hK4 [4] (by dsimp) (by dsimp) ?_
  refine T.ret (hQ _ _ _ rfl ?_).1 -- ret 1
  exact TEnt.fin [] (by decide) (by simp) rfl ⟨rfl, trivial⟩
 ·(try simp only [dE] at hc)
  try simp only [ints_length] at hc
  have hb5 : b.length ≤ 500 := by omega
  refine T.skip ?_
  refine keepK hK2 [0, 1] (by dsimp) (by dsimp) ?_
  refine T.seq fun K5 hK5 => ?_
  refine T.region ?_
  refine rs rfl rfl (ok_move (.inr rfl)) ?_
  refine ro_nil ?_
  refine keepK hK5 [0, 1, 5] (by dsimp) (by dsimp) ?_
  refine T.seq fun K6 hK6 => ?_
  refine T.region ?_
  refine rs rfl rfl (ok_move (.inl rfl)) ?_
  refine ro rfl rfl (ok_call rfl rfl rfl (zdkill_nil.plain rfl rfl)) ?_
  refine ro_nil ?_
  refine keepK hK6 [0, 1, 5] (by dsimp) (by dsimp) ?_
  refine T.seq fun K7 hK7 => ?_
  refine T.region ?_
  refine rs rfl rfl (ok_move (.inl rfl)) ?_
  refine rs rfl rfl (ok_move (.inl rfl)) ?_
  refine ro rfl rfl (ok_call rfl rfl rfl ((zdcrash_nil b).plain (by simp [renL, AV.ren, renL_ints]) rfl)) ?_
  refine ro_nil ?_
  refine keepK hK7 [0, 1, 5] (by dsimp) (by dsimp) ?_
  refine T.seq fun K8 hK8 => ?_
  refine T.region ?_
  refine rs rfl rfl (ok_move (.inl rfl)) ?_
  refine rs rfl rfl (ok_move (.inl rfl)) ?_
  refine ro rfl rfl (ok_call rfl rfl rfl ((zdlook_nil z).plain rfl rfl)) ?_
  refine rs rfl rfl (ok_move (.inl rfl)) ?_
  refine rs rfl rfl (ok_extract rfl rfl rfl) ?_
  refine rs rfl rfl (ok_extract rfl rfl rfl) ?_
  refine rs rfl rfl (ok_alloc rfl ti_api_Look rfl (by decide)) ?_
  refine rs rfl rfl (ok_store rfl ti_api_Look (by decide) rfl rfl rfl rfl rfl (by first | exact Nat.le_of_ble_eq_true rfl | simp) (by first | exact .inl ⟨rfl, rfl⟩ | exact .inr rfl)) ?_
  refine rs rfl rfl (ok_move (.inr rfl)) ?_
  refine ro_nil ?_
  refine keepK hK8 [0, 1, 5, 7] (by dsimp) (by dsimp) ?_
  refine T.seq fun K9 hK9 => ?_
  refine T.region ?_
  refine rs rfl rfl (ok_move (.inl rfl)) ?_
  refine rs rfl rfl (ok_move (.inl rfl)) ?_
  refine ro rfl rfl (ok_call rfl rfl rfl ((zdread_nil z 0 1).plain rfl rfl)) ?_
  refine rs rfl rfl (ok_move (.inl rfl)) ?_
  refine rs rfl rfl (ok_extract rfl rfl rfl) ?_
  refine rs rfl rfl (ok_extract rfl rfl rfl) ?_
  refine rs rfl rfl (ok_move (.inr rfl)) ?_
  refine rs rfl rfl (ok_move (.inr rfl)) ?_
  refine ro_nil ?_
  refine keepK hK9 [0, 1, 5, 7, 8, 9] (by dsimp) (by dsimp) ?_
  refine T.seq fun K10 hK10 => ?_
  refine T.seq fun K11 hK11 => ?_
  refine T.region ?_
  refine rs rfl rfl ((ok_move (.inl rfl)).eq (x' := .b false) rfl rfl) ?_
  refine rs rfl rfl (OpOk.bool (d := false) (ok_moveb (.inl rfl) rfl) (rfl)) ?_
  refine rs rfl rfl ((ok_move (.inl rfl)).eq (x' := .v (.slice none 0 0)) rfl rfl) ?_
  refine rs rfl rfl (ok_len' rfl rfl ti_Luint8 rfl (by first | exact ints_length _ _ | exact rowsA_length _ _ | exact Cms_len _ | exact mapLen _ | rfl)) ?_
  refine rs rfl rfl ((ok_binOp rfl ti_int rfl).eq (x' := .b false) rfl rfl) ?_
  refine rs rfl rfl ((ok_pick rfl rfl).eq (x' := .b false) rfl rfl) ?_
  refine rs rfl rfl (OpOk.bool (d := false) (ok_moveb (.inl rfl) rfl) (rfl)) ?_
  refine rs rfl rfl ((ok_move (.inl rfl)).eq (x' := .int 16) rfl rfl) ?_
  refine ro rfl rfl (ok_call rfl rfl rfl ((code5_ok 16).plain rfl rfl)) ?_
  refine rs rfl rfl ((ok_binOp rfl ti_int rfl).eq (x' := .b false) rfl rfl) ?_
  refine rs rfl rfl ((ok_pick rfl rfl).eq (x' := .b false) rfl rfl) ?_
  refine rs rfl rfl (OpOk.bool (d := false) (ok_moveb (.inl rfl) rfl) (rfl)) ?_
  refine rs rfl rfl ((ok_move (.inl rfl)).eq (x' := .v (.pointer none)) rfl rfl) ?_
  refine rs rfl rfl ((ok_move (.inl rfl)).eq (x' := .int z) rfl rfl) ?_
  refine rs rfl rfl ((ok_move (.inl rfl)).eq (x' := .fz 1 (ints .u8 b)) rfl rfl) ?_
  refine ro rfl rfl (ok_call rfl rfl rfl ((zdapp_nil z b).plain (by simp [renL, AV.ren, renL_ints]) rfl)) ?_
  refine ro rfl rfl (ok_call rfl rfl rfl ((code5_ok 16).plain rfl rfl)) ?_
  refine rs rfl rfl ((ok_binOp rfl ti_int rfl).eq (x' := .b false) rfl rfl) ?_
  refine rs rfl rfl ((ok_pick rfl rfl).eq (x' := .b false) rfl rfl) ?_
  refine rs rfl rfl (OpOk.bool (d := false) (ok_moveb (.inl rfl) rfl) (rfl)) ?_
  refine rs rfl rfl ((ok_move (.inl rfl)).eq (x' := .v (.pointer none)) rfl rfl) ?_
  refine ro rfl rfl (ok_call rfl rfl rfl (zdflush_nil.plain rfl rfl)) ?_
  refine ro rfl rfl (ok_call rfl rfl rfl ((code5_ok 16).plain rfl rfl)) ?_
  refine rs rfl rfl ((ok_binOp rfl ti_int rfl).eq (x' := .b false) rfl rfl) ?_
  refine rs rfl rfl ((ok_pick rfl rfl).eq (x' := .b false) rfl rfl) ?_
  refine rs rfl rfl (OpOk.bool (d := false) (ok_moveb (.inl rfl) rfl) (rfl)) ?_
  refine rs rfl rfl ((ok_move (.inl rfl)).eq (x' := .v (.pointer none)) rfl rfl) ?_
  refine rs rfl rfl ((ok_move (.inl rfl)).eq (x' := .int z) rfl rfl) ?_
  refine ro rfl rfl (ok_call rfl rfl rfl ((zdreset_nil z).plain rfl rfl)) ?_
  refine ro rfl rfl (ok_call rfl rfl rfl ((code5_ok 16).plain rfl rfl)) ?_
  refine rs rfl rfl ((ok_binOp rfl ti_int rfl).eq (x' := .b false) rfl rfl) ?_
  refine rs rfl rfl ((ok_pick rfl rfl).eq (x' := .b false) rfl rfl) ?_
  refine rs rfl rfl (OpOk.bool (d := false) (ok_moveb (.inl rfl) rfl) (rfl)) ?_
  refine rs rfl rfl ((ok_move (.inl rfl)).eq (x' := .v (.pointer none)) rfl rfl) ?_
  refine rs rfl rfl ((ok_move (.inl rfl)).eq (x' := .int z) rfl rfl) ?_
  refine ro rfl rfl (ok_call rfl rfl rfl ((zdfinish_nil z).plain rfl rfl)) ?_
  refine ro rfl rfl (ok_call rfl rfl rfl ((code5_ok 16).plain rfl rfl)) ?_
  refine rs rfl rfl ((ok_binOp rfl ti_int rfl).eq (x' := .b false) rfl rfl) ?_
  refine rs rfl rfl ((ok_pick rfl rfl).eq (x' := .b false) rfl rfl) ?_
  refine rs rfl rfl (OpOk.bool (d := false) (ok_moveb (.inl rfl) rfl) (rfl)) ?_
  refine rs rfl rfl ((ok_move (.inl rfl)).eq (x' := .v (.pointer none)) rfl rfl) ?_
  refine ro rfl rfl (ok_call rfl rfl rfl (dead_nil.plain rfl rfl)) ?_
  refine rs rfl rfl ((ok_unOp rfl rfl).eq (x' := .b false) rfl rfl) ?_
  refine rs rfl rfl ((ok_pick rfl rfl).eq (x' := .b false) rfl rfl) ?_
  refine rs rfl rfl (OpOk.bool (d := false) (ok_moveb (.inl rfl) rfl) (rfl)) ?_
  refine rs rfl rfl ((ok_move (.inl rfl)).eq (x' := .v (.pointer none)) rfl rfl) ?_
  refine ro rfl rfl (ok_call rfl rfl rfl (zdbad_nil.plain rfl rfl)) ?_
  refine rs rfl rfl ((ok_move (.inl rfl)).eq (x' := .v (.pointer none)) rfl rfl) ?_
  refine ro rfl rfl (ok_call rfl rfl rfl (active_nil.plain rfl rfl)) ?_
  refine rs rfl rfl (ok_add64 rfl ti_int rfl rfl (by omega) (by omega)) ?_
  refine rs rfl rfl ((ok_binOp rfl ti_int rfl).eq (x' := .b false) rfl rfl) ?_
  refine rs rfl rfl (OpOk.bool (d := false) (ok_pickb rfl rfl rfl) (rfl)) ?_
  refine ro_nil ?_
  refine keepK hK11 [0, 1, 84] (by dsimp) (by dsimp) ?_
  refine T.cond_false rfl ?_
  refine T.skip ?_
  refine keepK hK10 [0, 1] (by dsimp) (by dsimp) ?_
  refine T.seq fun K12 hK12 => ?_
  refine T.ent (TEnt.fin (tm' := [(0, .int z), (1, .fz 1 (ints .u8 b))]) (H' := []) [] (by decide) (by simp) rfl ⟨rfl, by simp [normT, tget, AV.ren, renL_ints], trivial⟩) ?_
  refine T.region ?_
  refine ro rfl rfl (ok_call rfl rfl rfl (newD_call (n := 2) (by decide) (by decide) (by decide) (by decide))) ?_
  refine rs rfl rfl (ok_move (.inl rfl)) ?_
  refine rs rfl rfl (ok_extract rfl rfl rfl) ?_
  refine rs rfl rfl (ok_extract rfl rfl rfl) ?_
  refine rs rfl rfl (ok_move (.inr rfl)) ?_
  refine rs rfl rfl (ok_move (.inr rfl)) ?_
  refine ro_nil ?_
  refine keepK hK12 [0, 1, 10] (by dsimp) (by dsimp) ?_
  refine T.seq fun K13 hK13 => ?_
  refine T.region ?_
  refine rs rfl rfl (ok_move (.inl rfl)) ?_
  refine rs rfl rfl (((ok_buildSlice (n := 1) (ps := #[(0, .const (.int .u8 1))]) rfl ti_Luint8 rfl ti_uint8 (by decide) rfl rfl (by decide) rfl rfl rfl).frz rfl rfl).eq (x' := .fz 1 (ints .u8 [1])) (H'' := [some (DvB (newD 2 4 1 1) 1), some (ZqsB (newD 2 4 1 1).zs), some ⟨1, false, ints .u8 [1]⟩]) rfl rfl) ?_
  refine ro rfl rfl (ok_call rfl rfl rfl (dv_call lvapp1 rfl (fun _ => rfl))) ?_
  refine ro_nil ?_
  refine keepK hK13 [0, 1, 10] (by dsimp) (by dsimp) ?_
  refine T.seq fun K14 hK14 => ?_
  refine T.region ?_
  refine rs rfl rfl (ok_move (.inl rfl)) ?_
  refine ro rfl rfl (ok_call rfl rfl rfl ((dv_call (d' := lvK) (zdkill_ok lvD1) rfl (fun _ => rfl)))) ?_
  refine ro_nil ?_
  refine keepK hK14 [0, 1, 10] (by dsimp) (by dsimp) ?_
  refine T.seq fun K15 hK15 => ?_
  refine T.region ?_
  refine rs rfl rfl (ok_move (.inl rfl)) ?_
  refine rs rfl rfl (ok_move (.inl rfl)) ?_
  refine rs rfl rfl (ok_move (.inl rfl)) ?_
  refine ro rfl rfl (ok_call rfl rfl rfl (dv_call (lvapp3 z b hb5) (by simp [renL, AV.ren, renL_ints]; rfl) (fun _ => rfl))) ?_
  refine ro rfl rfl (ok_call rfl rfl rfl ((code5_ok 11).plain rfl rfl)) ?_
  refine rs rfl rfl (ok_binOp rfl ti_int rfl) ?_
  refine rs rfl rfl (OpOk.bool (d := true) (ok_moveb (.inl rfl) rfl) (rfl)) ?_
  refine rs rfl rfl (ok_move (.inl rfl)) ?_
  refine ro rfl rfl (ok_call rfl rfl rfl (dv_call lvfl rfl (fun _ => rfl))) ?_
  refine ro rfl rfl (ok_call rfl rfl rfl ((code5_ok 11).plain rfl rfl)) ?_
  refine rs rfl rfl (ok_binOp rfl ti_int rfl) ?_
  refine rs rfl rfl (ok_pick rfl rfl) ?_
  refine rs rfl rfl (OpOk.bool (d := true) (ok_moveb (.inl rfl) rfl) (rfl)) ?_
  refine rs rfl rfl (ok_move (.inl rfl)) ?_
  refine ro rfl rfl (ok_call rfl rfl rfl ((dv_call (dead_ok lvK) rfl (fun _ => rfl)).eq (x' := .b true) rfl rfl)) ?_
  refine rs rfl rfl (ok_pick rfl rfl) ?_
  refine rs rfl rfl (OpOk.bool (d := true) (ok_moveb (.inl rfl) rfl) (rfl)) ?_
  refine rs rfl rfl (ok_move (.inl rfl)) ?_
  refine ro rfl rfl (ok_call rfl rfl rfl (dv_call (active_dead lvK rfl) rfl (fun _ => rfl))) ?_
  refine rs rfl rfl (ok_binOp rfl ti_int rfl) ?_
  refine rs rfl rfl (ok_pick rfl rfl) ?_
  refine rs rfl rfl (OpOk.bool (d := true) (ok_moveb (.inl rfl) rfl) (rfl)) ?_
  refine ro rfl rfl (ok_call rfl rfl rfl (live5_ok.plain rfl rfl)) ?_
  refine rs rfl rfl (ok_pick rfl rfl) ?_
  refine rs rfl rfl (ok_move (.inr rfl)) ?_
  refine ro_nil ?_
  refine keepK hK15 [4] (by dsimp) (by dsimp) ?_
  refine T.ret (hQ _ _ _ rfl ?_).1 -- ret 2
  exact TEnt.fin [] (by decide) (by simp) rfl ⟨rfl, trivial⟩
end Go.Proofs.Ytlegolcbjjjofaa.AmF
