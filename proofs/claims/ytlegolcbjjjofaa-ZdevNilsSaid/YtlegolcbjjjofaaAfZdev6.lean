/- Walks over the abstract machine: a member: all is safe; a new one; one that is nil. -/
import Derived.Test.YtlegolcbjjjofaaAfZdev5
namespace Go.Proofs.Ytlegolcbjjjofaa.AmF
open Go Go.AM
set_option maxRecDepth 100000
set_option maxHeartbeats 4000000
set_option linter.unusedSimpArgs false
set_option linter.unusedVariables false
attribute [local simp] tkeep tget tput ev cav argsTM pickA normT putA splice AV.cells ints_length rowsA_length Zqs_len
/-- All is safe. -/
def flushD (d : Dv) : Dv := if rightD d 0 = 0 then { d with zs := d.zs.map flushZ } else d
def flD (d : Dv) (i : Nat) : Dv := { d with zs := flushK d.zs i }
theorem flD_0 (d : Dv) : flD d 0 = d := by simp [flD, flushK]
theorem flD_len {d : Dv} {i : Nat} (h : i ≤ d.zs.length) : (flD d i).zs.length = d.zs.length := flushK_len d.zs i h
theorem DvB_fl {d : Dv} {i : Nat} {p : Nat} (h : i ≤ d.zs.length) : DvB (flD d i) p = DvB d p := by simp [DvB, flD_len h, flD]; rw [flushK_len d.zs i h]
theorem flD_all (d : Dv) : flD d d.zs.length = { d with zs := d.zs.map flushZ } := by simp [flD, flushK_all]
theorem zdflush_ok (d : Dv) (hok : ∀ z ∈ d.zs, ZqOk z) (hl : d.zs.length ≤ 1000000) : CSpec Try.prog 15 [DvB d 1, ZqsB d.zs] [.ref 0 0 0] [some (DvB (flushD d) 1), some (ZqsB (flushD d).zs)] (.int (rightD d 0)) := by
 refine CSpec.body Try.func15 rfl rfl rfl rfl rfl fun Q hQ => ?_
 refine T.seq fun K1 hK1 => ?_
 refine T.region ?_
 refine rs rfl rfl (ok_move (.inr rfl)) ?_
 refine ro_nil ?_
 refine keepK hK1 [0] (by dsimp) (by dsimp) ?_
 refine T.seq fun K2 hK2 => ?_
 refine T.seq fun K3 hK3 => ?_
 refine T.region ?_
 refine rs rfl rfl (ok_move (.inl rfl)) ?_
 refine ro rfl rfl (ok_call rfl rfl rfl (((dright_ok d 0).pass (H := [some (DvB d 1), some (ZqsB d.zs)]) [0, 1] (by decide) (by simp) (by show [_, _] = _; exact dv_in (by decide)) rfl).eq (x' := .int (rightD d 0)) (H'' := [some (DvB d 1), some (ZqsB d.zs)]) rfl (by show [_, _] = _; exact dv_in rfl))) ?_
 refine rs rfl rfl (ok_move (.inr rfl)) ?_
 refine ro_nil ?_
 refine keepK hK3 [0, 3] (by dsimp) (by dsimp) ?_
 refine T.seq fun K4 hK4 => ?_
 refine T.region ?_
 refine rs rfl rfl (ok_move (.inl rfl)) ?_
 refine rs rfl rfl (ok_binOp rfl ti_api_Errno rfl) ?_
 refine ro_nil ?_
 refine keepK hK4 [0, 3, 9] (by dsimp) (by dsimp) ?_
 refine T.cond rfl (fun hc => ?_) (fun hc => ?_) -- cond 1
 ·(try simp only [dE] at hc)
  refine T.seq fun K5 hK5 => ?_
  refine T.region ?_
  refine rs rfl rfl (ok_move (.inl rfl)) ?_
  refine rs rfl rfl (ok_move (.inr rfl)) ?_
  refine ro_nil ?_
  refine keepK hK5 [2] (by dsimp) (by dsimp) ?_
  refine T.ret (hQ _ _ _ rfl ?_).1 -- ret 1
  exact by (rw [show flushD d = d from if_neg (by assumption)]; exact TEnt.fin [0, 1] (by decide) srcq2 (dv_in (by decide)) ⟨rfl, trivial⟩)
 ·(try simp only [dE] at hc)
  have hr0 : rightD d 0 = 0 := by simpa using hc
  refine T.skip ?_
  refine keepK hK2 [0] (by dsimp) (by dsimp) ?_
  refine T.seq fun K6 hK6 => ?_
  refine T.seq fun K7 hK7 => ?_
  refine T.region ?_
  refine rs rfl rfl (ok_move (.inl rfl)) ?_
  refine rs rfl rfl (ok_nilCheck rfl rfl) ?_
  refine rs rfl rfl (ok_fieldAddr rfl ti_zdev_Dev rfl rfl ti_Lzone_Zone (by decide) rfl) ?_
  refine rs rfl rfl (ok_load rfl ti_Lzone_Zone rfl rfl) ?_
  refine rs rfl rfl (by exact ok_len' rfl rfl ti_Lzone_Zone rfl rfl) ?_
  refine rs rfl rfl (ok_move (.inl rfl)) ?_
  refine ro_nil ?_
  refine keepK hK7 [0, 14, 15, 16] (by dsimp) (by dsimp) ?_
  refine T.block ?_
  refine T.loopI (ι := Nat) (fun i => i ≤ d.zs.length) (fun i => d.zs.length - i) (fun i => ([(0, .ref 0 0 0), (14, .sl 1 0 d.zs.length), (15, .int d.zs.length), (16, .int i)], [some (DvB d 1), some (ZqsB (flD d i).zs)])) 0 (Nat.zero_le _) (TEnt.toH (by rw [flD_0]) ⟨rfl, rfl, rfl, rfl, trivial⟩) (fun i hi => ?_) -- loop 1
  refine T.seq fun K8 hK8 => ?_
  refine T.region ?_
  refine rs rfl rfl (ok_binOp rfl ti_int rfl) ?_
  refine ro_nil ?_
  refine keepK hK8 [0, 14, 15, 16, 17] (by dsimp) (by dsimp) ?_
  refine T.seq fun K9 hK9 => ?_
  refine T.cond rfl (fun hc => ?_) (fun hc => ?_) -- cond 2
  ·(try simp only [dE] at hc)
   obtain ⟨z, hz⟩ : ∃ z, d.zs[i]? = some z := ⟨_, List.getElem?_eq_getElem (by omega)⟩
   have hzo := hok z (List.mem_of_getElem? hz)
   have hfk : (flD d i).zs[i]? = some z := flushK_get hz
   have hfl := flD_len (d := d) (i := i) (by omega)
   refine T.skip ?_
   refine keepK hK9 [0, 14, 15, 16] (by dsimp) (by dsimp) ?_
   refine T.seq fun K10 hK10 => ?_
   refine T.block ?_
   refine T.seq fun K11 hK11 => ?_
   refine T.region ?_
   refine rs rfl rfl (ok_move (.inl rfl)) ?_
   refine rs rfl rfl ((ok_index_sl (b := ZqsB (flD d i).zs) rfl ti_Lzone_Zone rfl ti_zone_Zone rfl rfl rfl rfl (by omega) (by omega)).eq (x' := .ref 1 i 0) (by simp) rfl) ?_
   refine rs rfl rfl (by exact ok_load rfl ti_zone_Zone (cl := ZqC z) (f := 0) (locA_map (b := ZqsB (flD d i).zs) rfl rfl hfk (by simp [ZqC])) rfl) ?_
   refine rs rfl rfl (ok_alloc rfl ti_zone_Zone rfl (by decide)) ?_
   refine rs rfl rfl (ok_move (.inr rfl)) ?_
   refine rs rfl rfl ((ok_store rfl ti_zone_Zone (by decide) rfl rfl rfl rfl rfl (by first | exact Nat.le_of_ble_eq_true rfl | simp) (by first | exact .inl ⟨rfl, rfl⟩ | exact .inr rfl)).eq (x' := .any) (H'' := [some (DvB d 1), some (ZqsB (flD d i).zs), some (ZqB z)]) rfl rfl) ?_
   refine ro_nil ?_
   refine keepK hK11 [0, 4, 5, 14, 15, 16] (by dsimp) (by dsimp) ?_
   refine T.drawH mixed [8] ?_
   refine any_take 0 rfl (by first | rfl | decide +kernel) rfl (HeldL.refl _) (fun H' hH => OpOk.step (ok_move (.inl rfl))) ?_
   refine any_take 1 rfl (by first | rfl | decide +kernel) rfl (HeldL.refl _) (fun H' hH => OpOk.step (ok_nilCheck rfl rfl)) ?_
   refine any_take 2 rfl (by first | rfl | decide +kernel) rfl (HeldL.refl _) (fun H' hH => OpOk.step (ok_fieldAddr rfl ti_zdev_Dev rfl rfl ti_Lzone_Zone (by decide) rfl)) ?_
   refine any_take 3 rfl (by first | rfl | decide +kernel) rfl (HeldL.refl _) (fun H' hH => OpOk.step (ok_load rfl ti_Lzone_Zone (locA_held hH rfl) rfl)) ?_
   refine any_take 4 rfl (by first | rfl | decide +kernel) rfl (HeldL.refl _) (fun H' hH => OpOk.step (ok_move (.inl rfl))) ?_
   refine any_take 5 rfl (by first | rfl | decide +kernel) rfl (HeldL.refl _) (fun H' hH => OpOk.step (by exact ok_load rfl ti_zone_Zone (cl := ZqC z) (f := 0) (locA_held hH rfl) rfl)) ?_
   refine any_one 6 rfl (by first | rfl | decide +kernel) rfl rfl (ok_call rfl rfl rfl ((zflush_ok z hzo).plain (by simp [renL, AV.ren, ZqC_take, ZqC_ren]) (by simp [AV.ren, ZqC_ren]))) (.inr (by first | (simp [HeldL]; done) | (simp only [dH]; (repeat' first | trivial | rfl | constructor)))) ?_
   refine any_take 7 rfl (by first | rfl | decide +kernel) rfl (by first | exact HeldL.refl _ | exact HeldL.append _ _ | simp [HeldL]) (fun H' hH => OpOk.step ((ok_index_sl (b := ZqsB (flD d i).zs) rfl ti_Lzone_Zone rfl ti_zone_Zone rfl (hH.get rfl) rfl rfl (by omega) (by omega)).eq (x' := .ref 1 i 0) (by simp) rfl)) ?_
   refine any_one 8 rfl (by first | rfl | decide +kernel) rfl rfl (OpOk.step ((ok_store rfl ti_zone_Zone (by decide) (id := 1) (j := i) (f := 0) rfl rfl rfl (Zqs_at hfk) rfl (by show 0 + 5 ≤ 5; decide) (.inl ⟨rfl, rfl⟩)).eq (x' := .any) (H'' := [some (DvB d 1), some (ZqsB (flD d (i + 1)).zs), some (ZqB z)]) rfl (by show [_, some (⟨5, true, (Zqs (flD d i).zs).set i (.agg (ZqC (flushZ z)))⟩ : Blk), _] = _; rw [Zqs_set, show (flD d i).zs.set i (flushZ z) = (flD d (i + 1)).zs from flushK_set hz]; rfl))) (.inl (by simp)) ?_
   refine any_done rfl ?_
   refine keepK hK10 [0, 14, 15, 16] (by dsimp) (by dsimp) ?_
   refine T.region ?_
   refine rs rfl rfl (ok_add64 rfl ti_int rfl rfl (by omega) (by omega)) ?_
   refine rs rfl rfl (ok_move (.inl rfl)) ?_
   refine ro_nil ?_
   exact ⟨i + 1, by omega, by omega, TEnt.fin [0, 1] (by decide) srcq2 (hp2 (DvB_ren (by decide) _) (ZqsB_ren _ _)) ⟨rfl, rfl, rfl, rfl, trivial⟩⟩
  ·(try simp only [dE] at hc)
   have hin : i = d.zs.length := by omega
   subst hin
   have hfl := flD_len (d := d) (i := d.zs.length) (by omega)
   refine T.exit ?_
   refine keepK hK6 [] (by dsimp) (by dsimp) ?_
   refine T.seq fun K12 hK12 => ?_
   refine T.region ?_
   refine rs rfl rfl (ok_move (.inr rfl)) ?_
   refine ro_nil ?_
   refine keepK hK12 [2] (by dsimp) (by dsimp) ?_
   refine T.ret (hQ _ _ _ rfl ?_).1 -- ret 2
   exact by (rw [show flushD d = flD d d.zs.length from (if_pos hr0).trans (flD_all d).symm, DvB_fl (Nat.le_refl _)]; exact TEnt.fin [0, 1] (by decide) srcq2 (hp2 (DvB_ren (by decide) _) (ZqsB_ren _ _)) ⟨by rw [hr0]; rfl, trivial⟩)
theorem zdflush_nil : CSpec Try.prog 15 [] [.v (.pointer none)] [] (.int 16) := by
 refine CSpec.body Try.func15 rfl rfl rfl rfl rfl fun Q hQ => ?_
 refine T.seq fun K1 hK1 => ?_
 refine T.region ?_
 refine rs rfl rfl (ok_move (.inr rfl)) ?_
 refine ro_nil ?_
 refine keepK hK1 [0] (by dsimp) (by dsimp) ?_
 refine T.seq fun K2 hK2 => ?_
 refine T.seq fun K3 hK3 => ?_
 refine T.region ?_
 refine rs rfl rfl (ok_move (.inl rfl)) ?_
 refine ro rfl rfl (ok_call rfl rfl rfl ((dright_nil 0).plain rfl rfl)) ?_
 refine rs rfl rfl (ok_move (.inr rfl)) ?_
 refine ro_nil ?_
 refine keepK hK3 [0, 3] (by dsimp) (by dsimp) ?_
 refine T.seq fun K4 hK4 => ?_
 refine T.region ?_
 refine rs rfl rfl (ok_move (.inl rfl)) ?_
 refine rs rfl rfl (OpOk.bool (d := true) (ok_binOp rfl ti_api_Errno rfl) (rfl)) ?_
 refine ro_nil ?_
 refine keepK hK4 [0, 3, 9] (by dsimp) (by dsimp) ?_
 refine T.cond_true rfl ?_
 refine T.seq fun K5 hK5 => ?_
 refine T.region ?_
 refine rs rfl rfl (ok_move (.inl rfl)) ?_
 refine rs rfl rfl (ok_move (.inr rfl)) ?_
 refine ro_nil ?_
 refine keepK hK5 [2] (by dsimp) (by dsimp) ?_
 refine T.ret (hQ _ _ _ rfl ?_).1 -- ret 1
 exact TEnt.fin [] (by decide) (by simp) rfl ⟨rfl, trivial⟩
theorem zdkill_ok (d : Dv) : CSpec Try.prog 19 [DvB d 1, ZqsB d.zs] [.ref 0 0 0] [some (DvB { d with dead := true } 1), some (ZqsB d.zs)] (.tup []) := by
 refine CSpec.body Try.func19 rfl rfl rfl rfl rfl fun Q hQ => ?_
 refine T.seq fun K1 hK1 => ?_
 refine T.region ?_
 refine rs rfl rfl (ok_move (.inl rfl)) ?_
 refine rs rfl rfl (OpOk.bool (d := true) (ok_binOp rfl ti_Pzdev_Dev rfl) (rfl)) ?_
 refine ro_nil ?_
 refine keepK hK1 [0, 3] (by dsimp) (by dsimp) ?_
 refine T.cond_true rfl ?_
 refine T.region ?_
 refine rs rfl rfl (ok_move (.inl rfl)) ?_
 refine rs rfl rfl (ok_nilCheck rfl rfl) ?_
 refine rs rfl rfl (ok_fieldAddr rfl ti_zdev_Dev rfl rfl ti_bool (by decide) rfl) ?_
 refine rs rfl rfl ((ok_store rfl ti_bool (by decide) rfl rfl rfl rfl rfl (by first | exact Nat.le_of_ble_eq_true rfl | simp) (by first | exact .inl ⟨rfl, rfl⟩ | exact .inr rfl)).eq (x' := .any) (H'' := [some (DvB { d with dead := true } 1), some (ZqsB d.zs)]) rfl rfl) ?_
 refine ro_nil ?_
 exact (hQ _ _ _ rfl (by exact TEnt.fin [0, 1] (by decide) srcq2 (hp2 (DvB_ren (d := { d with dead := true }) (by decide)) (ZqsB_ren _ _)) ⟨rfl, trivial⟩)).2 -- end
theorem zdkill_nil : CSpec Try.prog 19 [] [.v (.pointer none)] [] (.tup []) := by
 refine CSpec.body Try.func19 rfl rfl rfl rfl rfl fun Q hQ => ?_
 refine T.seq fun K1 hK1 => ?_
 refine T.region ?_
 refine rs rfl rfl (ok_move (.inl rfl)) ?_
 refine rs rfl rfl (OpOk.bool (d := false) (ok_binOp rfl ti_Pzdev_Dev rfl) (rfl)) ?_
 refine ro_nil ?_
 refine keepK hK1 [0, 3] (by dsimp) (by dsimp) ?_
 refine T.cond_false rfl ?_
 refine T.skip ?_
 exact (hQ _ _ _ rfl (TEnt.fin [] (by decide) (by simp) rfl ⟨rfl, trivial⟩)).2 -- end
theorem zdbad_ok (d : Dv) : CSpec Try.prog 24 [DvB d 1, ZqsB d.zs] [.ref 0 0 0] [some (DvB d 1), some (ZqsB d.zs)] (.int d.bad) := by
 refine CSpec.body Try.func24 rfl rfl rfl rfl rfl fun Q hQ => ?_
 refine T.seq fun K1 hK1 => ?_
 refine T.region ?_
 refine rs rfl rfl (ok_move (.inr rfl)) ?_
 refine ro_nil ?_
 refine keepK hK1 [0] (by dsimp) (by dsimp) ?_
 refine T.seq fun K2 hK2 => ?_
 refine T.seq fun K3 hK3 => ?_
 refine T.region ?_
 refine rs rfl rfl (ok_move (.inl rfl)) ?_
 refine rs rfl rfl (OpOk.bool (d := false) (ok_binOp rfl ti_Pzdev_Dev rfl) (rfl)) ?_
 refine ro_nil ?_
 refine keepK hK3 [0, 4] (by dsimp) (by dsimp) ?_
 refine T.cond_false rfl ?_
 refine T.skip ?_
 refine keepK hK2 [0] (by dsimp) (by dsimp) ?_
 refine T.seq fun K4 hK4 => ?_
 refine T.region ?_
 refine rs rfl rfl (ok_move (.inl rfl)) ?_
 refine rs rfl rfl (ok_nilCheck rfl rfl) ?_
 refine rs rfl rfl (ok_fieldAddr rfl ti_zdev_Dev rfl rfl ti_int (by decide) rfl) ?_
 refine rs rfl rfl (ok_load rfl ti_int rfl rfl) ?_
 refine rs rfl rfl (ok_move (.inr rfl)) ?_
 refine ro_nil ?_
 refine keepK hK4 [2] (by dsimp) (by dsimp) ?_
 refine T.ret (hQ _ _ _ rfl ?_).1 -- ret 1
 exact TEnt.fin [0, 1] (by decide) srcq2 (hp2 (DvB_ren (by decide) _) (ZqsB_ren _ _)) ⟨rfl, trivial⟩
theorem zdbad_nil : CSpec Try.prog 24 [] [.v (.pointer none)] [] (.int 0) := by
 refine CSpec.body Try.func24 rfl rfl rfl rfl rfl fun Q hQ => ?_
 refine T.seq fun K1 hK1 => ?_
 refine T.region ?_
 refine rs rfl rfl (ok_move (.inr rfl)) ?_
 refine ro_nil ?_
 refine keepK hK1 [0] (by dsimp) (by dsimp) ?_
 refine T.seq fun K2 hK2 => ?_
 refine T.seq fun K3 hK3 => ?_
 refine T.region ?_
 refine rs rfl rfl (ok_move (.inl rfl)) ?_
 refine rs rfl rfl (OpOk.bool (d := true) (ok_binOp rfl ti_Pzdev_Dev rfl) (rfl)) ?_
 refine ro_nil ?_
 refine keepK hK3 [0, 4] (by dsimp) (by dsimp) ?_
 refine T.cond_true rfl ?_
 refine T.seq fun K4 hK4 => ?_
 refine T.region ?_
 refine rs rfl rfl (ok_move (.inr rfl)) ?_
 refine ro_nil ?_
 refine keepK hK4 [2] (by dsimp) (by dsimp) ?_
 refine T.ret (hQ _ _ _ rfl ?_).1 -- ret 1
 exact TEnt.fin [] (by decide) (by simp) rfl ⟨rfl, trivial⟩
theorem active_nil : CSpec Try.prog 18 [] [.v (.pointer none)] [] (.int 0) := by
 refine CSpec.body Try.func18 rfl rfl rfl rfl rfl fun Q hQ => ?_
 refine T.seq fun K1 hK1 => ?_
 refine T.region ?_
 refine rs rfl rfl (ok_move (.inr rfl)) ?_
 refine ro_nil ?_
 refine keepK hK1 [0] (by dsimp) (by dsimp) ?_
 refine T.seq fun K2 hK2 => ?_
 refine T.region ?_
 refine rs rfl rfl (ok_move (.inr rfl)) ?_
 refine ro_nil ?_
 refine keepK hK2 [0, 3] (by dsimp) (by dsimp) ?_
 refine T.seq fun K3 hK3 => ?_
 refine T.seq fun K4 hK4 => ?_
 refine T.region ?_
 refine rs rfl rfl (ok_move (.inl rfl)) ?_
 refine ro rfl rfl ((ok_call rfl rfl rfl (dead_nil.plain rfl rfl)).eq (x' := .b true) (congrArg AV.b (rfl)) rfl) ?_
 refine ro_nil ?_
 refine keepK hK4 [0, 3, 7] (by dsimp) (by dsimp) ?_
 refine T.cond_true rfl ?_
 refine T.seq fun K5 hK5 => ?_
 refine T.region ?_
 refine rs rfl rfl (ok_move (.inr rfl)) ?_
 refine ro_nil ?_
 refine keepK hK5 [2] (by dsimp) (by dsimp) ?_
 refine T.ret (hQ _ _ _ rfl ?_).1 -- ret 1
 exact TEnt.fin [] (by decide) (by simp) rfl ⟨rfl, trivial⟩
theorem active_dead (d : Dv) (hd : d.dead = true) : CSpec Try.prog 18 [DvB d 1, ZqsB d.zs] [.ref 0 0 0] [some (DvB d 1), some (ZqsB d.zs)] (.int 0) := by
 refine CSpec.body Try.func18 rfl rfl rfl rfl rfl fun Q hQ => ?_
 refine T.seq fun K1 hK1 => ?_
 refine T.region ?_
 refine rs rfl rfl (ok_move (.inr rfl)) ?_
 refine ro_nil ?_
 refine keepK hK1 [0] (by dsimp) (by dsimp) ?_
 refine T.seq fun K2 hK2 => ?_
 refine T.region ?_
 refine rs rfl rfl (ok_move (.inr rfl)) ?_
 refine ro_nil ?_
 refine keepK hK2 [0, 3] (by dsimp) (by dsimp) ?_
 refine T.seq fun K3 hK3 => ?_
 refine T.seq fun K4 hK4 => ?_
 refine T.region ?_
 refine rs rfl rfl (ok_move (.inl rfl)) ?_
 refine ro rfl rfl ((ok_call rfl rfl rfl (((dead_ok d).pass (H := [some (DvB d 1), some (ZqsB d.zs)]) [0, 1] (by decide) (by simp) (by show [_, _] = _; exact hp2 (DvB_ren (p := 1) (q := 1) (by decide) _) (ZqsB_ren _ _)) rfl).eq (x' := .b true) (H'' := [some (DvB d 1), some (ZqsB d.zs)]) (by rw [hd]; rfl) (by show [_, _] = _; exact hp2 (DvB_ren (p := 1) (q := 1) rfl _) (ZqsB_ren _ _)))).eq (x' := .b true) (congrArg AV.b (rfl)) rfl) ?_
 refine ro_nil ?_
 refine keepK hK4 [0, 3, 7] (by dsimp) (by dsimp) ?_
 refine T.cond_true rfl ?_
 refine T.seq fun K5 hK5 => ?_
 refine T.region ?_
 refine rs rfl rfl (ok_move (.inr rfl)) ?_
 refine ro_nil ?_
 refine keepK hK5 [2] (by dsimp) (by dsimp) ?_
 refine T.ret (hQ _ _ _ rfl ?_).1 -- ret 1
 exact TEnt.fin [0, 1] (by decide) srcq2 (hp2 (DvB_ren (by decide) _) (ZqsB_ren _ _)) ⟨rfl, trivial⟩
theorem zdcrash_nil (b : List Int) : CSpec Try.prog 20 [] [.v (.pointer none), .fz 1 (ints .u8 b)] [] (.tup []) := by
 refine CSpec.body Try.func20 rfl rfl rfl rfl rfl fun Q hQ => ?_
 refine T.seq fun K1 hK1 => ?_
 refine T.seq fun K2 hK2 => ?_
 refine T.region ?_
 refine rs rfl rfl (ok_move (.inl rfl)) ?_
 refine ro rfl rfl ((ok_call rfl rfl rfl (dead_nil.plain rfl rfl)).eq (x' := .b true) (congrArg AV.b (rfl)) rfl) ?_
 refine ro_nil ?_
 refine keepK hK2 [0, 1, 8] (by dsimp) (by dsimp) ?_
 refine T.cond_true rfl ?_
 refine T.ret (hQ _ _ _ rfl ?_).1 -- ret 1
 exact TEnt.fin [] (by decide) (by simp) rfl ⟨rfl, trivial⟩
end Go.Proofs.Ytlegolcbjjjofaa.AmF
