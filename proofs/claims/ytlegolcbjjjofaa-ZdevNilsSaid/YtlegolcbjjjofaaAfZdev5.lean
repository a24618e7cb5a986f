/- Walks over the abstract machine: a member: a zone is made empty, is ended; blocks are appended. -/
import Derived.Test.YtlegolcbjjjofaaAfZdev4
namespace Go.Proofs.Ytlegolcbjjjofaa.AmF
open Go Go.AM
set_option maxRecDepth 100000
set_option maxHeartbeats 4000000
set_option linter.unusedSimpArgs false
set_option linter.unusedVariables false
attribute [local simp] tkeep tget tput ev cav argsTM pickA normT putA splice AV.cells ints_length rowsA_length Zqs_len
theorem dv_in {d : Dv} {p : Nat} {ρ : Nat → Option Nat} {q : Nat} (h : ρ p = some q) : [some (Blk.ren ρ (DvB d p)), some (Blk.ren ρ (ZqsB d.zs))] = [some (DvB d q), some (ZqsB d.zs)] := hp2 (DvB_ren h _) (ZqsB_ren _ _)
theorem zdreset_ok (d : Dv) (z : Int) (hok : ∀ z ∈ d.zs, ZqOk z) (hb : 0 ≤ d.bad ∧ d.bad ≤ 1000000) : CSpec Try.prog 16 [DvB d 1, ZqsB d.zs] [.ref 0 0 0, .int z] [some (DvB (chgD d z resetZ) 1), some (ZqsB (chgD d z resetZ).zs)] (.int (rightD d z)) := by
 refine CSpec.body Try.func16 rfl rfl rfl rfl rfl fun Q hQ => ?_
 refine T.seq fun K1 hK1 => ?_
 refine T.region ?_
 refine rs rfl rfl (ok_move (.inr rfl)) ?_
 refine ro_nil ?_
 refine keepK hK1 [0, 1] (by dsimp) (by dsimp) ?_
 refine T.seq fun K2 hK2 => ?_
 refine T.region ?_
 refine rs rfl rfl (ok_move (.inl rfl)) ?_
 refine rs rfl rfl (ok_move (.inl rfl)) ?_
 refine ro rfl rfl (ok_call rfl rfl rfl (((change_ok d z 53 resetZ (fun y _ => zreset_ok y) hok hb).pass (H := [some (DvB d 1), some (ZqsB d.zs)]) [0, 1] (by decide) (by simp) (by show [_, _] = _; exact dv_in (by decide)) rfl).eq (x' := .int (rightD d z)) (H'' := [some (DvB (chgD d z resetZ) 1), some (ZqsB (chgD d z resetZ).zs)]) rfl (by show [_, _] = _; exact dv_in rfl))) ?_
 refine rs rfl rfl (ok_move (.inr rfl)) ?_
 refine ro_nil ?_
 refine keepK hK2 [4] (by dsimp) (by dsimp) ?_
 refine T.ret (hQ _ _ _ rfl ?_).1 -- ret 1
 exact TEnt.fin [0, 1] (by decide) srcq2 (dv_in (by decide)) ⟨rfl, trivial⟩
theorem zdfinish_ok (d : Dv) (z : Int) (hok : ∀ z ∈ d.zs, ZqOk z) (hb : 0 ≤ d.bad ∧ d.bad ≤ 1000000) : CSpec Try.prog 17 [DvB d 1, ZqsB d.zs] [.ref 0 0 0, .int z] [some (DvB (chgD d z finishZ) 1), some (ZqsB (chgD d z finishZ).zs)] (.int (rightD d z)) := by
 refine CSpec.body Try.func17 rfl rfl rfl rfl rfl fun Q hQ => ?_
 refine T.seq fun K1 hK1 => ?_
 refine T.region ?_
 refine rs rfl rfl (ok_move (.inr rfl)) ?_
 refine ro_nil ?_
 refine keepK hK1 [0, 1] (by dsimp) (by dsimp) ?_
 refine T.seq fun K2 hK2 => ?_
 refine T.region ?_
 refine rs rfl rfl (ok_move (.inl rfl)) ?_
 refine rs rfl rfl (ok_move (.inl rfl)) ?_
 refine ro rfl rfl (ok_call rfl rfl rfl (((change_ok d z 54 finishZ (fun y hy => zfinish_ok y hy) hok hb).pass (H := [some (DvB d 1), some (ZqsB d.zs)]) [0, 1] (by decide) (by simp) (by show [_, _] = _; exact dv_in (by decide)) rfl).eq (x' := .int (rightD d z)) (H'' := [some (DvB (chgD d z finishZ) 1), some (ZqsB (chgD d z finishZ).zs)]) rfl (by show [_, _] = _; exact dv_in rfl))) ?_
 refine rs rfl rfl (ok_move (.inr rfl)) ?_
 refine ro_nil ?_
 refine keepK hK2 [4] (by dsimp) (by dsimp) ?_
 refine T.ret (hQ _ _ _ rfl ?_).1 -- ret 1
 exact TEnt.fin [0, 1] (by decide) srcq2 (dv_in (by decide)) ⟨rfl, trivial⟩
theorem rightD_dead {d : Dv} {z : Int} (h : rightD d z = 0) : d.dead = false := by
  unfold rightD at h
  split at h
  · cases h
  · simp_all
theorem hp4 {a a' b b' c c' e e' : Option Blk} (h1 : a = a') (h2 : b = b') (h3 : c = c') (h4 : e = e') : [a, b, c, e] = [a', b', c', e'] := by subst h1 h2 h3 h4; rfl
theorem cnt_call4 {d : Dv} {e : Int} {B : Blk} (hb : 0 ≤ d.bad ∧ d.bad ≤ 1000000) : DCallOk Try.prog 47 [some (DvB d 1), some (ZqsB d.zs), some (ErB e), some B] [.ref 0 0 0, .ref 2 0 0] [some (DvB (cntE d e) 1), some (ZqsB d.zs), some (ErB e), some B] :=
  ((cnt_ok d e hb).pass [0, 1, 2] (by decide) (by simp) (by show [_, _, _] = _; exact hp3 (DvB_ren (p := 1) (q := 1) (by decide) _) (ZqsB_ren _ _) (ErB_ren _ _)) rfl).eq (by show [_, _, _, _] = _; exact hp4 (DvB_ren (p := 1) (q := 1) rfl _) (ZqsB_ren _ _) (ErB_ren _ _) rfl)
def putD (d : Dv) (z : Int) (q : Zq) : Dv := { d with zs := d.zs.set z.toNat q }
theorem DvB_put (d : Dv) (z : Int) (q : Zq) (p : Nat) : DvB (putD d z q) p = DvB d p := by simp [DvB, putD]
theorem cntE_0 (d : Dv) : cntE d 0 = d := cntE_n (by unfold badE; omega)
/-- Would there be too many zones in use? -/
def stopD (d : Dv) (r y : Zq) : Prop := actZ r = true ∧ actZ y = false ∧ d.lim ≤ actN d.zs
instance (d : Dv) (r y : Zq) : Decidable (stopD d r y) := by unfold stopD; infer_instance
/-- Blocks are appended: the member behind it, and what it answers. -/
def appD (d : Dv) (z : Int) (b : List Int) : Dv × Int :=
  if rightD d z = 0 then
    match d.zs[z.toNat]? with
    | some y => if (apZ y b).2 = 0 then (if stopD d (apZ y b).1 y then (cntE d 8, 8) else (putD d z (apZ y b).1, 0)) else (cntE d (apZ y b).2, (apZ y b).2)
    | none => (d, 0)
  else (cntE d (rightD d z), rightD d z)
theorem appD_no {d : Dv} {z : Int} {b : List Int} (h : ¬ rightD d z = 0) : appD d z b = (cntE d (rightD d z), rightD d z) := if_neg h
theorem appD_bad {d : Dv} {z : Int} {b : List Int} {y : Zq} (h : rightD d z = 0) (hy : d.zs[z.toNat]? = some y) (h1 : ¬ (apZ y b).2 = 0) : appD d z b = (cntE d (apZ y b).2, (apZ y b).2) := by unfold appD; rw [if_pos h, hy]; exact if_neg h1
theorem appD_stop {d : Dv} {z : Int} {b : List Int} {y : Zq} (h : rightD d z = 0) (hy : d.zs[z.toNat]? = some y) (h1 : (apZ y b).2 = 0) (h2 : stopD d (apZ y b).1 y) : appD d z b = (cntE d 8, 8) := by unfold appD; rw [if_pos h, hy]; exact (if_pos h1).trans (if_pos h2)
theorem appD_yes {d : Dv} {z : Int} {b : List Int} {y : Zq} (h : rightD d z = 0) (hy : d.zs[z.toNat]? = some y) (h1 : (apZ y b).2 = 0) (h2 : ¬ stopD d (apZ y b).1 y) : appD d z b = (putD d z (apZ y b).1, 0) := by unfold appD; rw [if_pos h, hy]; exact (if_pos h1).trans (if_neg h2)
theorem apZ_eq {y : Zq} {b : List Int} (h : (apZ y b).2 = 0) : (apZ y b).1 = { y with data := y.data ++ b } := by
  unfold apZ at h ⊢
  split
  · split
    · rfl
    · exfalso; simp_all
  · exfalso; simp_all
theorem apZ_okZ {y : Zq} {b : List Int} (hy : ZqOk y ∧ y.data.length ≤ 8000000) (hb : b.length ≤ 8000000) (h : (apZ y b).2 = 0) : ZqOk (apZ y b).1 := by
  rw [apZ_eq h]
  exact ⟨hy.1.1, hy.1.2.1, by show (y.data ++ b).length ≤ 16777216; rw [List.length_append]; omega⟩
theorem zdapp_ok (d : Dv) (z : Int) (b : List Int) (hok : ∀ z ∈ d.zs, ZqOk z ∧ z.data.length ≤ 8000000) (hl : d.zs.length ≤ 1000000) (hbl : b.length ≤ 8000000) (hbd : 0 ≤ d.bad ∧ d.bad ≤ 1000000) : CSpec Try.prog 14 [DvB d 1, ZqsB d.zs] [.ref 0 0 0, .int z, .fz 1 (ints .u8 b)] [some (DvB (appD d z b).1 1), some (ZqsB (appD d z b).1.zs)] (.int (appD d z b).2) := by
 refine CSpec.bodyD (B := ErB 0) (tm1 := [(0, .ref 0 0 0), (1, .int z), (2, .fz 1 (ints .u8 b)), (6, .ref 2 0 0)]) (fd := 47) Try.func14 rfl rfl rfl rfl rfl ?_ rfl rfl rfl rfl rfl rfl rfl rfl rfl rfl rfl rfl rfl (fun D Q hQ => ?_)
 ·
  refine T.region ?_
  refine rs rfl rfl (ok_alloc rfl ti_api_Errno rfl (by decide)) ?_
  refine ro_nil ?_
  exact ⟨rfl, TEnt.toH rfl ⟨rfl, rfl, rfl, rfl, trivial⟩⟩
 ·
  refine T.seq fun K1 hK1 => ?_
  refine T.seq fun K2 hK2 => ?_
  refine T.region ?_
  refine rs rfl rfl (ok_move (.inl rfl)) ?_
  refine rs rfl rfl (ok_move (.inl rfl)) ?_
  refine ro rfl rfl (ok_call rfl rfl rfl (right_call)) ?_
  refine rs rfl rfl ((ok_store rfl ti_api_Errno (by decide) rfl rfl rfl rfl rfl (by first | exact Nat.le_of_ble_eq_true rfl | simp) (by first | exact .inl ⟨rfl, rfl⟩ | exact .inr rfl)).eq (x' := .any) (H'' := [some (DvB d 1), some (ZqsB d.zs), some (ErB (rightD d z))]) rfl rfl) ?_
  refine ro_nil ?_
  refine keepK hK2 [0, 1, 2, 6] (by dsimp) (by dsimp) ?_
  refine T.seq fun K3 hK3 => ?_
  refine T.region ?_
  refine rs rfl rfl (ok_load rfl ti_api_Errno rfl rfl) ?_
  refine rs rfl rfl (ok_binOp rfl ti_api_Errno rfl) ?_
  refine ro_nil ?_
  refine keepK hK3 [0, 1, 2, 6, 13] (by dsimp) (by dsimp) ?_
  refine T.cond rfl (fun hc => ?_) (fun hc => ?_) -- cond 1
  ·(try simp only [dE] at hc)
   refine T.seq fun K4 hK4 => ?_
   refine T.region ?_
   refine rs rfl rfl (ok_load rfl ti_api_Errno rfl rfl) ?_
   refine rs rfl rfl (ok_store rfl ti_api_Errno (by decide) rfl rfl rfl rfl rfl (by first | exact Nat.le_of_ble_eq_true rfl | simp) (by first | exact .inl ⟨rfl, rfl⟩ | exact .inr rfl)) ?_
   refine ro_nil ?_
   refine keepK hK4 [6] (by dsimp) (by dsimp) ?_
   refine T.ret (hQ _ _ _ _ (cnt_call hbd) rfl ?_).1 -- ret 1
   exact by (rw [appD_no (by assumption)]; exact TEnt.fin [0, 1] (by decide) srcq2 (by rw [cntE_zs]; exact hp2 (DvB_ren (by decide) _) (ZqsB_ren _ _)) ⟨rfl, trivial⟩)
  ·(try simp only [dE] at hc)
   have hz0 := rightD_zero (d := d) (z := z) (by simpa using hc)
   have hr0 : rightD d z = 0 := by simpa using hc
   obtain ⟨y, hy⟩ : ∃ y, d.zs[z.toNat]? = some y := ⟨_, List.getElem?_eq_getElem (by omega)⟩
   have hyo := hok y (List.mem_of_getElem? hy)
   have hdd := rightD_dead hr0
   refine T.skip ?_
   refine keepK hK1 [0, 1, 2, 6] (by dsimp) (by dsimp) ?_
   refine T.seq fun K5 hK5 => ?_
   refine T.region ?_
   refine rs rfl rfl (ok_move (.inl rfl)) ?_
   refine rs rfl rfl (ok_nilCheck rfl rfl) ?_
   refine rs rfl rfl (ok_fieldAddr rfl ti_zdev_Dev rfl rfl ti_Lzone_Zone (by decide) rfl) ?_
   refine rs rfl rfl (ok_load rfl ti_Lzone_Zone rfl rfl) ?_
   refine rs rfl rfl (ok_move (.inl rfl)) ?_
   refine rs rfl rfl ((ok_index_sl (b := ZqsB d.zs) rfl ti_Lzone_Zone rfl ti_zone_Zone rfl rfl rfl rfl (by omega) (by omega)).eq (x' := .ref 1 z.toNat 0) (by simp) rfl) ?_
   refine rs rfl rfl (by exact ok_load rfl ti_zone_Zone (cl := ZqC y) (f := 0) (locA_map (b := ZqsB d.zs) rfl rfl hy (by simp [ZqC])) rfl) ?_
   refine rs rfl rfl (ok_move (.inl rfl)) ?_
   refine ro rfl rfl (ok_call rfl rfl rfl ((zapp_ok y b hyo.1 (by omega) (by omega)).plain (by simp [renL, AV.ren, ZqC_take, ZqC_ren, renL_ints]) (by simp [AV.ren, renL, ZqC_ren]))) ?_
   refine rs rfl rfl (ok_move (.inl rfl)) ?_
   refine rs rfl rfl (ok_extract rfl rfl rfl) ?_
   refine rs rfl rfl (ok_extract rfl rfl rfl) ?_
   refine rs rfl rfl (ok_alloc rfl ti_zone_Zone rfl (by decide)) ?_
   refine rs rfl rfl ((ok_store rfl ti_zone_Zone (by decide) rfl rfl rfl rfl rfl (by first | exact Nat.le_of_ble_eq_true rfl | simp) (by first | exact .inl ⟨rfl, rfl⟩ | exact .inr rfl)).eq (x' := .any) (H'' := [some (DvB d 1), some (ZqsB d.zs), some (ErB (rightD d z)), some (ZqB (apZ y b).1)]) rfl rfl) ?_
   refine rs rfl rfl ((ok_store rfl ti_api_Errno (by decide) rfl rfl rfl rfl rfl (by first | exact Nat.le_of_ble_eq_true rfl | simp) (by first | exact .inl ⟨rfl, rfl⟩ | exact .inr rfl)).eq (x' := .any) (H'' := [some (DvB d 1), some (ZqsB d.zs), some (ErB (apZ y b).2), some (ZqB (apZ y b).1)]) rfl rfl) ?_
   refine ro_nil ?_
   refine keepK hK5 [0, 1, 6, 7] (by dsimp) (by dsimp) ?_
   refine T.seq fun K6 hK6 => ?_
   refine T.block ?_
   refine T.seq fun K7 hK7 => ?_
   refine T.region ?_
   refine rs rfl rfl (ok_load rfl ti_api_Errno rfl rfl) ?_
   refine rs rfl rfl (ok_binOp rfl ti_api_Errno rfl) ?_
   refine rs rfl rfl (ok_move (.inr rfl)) ?_
   refine ro_nil ?_
   refine keepK hK7 [0, 1, 6, 7, 27] (by dsimp) (by dsimp) ?_
   refine T.cond rfl (fun hc => ?_) (fun hc => ?_) -- cond 2
   ·(try simp only [dE] at hc)
    refine T.seq fun K8 hK8 => ?_
    refine T.region ?_
    refine rs rfl rfl (ok_load rfl ti_api_Errno rfl rfl) ?_
    refine rs rfl rfl (ok_store rfl ti_api_Errno (by decide) rfl rfl rfl rfl rfl (by first | exact Nat.le_of_ble_eq_true rfl | simp) (by first | exact .inl ⟨rfl, rfl⟩ | exact .inr rfl)) ?_
    refine ro_nil ?_
    refine keepK hK8 [6] (by dsimp) (by dsimp) ?_
    refine T.ret (hQ _ _ _ _ (cnt_call4 hbd) rfl ?_).1 -- ret 2
    exact by (rw [appD_bad hr0 hy (by assumption)]; exact TEnt.fin [0, 1] (by decide) srcq2 (by rw [cntE_zs]; exact hp2 (DvB_ren (by decide) _) (ZqsB_ren _ _)) ⟨rfl, trivial⟩)
   ·(try simp only [dE] at hc)
    have hr1 : (apZ y b).2 = 0 := by simpa using hc
    have hzo := apZ_okZ hyo hbl hr1
    refine T.seq fun K9 hK9 => ?_
    refine T.drawH mixed [] ?_
    refine any_take 0 rfl (by first | rfl | decide +kernel) rfl (HeldL.refl _) (fun H' hH => OpOk.step (by exact ok_load rfl ti_zone_Zone (cl := ZqC (apZ y b).1) (f := 0) (locA_held hH rfl) rfl)) ?_
    refine any_one 1 rfl (by first | rfl | decide +kernel) rfl rfl (ok_call rfl rfl rfl ((zact_ok (apZ y b).1 hzo).plain (by simp [renL, AV.ren, ZqC_take, ZqC_ren]) rfl)) (.inr (by first | (simp [HeldL]; done) | (simp only [dH]; (repeat' first | trivial | rfl | constructor)))) ?_
    refine any_take_case 2 rfl (by first | rfl | decide +kernel) rfl (by first | exact HeldL.refl _ | exact HeldL.append _ _ | simp [HeldL]) (fun H' hH => OpOk.step (ok_moveb (.inl rfl) rfl)) (fun hb => ?_) (fun hb => ?_)
    ·(try simp only [dE] at hb)
     refine any_take 3 rfl (by first | rfl | decide +kernel) rfl (by first | exact HeldL.refl _ | exact HeldL.append _ _ | simp [HeldL]) (fun H' hH => OpOk.step (ok_move (.inl rfl))) ?_
     refine any_take 4 rfl (by first | rfl | decide +kernel) rfl (by first | exact HeldL.refl _ | exact HeldL.append _ _ | simp [HeldL]) (fun H' hH => OpOk.step (ok_nilCheck rfl rfl)) ?_
     refine any_take 5 rfl (by first | rfl | decide +kernel) rfl (by first | exact HeldL.refl _ | exact HeldL.append _ _ | simp [HeldL]) (fun H' hH => OpOk.step (ok_fieldAddr rfl ti_zdev_Dev rfl rfl ti_Lzone_Zone (by decide) rfl)) ?_
     refine any_take 6 rfl (by first | rfl | decide +kernel) rfl (by first | exact HeldL.refl _ | exact HeldL.append _ _ | simp [HeldL]) (fun H' hH => OpOk.step (ok_load rfl ti_Lzone_Zone (locA_held hH rfl) rfl)) ?_
     refine any_take 7 rfl (by first | rfl | decide +kernel) rfl (by first | exact HeldL.refl _ | exact HeldL.append _ _ | simp [HeldL]) (fun H' hH => OpOk.step (ok_move (.inl rfl))) ?_
     refine any_take 8 rfl (by first | rfl | decide +kernel) rfl (by first | exact HeldL.refl _ | exact HeldL.append _ _ | simp [HeldL]) (fun H' hH => OpOk.step ((ok_index_sl (b := ZqsB d.zs) rfl ti_Lzone_Zone rfl ti_zone_Zone rfl (hH.get rfl) rfl rfl (by omega) (by omega)).eq (x' := .ref 1 z.toNat 0) (by simp) rfl)) ?_
     refine any_take 9 rfl (by first | rfl | decide +kernel) rfl (by first | exact HeldL.refl _ | exact HeldL.append _ _ | simp [HeldL]) (fun H' hH => OpOk.step (by exact ok_load rfl ti_zone_Zone (cl := ZqC y) (f := 0) (locA_held hH (locA_map (b := ZqsB d.zs) rfl rfl hy (by simp [ZqC]))) rfl)) ?_
     refine any_one 10 rfl (by first | rfl | decide +kernel) rfl rfl (ok_call rfl rfl rfl ((zact_ok y hyo.1).plain (by simp [renL, AV.ren, ZqC_take, ZqC_ren]) rfl)) (.inr (by first | (simp [HeldL]; done) | (simp only [dH]; (repeat' first | trivial | rfl | constructor)))) ?_
     refine any_take 11 rfl (by first | rfl | decide +kernel) rfl (by first | exact HeldL.refl _ | exact HeldL.append _ _ | simp [HeldL]) (fun H' hH => OpOk.step (ok_unOp rfl rfl)) ?_
     refine any_take 12 rfl (by first | rfl | decide +kernel) rfl (by first | exact HeldL.refl _ | exact HeldL.append _ _ | simp [HeldL]) (fun H' hH => OpOk.step (ok_pick rfl rfl)) ?_
     refine any_take_case 13 rfl (by first | rfl | decide +kernel) rfl (by first | exact HeldL.refl _ | exact HeldL.append _ _ | simp [HeldL]) (fun H' hH => OpOk.step (ok_moveb (.inl rfl) rfl)) (fun hb => ?_) (fun hb => ?_)
     ·(try simp only [dE] at hb)
      refine any_take 14 rfl (by first | rfl | decide +kernel) rfl (by first | exact HeldL.refl _ | exact HeldL.append _ _ | simp [HeldL]) (fun H' hH => OpOk.step (ok_move (.inl rfl))) ?_
      refine any_take 16 rfl (by first | rfl | decide +kernel) rfl (by first | exact HeldL.refl _ | exact HeldL.append _ _ | simp [HeldL]) (fun H' hH => OpOk.step (ok_move (.inl rfl))) ?_
      refine any_take 17 rfl (by first | rfl | decide +kernel) rfl (by first | exact HeldL.refl _ | exact HeldL.append _ _ | simp [HeldL]) (fun H' hH => OpOk.step (ok_nilCheck rfl rfl)) ?_
      refine any_take 18 rfl (by first | rfl | decide +kernel) rfl (by first | exact HeldL.refl _ | exact HeldL.append _ _ | simp [HeldL]) (fun H' hH => OpOk.step (ok_fieldAddr rfl ti_zdev_Dev rfl rfl ti_int (by decide) rfl)) ?_
      refine any_take 19 rfl (by first | rfl | decide +kernel) rfl (by first | exact HeldL.refl _ | exact HeldL.append _ _ | simp [HeldL]) (fun H' hH => OpOk.step (ok_load rfl ti_int (locA_held hH rfl) rfl)) ?_
      refine any_one 15 rfl (by first | rfl | decide +kernel) rfl rfl (ok_call rfl rfl rfl (((active_ok d (fun y hy => (hok y hy).1) hl hdd).pass (H := [some (DvB d 1), some (ZqsB d.zs), some (ErB (apZ y b).2), some (ZqB (apZ y b).1)]) [0, 1] (by decide) (by simp) (by show [_, _] = _; exact dv_in (by decide)) rfl).eq (x' := .int (actN d.zs)) (H'' := [some (DvB d 1), some (ZqsB d.zs), some (ErB (apZ y b).2), some (ZqB (apZ y b).1)]) rfl (by show [_, _, _, _] = _; exact hp4 (DvB_ren rfl _) (ZqsB_ren _ _) rfl rfl))) (.inr (by first | (simp [HeldL]; done) | (simp only [dH]; (repeat' first | trivial | rfl | constructor)))) ?_
      refine any_take 20 rfl (by first | rfl | decide +kernel) rfl (by first | exact HeldL.refl _ | exact HeldL.append _ _ | simp [HeldL]) (fun H' hH => OpOk.step (ok_binOp rfl ti_int rfl)) ?_
      refine any_take 21 rfl (by first | rfl | decide +kernel) rfl (by first | exact HeldL.refl _ | exact HeldL.append _ _ | simp [HeldL]) (fun H' hH => OpOk.step (ok_pick rfl rfl)) ?_
      refine any_take 22 rfl (by first | rfl | decide +kernel) rfl (by first | exact HeldL.refl _ | exact HeldL.append _ _ | simp [HeldL]) (fun H' hH => OpOk.step (ok_move (.inr rfl))) ?_
      refine any_done rfl ?_
      refine keepK hK9 [0, 1, 6, 7, 31] (by dsimp) (by dsimp) ?_
      refine T.cond rfl (fun hc => ?_) (fun hc => ?_) -- cond 3
      ·(try simp only [dE] at hc)
       refine T.seq fun K10 hK10 => ?_
       refine T.region ?_
       refine rs rfl rfl ((ok_store rfl ti_api_Errno (by decide) rfl rfl rfl rfl rfl (by first | exact Nat.le_of_ble_eq_true rfl | simp) (by first | exact .inl ⟨rfl, rfl⟩ | exact .inr rfl)).eq (x' := .any) (H'' := [some (DvB d 1), some (ZqsB d.zs), some (ErB 8), some (ZqB (apZ y b).1)]) rfl rfl) ?_
       refine ro_nil ?_
       refine keepK hK10 [6] (by dsimp) (by dsimp) ?_
       refine T.ret (hQ _ _ _ _ (cnt_call4 hbd) rfl ?_).1 -- ret 3
       exact by (rw [appD_stop hr0 hy hr1 ⟨by simp_all, by simp_all, by simp_all⟩]; exact TEnt.fin [0, 1] (by decide) srcq2 (by rw [cntE_zs]; exact hp2 (DvB_ren (by decide) _) (ZqsB_ren _ _)) ⟨rfl, trivial⟩)
      ·(try simp only [dE] at hc)
       refine T.skip ?_
       refine keepK hK6 [0, 1, 6, 7] (by dsimp) (by dsimp) ?_
       refine T.seq fun K11 hK11 => ?_
       refine T.drawH mixed [7] ?_
       refine any_take 0 rfl (by first | rfl | decide +kernel) rfl (HeldL.refl _) (fun H' hH => OpOk.step (ok_move (.inl rfl))) ?_
       refine any_take 1 rfl (by first | rfl | decide +kernel) rfl (HeldL.refl _) (fun H' hH => OpOk.step (ok_nilCheck rfl rfl)) ?_
       refine any_take 2 rfl (by first | rfl | decide +kernel) rfl (HeldL.refl _) (fun H' hH => OpOk.step (ok_fieldAddr rfl ti_zdev_Dev rfl rfl ti_Lzone_Zone (by decide) rfl)) ?_
       refine any_take 3 rfl (by first | rfl | decide +kernel) rfl (HeldL.refl _) (fun H' hH => OpOk.step (ok_load rfl ti_Lzone_Zone (locA_held hH rfl) rfl)) ?_
       refine any_take 4 rfl (by first | rfl | decide +kernel) rfl (HeldL.refl _) (fun H' hH => OpOk.step (ok_move (.inl rfl))) ?_
       refine any_take 5 rfl (by first | rfl | decide +kernel) rfl (HeldL.refl _) (fun H' hH => OpOk.step (by exact ok_load rfl ti_zone_Zone (cl := ZqC (apZ y b).1) (f := 0) (locA_held hH rfl) rfl)) ?_
       refine any_take 6 rfl (by first | rfl | decide +kernel) rfl (HeldL.refl _) (fun H' hH => OpOk.step ((ok_index_sl (b := ZqsB d.zs) rfl ti_Lzone_Zone rfl ti_zone_Zone rfl (hH.get rfl) rfl rfl (by omega) (by omega)).eq (x' := .ref 1 z.toNat 0) (by simp) rfl)) ?_
       refine any_one 7 rfl (by first | rfl | decide +kernel) rfl rfl (OpOk.step ((ok_store rfl ti_zone_Zone (by decide) (id := 1) (j := z.toNat) (f := 0) rfl rfl rfl (Zqs_at hy) rfl (by show 0 + 5 ≤ 5; decide) (.inl ⟨rfl, rfl⟩)).eq (x' := .any) (H'' := [some (DvB (putD d z (apZ y b).1) 1), some (ZqsB (putD d z (apZ y b).1).zs), some (ErB (apZ y b).2), some (ZqB (apZ y b).1)]) rfl (by show [_, some (⟨5, true, (Zqs d.zs).set z.toNat (.agg (ZqC (apZ y b).1))⟩ : Blk), _, _] = _; rw [Zqs_set, DvB_put]; rfl))) (.inl (by simp)) ?_
       refine any_done rfl ?_
       refine keepK hK11 [6] (by dsimp) (by dsimp) ?_
       refine T.seq fun K12 hK12 => ?_
       refine T.region ?_
       refine rs rfl rfl ((ok_store rfl ti_api_Errno (by decide) rfl rfl rfl rfl rfl (by first | exact Nat.le_of_ble_eq_true rfl | simp) (by first | exact .inl ⟨rfl, rfl⟩ | exact .inr rfl)).eq (x' := .any) (H'' := [some (DvB (putD d z (apZ y b).1) 1), some (ZqsB (putD d z (apZ y b).1).zs), some (ErB 0), some (ZqB (apZ y b).1)]) rfl rfl) ?_
       refine ro_nil ?_
       refine keepK hK12 [6] (by dsimp) (by dsimp) ?_
       refine T.ret (hQ _ _ _ _ (cnt_call4 (d := putD d z (apZ y b).1) hbd) rfl ?_).1 -- ret 4
       exact by (rw [appD_yes hr0 hy hr1 (fun h => by obtain ⟨h1, h2, h3⟩ := h; first | omega | simp_all), cntE_0]; exact TEnt.fin [0, 1] (by decide) srcq2 (dv_in (by decide)) ⟨rfl, trivial⟩)
     ·(try simp only [dE] at hb)
      refine any_skip 14 rfl (by first | rfl | decide +kernel) rfl (by first | exact HeldL.refl _ | exact HeldL.append _ _ | simp [HeldL]) ?_
      refine any_skip 16 rfl (by first | rfl | decide +kernel) rfl (by first | exact HeldL.refl _ | exact HeldL.append _ _ | simp [HeldL]) ?_
      refine any_skip 17 rfl (by first | rfl | decide +kernel) rfl (by first | exact HeldL.refl _ | exact HeldL.append _ _ | simp [HeldL]) ?_
      refine any_skip 18 rfl (by first | rfl | decide +kernel) rfl (by first | exact HeldL.refl _ | exact HeldL.append _ _ | simp [HeldL]) ?_
      refine any_skip 19 rfl (by first | rfl | decide +kernel) rfl (by first | exact HeldL.refl _ | exact HeldL.append _ _ | simp [HeldL]) ?_
      refine any_one_skip 15 rfl (by first | rfl | decide +kernel) rfl rfl (.inr (by first | exact HeldL.refl _ | exact HeldL.append _ _ | simp [HeldL])) ?_
      refine any_skip 20 rfl (by first | rfl | decide +kernel) rfl (by first | exact HeldL.refl _ | exact HeldL.append _ _ | simp [HeldL]) ?_
      refine any_take 21 rfl (by first | rfl | decide +kernel) rfl (by first | exact HeldL.refl _ | exact HeldL.append _ _ | simp [HeldL]) (fun H' hH => OpOk.step (ok_pickb (t := false) (d := false) rfl rfl rfl)) ?_
      refine any_take 22 rfl (by first | rfl | decide +kernel) rfl (by first | exact HeldL.refl _ | exact HeldL.append _ _ | simp [HeldL]) (fun H' hH => OpOk.step (ok_moveb (c := false) (.inr rfl) rfl)) ?_
      refine any_done rfl ?_
      refine keepK hK9 [0, 1, 6, 7, 31] (by dsimp) (by dsimp) ?_
      refine T.cond_false rfl ?_
      refine T.skip ?_
      refine keepK hK6 [0, 1, 6, 7] (by dsimp) (by dsimp) ?_
      refine T.seq fun K13 hK13 => ?_
      refine T.drawH mixed [7] ?_
      refine any_take 0 rfl (by first | rfl | decide +kernel) rfl (HeldL.refl _) (fun H' hH => OpOk.step (ok_move (.inl rfl))) ?_
      refine any_take 1 rfl (by first | rfl | decide +kernel) rfl (HeldL.refl _) (fun H' hH => OpOk.step (ok_nilCheck rfl rfl)) ?_
      refine any_take 2 rfl (by first | rfl | decide +kernel) rfl (HeldL.refl _) (fun H' hH => OpOk.step (ok_fieldAddr rfl ti_zdev_Dev rfl rfl ti_Lzone_Zone (by decide) rfl)) ?_
      refine any_take 3 rfl (by first | rfl | decide +kernel) rfl (HeldL.refl _) (fun H' hH => OpOk.step (ok_load rfl ti_Lzone_Zone (locA_held hH rfl) rfl)) ?_
      refine any_take 4 rfl (by first | rfl | decide +kernel) rfl (HeldL.refl _) (fun H' hH => OpOk.step (ok_move (.inl rfl))) ?_
      refine any_take 5 rfl (by first | rfl | decide +kernel) rfl (HeldL.refl _) (fun H' hH => OpOk.step (by exact ok_load rfl ti_zone_Zone (cl := ZqC (apZ y b).1) (f := 0) (locA_held hH rfl) rfl)) ?_
      refine any_take 6 rfl (by first | rfl | decide +kernel) rfl (HeldL.refl _) (fun H' hH => OpOk.step ((ok_index_sl (b := ZqsB d.zs) rfl ti_Lzone_Zone rfl ti_zone_Zone rfl (hH.get rfl) rfl rfl (by omega) (by omega)).eq (x' := .ref 1 z.toNat 0) (by simp) rfl)) ?_
      refine any_one 7 rfl (by first | rfl | decide +kernel) rfl rfl (OpOk.step ((ok_store rfl ti_zone_Zone (by decide) (id := 1) (j := z.toNat) (f := 0) rfl rfl rfl (Zqs_at hy) rfl (by show 0 + 5 ≤ 5; decide) (.inl ⟨rfl, rfl⟩)).eq (x' := .any) (H'' := [some (DvB (putD d z (apZ y b).1) 1), some (ZqsB (putD d z (apZ y b).1).zs), some (ErB (apZ y b).2), some (ZqB (apZ y b).1)]) rfl (by show [_, some (⟨5, true, (Zqs d.zs).set z.toNat (.agg (ZqC (apZ y b).1))⟩ : Blk), _, _] = _; rw [Zqs_set, DvB_put]; rfl))) (.inl (by simp)) ?_
      refine any_done rfl ?_
      refine keepK hK13 [6] (by dsimp) (by dsimp) ?_
      refine T.seq fun K14 hK14 => ?_
      refine T.region ?_
      refine rs rfl rfl ((ok_store rfl ti_api_Errno (by decide) rfl rfl rfl rfl rfl (by first | exact Nat.le_of_ble_eq_true rfl | simp) (by first | exact .inl ⟨rfl, rfl⟩ | exact .inr rfl)).eq (x' := .any) (H'' := [some (DvB (putD d z (apZ y b).1) 1), some (ZqsB (putD d z (apZ y b).1).zs), some (ErB 0), some (ZqB (apZ y b).1)]) rfl rfl) ?_
      refine ro_nil ?_
      refine keepK hK14 [6] (by dsimp) (by dsimp) ?_
      refine T.ret (hQ _ _ _ _ (cnt_call4 (d := putD d z (apZ y b).1) hbd) rfl ?_).1 -- ret 5
      exact by (rw [appD_yes hr0 hy hr1 (fun h => by obtain ⟨h1, h2, h3⟩ := h; first | omega | simp_all), cntE_0]; exact TEnt.fin [0, 1] (by decide) srcq2 (dv_in (by decide)) ⟨rfl, trivial⟩)
    ·(try simp only [dE] at hb)
     refine any_skip 3 rfl (by first | rfl | decide +kernel) rfl (by first | exact HeldL.refl _ | exact HeldL.append _ _ | simp [HeldL]) ?_
     refine any_skip 4 rfl (by first | rfl | decide +kernel) rfl (by first | exact HeldL.refl _ | exact HeldL.append _ _ | simp [HeldL]) ?_
     refine any_skip 5 rfl (by first | rfl | decide +kernel) rfl (by first | exact HeldL.refl _ | exact HeldL.append _ _ | simp [HeldL]) ?_
     refine any_skip 6 rfl (by first | rfl | decide +kernel) rfl (by first | exact HeldL.refl _ | exact HeldL.append _ _ | simp [HeldL]) ?_
     refine any_skip 7 rfl (by first | rfl | decide +kernel) rfl (by first | exact HeldL.refl _ | exact HeldL.append _ _ | simp [HeldL]) ?_
     refine any_skip 8 rfl (by first | rfl | decide +kernel) rfl (by first | exact HeldL.refl _ | exact HeldL.append _ _ | simp [HeldL]) ?_
     refine any_skip 9 rfl (by first | rfl | decide +kernel) rfl (by first | exact HeldL.refl _ | exact HeldL.append _ _ | simp [HeldL]) ?_
     refine any_one_skip 10 rfl (by first | rfl | decide +kernel) rfl rfl (.inr (by first | exact HeldL.refl _ | exact HeldL.append _ _ | simp [HeldL])) ?_
     refine any_skip 11 rfl (by first | rfl | decide +kernel) rfl (by first | exact HeldL.refl _ | exact HeldL.append _ _ | simp [HeldL]) ?_
     refine any_take 12 rfl (by first | rfl | decide +kernel) rfl (by first | exact HeldL.refl _ | exact HeldL.append _ _ | simp [HeldL]) (fun H' hH => OpOk.step (ok_pickb (t := false) (d := false) rfl rfl rfl)) ?_
     refine any_take 13 rfl (by first | rfl | decide +kernel) rfl (by first | exact HeldL.refl _ | exact HeldL.append _ _ | simp [HeldL]) (fun H' hH => OpOk.step (ok_moveb (c := false) (.inl rfl) rfl)) ?_
     refine any_skip 14 rfl (by first | rfl | decide +kernel) rfl (by first | exact HeldL.refl _ | exact HeldL.append _ _ | simp [HeldL]) ?_
     refine any_skip 16 rfl (by first | rfl | decide +kernel) rfl (by first | exact HeldL.refl _ | exact HeldL.append _ _ | simp [HeldL]) ?_
     refine any_skip 17 rfl (by first | rfl | decide +kernel) rfl (by first | exact HeldL.refl _ | exact HeldL.append _ _ | simp [HeldL]) ?_
     refine any_skip 18 rfl (by first | rfl | decide +kernel) rfl (by first | exact HeldL.refl _ | exact HeldL.append _ _ | simp [HeldL]) ?_
     refine any_skip 19 rfl (by first | rfl | decide +kernel) rfl (by first | exact HeldL.refl _ | exact HeldL.append _ _ | simp [HeldL]) ?_
     refine any_one_skip 15 rfl (by first | rfl | decide +kernel) rfl rfl (.inr (by first | exact HeldL.refl _ | exact HeldL.append _ _ | simp [HeldL])) ?_
     refine any_skip 20 rfl (by first | rfl | decide +kernel) rfl (by first | exact HeldL.refl _ | exact HeldL.append _ _ | simp [HeldL]) ?_
     refine any_take 21 rfl (by first | rfl | decide +kernel) rfl (by first | exact HeldL.refl _ | exact HeldL.append _ _ | simp [HeldL]) (fun H' hH => OpOk.step (ok_pickb (t := false) (d := false) rfl rfl rfl)) ?_
     refine any_take 22 rfl (by first | rfl | decide +kernel) rfl (by first | exact HeldL.refl _ | exact HeldL.append _ _ | simp [HeldL]) (fun H' hH => OpOk.step (ok_moveb (c := false) (.inr rfl) rfl)) ?_
     refine any_done rfl ?_
     refine keepK hK9 [0, 1, 6, 7, 31] (by dsimp) (by dsimp) ?_
     refine T.cond_false rfl ?_
     refine T.skip ?_
     refine keepK hK6 [0, 1, 6, 7] (by dsimp) (by dsimp) ?_
     refine T.seq fun K15 hK15 => ?_
     refine T.drawH mixed [7] ?_
     refine any_take 0 rfl (by first | rfl | decide +kernel) rfl (HeldL.refl _) (fun H' hH => OpOk.step (ok_move (.inl rfl))) ?_
     refine any_take 1 rfl (by first | rfl | decide +kernel) rfl (HeldL.refl _) (fun H' hH => OpOk.step (ok_nilCheck rfl rfl)) ?_
     refine any_take 2 rfl (by first | rfl | decide +kernel) rfl (HeldL.refl _) (fun H' hH => OpOk.step (ok_fieldAddr rfl ti_zdev_Dev rfl rfl ti_Lzone_Zone (by decide) rfl)) ?_
     refine any_take 3 rfl (by first | rfl | decide +kernel) rfl (HeldL.refl _) (fun H' hH => OpOk.step (ok_load rfl ti_Lzone_Zone (locA_held hH rfl) rfl)) ?_
     refine any_take 4 rfl (by first | rfl | decide +kernel) rfl (HeldL.refl _) (fun H' hH => OpOk.step (ok_move (.inl rfl))) ?_
     refine any_take 5 rfl (by first | rfl | decide +kernel) rfl (HeldL.refl _) (fun H' hH => OpOk.step (by exact ok_load rfl ti_zone_Zone (cl := ZqC (apZ y b).1) (f := 0) (locA_held hH rfl) rfl)) ?_
     refine any_take 6 rfl (by first | rfl | decide +kernel) rfl (HeldL.refl _) (fun H' hH => OpOk.step ((ok_index_sl (b := ZqsB d.zs) rfl ti_Lzone_Zone rfl ti_zone_Zone rfl (hH.get rfl) rfl rfl (by omega) (by omega)).eq (x' := .ref 1 z.toNat 0) (by simp) rfl)) ?_
     refine any_one 7 rfl (by first | rfl | decide +kernel) rfl rfl (OpOk.step ((ok_store rfl ti_zone_Zone (by decide) (id := 1) (j := z.toNat) (f := 0) rfl rfl rfl (Zqs_at hy) rfl (by show 0 + 5 ≤ 5; decide) (.inl ⟨rfl, rfl⟩)).eq (x' := .any) (H'' := [some (DvB (putD d z (apZ y b).1) 1), some (ZqsB (putD d z (apZ y b).1).zs), some (ErB (apZ y b).2), some (ZqB (apZ y b).1)]) rfl (by show [_, some (⟨5, true, (Zqs d.zs).set z.toNat (.agg (ZqC (apZ y b).1))⟩ : Blk), _, _] = _; rw [Zqs_set, DvB_put]; rfl))) (.inl (by simp)) ?_
     refine any_done rfl ?_
     refine keepK hK15 [6] (by dsimp) (by dsimp) ?_
     refine T.seq fun K16 hK16 => ?_
     refine T.region ?_
     refine rs rfl rfl ((ok_store rfl ti_api_Errno (by decide) rfl rfl rfl rfl rfl (by first | exact Nat.le_of_ble_eq_true rfl | simp) (by first | exact .inl ⟨rfl, rfl⟩ | exact .inr rfl)).eq (x' := .any) (H'' := [some (DvB (putD d z (apZ y b).1) 1), some (ZqsB (putD d z (apZ y b).1).zs), some (ErB 0), some (ZqB (apZ y b).1)]) rfl rfl) ?_
     refine ro_nil ?_
     refine keepK hK16 [6] (by dsimp) (by dsimp) ?_
     refine T.ret (hQ _ _ _ _ (cnt_call4 (d := putD d z (apZ y b).1) hbd) rfl ?_).1 -- ret 6
     exact by (rw [appD_yes hr0 hy hr1 (fun h => by obtain ⟨h1, h2, h3⟩ := h; first | omega | simp_all), cntE_0]; exact TEnt.fin [0, 1] (by decide) srcq2 (dv_in (by decide)) ⟨rfl, trivial⟩)
end Go.Proofs.Ytlegolcbjjjofaa.AmF
