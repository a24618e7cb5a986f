/- Walks over the abstract machine: a member: what may be, what is in use. -/
import Derived.Test.YtlegolcbjjjofaaAfZdev2
namespace Go.Proofs.Ytlegolcbjjjofaa.AmF
open Go Go.AM
set_option maxRecDepth 100000
set_option maxHeartbeats 4000000
set_option linter.unusedSimpArgs false
set_option linter.unusedVariables false
attribute [local simp] tkeep tget tput ev cav argsTM pickA normT putA splice AV.cells ints_length rowsA_length Zqs_len
theorem dead_ok (d : Dv) : CSpec Try.prog 23 [DvB d 1, ZqsB d.zs] [.ref 0 0 0] [some (DvB d 1), some (ZqsB d.zs)] (.b d.dead) := by
 refine CSpec.body Try.func23 rfl rfl rfl rfl rfl fun Q hQ => ?_
 refine T.seq fun K1 hK1 => ?_
 refine T.region ?_
 refine rs rfl rfl (ok_moveb (c := false) (.inr rfl) rfl) ?_
 refine ro_nil ?_
 refine keepK hK1 [0] (by dsimp) (by dsimp) ?_
 refine T.seq fun K2 hK2 => ?_
 refine T.region ?_
 refine rs rfl rfl (ok_move (.inl rfl)) ?_
 refine rs rfl rfl (ok_binOp rfl ti_Pzdev_Dev rfl) ?_
 refine rs rfl rfl (OpOk.bool (d := false) (ok_moveb (.inl rfl) rfl) (rfl)) ?_
 refine rs rfl rfl (ok_move (.inl rfl)) ?_
 refine rs rfl rfl (ok_nilCheck rfl rfl) ?_
 refine rs rfl rfl (ok_fieldAddr rfl ti_zdev_Dev rfl rfl ti_bool (by decide) rfl) ?_
 refine rs rfl rfl (ok_load rfl ti_bool rfl rfl) ?_
 refine rs rfl rfl (ok_pick rfl rfl) ?_
 refine rs rfl rfl (ok_move (.inr rfl)) ?_
 refine ro_nil ?_
 refine keepK hK2 [2] (by dsimp) (by dsimp) ?_
 refine T.ret (hQ _ _ _ rfl ?_).1 -- ret 1
 exact TEnt.fin [0, 1] (by decide) srcq2 (hp2 (DvB_ren (by decide) _) (ZqsB_ren _ _)) ⟨rfl, trivial⟩
theorem dead_nil : CSpec Try.prog 23 [] [.v (.pointer none)] [] (.b true) := by
 refine CSpec.body Try.func23 rfl rfl rfl rfl rfl fun Q hQ => ?_
 refine T.seq fun K1 hK1 => ?_
 refine T.region ?_
 refine rs rfl rfl (ok_moveb (c := false) (.inr rfl) rfl) ?_
 refine ro_nil ?_
 refine keepK hK1 [0] (by dsimp) (by dsimp) ?_
 refine T.seq fun K2 hK2 => ?_
 refine T.region ?_
 refine rs rfl rfl (ok_move (.inl rfl)) ?_
 refine rs rfl rfl (ok_binOp rfl ti_Pzdev_Dev rfl) ?_
 refine rs rfl rfl (OpOk.bool (d := true) (ok_moveb (.inl rfl) rfl) (rfl)) ?_
 refine ro_skip rfl rfl ?_
 refine ro_skip rfl rfl ?_
 refine ro_skip rfl rfl ?_
 refine ro_skip rfl rfl ?_
 refine rs rfl rfl (ok_pickb (t := true) (d := true) rfl rfl rfl) ?_
 refine rs rfl rfl (ok_moveb (c := true) (.inr rfl) rfl) ?_
 refine ro_nil ?_
 refine keepK hK2 [2] (by dsimp) (by dsimp) ?_
 refine T.ret (hQ _ _ _ rfl ?_).1 -- ret 1
 exact TEnt.fin [] (by decide) (by simp) rfl ⟨rfl, trivial⟩
/-- May a call be? -/
def rightD (d : Dv) (z : Int) : Int := if d.dead = true then 11 else if 0 ≤ z ∧ z < d.zs.length then 0 else 2
theorem rightD_11 {d : Dv} {z : Int} (h : d.dead = true) : rightD d z = 11 := if_pos h
theorem rightD_0 {d : Dv} {z : Int} (h : d.dead = false) (h' : 0 ≤ z ∧ z < d.zs.length) : rightD d z = 0 := by unfold rightD; rw [if_neg (by simp [h]), if_pos h']
theorem rightD_2 {d : Dv} {z : Int} (h : d.dead = false) (h' : ¬ (0 ≤ z ∧ z < d.zs.length)) : rightD d z = 2 := by unfold rightD; rw [if_neg (by simp [h]), if_neg h']
theorem dright_ok (d : Dv) (z : Int) : CSpec Try.prog 48 [DvB d 1, ZqsB d.zs] [.ref 0 0 0, .int z] [some (DvB d 1), some (ZqsB d.zs)] (.int (rightD d z)) := by
 refine CSpec.body Try.func48 rfl rfl rfl rfl rfl fun Q hQ => ?_
 refine T.seq fun K1 hK1 => ?_
 refine T.region ?_
 refine rs rfl rfl (ok_move (.inr rfl)) ?_
 refine ro_nil ?_
 refine keepK hK1 [0, 1] (by dsimp) (by dsimp) ?_
 refine T.seq fun K2 hK2 => ?_
 refine T.block ?_
 refine T.seq fun K3 hK3 => ?_
 refine T.region ?_
 refine rs rfl rfl (ok_move (.inl rfl)) ?_
 refine rs rfl rfl (OpOk.bool (d := false) (ok_binOp rfl ti_Pzdev_Dev rfl) (rfl)) ?_
 refine rs rfl rfl (ok_moveb (c := false) (.inr rfl) rfl) ?_
 refine ro_nil ?_
 refine keepK hK3 [0, 1, 5] (by dsimp) (by dsimp) ?_
 refine T.cond_false rfl ?_
 refine T.seq fun K4 hK4 => ?_
 refine T.region ?_
 refine rs rfl rfl (ok_move (.inl rfl)) ?_
 refine rs rfl rfl (ok_nilCheck rfl rfl) ?_
 refine rs rfl rfl (ok_fieldAddr rfl ti_zdev_Dev rfl rfl ti_bool (by decide) rfl) ?_
 refine rs rfl rfl (ok_load rfl ti_bool rfl rfl) ?_
 refine rs rfl rfl (ok_move (.inr rfl)) ?_
 refine ro_nil ?_
 refine keepK hK4 [0, 1, 8] (by dsimp) (by dsimp) ?_
 refine T.cond rfl (fun hc => ?_) (fun hc => ?_) -- cond 1
 ·(try simp only [dE] at hc)
  rw [rightD_11 hc] at hQ
  refine T.seq fun K5 hK5 => ?_
  refine T.region ?_
  refine rs rfl rfl (ok_move (.inr rfl)) ?_
  refine ro_nil ?_
  refine keepK hK5 [4] (by dsimp) (by dsimp) ?_
  refine T.ret (hQ _ _ _ rfl ?_).1 -- ret 1
  exact by first | exact TEnt.fin [0, 1] (by decide) srcq2 (hp2 (DvB_ren (by decide) _) (ZqsB_ren _ _)) ⟨rfl, trivial⟩ | (rw [rightD_2 hdd (by omega)]; exact TEnt.fin [0, 1] (by decide) srcq2 (hp2 (DvB_ren (by decide) _) (ZqsB_ren _ _)) ⟨rfl, trivial⟩) | (rw [rightD_0 hdd (by omega)]; exact TEnt.fin [0, 1] (by decide) srcq2 (hp2 (DvB_ren (by decide) _) (ZqsB_ren _ _)) ⟨rfl, trivial⟩)
 ·(try simp only [dE] at hc)
  have hdd : d.dead = false := by simpa using hc
  refine T.seq fun K6 hK6 => ?_
  refine T.region ?_
  refine rs rfl rfl (ok_move (.inl rfl)) ?_
  refine rs rfl rfl (ok_binOp rfl ti_int rfl) ?_
  refine ro_case rfl rfl (OpOk.step (ok_moveb (.inl rfl) rfl)) (fun hb => ?_) (fun hb => ?_)
  ·(try simp only [dE] at hb)
   refine ro_skip rfl rfl ?_
   refine ro_skip rfl rfl ?_
   refine ro_skip rfl rfl ?_
   refine ro_skip rfl rfl ?_
   refine ro_skip rfl rfl ?_
   refine ro_skip rfl rfl ?_
   refine ro_skip rfl rfl ?_
   refine rs rfl rfl (ok_pickb (t := true) (d := true) rfl rfl rfl) ?_
   refine rs rfl rfl (ok_moveb (c := true) (.inr rfl) rfl) ?_
   refine ro_nil ?_
   refine keepK hK6 [13] (by dsimp) (by dsimp) ?_
   refine T.cond_true rfl ?_
   refine T.seq fun K7 hK7 => ?_
   refine T.region ?_
   refine rs rfl rfl (ok_move (.inr rfl)) ?_
   refine ro_nil ?_
   refine keepK hK7 [4] (by dsimp) (by dsimp) ?_
   refine T.ret (hQ _ _ _ rfl ?_).1 -- ret 2
   exact by first | exact TEnt.fin [0, 1] (by decide) srcq2 (hp2 (DvB_ren (by decide) _) (ZqsB_ren _ _)) ⟨rfl, trivial⟩ | (rw [rightD_2 hdd (by omega)]; exact TEnt.fin [0, 1] (by decide) srcq2 (hp2 (DvB_ren (by decide) _) (ZqsB_ren _ _)) ⟨rfl, trivial⟩) | (rw [rightD_0 hdd (by omega)]; exact TEnt.fin [0, 1] (by decide) srcq2 (hp2 (DvB_ren (by decide) _) (ZqsB_ren _ _)) ⟨rfl, trivial⟩)
  ·(try simp only [dE] at hb)
   refine rs rfl rfl (ok_move (.inl rfl)) ?_
   refine rs rfl rfl (ok_move (.inl rfl)) ?_
   refine rs rfl rfl (ok_nilCheck rfl rfl) ?_
   refine rs rfl rfl (ok_fieldAddr rfl ti_zdev_Dev rfl rfl ti_Lzone_Zone (by decide) rfl) ?_
   refine rs rfl rfl (ok_load rfl ti_Lzone_Zone rfl rfl) ?_
   refine rs rfl rfl (ok_len' rfl rfl ti_Lzone_Zone rfl (by first | exact ints_length _ _ | exact rowsA_length _ _ | exact Cms_len _ | exact mapLen _ | rfl)) ?_
   refine rs rfl rfl (ok_binOp rfl ti_int rfl) ?_
   refine rs rfl rfl (ok_pick rfl rfl) ?_
   refine rs rfl rfl (ok_move (.inr rfl)) ?_
   refine ro_nil ?_
   refine keepK hK6 [13] (by dsimp) (by dsimp) ?_
   refine T.cond rfl (fun hc => ?_) (fun hc => ?_) -- cond 2
   ·(try simp only [dE] at hc)
    refine T.seq fun K8 hK8 => ?_
    refine T.region ?_
    refine rs rfl rfl (ok_move (.inr rfl)) ?_
    refine ro_nil ?_
    refine keepK hK8 [4] (by dsimp) (by dsimp) ?_
    refine T.ret (hQ _ _ _ rfl ?_).1 -- ret 3
    exact by first | exact TEnt.fin [0, 1] (by decide) srcq2 (hp2 (DvB_ren (by decide) _) (ZqsB_ren _ _)) ⟨rfl, trivial⟩ | (rw [rightD_2 hdd (by omega)]; exact TEnt.fin [0, 1] (by decide) srcq2 (hp2 (DvB_ren (by decide) _) (ZqsB_ren _ _)) ⟨rfl, trivial⟩) | (rw [rightD_0 hdd (by omega)]; exact TEnt.fin [0, 1] (by decide) srcq2 (hp2 (DvB_ren (by decide) _) (ZqsB_ren _ _)) ⟨rfl, trivial⟩)
   ·(try simp only [dE] at hc)
    refine T.skip ?_
    refine keepK hK2 [] (by dsimp) (by dsimp) ?_
    refine T.seq fun K9 hK9 => ?_
    refine T.region ?_
    refine rs rfl rfl (ok_move (.inr rfl)) ?_
    refine ro_nil ?_
    refine keepK hK9 [4] (by dsimp) (by dsimp) ?_
    refine T.ret (hQ _ _ _ rfl ?_).1 -- ret 4
    exact by first | exact TEnt.fin [0, 1] (by decide) srcq2 (hp2 (DvB_ren (by decide) _) (ZqsB_ren _ _)) ⟨rfl, trivial⟩ | (rw [rightD_2 hdd (by omega)]; exact TEnt.fin [0, 1] (by decide) srcq2 (hp2 (DvB_ren (by decide) _) (ZqsB_ren _ _)) ⟨rfl, trivial⟩) | (rw [rightD_0 hdd (by omega)]; exact TEnt.fin [0, 1] (by decide) srcq2 (hp2 (DvB_ren (by decide) _) (ZqsB_ren _ _)) ⟨rfl, trivial⟩)
theorem dright_nil (z : Int) : CSpec Try.prog 48 [] [.v (.pointer none), .int z] [] (.int 16) := by
 refine CSpec.body Try.func48 rfl rfl rfl rfl rfl fun Q hQ => ?_
 refine T.seq fun K1 hK1 => ?_
 refine T.region ?_
 refine rs rfl rfl (ok_move (.inr rfl)) ?_
 refine ro_nil ?_
 refine keepK hK1 [0, 1] (by dsimp) (by dsimp) ?_
 refine T.seq fun K2 hK2 => ?_
 refine T.block ?_
 refine T.seq fun K3 hK3 => ?_
 refine T.region ?_
 refine rs rfl rfl (ok_move (.inl rfl)) ?_
 refine rs rfl rfl (OpOk.bool (d := true) (ok_binOp rfl ti_Pzdev_Dev rfl) (rfl)) ?_
 refine rs rfl rfl (ok_moveb (c := true) (.inr rfl) rfl) ?_
 refine ro_nil ?_
 refine keepK hK3 [0, 1, 5] (by dsimp) (by dsimp) ?_
 refine T.cond_true rfl ?_
 refine T.seq fun K4 hK4 => ?_
 refine T.region ?_
 refine rs rfl rfl (ok_move (.inr rfl)) ?_
 refine ro_nil ?_
 refine keepK hK4 [4] (by dsimp) (by dsimp) ?_
 refine T.ret (hQ _ _ _ rfl ?_).1 -- ret 1
 exact TEnt.fin [] (by decide) (by simp) rfl ⟨rfl, trivial⟩
/-- How many zones are in use. -/
def actN (zs : List Zq) : Nat := zs.countP actZ
theorem actN_le (zs : List Zq) (i : Nat) : actN (zs.take i) ≤ zs.length := by
  unfold actN
  exact Nat.le_trans List.countP_le_length (by simp; omega)
theorem actN_snoc {zs : List Zq} {i : Nat} {z : Zq} (h : zs[i]? = some z) : actN (zs.take (i + 1)) = actN (zs.take i) + if actZ z = true then 1 else 0 := by
  rw [take_succ_get h]
  unfold actN
  rw [List.countP_append]
  by_cases h1 : actZ z = true <;> simp [h1]
theorem active_ok (d : Dv) (hok : ∀ z ∈ d.zs, ZqOk z) (hl : d.zs.length ≤ 1000000) (hd : d.dead = false) : CSpec Try.prog 18 [DvB d 1, ZqsB d.zs] [.ref 0 0 0] [some (DvB d 1), some (ZqsB d.zs)] (.int (actN d.zs)) := by
 refine CSpec.body Try.func18 rfl rfl rfl rfl rfl fun Q hQ => ?_
 refine T.seq fun K1 hK1 => ?_
 refine T.region ?_
 refine rs rfl rfl (ok_move (.inr rfl)) ?_
 refine ro_nil ?_
 refine keepK hK1 [0] (by dsimp) (by dsimp) ?_
 refine T.seq fun K2 hK2 => ?_
 refine T.region ?_
 refine rs rfl rfl (ok_move (.inr rfl)) ?_
 refine ro_nil ?_
 refine keepK hK2 [0, 3] (by dsimp) (by dsimp) ?_
 refine T.seq fun K3 hK3 => ?_
 refine T.seq fun K4 hK4 => ?_
 refine T.region ?_
 refine rs rfl rfl (ok_move (.inl rfl)) ?_
 refine ro rfl rfl ((ok_call rfl rfl rfl (((dead_ok d).pass (H := [some (DvB d 1), some (ZqsB d.zs)]) [0, 1] (by decide) (by simp) (by show [_, _] = _; exact hp2 (DvB_ren (p := 1) (q := 1) (by decide) _) (ZqsB_ren _ _)) rfl).eq (x' := .b false) (H'' := [some (DvB d 1), some (ZqsB d.zs)]) (by rw [hd]; rfl) (by show [_, _] = _; exact hp2 (DvB_ren (p := 1) (q := 1) rfl _) (ZqsB_ren _ _)))).eq (x' := .b false) (congrArg AV.b (rfl)) rfl) ?_
 refine ro_nil ?_
 refine keepK hK4 [0, 3, 7] (by dsimp) (by dsimp) ?_
 refine T.cond_false rfl ?_
 refine T.skip ?_
 refine keepK hK3 [0, 3] (by dsimp) (by dsimp) ?_
 refine T.seq fun K5 hK5 => ?_
 refine T.seq fun K6 hK6 => ?_
 refine T.region ?_
 refine rs rfl rfl (ok_move (.inl rfl)) ?_
 refine rs rfl rfl (ok_nilCheck rfl rfl) ?_
 refine rs rfl rfl (ok_fieldAddr rfl ti_zdev_Dev rfl rfl ti_Lzone_Zone (by decide) rfl) ?_
 refine rs rfl rfl (ok_load rfl ti_Lzone_Zone rfl rfl) ?_
 refine rs rfl rfl (by exact ok_len' rfl rfl ti_Lzone_Zone rfl rfl) ?_
 refine rs rfl rfl (ok_move (.inl rfl)) ?_
 refine ro_nil ?_
 refine keepK hK6 [3, 11, 12, 13] (by dsimp) (by dsimp) ?_
 refine T.block ?_
 refine T.loopI (ι := Nat) (fun i => i ≤ d.zs.length) (fun i => d.zs.length - i) (fun i => ([(3, .int (actN (d.zs.take i))), (11, .sl 1 0 d.zs.length), (12, .int d.zs.length), (13, .int i)], [some (DvB d 1), some (ZqsB d.zs)])) 0 (Nat.zero_le _) (TEnt.toH rfl ⟨rfl, rfl, rfl, rfl, trivial⟩) (fun i hi => ?_) -- loop 1
 have hai := actN_le d.zs i
 refine T.seq fun K7 hK7 => ?_
 refine T.region ?_
 refine rs rfl rfl (ok_binOp rfl ti_int rfl) ?_
 refine ro_nil ?_
 refine keepK hK7 [3, 11, 12, 13, 14] (by dsimp) (by dsimp) ?_
 refine T.seq fun K8 hK8 => ?_
 refine T.cond rfl (fun hc => ?_) (fun hc => ?_) -- cond 1
 ·(try simp only [dE] at hc)
  obtain ⟨z, hz⟩ : ∃ z, d.zs[i]? = some z := ⟨_, List.getElem?_eq_getElem (by omega)⟩
  have hzo := hok z (List.mem_of_getElem? hz)
  have hsn := actN_snoc hz
  refine T.skip ?_
  refine keepK hK8 [3, 11, 12, 13] (by dsimp) (by dsimp) ?_
  refine T.seq fun K9 hK9 => ?_
  refine T.block ?_
  refine T.seq fun K10 hK10 => ?_
  refine T.region ?_
  refine rs rfl rfl ((ok_index_sl (b := ZqsB d.zs) rfl ti_Lzone_Zone rfl ti_zone_Zone rfl rfl rfl rfl (by omega) (by omega)).eq (x' := .ref 1 i 0) (by simp) rfl) ?_
  refine rs rfl rfl (by exact ok_load rfl ti_zone_Zone (cl := ZqC z) (f := 0) (locA_map (b := ZqsB d.zs) rfl rfl hz (by simp [ZqC])) rfl) ?_
  refine rs rfl rfl (ok_alloc rfl ti_zone_Zone rfl (by decide)) ?_
  refine rs rfl rfl (ok_store rfl ti_zone_Zone (by decide) rfl rfl rfl rfl rfl (by first | exact Nat.le_of_ble_eq_true rfl | simp) (by first | exact .inl ⟨rfl, rfl⟩ | exact .inr rfl)) ?_
  refine ro_nil ?_
  refine keepK hK10 [3, 5, 11, 12, 13] (by dsimp) (by dsimp) ?_
  refine T.seq fun K11 hK11 => ?_
  refine T.region ?_
  refine rs rfl rfl (ok_load rfl ti_zone_Zone rfl rfl) ?_
  refine ro rfl rfl (ok_call rfl rfl rfl ((zact_ok z hzo).plain (by simp [renL, AV.ren, ZqC_take, ZqC_ren]) rfl)) ?_
  refine ro_nil ?_
  refine keepK hK11 [3, 11, 12, 13, 18] (by dsimp) (by dsimp) ?_
  refine T.join hK9 [(3, .int (actN (d.zs.take (i + 1)))), (11, .sl 1 0 d.zs.length), (12, .int d.zs.length), (13, .int i)] [some (DvB d 1), some (ZqsB d.zs)] (fun hJ12 => ?_) ?_ -- join 1
  · -- the two ways
   refine T.cond rfl (fun hc => ?_) (fun hc => ?_) -- cond 2
   ·(try simp only [dE] at hc)
    refine T.region ?_
    refine rs rfl rfl (ok_move (.inl rfl)) ?_
    refine rs rfl rfl (ok_add64 rfl ti_int rfl rfl (by omega) (by omega)) ?_
    refine rs rfl rfl (ok_move (.inr rfl)) ?_
    refine ro_nil ?_
    exact hJ12 _ _ (TEnt.fin [0, 1] (by decide) srcq2 (hp2 (DvB_ren (by decide) _) (ZqsB_ren _ _)) ⟨by rw [hsn]; first | (rw [if_pos (by assumption)]; rfl) | (rw [if_neg (by simp [*])]; rfl), rfl, rfl, rfl, trivial⟩)
   ·(try simp only [dE] at hc)
    refine T.skip ?_
    exact hJ12 _ _ (TEnt.fin [0, 1] (by decide) srcq2 (hp2 (DvB_ren (by decide) _) (ZqsB_ren _ _)) ⟨by rw [hsn]; first | (rw [if_pos (by assumption)]; rfl) | (rw [if_neg (by simp [*])]; rfl), rfl, rfl, rfl, trivial⟩)
  refine T.region ?_
  refine rs rfl rfl (ok_add64 rfl ti_int rfl rfl (by omega) (by omega)) ?_
  refine rs rfl rfl (ok_move (.inl rfl)) ?_
  refine ro_nil ?_
  exact ⟨i + 1, by omega, by omega, TEnt.toH rfl ⟨rfl, rfl, rfl, rfl, trivial⟩⟩
 ·(try simp only [dE] at hc)
  have hin : i = d.zs.length := by omega
  subst hin
  rw [List.take_length]
  refine T.exit ?_
  refine keepK hK5 [3] (by dsimp) (by dsimp) ?_
  refine T.seq fun K13 hK13 => ?_
  refine T.region ?_
  refine rs rfl rfl (ok_move (.inl rfl)) ?_
  refine rs rfl rfl (ok_move (.inr rfl)) ?_
  refine ro_nil ?_
  refine keepK hK13 [2] (by dsimp) (by dsimp) ?_
  refine T.ret (hQ _ _ _ rfl ?_).1 -- ret 1
  exact TEnt.fin [0, 1] (by decide) srcq2 (hp2 (DvB_ren (by decide) _) (ZqsB_ren _ _)) ⟨rfl, trivial⟩
def flushK (zs : List Zq) (i : Nat) : List Zq := (zs.take i).map flushZ ++ zs.drop i
theorem flushK_len (zs : List Zq) (i : Nat) (h : i ≤ zs.length) : (flushK zs i).length = zs.length := by unfold flushK; simp; omega
theorem flushK_get {zs : List Zq} {i : Nat} {z : Zq} (hz : zs[i]? = some z) : (flushK zs i)[i]? = some z := by
  have hi := (List.getElem?_eq_some_iff.1 hz).1
  unfold flushK
  rw [List.getElem?_append_right (by simp; omega)]
  simp only [List.length_map, List.length_take, List.getElem?_drop]
  rw [show i + (i - min i zs.length) = i by omega]
  exact hz
theorem flushK_set {zs : List Zq} {i : Nat} {z : Zq} (hz : zs[i]? = some z) : (flushK zs i).set i (flushZ z) = flushK zs (i + 1) := by
  obtain ⟨hi, hzz⟩ := List.getElem?_eq_some_iff.1 hz
  unfold flushK
  rw [take_succ_get hz, List.map_append, List.set_append_right _ _ (by simp; omega)]
  simp only [List.length_map, List.length_take]
  rw [show i - min i zs.length = 0 by omega, List.drop_eq_getElem_cons hi, List.set_cons_zero, List.append_assoc]
  rfl
theorem flushK_all (zs : List Zq) : flushK zs zs.length = zs.map flushZ := by unfold flushK; simp
end Go.Proofs.Ytlegolcbjjjofaa.AmF
