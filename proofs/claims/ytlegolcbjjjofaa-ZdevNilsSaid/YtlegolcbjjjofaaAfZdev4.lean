/- Walks over the abstract machine: a member: a zone is changed by a function. -/
import Derived.Test.YtlegolcbjjjofaaAfZdev3
namespace Go.Proofs.Ytlegolcbjjjofaa.AmF
open Go Go.AM
set_option maxRecDepth 100000
set_option maxHeartbeats 4000000
set_option linter.unusedSimpArgs false
set_option linter.unusedVariables false
attribute [local simp] tkeep tget tput ev cav argsTM pickA normT putA splice AV.cells ints_length rowsA_length Zqs_len
theorem _root_.Go.AM.DCallOk.eq {P : Program} {f : FuncId} {H H' H'' : Heap} {a : List AV} (h : DCallOk P f H a H') (e : H' = H'') : DCallOk P f H a H'' := e ▸ h
theorem cnt_call {d : Dv} {e : Int} (hb : 0 ≤ d.bad ∧ d.bad ≤ 1000000) : DCallOk Try.prog 47 [some (DvB d 1), some (ZqsB d.zs), some (ErB e)] [.ref 0 0 0, .ref 2 0 0] [some (DvB (cntE d e) 1), some (ZqsB d.zs), some (ErB e)] :=
  ((cnt_ok d e hb).pass [0, 1, 2] (by decide) (by simp) (by show [_, _, _] = _; exact hp3 (DvB_ren (p := 1) (q := 1) (by decide) _) (ZqsB_ren _ _) (ErB_ren _ _)) rfl).eq (by show [_, _, _] = _; exact hp3 (DvB_ren (p := 1) (q := 1) rfl _) (ZqsB_ren _ _) (ErB_ren _ _))
theorem right_call {d : Dv} {z e : Int} : CallOk Try.prog 48 [some (DvB d 1), some (ZqsB d.zs), some (ErB e)] [.ref 0 0 0, .int z] (.int (rightD d z)) [some (DvB d 1), some (ZqsB d.zs), some (ErB e)] :=
  ((dright_ok d z).pass (H := [some (DvB d 1), some (ZqsB d.zs), some (ErB e)]) [0, 1] (by decide) (by simp) (by show [_, _] = _; exact hp2 (DvB_ren (p := 1) (q := 1) (by decide) _) (ZqsB_ren _ _)) rfl).eq rfl (by show [_, _, _] = _; exact hp3 (DvB_ren (p := 1) (q := 1) rfl _) (ZqsB_ren _ _) rfl)
def chgZ (zs : List Zq) (z : Int) (q : Zq → Zq) : List Zq := match zs[z.toNat]? with
  | some y => zs.set z.toNat (q y)
  | none => zs
theorem chgZ_at {zs : List Zq} {z : Int} {q : Zq → Zq} {y : Zq} (h : zs[z.toNat]? = some y) : chgZ zs z q = zs.set z.toNat (q y) := by unfold chgZ; rw [h]
theorem chgZ_len (zs : List Zq) (z : Int) (q : Zq → Zq) : (chgZ zs z q).length = zs.length := by
  unfold chgZ; split <;> simp
def chg2 (d : Dv) (z : Int) (q : Zq → Zq) : Dv := if rightD d z = 0 then { d with zs := chgZ d.zs z q } else d
/-- The member behind a change. -/
def chgD (d : Dv) (z : Int) (q : Zq → Zq) : Dv := cntE (chg2 d z q) (rightD d z)
theorem cntE_zs (d : Dv) (e : Int) : (cntE d e).zs = d.zs := by unfold cntE; split <;> rfl
theorem chg2_bad (d : Dv) (z : Int) (q : Zq → Zq) : (chg2 d z q).bad = d.bad := by unfold chg2; split <;> rfl
theorem rightD_zero {d : Dv} {z : Int} (h : rightD d z = 0) : 0 ≤ z ∧ z < d.zs.length := by
  unfold rightD at h
  split at h
  · cases h
  · split at h
    · assumption
    · cases h
theorem Zqs_at {zs : List Zq} {j : Nat} {z : Zq} (h : zs[j]? = some z) : (ZqsB zs).els[j]? = some (.agg (ZqC z)) := by simp [ZqsB, Zqs, h]
theorem Zqs_set (zs : List Zq) (j : Nat) (z : Zq) : (Zqs zs).set j (.agg (ZqC z)) = Zqs (zs.set j z) := by unfold Zqs; rw [List.map_set]
theorem change_ok (d : Dv) (z : Int) (f : FuncId) (q : Zq → Zq) (hf : ∀ y, ZqOk y → CSpec Try.prog f [] [.agg (ZqC y)] [] (.agg (ZqC (q y)))) (hok : ∀ z ∈ d.zs, ZqOk z) (hb : 0 ≤ d.bad ∧ d.bad ≤ 1000000) : CSpec Try.prog 52 [DvB d 1, ZqsB d.zs] [.ref 0 0 0, .int z, .fn (.func f) [] []] [some (DvB (chgD d z q) 1), some (ZqsB (chgD d z q).zs)] (.int (rightD d z)) := by
 refine CSpec.bodyD (B := ErB 0) (tm1 := [(0, .ref 0 0 0), (1, .int z), (2, .fn (.func f) [] []), (6, .ref 2 0 0)]) (fd := 47) Try.func52 rfl rfl rfl rfl rfl ?_ rfl rfl rfl rfl rfl rfl rfl rfl rfl rfl rfl rfl rfl (fun D Q hQ => ?_)
 ·
  refine T.region ?_
  refine rs rfl rfl (ok_alloc rfl ti_api_Errno rfl (by decide)) ?_
  refine ro_nil ?_
  exact ⟨rfl, TEnt.toH rfl ⟨rfl, rfl, rfl, rfl, trivial⟩⟩
 ·
  refine T.seq fun K1 hK1 => ?_
  refine T.seq fun K2 hK2 => ?_
  refine T.region ?_
  refine rs rfl rfl (ok_move (.inl rfl)) ?_
  refine rs rfl rfl (ok_move (.inl rfl)) ?_
  refine ro rfl rfl (ok_call rfl rfl rfl (right_call)) ?_
  refine rs rfl rfl ((ok_store rfl ti_api_Errno (by decide) rfl rfl rfl rfl rfl (by first | exact Nat.le_of_ble_eq_true rfl | simp) (by first | exact .inl ⟨rfl, rfl⟩ | exact .inr rfl)).eq (x' := .any) (H'' := [some (DvB d 1), some (ZqsB d.zs), some (ErB (rightD d z))]) rfl rfl) ?_
  refine ro_nil ?_
  refine keepK hK2 [0, 1, 2, 6] (by dsimp) (by dsimp) ?_
  refine T.seq fun K3 hK3 => ?_
  refine T.region ?_
  refine rs rfl rfl (ok_load rfl ti_api_Errno rfl rfl) ?_
  refine rs rfl rfl (ok_binOp rfl ti_api_Errno rfl) ?_
  refine ro_nil ?_
  refine keepK hK3 [0, 1, 2, 6, 12] (by dsimp) (by dsimp) ?_
  refine T.join hK1 [(6, .ref 2 0 0)] [some (DvB (chg2 d z q) 1), some (ZqsB (chg2 d z q).zs), some (ErB (rightD d z))] (fun hJ4 => ?_) ?_ -- join 1
  · -- the two ways
   refine T.cond rfl (fun hc => ?_) (fun hc => ?_) -- cond 1
   ·(try simp only [dE] at hc)
    have hz0 := rightD_zero hc
    obtain ⟨y, hy⟩ : ∃ y, d.zs[z.toNat]? = some y := ⟨_, List.getElem?_eq_getElem (by omega)⟩
    have hyo := hok y (List.mem_of_getElem? hy)
    refine T.drawH mixed [15] ?_
    refine any_take 0 rfl (by first | rfl | decide +kernel) rfl (HeldL.refl _) (fun H' hH => OpOk.step (ok_move (.inl rfl))) ?_
    refine any_take 1 rfl (by first | rfl | decide +kernel) rfl (HeldL.refl _) (fun H' hH => OpOk.step (ok_nilCheck rfl rfl)) ?_
    refine any_take 2 rfl (by first | rfl | decide +kernel) rfl (HeldL.refl _) (fun H' hH => OpOk.step (ok_fieldAddr rfl ti_zdev_Dev rfl rfl ti_Lzone_Zone (by decide) rfl)) ?_
    refine any_take 3 rfl (by first | rfl | decide +kernel) rfl (HeldL.refl _) (fun H' hH => OpOk.step (ok_load rfl ti_Lzone_Zone (locA_held hH rfl) rfl)) ?_
    refine any_take 4 rfl (by first | rfl | decide +kernel) rfl (HeldL.refl _) (fun H' hH => OpOk.step (ok_move (.inl rfl))) ?_
    refine any_take 5 rfl (by first | rfl | decide +kernel) rfl (HeldL.refl _) (fun H' hH => OpOk.step (ok_move (.inl rfl))) ?_
    refine any_take 6 rfl (by first | rfl | decide +kernel) rfl (HeldL.refl _) (fun H' hH => OpOk.step (ok_move (.inl rfl))) ?_
    refine any_take 7 rfl (by first | rfl | decide +kernel) rfl (HeldL.refl _) (fun H' hH => OpOk.step (ok_nilCheck rfl rfl)) ?_
    refine any_take 8 rfl (by first | rfl | decide +kernel) rfl (HeldL.refl _) (fun H' hH => OpOk.step (ok_fieldAddr rfl ti_zdev_Dev rfl rfl ti_Lzone_Zone (by decide) rfl)) ?_
    refine any_take 9 rfl (by first | rfl | decide +kernel) rfl (HeldL.refl _) (fun H' hH => OpOk.step (ok_load rfl ti_Lzone_Zone (locA_held hH rfl) rfl)) ?_
    refine any_take 10 rfl (by first | rfl | decide +kernel) rfl (HeldL.refl _) (fun H' hH => OpOk.step (ok_move (.inl rfl))) ?_
    refine any_take 11 rfl (by first | rfl | decide +kernel) rfl (HeldL.refl _) (fun H' hH => OpOk.step ((ok_index_sl (b := ZqsB d.zs) rfl ti_Lzone_Zone rfl ti_zone_Zone rfl (hH.get rfl) rfl rfl (by omega) (by omega)).eq (x' := .ref 1 z.toNat 0) (by simp) rfl)) ?_
    refine any_take 12 rfl (by first | rfl | decide +kernel) rfl (HeldL.refl _) (fun H' hH => OpOk.step (by exact ok_load rfl ti_zone_Zone (cl := ZqC y) (f := 0) (locA_held hH (locA_map (b := ZqsB d.zs) rfl rfl hy (by simp [ZqC]))) rfl)) ?_
    refine any_one 13 rfl (by first | rfl | decide +kernel) rfl rfl (ok_call rfl rfl rfl ((hf y hyo).plain (by simp [renL, AV.ren, ZqC_take, ZqC_ren]) (by simp [AV.ren, ZqC_ren]))) (.inr (by first | (simp [HeldL]; done) | (simp only [dH]; (repeat' first | trivial | rfl | constructor)))) ?_
    refine any_take 14 rfl (by first | rfl | decide +kernel) rfl (by first | exact HeldL.refl _ | exact HeldL.append _ _ | simp [HeldL]) (fun H' hH => OpOk.step ((ok_index_sl (b := ZqsB d.zs) rfl ti_Lzone_Zone rfl ti_zone_Zone rfl (hH.get rfl) rfl rfl (by omega) (by omega)).eq (x' := .ref 1 z.toNat 0) (by simp) rfl)) ?_
    refine any_one 15 rfl (by first | rfl | decide +kernel) rfl rfl (OpOk.step ((ok_store rfl ti_zone_Zone (by decide) (id := 1) (j := z.toNat) (f := 0) rfl rfl rfl (Zqs_at hy) rfl (by show 0 + 5 ≤ 5; decide) (.inl ⟨rfl, rfl⟩)).eq (x' := .any) (H'' := [some (DvB d 1), some (ZqsB (d.zs.set z.toNat (q y))), some (ErB (rightD d z))]) rfl (by show [_, some (⟨5, true, (Zqs d.zs).set z.toNat (.agg (ZqC (q y)))⟩ : Blk), _] = _; rw [Zqs_set]; rfl))) (.inl (by simp)) ?_
    refine any_done rfl ?_
    exact hJ4 _ _ (TEnt.toH (by first | (rw [chg2, if_pos (by assumption), chgZ_at hy]; simp [DvB]; done) | (rw [chg2, if_neg (by assumption)])) ⟨rfl, trivial⟩)
   ·(try simp only [dE] at hc)
    refine T.skip ?_
    exact hJ4 _ _ (TEnt.toH (by first | (rw [chg2, if_pos (by assumption), chgZ_at hy]; simp [DvB]; done) | (rw [chg2, if_neg (by assumption)])) ⟨rfl, trivial⟩)
  refine T.seq fun K5 hK5 => ?_
  refine T.region ?_
  refine rs rfl rfl (ok_load rfl ti_api_Errno rfl rfl) ?_
  refine rs rfl rfl (ok_store rfl ti_api_Errno (by decide) rfl rfl rfl rfl rfl (by first | exact Nat.le_of_ble_eq_true rfl | simp) (by first | exact .inl ⟨rfl, rfl⟩ | exact .inr rfl)) ?_
  refine ro_nil ?_
  refine keepK hK5 [6] (by dsimp) (by dsimp) ?_
  refine T.ret (hQ _ _ _ _ (cnt_call (by rw [chg2_bad]; exact hb)) rfl ?_).1 -- ret 1
  exact TEnt.fin [0, 1] (by decide) srcq2 (by show [some (Blk.ren _ (DvB (cntE (chg2 d z q) (rightD d z)) 1)), some (Blk.ren _ (ZqsB (chg2 d z q).zs))] = _; rw [DvB_ren (q := 1) (by decide), ZqsB_ren, chgD, cntE_zs]) ⟨rfl, trivial⟩
end Go.Proofs.Ytlegolcbjjjofaa.AmF
