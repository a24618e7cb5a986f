/- Walks over the abstract machine: commands that wait, the law QueueMerges. -/
import Derived.Test.YtknhemdpfdopaaaAfQueue2
namespace Go.Proofs.Ytknhemdpfdopaaa.AmF
open Go Go.AM
set_option maxRecDepth 100000
set_option linter.unusedSimpArgs false
set_option linter.unusedVariables false
attribute [local simp] tkeep tget tput ev cav argsTM pickA normT putA splice AV.cells ints_length rowsA_length Cms_len
theorem qmerge_ok (c : Cf) (l : List Cm) (hl : l.length ≤ 1000) (hd : dsum l ≤ 10000000) : CSpec Try.prog 27 [] [.agg (CC c), .fz 6 (Cms l)] [some (CmsB (mergeC c l))] (.sl 0 0 (mergeC c l).length) := by
  refine CSpec.body Try.func27 rfl rfl rfl rfl rfl fun Q hQ => ?_
  refine T.seq fun K1 hK1 => ?_
  refine T.region ?_ -- region 0
  refine ro rfl rfl (OpOk.step (ok_box (n := 11) rfl rfl (by decide))) ?_
  refine ro rfl rfl (OpOk.step (ok_move (.inr rfl))) ?_
  refine ro_nil ?_
  refine keepK hK1 [1, 2] (by dsimp) (by dsimp) ?_
  refine T.seq fun K2 hK2 => ?_
  refine T.region ?_ -- region 1
  refine ro rfl rfl (OpOk.step (ok_makeFunc rfl)) ?_
  refine ro rfl rfl (OpOk.step (ok_move (.inr rfl))) ?_
  refine ro_nil ?_
  refine keepK hK2 [1, 5] (by dsimp) (by dsimp) ?_
  refine T.seq fun K3 hK3 => ?_
  refine T.region ?_ -- region 2
  refine ro rfl rfl (OpOk.step (ok_move (.inr rfl))) ?_
  refine ro_nil ?_
  refine keepK hK3 [1, 5, 6] (by dsimp) (by dsimp) ?_
  refine T.seq fun K4 hK4 => ?_
  refine T.region ?_ -- region 3
  refine ro rfl rfl (OpOk.step (ok_move (.inl rfl))) ?_
  refine ro rfl rfl (OpOk.step (ok_move (.inl rfl))) ?_
  refine ro rfl rfl (OpOk.step (ok_move (.inl rfl))) ?_
  refine ro rfl rfl (ok_call rfl rfl rfl (((fold_ok c l hl hd).pass [0] (by decide) (by simp) (by simp [normH, hget]; exact CB_ren _ _) (by simp [renL, AV.ren, Cms_ren]; rfl)).eq (x' := .sl 1 0 (mergeC c l).length) (H'' := [some (CB c), some (CmsB (mergeC c l))]) rfl (by simp [mergeH, setIds, renH, CB_ren, CmsB_ren]))) ?_
  refine ro rfl rfl (OpOk.step (ok_move (.inr rfl))) ?_
  refine ro_nil ?_
  refine keepK hK4 [4] (by dsimp) (by dsimp) ?_
  refine T.ret (hQ _ _ _ rfl ?_).1 -- ret 1
  exact TEnt.fin [1] (by decide) (by simp) (by simp [normH, hget, CmsB_ren]) ⟨rfl, trivial⟩
set_option maxHeartbeats 2000000 in
theorem rmerge_ok (c : Cf) (l : List Cm) (hl : l.length ≤ 1000) (hd : dsum l ≤ 10000000) : CSpec Try.prog 28 [] [.agg (CC c), .fz 6 (Cms l)] [some (CmsB (mergeC c l))] (.sl 0 0 (mergeC c l).length) := by
  refine CSpec.body Try.func28 rfl rfl rfl rfl rfl fun Q hQ => ?_
  refine T.seq fun K1 hK1 => ?_
  refine T.region ?_ -- region 0
  refine ro rfl rfl (OpOk.step (ok_box (n := 11) rfl rfl (by decide))) ?_
  refine ro rfl rfl (OpOk.step (ok_move (.inr rfl))) ?_
  refine ro_nil ?_
  refine keepK hK1 [1, 2] (by dsimp) (by dsimp) ?_
  refine T.seq fun K2 hK2 => ?_
  refine T.region ?_ -- region 1
  refine ro rfl rfl (OpOk.step (ok_move (.inr rfl))) ?_
  refine ro_nil ?_
  refine keepK hK2 [1, 2, 5] (by dsimp) (by dsimp) ?_
  refine T.seq fun K3 hK3 => ?_
  refine T.seq fun K4 hK4 => ?_
  refine T.region ?_ -- region 2
  refine ro rfl rfl (OpOk.step (ok_move (.inr rfl))) ?_
  refine ro_nil ?_
  refine keepK hK4 [1, 2, 5, 6] (by dsimp) (by dsimp) ?_
  refine T.block ?_
  refine T.loopI (ι := Nat) (fun i => i ≤ l.length) (fun i => l.length - i) (fun i => ([(1, .fz 6 (Cms l)), (2, .ref 0 0 0), (5, .sl 1 0 (mergeC c (l.take i)).length), (6, .int i)], [some (CB c), some (CmsB (mergeC c (l.take i)))])) 0 (Nat.zero_le _) ((TEnt.empty 5 6 (by decide) (.inr rfl)).trans (TEnt.toH rfl ⟨rfl, rfl, rfl, rfl, trivial⟩)) (fun i hi => ?_) -- loop 1
  refine T.seq fun K5 hK5 => ?_
  refine T.seq fun K6 hK6 => ?_
  refine T.region ?_ -- region 3
  refine ro rfl rfl (OpOk.step (ok_move (.inl rfl))) ?_
  refine ro rfl rfl (OpOk.step (ok_move (.inl rfl))) ?_
  refine ro rfl rfl (OpOk.step (ok_len' rfl rfl ti_Lapi_Cmd rfl (by first | exact ints_length _ _ | exact rowsA_length _ _ | exact Cms_len _ | exact mapLen _ | rfl))) ?_
  refine ro rfl rfl (OpOk.step (ok_binOp rfl ti_int rfl)) ?_
  refine ro_nil ?_
  refine keepK hK6 [1, 2, 5, 6, 12] (by dsimp) (by dsimp) ?_
  refine T.cond rfl (fun hc => ?_) (fun hc => ?_) -- cond 1
  · (try simp only [decide_eq_true_eq, decide_eq_false_iff_not, beq_iff_eq, beq_eq_false_iff_ne, bne_iff_ne, bne_eq_false_iff_eq, ne_eq, Bool.not_eq_true', Bool.not_eq_false'] at hc)
    obtain ⟨x, hx⟩ : ∃ x, l[i]? = some x := ⟨_, List.getElem?_eq_getElem (by simp at hc; omega)⟩
    have hst := mergeC_step (c := c) hx
    have hil : i < l.length := by simp at hc; omega
    have hds := mergeC_dsum c l i (by omega)
    have hdt := dsum_take l i
    have hdx := dsum_get hx
    generalize hO : mergeC c (l.take i) = O at hst hds ⊢
    refine T.skip ?_
    refine keepK hK5 [1, 2, 5, 6] (by dsimp) (by dsimp) ?_
    refine T.seq fun K7 hK7 => ?_
    refine T.block ?_
    refine T.seq fun K8 hK8 => ?_
    refine T.region ?_ -- region 5
    refine ro rfl rfl (OpOk.step (ok_move (.inl rfl))) ?_
    refine ro rfl rfl (OpOk.step (ok_move (.inl rfl))) ?_
    refine ro rfl rfl (OpOk.step (by exact ok_index_map (F := CmdC) rfl ti_Lapi_Cmd rfl ti_api_Cmd rfl rfl rfl hx (by simp [CmdC]))) ?_
    refine ro rfl rfl (OpOk.step ((ok_load rfl ti_api_Cmd rfl rfl).eq (x' := .agg (CmdC x)) rfl rfl)) ?_
    refine ro rfl rfl (OpOk.step (ok_alloc rfl ti_api_Cmd rfl (by decide))) ?_
    refine ro rfl rfl (OpOk.step ((ok_store rfl ti_api_Cmd (by decide) rfl rfl rfl rfl rfl (Nat.le_of_ble_eq_true rfl) (.inl ⟨rfl, rfl⟩)).eq (x' := .any) (H'' := [some (CB c), some (CmsB O), some (CmdB x)]) rfl rfl)) ?_
    refine ro_nil ?_
    refine keepK hK8 [1, 2, 5, 6, 7] (by dsimp) (by dsimp) ?_
    refine T.seq fun K9 hK9 => ?_
    refine T.drawH mixed [] ?_ -- region 6
    refine any_take 0 rfl (by first | rfl | decide +kernel) rfl (HeldL.refl _) (fun H' hH => OpOk.step (ok_move (.inl rfl))) ?_
    refine any_take 1 rfl (by first | rfl | decide +kernel) rfl (HeldL.refl _) (fun H' hH => OpOk.step (ok_len' rfl rfl ti_Lapi_Cmd rfl (by first | exact ints_length _ _ | exact rowsA_length _ _ | exact Cms_len _ | exact mapLen _ | rfl))) ?_
    refine any_take 2 rfl (by first | rfl | decide +kernel) rfl (HeldL.refl _) (fun H' hH => OpOk.step (ok_binOp rfl ti_int rfl)) ?_
    refine any_take_case 3 rfl (by first | rfl | decide +kernel) rfl (HeldL.refl _) (fun H' hH => OpOk.step (ok_moveb (.inl rfl) rfl)) (fun hb => ?_) (fun hb => ?_)
    · (try simp only [decide_eq_true_eq, decide_eq_false_iff_not, beq_iff_eq, beq_eq_false_iff_ne, bne_iff_ne, bne_eq_false_iff_eq, ne_eq, Bool.not_eq_true', Bool.not_eq_false'] at hb)
      obtain ⟨k, hk⟩ : ∃ k, O.length = k + 1 := ⟨O.length - 1, by first | omega | (simp at hb; omega)⟩
      obtain ⟨y, hy⟩ : ∃ y, O[k]? = some y := ⟨_, List.getElem?_eq_getElem (by omega)⟩
      have hms := mstep_snoc (c := c) (x := x) hk hy
      have hdy := dsum_get hy
      have hkz : ((O.length : Int) - 1).toNat = k := by omega
      refine any_take 4 rfl (by first | rfl | decide +kernel) rfl (HeldL.refl _) (fun H' hH => OpOk.step ((ok_load rfl ti_api_Conf (locA_held hH rfl) rfl).eq (x' := .agg (CC c)) rfl rfl)) ?_
      refine any_take 5 rfl (by first | rfl | decide +kernel) rfl (HeldL.refl _) (fun H' hH => OpOk.step (ok_move (.inl rfl))) ?_
      refine any_take 6 rfl (by first | rfl | decide +kernel) rfl (HeldL.refl _) (fun H' hH => OpOk.step (ok_move (.inl rfl))) ?_
      refine any_take 7 rfl (by first | rfl | decide +kernel) rfl (HeldL.refl _) (fun H' hH => OpOk.step (ok_len' rfl rfl ti_Lapi_Cmd rfl (by first | exact ints_length _ _ | exact rowsA_length _ _ | exact Cms_len _ | exact mapLen _ | rfl))) ?_
      refine any_take 8 rfl (by first | rfl | decide +kernel) rfl (HeldL.refl _) (fun H' hH => OpOk.step (ok_sub64 rfl ti_int rfl rfl (by omega) (by omega))) ?_
      refine any_take 9 rfl (by first | rfl | decide +kernel) rfl (HeldL.refl _) (fun H' hH => OpOk.step ((ok_index_sl rfl ti_Lapi_Cmd rfl ti_api_Cmd rfl (hH.get rfl) rfl rfl (by omega) (by omega)).eq (x' := .ref 1 k 0) (by rw [hkz, Nat.zero_add]) rfl)) ?_
      refine any_take 10 rfl (by first | rfl | decide +kernel) rfl (HeldL.refl _) (fun H' hH => OpOk.step ((ok_load rfl ti_api_Cmd (locA_map (F := CmdC) (l := O) (hH.get rfl) rfl hy (by simp [CmdC])) rfl).eq (x' := .agg (CmdC y)) rfl rfl)) ?_
      refine any_take 11 rfl (by first | rfl | decide +kernel) rfl (HeldL.refl _) (fun H' hH => OpOk.step ((ok_load rfl ti_api_Cmd (locA_held hH rfl) rfl).eq (x' := .agg (CmdC x)) rfl rfl)) ?_
      refine any_one 12 rfl (by first | rfl | decide +kernel) rfl rfl (ok_call rfl rfl rfl ((rgoes_ok c y x (by omega) (by omega)).plain (by simp [renL, AV.ren, CC_ren, CmdC_ren]) rfl)) (.inr (by first | (simp [HeldL]; done) | (simp only [HeldL, List.map_cons, List.map_nil, List.cons_append, List.nil_append, List.set_cons_zero, List.set_cons_succ]; (repeat' first | trivial | rfl | constructor)))) ?_
      refine any_take 13 rfl (by first | rfl | decide +kernel) rfl (by first | exact HeldL.refl _ | exact HeldL.append _ _ | simp [HeldL]) (fun H' hH => OpOk.step (ok_pick rfl rfl)) ?_
      refine any_done rfl ?_
      refine keepK hK9 [1, 2, 5, 6, 7, 32] (by dsimp) (by dsimp) ?_
      refine T.cond rfl (fun hc => ?_) (fun hc => ?_) -- cond 2
      · (try simp only [decide_eq_true_eq, decide_eq_false_iff_not, beq_iff_eq, beq_eq_false_iff_ne, bne_iff_ne, bne_eq_false_iff_eq, ne_eq, Bool.not_eq_true', Bool.not_eq_false'] at hc)
        have hgo : GoesC c y x := by simpa using hc
        rw [if_pos hgo] at hms
        refine T.seq fun K10 hK10 => ?_
        refine T.region ?_ -- region 7
        refine ro rfl rfl (OpOk.step (ok_move (.inl rfl))) ?_
        refine ro rfl rfl (OpOk.step (ok_move (.inl rfl))) ?_
        refine ro rfl rfl (OpOk.step (ok_len' rfl rfl ti_Lapi_Cmd rfl (by first | exact ints_length _ _ | exact rowsA_length _ _ | exact Cms_len _ | exact mapLen _ | rfl))) ?_
        refine ro rfl rfl (OpOk.step (ok_sub64 rfl ti_int rfl rfl (by omega) (by omega))) ?_
        refine ro rfl rfl (OpOk.step ((ok_index_sl rfl ti_Lapi_Cmd rfl ti_api_Cmd rfl rfl rfl rfl (by omega) (by omega)).eq (x' := .ref 1 k 0) (by rw [hkz, Nat.zero_add]) rfl)) ?_
        refine ro rfl rfl (OpOk.step ((ok_load rfl ti_api_Cmd (locA_map (F := CmdC) (l := O) rfl rfl hy (by simp [CmdC])) rfl).eq (x' := .agg (CmdC y)) rfl rfl)) ?_
        refine ro rfl rfl (OpOk.step (ok_alloc rfl ti_api_Cmd rfl (by decide))) ?_
        refine ro rfl rfl (OpOk.step ((ok_store rfl ti_api_Cmd (by decide) rfl rfl rfl rfl rfl (Nat.le_of_ble_eq_true rfl) (.inl ⟨rfl, rfl⟩)).eq (x' := .any) (H'' := [some (CB c), some (CmsB O), some (CmdB x), some (CmdB y)]) rfl rfl)) ?_
        refine ro_nil ?_
        refine keepK hK10 [1, 2, 5, 6, 7, 8] (by dsimp) (by dsimp) ?_
        refine T.seq fun K11 hK11 => ?_
        refine T.drawH mixed [8] ?_ -- region 8
        refine any_take 1 rfl (by first | rfl | decide +kernel) rfl (HeldL.refl _) (fun H' hH => OpOk.step (ok_fieldAddr rfl ti_api_Cmd rfl rfl ti_Luint8 (by decide) rfl)) ?_
        refine any_take 2 rfl (by first | rfl | decide +kernel) rfl (HeldL.refl _) (fun H' hH => OpOk.step (ok_load rfl ti_Luint8 (locA_held hH rfl) rfl)) ?_
        refine any_take 4 rfl (by first | rfl | decide +kernel) rfl (HeldL.refl _) (fun H' hH => OpOk.step (ok_fieldAddr rfl ti_api_Cmd rfl rfl ti_Luint8 (by decide) rfl)) ?_
        refine any_take 5 rfl (by first | rfl | decide +kernel) rfl (HeldL.refl _) (fun H' hH => OpOk.step (ok_load rfl ti_Luint8 (locA_held hH rfl) rfl)) ?_
        refine any_one 0 rfl (by first | rfl | decide +kernel) rfl rfl (OpOk.step (ok_buildSlice (n := 0) (ps := #[]) rfl ti_Luint8 rfl ti_uint8 (by decide) rfl rfl (by decide) rfl rfl rfl)) (.inr (by first | (simp [HeldL]; done) | (simp only [HeldL, List.map_cons, List.map_nil, List.cons_append, List.nil_append, List.set_cons_zero, List.set_cons_succ]; (repeat' first | trivial | rfl | constructor)))) ?_
        refine any_one 3 rfl (by first | rfl | decide +kernel) rfl rfl (OpOk.step ((ok_append_ints (k := .u8) (xs := []) (ys := y.d) rfl ti_Luint8 rfl ti_uint8 rfl (by decide) rfl ti_Luint8 (by simp) rfl rfl rfl rfl rfl rfl rfl rfl rfl (by show (_ + _) * 1 ≤ _; simp; omega)).eq (x' := .sl 5 0 y.d.length) (H'' := [some (CB c), some (CmsB O), some (CmdB x), some (CmdB y), none, some ⟨1, true, ints .u8 y.d⟩]) rfl rfl)) (.inr (by first | (simp [HeldL]; done) | (simp only [HeldL, List.map_cons, List.map_nil, List.cons_append, List.nil_append, List.set_cons_zero, List.set_cons_succ]; (repeat' first | trivial | rfl | constructor)))) ?_
        refine any_one 6 rfl (by first | rfl | decide +kernel) rfl rfl (OpOk.step (((ok_append_ints (k := .u8) (xs := y.d) (ys := x.d) rfl ti_Luint8 rfl ti_uint8 rfl (by decide) rfl ti_Luint8 (by simp) rfl rfl rfl rfl rfl rfl rfl rfl rfl (by show (_ + _) * 1 ≤ _; omega)).frz rfl (by simp)).eq (x' := .fz 1 (ints .u8 (y.d ++ x.d))) (H'' := [some (CB c), some (CmsB O), some (CmdB x), some (CmdB y), none, none, some ⟨1, false, ints .u8 (y.d ++ x.d)⟩]) rfl rfl)) (.inr (by first | (simp [HeldL]; done) | (simp only [HeldL, List.map_cons, List.map_nil, List.cons_append, List.nil_append, List.set_cons_zero, List.set_cons_succ]; (repeat' first | trivial | rfl | constructor)))) ?_
        refine any_take 7 rfl (by first | rfl | decide +kernel) rfl (by first | exact HeldL.refl _ | exact HeldL.append _ _ | simp [HeldL]) (fun H' hH => OpOk.step (ok_fieldAddr rfl ti_api_Cmd rfl rfl ti_Luint8 (by decide) rfl)) ?_
        refine any_one 8 rfl (by first | rfl | decide +kernel) rfl rfl (OpOk.step ((ok_store rfl ti_Luint8 (by decide) rfl rfl rfl rfl rfl (Nat.le_of_ble_eq_true rfl) (.inr rfl)).eq (x' := .any) (H'' := [some (CB c), some (CmsB O), some (CmdB x), some (CmdB { y with d := y.d ++ x.d }), none, none, some ⟨1, false, ints .u8 (y.d ++ x.d)⟩]) rfl rfl)) (.inl (by simp)) ?_
        refine any_done rfl ?_
        refine keepK hK11 [1, 2, 5, 6, 7, 8] (by dsimp) (by dsimp) ?_
        refine T.seq fun K12 hK12 => ?_
        refine T.region ?_ -- region 9
        refine ro rfl rfl (OpOk.step (ok_fieldAddr rfl ti_api_Cmd rfl rfl ti_bool (by decide) rfl)) ?_
        refine ro rfl rfl (OpOk.step (ok_load rfl ti_bool rfl rfl)) ?_
        refine ro rfl rfl (OpOk.step (ok_fieldAddr rfl ti_api_Cmd rfl rfl ti_bool (by decide) rfl)) ?_
        refine ro rfl rfl (OpOk.step ((ok_store rfl ti_bool (by decide) rfl rfl rfl rfl rfl (Nat.le_of_ble_eq_true rfl) (.inr rfl)).eq (x' := .any) (H'' := [some (CB c), some (CmsB O), some (CmdB x), some (CmdB (bothC y x)), none, none, some ⟨1, false, ints .u8 (y.d ++ x.d)⟩]) rfl rfl)) ?_
        refine ro_nil ?_
        refine keepK hK12 [1, 2, 5, 6, 8] (by dsimp) (by dsimp) ?_
        refine T.region ?_ -- region 10
        refine ro rfl rfl (OpOk.step (ok_move (.inl rfl))) ?_
        refine ro rfl rfl (OpOk.step (ok_move (.inl rfl))) ?_
        refine ro rfl rfl (OpOk.step (ok_len' rfl rfl ti_Lapi_Cmd rfl (by first | exact ints_length _ _ | exact rowsA_length _ _ | exact Cms_len _ | exact mapLen _ | rfl))) ?_
        refine ro rfl rfl (OpOk.step (ok_sub64 rfl ti_int rfl rfl (by omega) (by omega))) ?_
        refine ro rfl rfl (OpOk.step ((ok_load rfl ti_api_Cmd rfl rfl).eq (x' := .agg (CmdC (bothC y x))) rfl rfl)) ?_
        refine ro rfl rfl (OpOk.step ((ok_index_sl rfl ti_Lapi_Cmd rfl ti_api_Cmd rfl rfl rfl rfl (by omega) (by omega)).eq (x' := .ref 1 k 0) (by rw [hkz, Nat.zero_add]) rfl)) ?_
        refine ro rfl rfl (OpOk.step ((ok_store rfl ti_api_Cmd (by decide) rfl rfl rfl (el := .agg (CmdC y)) (Cms_get hy) rfl (Nat.le_of_ble_eq_true rfl) (.inl ⟨rfl, rfl⟩)).eq (x' := .any) (H'' := [some (CB c), some (CmsB (O.set k (bothC y x))), some (CmdB x), some (CmdB (bothC y x)), none, none, some ⟨1, false, ints .u8 (y.d ++ x.d)⟩]) rfl (by simp [CmsB, ← Cms_set]))) ?_
        refine ro_nil ?_
        refine keepK hK7 [1, 2, 5, 6] (by dsimp) (by dsimp) ?_
        refine T.region ?_ -- region 4
        refine ro rfl rfl (OpOk.step (ok_move (.inl rfl))) ?_
        refine ro rfl rfl (OpOk.step (ok_add64 rfl ti_int rfl rfl (by omega) (by omega))) ?_
        refine ro rfl rfl (OpOk.step (ok_move (.inr rfl))) ?_
        refine ro_nil ?_
        rw [hms] at hst
        first
          | exact ⟨i + 1, by omega, by omega, TEnt.fin [0, 1] (by decide) (by simp) (by rw [hst]; simp [normH, hget, CB_ren, CmsB_ren]) ⟨by simp [AV.ren, Cms_ren], rfl, by rw [hst]; simp; rfl, rfl, trivial⟩⟩
          | exact ⟨i + 1, by omega, by omega, TEnt.fin [0, 4] (by decide) (by simp) (by rw [hst]; simp [normH, hget, CB_ren, CmsB_ren]) ⟨by simp [AV.ren, Cms_ren], rfl, by rw [hst]; simp; rfl, rfl, trivial⟩⟩
      · (try simp only [decide_eq_true_eq, decide_eq_false_iff_not, beq_iff_eq, beq_eq_false_iff_ne, bne_iff_ne, bne_eq_false_iff_eq, ne_eq, Bool.not_eq_true', Bool.not_eq_false'] at hc)
        have hgo : ¬ GoesC c y x := by simpa using hc
        rw [if_neg hgo] at hms
        refine T.region ?_ -- region 11
        refine ro rfl rfl (OpOk.step (ok_move (.inl rfl))) ?_
        refine ro rfl rfl (OpOk.step ((ok_load rfl ti_api_Cmd rfl rfl).eq (x' := .agg (CmdC x)) rfl rfl)) ?_
        refine ro rfl rfl (OpOk.step (ok_buildSlice (n := 1) (ps := #[(0, .tmp 57)]) rfl ti_Lapi_Cmd rfl ti_api_Cmd (by decide) rfl rfl (by decide) rfl rfl rfl)) ?_
        refine ro rfl rfl (OpOk.step ((ok_append_map (fun a => .agg (CmdC a)) (xs := O) (ys := [x]) rfl ti_Lapi_Cmd rfl ti_api_Cmd (by decide) (by decide) rfl ti_Lapi_Cmd (by simp) rfl rfl rfl rfl rfl rfl rfl rfl rfl (by show (_ + 1) * 64 ≤ _; omega)).eq (x' := .sl 4 0 (O ++ [x]).length) (H'' := [some (CB c), none, some (CmdB x), some (CmsB [x]), some (CmsB (O ++ [x]))]) rfl rfl)) ?_
        refine ro rfl rfl (OpOk.step (ok_move (.inr rfl))) ?_
        refine ro_nil ?_
        refine keepK hK7 [1, 2, 5, 6] (by dsimp) (by dsimp) ?_
        refine T.region ?_ -- region 4
        refine ro rfl rfl (OpOk.step (ok_move (.inl rfl))) ?_
        refine ro rfl rfl (OpOk.step (ok_add64 rfl ti_int rfl rfl (by omega) (by omega))) ?_
        refine ro rfl rfl (OpOk.step (ok_move (.inr rfl))) ?_
        refine ro_nil ?_
        rw [hms] at hst
        first
          | exact ⟨i + 1, by omega, by omega, TEnt.fin [0, 1] (by decide) (by simp) (by rw [hst]; simp [normH, hget, CB_ren, CmsB_ren]) ⟨by simp [AV.ren, Cms_ren], rfl, by rw [hst]; simp; rfl, rfl, trivial⟩⟩
          | exact ⟨i + 1, by omega, by omega, TEnt.fin [0, 4] (by decide) (by simp) (by rw [hst]; simp [normH, hget, CB_ren, CmsB_ren]) ⟨by simp [AV.ren, Cms_ren], rfl, by rw [hst]; simp; rfl, rfl, trivial⟩⟩
    · (try simp only [decide_eq_true_eq, decide_eq_false_iff_not, beq_iff_eq, beq_eq_false_iff_ne, bne_iff_ne, bne_eq_false_iff_eq, ne_eq, Bool.not_eq_true', Bool.not_eq_false'] at hb)
      have hO0 : O = [] := by
        have : ¬ (0 < O.length) := by first | omega | (simp at hb; omega)
        exact List.eq_nil_of_length_eq_zero (by omega)
      have hms : mstep c O x = O ++ [x] := by rw [hO0]; rfl
      refine any_skip 4 rfl (by first | rfl | decide +kernel) rfl (HeldL.refl _) ?_
      refine any_skip 5 rfl (by first | rfl | decide +kernel) rfl (HeldL.refl _) ?_
      refine any_skip 6 rfl (by first | rfl | decide +kernel) rfl (HeldL.refl _) ?_
      refine any_skip 7 rfl (by first | rfl | decide +kernel) rfl (HeldL.refl _) ?_
      refine any_skip 8 rfl (by first | rfl | decide +kernel) rfl (HeldL.refl _) ?_
      refine any_skip 9 rfl (by first | rfl | decide +kernel) rfl (HeldL.refl _) ?_
      refine any_skip 10 rfl (by first | rfl | decide +kernel) rfl (HeldL.refl _) ?_
      refine any_skip 11 rfl (by first | rfl | decide +kernel) rfl (HeldL.refl _) ?_
      refine any_one_skip 12 rfl (by first | rfl | decide +kernel) rfl rfl (.inr (HeldL.refl _)) ?_
      refine any_take 13 rfl (by first | rfl | decide +kernel) rfl (by first | exact HeldL.refl _ | exact HeldL.append _ _ | simp [HeldL]) (fun H' hH => OpOk.step (ok_pickb (t := false) (d := false) rfl rfl rfl)) ?_
      refine any_done rfl ?_
      refine keepK hK9 [1, 2, 5, 6, 7, 32] (by dsimp) (by dsimp) ?_
      refine T.cond_false rfl ?_
      refine T.region ?_ -- region 11
      refine ro rfl rfl (OpOk.step (ok_move (.inl rfl))) ?_
      refine ro rfl rfl (OpOk.step ((ok_load rfl ti_api_Cmd rfl rfl).eq (x' := .agg (CmdC x)) rfl rfl)) ?_
      refine ro rfl rfl (OpOk.step (ok_buildSlice (n := 1) (ps := #[(0, .tmp 57)]) rfl ti_Lapi_Cmd rfl ti_api_Cmd (by decide) rfl rfl (by decide) rfl rfl rfl)) ?_
      refine ro rfl rfl (OpOk.step ((ok_append_map (fun a => .agg (CmdC a)) (xs := O) (ys := [x]) rfl ti_Lapi_Cmd rfl ti_api_Cmd (by decide) (by decide) rfl ti_Lapi_Cmd (by simp) rfl rfl rfl rfl rfl rfl rfl rfl rfl (by show (_ + 1) * 64 ≤ _; omega)).eq (x' := .sl 4 0 (O ++ [x]).length) (H'' := [some (CB c), none, some (CmdB x), some (CmsB [x]), some (CmsB (O ++ [x]))]) rfl rfl)) ?_
      refine ro rfl rfl (OpOk.step (ok_move (.inr rfl))) ?_
      refine ro_nil ?_
      refine keepK hK7 [1, 2, 5, 6] (by dsimp) (by dsimp) ?_
      refine T.region ?_ -- region 4
      refine ro rfl rfl (OpOk.step (ok_move (.inl rfl))) ?_
      refine ro rfl rfl (OpOk.step (ok_add64 rfl ti_int rfl rfl (by omega) (by omega))) ?_
      refine ro rfl rfl (OpOk.step (ok_move (.inr rfl))) ?_
      refine ro_nil ?_
      rw [hms] at hst
      first
        | exact ⟨i + 1, by omega, by omega, TEnt.fin [0, 1] (by decide) (by simp) (by rw [hst]; simp [normH, hget, CB_ren, CmsB_ren]) ⟨by simp [AV.ren, Cms_ren], rfl, by rw [hst]; simp; rfl, rfl, trivial⟩⟩
        | exact ⟨i + 1, by omega, by omega, TEnt.fin [0, 4] (by decide) (by simp) (by rw [hst]; simp [normH, hget, CB_ren, CmsB_ren]) ⟨by simp [AV.ren, Cms_ren], rfl, by rw [hst]; simp; rfl, rfl, trivial⟩⟩
  · (try simp only [decide_eq_true_eq, decide_eq_false_iff_not, beq_iff_eq, beq_eq_false_iff_ne, bne_iff_ne, bne_eq_false_iff_eq, ne_eq, Bool.not_eq_true', Bool.not_eq_false'] at hc)
    have hin : i = l.length := by simp at hc; omega
    subst hin
    rw [List.take_length]
    refine T.exit ?_
    refine keepK hK3 [5] (by dsimp) (by dsimp) ?_
    refine T.seq fun K13 hK13 => ?_
    refine T.region ?_ -- region 12
    refine ro rfl rfl (OpOk.step (ok_move (.inl rfl))) ?_
    refine ro rfl rfl (OpOk.step (ok_move (.inr rfl))) ?_
    refine ro_nil ?_
    refine keepK hK13 [4] (by dsimp) (by dsimp) ?_
    refine T.ret (hQ _ _ _ rfl ?_).1 -- ret 1
    exact TEnt.fin [1] (by decide) (by simp) (by simp [normH, hget, CmsB_ren]) ⟨rfl, trivial⟩
theorem qmerge_frz (c : Cf) (l : List Cm) (hl : l.length ≤ 1000) (hd : dsum l ≤ 10000000) : CSpec Try.prog 27 [] [.agg (CC c), .fz 6 (Cms l)] [] (.fz 6 (Cms (mergeC c l))) := (qmerge_ok c l hl hd).frz (Cms_len _) (Cms_ren _ _)
theorem rmerge_frz (c : Cf) (l : List Cm) (hl : l.length ≤ 1000) (hd : dsum l ≤ 10000000) : CSpec Try.prog 28 [] [.agg (CC c), .fz 6 (Cms l)] [] (.fz 6 (Cms (mergeC c l))) := (rmerge_ok c l hl hd).frz (Cms_len _) (Cms_ren _ _)
theorem rqsame_ok (l : List Cm) (hl : l.length ≤ 1000) : CSpec Try.prog 26 [] [.fz 6 (Cms l), .fz 6 (Cms l)] [] (.b true) := by
  refine CSpec.body Try.func26 rfl rfl rfl rfl rfl fun Q hQ => ?_
  refine T.seq fun K1 hK1 => ?_
  refine T.region ?_ -- region 0
  refine ro rfl rfl (OpOk.step (ok_moveb (c := false) (.inr rfl) rfl)) ?_
  refine ro_nil ?_
  refine keepK hK1 [0, 1] (by dsimp) (by dsimp) ?_
  refine T.seq fun K2 hK2 => ?_
  refine T.seq fun K3 hK3 => ?_
  refine T.region ?_ -- region 1
  refine ro rfl rfl (OpOk.step (ok_move (.inl rfl))) ?_
  refine ro rfl rfl (OpOk.step (ok_len' rfl rfl ti_Lapi_Cmd rfl (by first | exact ints_length _ _ | exact rowsA_length _ _ | exact Cms_len _ | exact mapLen _ | rfl))) ?_
  refine ro rfl rfl (OpOk.step (ok_move (.inl rfl))) ?_
  refine ro rfl rfl (OpOk.step (ok_len' rfl rfl ti_Lapi_Cmd rfl (by first | exact ints_length _ _ | exact rowsA_length _ _ | exact Cms_len _ | exact mapLen _ | rfl))) ?_
  refine ro rfl rfl (OpOk.step (ok_binOp rfl ti_int rfl)) ?_
  refine ro_nil ?_
  refine keepK hK3 [0, 1, 12] (by dsimp) (by dsimp) ?_
  refine T.cond rfl (fun hc => ?_) (fun hc => ?_) -- cond 1
  · (try simp only [decide_eq_true_eq, decide_eq_false_iff_not, beq_iff_eq, beq_eq_false_iff_ne, bne_iff_ne, bne_eq_false_iff_eq, ne_eq, Bool.not_eq_true', Bool.not_eq_false'] at hc)
    simp at hc
  · (try simp only [decide_eq_true_eq, decide_eq_false_iff_not, beq_iff_eq, beq_eq_false_iff_ne, bne_iff_ne, bne_eq_false_iff_eq, ne_eq, Bool.not_eq_true', Bool.not_eq_false'] at hc)
    refine T.skip ?_
    refine keepK hK2 [0, 1] (by dsimp) (by dsimp) ?_
    refine T.seq fun K4 hK4 => ?_
    refine T.seq fun K5 hK5 => ?_
    refine T.region ?_ -- region 3
    refine ro rfl rfl (OpOk.step (ok_move (.inr rfl))) ?_
    refine ro_nil ?_
    refine keepK hK5 [0, 1, 5] (by dsimp) (by dsimp) ?_
    refine T.block ?_
    refine T.loopI (ι := Nat) (fun i => i ≤ l.length) (fun i => l.length - i) (fun i => ([(0, .fz 6 (Cms l)), (1, .fz 6 (Cms l)), (5, .int i)], [])) 0 (Nat.zero_le _) (TEnt.toH rfl ⟨rfl, rfl, rfl, trivial⟩) (fun i hi => ?_) -- loop 1
    refine T.seq fun K6 hK6 => ?_
    refine T.seq fun K7 hK7 => ?_
    refine T.region ?_ -- region 4
    refine ro rfl rfl (OpOk.step (ok_move (.inl rfl))) ?_
    refine ro rfl rfl (OpOk.step (ok_move (.inl rfl))) ?_
    refine ro rfl rfl (OpOk.step (ok_len' rfl rfl ti_Lapi_Cmd rfl (by first | exact ints_length _ _ | exact rowsA_length _ _ | exact Cms_len _ | exact mapLen _ | rfl))) ?_
    refine ro rfl rfl (OpOk.step (ok_binOp rfl ti_int rfl)) ?_
    refine ro_nil ?_
    refine keepK hK7 [0, 1, 5, 16] (by dsimp) (by dsimp) ?_
    refine T.cond rfl (fun hc => ?_) (fun hc => ?_) -- cond 2
    · (try simp only [decide_eq_true_eq, decide_eq_false_iff_not, beq_iff_eq, beq_eq_false_iff_ne, bne_iff_ne, bne_eq_false_iff_eq, ne_eq, Bool.not_eq_true', Bool.not_eq_false'] at hc)
      obtain ⟨x, hx⟩ : ∃ x, l[i]? = some x := ⟨_, List.getElem?_eq_getElem (by simp at hc; omega)⟩
      have hil : i < l.length := by simp at hc; omega
      refine T.skip ?_
      refine keepK hK6 [0, 1, 5] (by dsimp) (by dsimp) ?_
      refine T.seq fun K8 hK8 => ?_
      refine T.block ?_
      refine T.seq fun K9 hK9 => ?_
      refine T.join hK9 [(0, .fz 6 (Cms l)), (1, .fz 6 (Cms l)), (5, .int i), (6, .ref 0 0 0), (7, .ref 1 0 0)] [some (CmdB x), some (CmdB x)] (fun hJ10 => ?_) ?_
      ·
        refine T.drawH mixed [] ?_ -- region 6
        refine any_take 0 rfl (by first | rfl | decide +kernel) rfl (HeldL.refl _) (fun H' hH => OpOk.step (ok_move (.inl rfl))) ?_
        refine any_take 1 rfl (by first | rfl | decide +kernel) rfl (HeldL.refl _) (fun H' hH => OpOk.step (ok_move (.inl rfl))) ?_
        refine any_take 2 rfl (by first | rfl | decide +kernel) rfl (HeldL.refl _) (fun H' hH => OpOk.step (by exact ok_index_map (F := CmdC) rfl ti_Lapi_Cmd rfl ti_api_Cmd rfl rfl rfl hx (by simp [CmdC]))) ?_
        refine any_take 3 rfl (by first | rfl | decide +kernel) rfl (HeldL.refl _) (fun H' hH => OpOk.step ((ok_load rfl ti_api_Cmd rfl rfl).eq (x' := .agg (CmdC x)) rfl rfl)) ?_
        refine any_take 4 rfl (by first | rfl | decide +kernel) rfl (HeldL.refl _) (fun H' hH => OpOk.step (ok_move (.inl rfl))) ?_
        refine any_take 5 rfl (by first | rfl | decide +kernel) rfl (HeldL.refl _) (fun H' hH => OpOk.step (ok_move (.inl rfl))) ?_
        refine any_take 6 rfl (by first | rfl | decide +kernel) rfl (HeldL.refl _) (fun H' hH => OpOk.step (by exact ok_index_map (F := CmdC) rfl ti_Lapi_Cmd rfl ti_api_Cmd rfl rfl rfl hx (by simp [CmdC]))) ?_
        refine any_take 7 rfl (by first | rfl | decide +kernel) rfl (HeldL.refl _) (fun H' hH => OpOk.step ((ok_load rfl ti_api_Cmd rfl rfl).eq (x' := .agg (CmdC x)) rfl rfl)) ?_
        refine any_many [8, 9] (by first | rfl | decide +kernel) (by decide) (fun k hk => ?_)
        simp only [List.mem_cons, List.not_mem_nil, or_false] at hk
        rcases hk with rfl | rfl
        ·
          refine step_one rfl rfl rfl (OpOk.step (ok_alloc rfl ti_api_Cmd rfl (by decide))) (.inr (by first | (simp [HeldL]; done) | (simp only [HeldL, List.map_cons, List.map_nil, List.cons_append, List.nil_append, List.set_cons_zero, List.set_cons_succ]; (repeat' first | trivial | rfl | constructor)))) ?_
          refine any_one 9 rfl (by first | rfl | decide +kernel) rfl rfl (OpOk.step (ok_alloc rfl ti_api_Cmd rfl (by decide))) (.inr (by first | (simp [HeldL]; done) | (simp only [HeldL, List.map_cons, List.map_nil, List.cons_append, List.nil_append, List.set_cons_zero, List.set_cons_succ]; (repeat' first | trivial | rfl | constructor)))) ?_
          refine any_one 10 rfl (by first | rfl | decide +kernel) rfl rfl (OpOk.step (ok_store rfl ti_api_Cmd (by decide) rfl rfl rfl rfl rfl (by first | exact Nat.le_of_ble_eq_true rfl | simp) (by first | exact .inl ⟨rfl, rfl⟩ | exact .inr rfl))) (.inr (by first | (simp [HeldL]; done) | (simp only [HeldL, List.map_cons, List.map_nil, List.cons_append, List.nil_append, List.set_cons_zero, List.set_cons_succ]; (repeat' first | trivial | rfl | constructor)))) ?_
          refine any_one 11 rfl (by first | rfl | decide +kernel) rfl rfl (OpOk.step (ok_store rfl ti_api_Cmd (by decide) rfl rfl rfl rfl rfl (by first | exact Nat.le_of_ble_eq_true rfl | simp) (by first | exact .inl ⟨rfl, rfl⟩ | exact .inr rfl))) (.inr (by first | (simp [HeldL]; done) | (simp only [HeldL, List.map_cons, List.map_nil, List.cons_append, List.nil_append, List.set_cons_zero, List.set_cons_succ]; (repeat' first | trivial | rfl | constructor)))) ?_
          refine any_done rfl ?_
          first | exact hJ10 _ _ (TEnt.toH rfl ⟨rfl, rfl, rfl, rfl, rfl, trivial⟩) | exact hJ10 _ _ (TEnt.fin [1, 0] (by decide) (by simp) (by show normH [1, 0] [some (CmdB x), some (CmdB x)] = _; simp [normH, hget, CmdB_ren]) ⟨by simp [AV.ren, Cms_ren], by simp [AV.ren, Cms_ren], rfl, rfl, rfl, trivial⟩)
        ·
          refine step_one rfl rfl rfl (OpOk.step (ok_alloc rfl ti_api_Cmd rfl (by decide))) (.inr (by first | (simp [HeldL]; done) | (simp only [HeldL, List.map_cons, List.map_nil, List.cons_append, List.nil_append, List.set_cons_zero, List.set_cons_succ]; (repeat' first | trivial | rfl | constructor)))) ?_
          refine any_one 8 rfl (by first | rfl | decide +kernel) rfl rfl (OpOk.step (ok_alloc rfl ti_api_Cmd rfl (by decide))) (.inr (by first | (simp [HeldL]; done) | (simp only [HeldL, List.map_cons, List.map_nil, List.cons_append, List.nil_append, List.set_cons_zero, List.set_cons_succ]; (repeat' first | trivial | rfl | constructor)))) ?_
          refine any_one 10 rfl (by first | rfl | decide +kernel) rfl rfl (OpOk.step (ok_store rfl ti_api_Cmd (by decide) rfl rfl rfl rfl rfl (by first | exact Nat.le_of_ble_eq_true rfl | simp) (by first | exact .inl ⟨rfl, rfl⟩ | exact .inr rfl))) (.inr (by first | (simp [HeldL]; done) | (simp only [HeldL, List.map_cons, List.map_nil, List.cons_append, List.nil_append, List.set_cons_zero, List.set_cons_succ]; (repeat' first | trivial | rfl | constructor)))) ?_
          refine any_one 11 rfl (by first | rfl | decide +kernel) rfl rfl (OpOk.step (ok_store rfl ti_api_Cmd (by decide) rfl rfl rfl rfl rfl (by first | exact Nat.le_of_ble_eq_true rfl | simp) (by first | exact .inl ⟨rfl, rfl⟩ | exact .inr rfl))) (.inr (by first | (simp [HeldL]; done) | (simp only [HeldL, List.map_cons, List.map_nil, List.cons_append, List.nil_append, List.set_cons_zero, List.set_cons_succ]; (repeat' first | trivial | rfl | constructor)))) ?_
          refine any_done rfl ?_
          first | exact hJ10 _ _ (TEnt.toH rfl ⟨rfl, rfl, rfl, rfl, rfl, trivial⟩) | exact hJ10 _ _ (TEnt.fin [1, 0] (by decide) (by simp) (by show normH [1, 0] [some (CmdB x), some (CmdB x)] = _; simp [normH, hget, CmdB_ren]) ⟨by simp [AV.ren, Cms_ren], by simp [AV.ren, Cms_ren], rfl, rfl, rfl, trivial⟩)
      refine T.seq fun K11 hK11 => ?_
      refine T.region ?_ -- region 7
      refine ro rfl rfl (OpOk.step (ok_fieldAddr rfl ti_api_Cmd rfl rfl ti_int (by decide) rfl)) ?_
      refine ro rfl rfl (OpOk.step (ok_load rfl ti_int rfl rfl)) ?_
      refine ro rfl rfl (OpOk.step (ok_fieldAddr rfl ti_api_Cmd rfl rfl ti_int (by decide) rfl)) ?_
      refine ro rfl rfl (OpOk.step (ok_load rfl ti_int rfl rfl)) ?_
      refine ro rfl rfl (OpOk.step (ok_binOp rfl ti_int rfl)) ?_
      refine ro rfl rfl (OpOk.step (OpOk.bool (d := false) (ok_moveb (.inl rfl) rfl) (by simp))) ?_
      refine ro rfl rfl (OpOk.step (ok_fieldAddr rfl ti_api_Cmd rfl rfl ti_int (by decide) rfl)) ?_
      refine ro rfl rfl (OpOk.step (ok_load rfl ti_int rfl rfl)) ?_
      refine ro rfl rfl (OpOk.step (ok_fieldAddr rfl ti_api_Cmd rfl rfl ti_int (by decide) rfl)) ?_
      refine ro rfl rfl (OpOk.step (ok_load rfl ti_int rfl rfl)) ?_
      refine ro rfl rfl (OpOk.step (ok_binOp rfl ti_int rfl)) ?_
      refine ro rfl rfl (OpOk.step (ok_pick rfl rfl)) ?_
      refine ro rfl rfl (OpOk.step (OpOk.bool (d := false) (ok_moveb (.inl rfl) rfl) (by simp))) ?_
      refine ro rfl rfl (OpOk.step (ok_fieldAddr rfl ti_api_Cmd rfl rfl ti_int (by decide) rfl)) ?_
      refine ro rfl rfl (OpOk.step (ok_load rfl ti_int rfl rfl)) ?_
      refine ro rfl rfl (OpOk.step (ok_fieldAddr rfl ti_api_Cmd rfl rfl ti_int (by decide) rfl)) ?_
      refine ro rfl rfl (OpOk.step (ok_load rfl ti_int rfl rfl)) ?_
      refine ro rfl rfl (OpOk.step (ok_binOp rfl ti_int rfl)) ?_
      refine ro rfl rfl (OpOk.step (ok_pick rfl rfl)) ?_
      refine ro rfl rfl (OpOk.step (OpOk.bool (d := false) (ok_moveb (.inl rfl) rfl) (by simp))) ?_
      refine ro rfl rfl (OpOk.step (ok_fieldAddr rfl ti_api_Cmd rfl rfl ti_int (by decide) rfl)) ?_
      refine ro rfl rfl (OpOk.step (ok_load rfl ti_int rfl rfl)) ?_
      refine ro rfl rfl (OpOk.step (ok_fieldAddr rfl ti_api_Cmd rfl rfl ti_int (by decide) rfl)) ?_
      refine ro rfl rfl (OpOk.step (ok_load rfl ti_int rfl rfl)) ?_
      refine ro rfl rfl (OpOk.step (ok_binOp rfl ti_int rfl)) ?_
      refine ro rfl rfl (OpOk.step (ok_pick rfl rfl)) ?_
      refine ro rfl rfl (OpOk.step (OpOk.bool (d := false) (ok_moveb (.inl rfl) rfl) (by simp))) ?_
      refine ro rfl rfl (OpOk.step (ok_fieldAddr rfl ti_api_Cmd rfl rfl ti_bool (by decide) rfl)) ?_
      refine ro rfl rfl (OpOk.step (ok_load rfl ti_bool rfl rfl)) ?_
      refine ro rfl rfl (OpOk.step (ok_fieldAddr rfl ti_api_Cmd rfl rfl ti_bool (by decide) rfl)) ?_
      refine ro rfl rfl (OpOk.step (ok_load rfl ti_bool rfl rfl)) ?_
      refine ro rfl rfl (OpOk.step (ok_binOp rfl ti_bool rfl)) ?_
      refine ro rfl rfl (OpOk.step (ok_pick rfl rfl)) ?_
      refine ro rfl rfl (OpOk.step (OpOk.bool (d := false) (ok_moveb (.inl rfl) rfl) (by simp))) ?_
      refine ro rfl rfl (OpOk.step (ok_fieldAddr rfl ti_api_Cmd rfl rfl ti_Luint8 (by decide) rfl)) ?_
      refine ro rfl rfl (OpOk.step (ok_load rfl ti_Luint8 rfl rfl)) ?_
      refine ro rfl rfl (OpOk.step (ok_conv_str rfl ti_Luint8 ti_string rfl ti_uint8 rfl rfl rfl rfl (bytesOf_ints _))) ?_
      refine ro rfl rfl (OpOk.step (ok_fieldAddr rfl ti_api_Cmd rfl rfl ti_Luint8 (by decide) rfl)) ?_
      refine ro rfl rfl (OpOk.step (ok_load rfl ti_Luint8 rfl rfl)) ?_
      refine ro rfl rfl (OpOk.step (ok_conv_str rfl ti_Luint8 ti_string rfl ti_uint8 rfl rfl rfl rfl (bytesOf_ints _))) ?_
      refine ro rfl rfl (OpOk.step ((ok_binOp rfl ti_string rfl).eq (x' := .b (!strEq x.d x.d)) rfl rfl)) ?_
      refine ro rfl rfl (OpOk.step (OpOk.bool (d := false) (ok_pickb rfl rfl rfl) (by rw [strEq_refl]; rfl))) ?_
      refine ro_nil ?_
      refine keepK hK11 [0, 1, 5, 68] (by dsimp) (by dsimp) ?_
      refine T.cond_false rfl ?_
      refine T.skip ?_
      refine keepK hK8 [0, 1, 5] (by dsimp) (by dsimp) ?_
      refine T.region ?_ -- region 5
      refine ro rfl rfl (OpOk.step (ok_move (.inl rfl))) ?_
      refine ro rfl rfl (OpOk.step (ok_add64 rfl ti_int rfl rfl (by omega) (by omega))) ?_
      refine ro rfl rfl (OpOk.step (ok_move (.inr rfl))) ?_
      refine ro_nil ?_
      exact ⟨i + 1, by omega, by omega, TEnt.fin [] (by decide) (by simp) rfl ⟨by simp [AV.ren, Cms_ren], by simp [AV.ren, Cms_ren], rfl, trivial⟩⟩
    · (try simp only [decide_eq_true_eq, decide_eq_false_iff_not, beq_iff_eq, beq_eq_false_iff_ne, bne_iff_ne, bne_eq_false_iff_eq, ne_eq, Bool.not_eq_true', Bool.not_eq_false'] at hc)
      refine T.exit ?_
      refine keepK hK4 [] (by dsimp) (by dsimp) ?_
      refine T.seq fun K12 hK12 => ?_
      refine T.region ?_ -- region 9
      refine ro rfl rfl (OpOk.step (ok_moveb (c := true) (.inr rfl) rfl)) ?_
      refine ro_nil ?_
      refine keepK hK12 [4] (by dsimp) (by dsimp) ?_
      refine T.ret (hQ _ _ _ rfl ?_).1
      exact TEnt.fin [] (by decide) (by simp) rfl ⟨rfl, trivial⟩ -- ?? ret 1
end Go.Proofs.Ytknhemdpfdopaaa.AmF
