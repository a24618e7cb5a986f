/- Walks over the abstract machine: commands that wait, the law QueueMerges. -/
import Derived.Test.YtknhemdpfdopaaaAfQueue3
namespace Go.Proofs.Ytknhemdpfdopaaa.AmF
open Go Go.AM
set_option maxRecDepth 100000
set_option linter.unusedSimpArgs false
set_option linter.unusedVariables false
attribute [local simp] tkeep tget tput ev cav argsTM pickA normT putA splice AV.cells ints_length rowsA_length Cms_len
/-- What statements ask about. -/
def FewC (c : Cf) (l : List Cm) : Prop := l.length ≤ 40 ∧ dsum l ≤ 20000 ∧ (chkC c = 0 → smallC c)
instance (c : Cf) (l : List Cm) : Decidable (FewC c l) := by unfold FewC; infer_instance
set_option maxHeartbeats 1000000 in
theorem much_ok (c : Cf) (l : List Cm) (hl : l.length ≤ 140737488355328) (hd : ∀ x ∈ l, x.d.length ≤ 140737488355328) : CSpec Try.prog 22 [] [.agg (CC c), .fz 6 (Cms l)] [] (.b (!decide (FewC c l))) := by
  refine CSpec.body Try.func22 rfl rfl rfl rfl rfl fun Q hQ => ?_
  refine T.seq fun K1 hK1 => ?_
  refine T.region ?_ -- region 0
  refine ro rfl rfl (OpOk.step (ok_box (n := 11) rfl rfl (by decide))) ?_
  refine ro rfl rfl (OpOk.step (ok_moveb (c := false) (.inr rfl) rfl)) ?_
  refine ro_nil ?_
  refine keepK hK1 [1, 2] (by dsimp) (by dsimp) ?_
  refine T.seq fun K2 hK2 => ?_
  refine T.region ?_ -- region 1
  refine ro rfl rfl (OpOk.step (ok_move (.inr rfl))) ?_
  refine ro_nil ?_
  refine keepK hK2 [1, 2, 5] (by dsimp) (by dsimp) ?_
  refine T.seq fun K3 hK3 => ?_
  refine T.seq fun K4 hK4 => ?_
  refine T.region ?_ -- region 2
  refine ro rfl rfl (OpOk.step (ok_move (.inr rfl))) ?_
  refine ro_nil ?_
  refine keepK hK4 [1, 2, 5, 6] (by dsimp) (by dsimp) ?_
  refine T.block ?_
  refine T.loopI (ι := Nat) (fun i => i ≤ l.length ∧ i ≤ 50 ∧ dsum (l.take i) ≤ 20000) (fun i => l.length - i) (fun i => ([(1, .fz 6 (Cms l)), (2, .ref 0 0 0), (5, .int (dsum (l.take i) : Nat)), (6, .int i)], [some (CB c)])) 0 ⟨Nat.zero_le _, Nat.zero_le _, Nat.zero_le _⟩ (TEnt.toH rfl ⟨rfl, rfl, rfl, rfl, trivial⟩) (fun i hi => ?_) -- loop 1
  obtain ⟨hil, hi50, hds⟩ := hi
  refine T.seq fun K5 hK5 => ?_
  refine T.seq fun K6 hK6 => ?_
  refine T.region ?_ -- region 3
  refine ro rfl rfl (OpOk.step (ok_move (.inl rfl))) ?_
  refine ro rfl rfl (OpOk.step (ok_move (.inl rfl))) ?_
  refine ro rfl rfl (OpOk.step (ok_len' rfl rfl ti_Lapi_Cmd rfl (by first | exact ints_length _ _ | exact rowsA_length _ _ | exact Cms_len _ | exact mapLen _ | rfl))) ?_
  refine ro rfl rfl (OpOk.step (ok_binOp rfl ti_int rfl)) ?_
  refine ro_case rfl rfl (OpOk.step (ok_moveb (.inl rfl) rfl)) (fun hb => ?_) (fun hb => ?_)
  · (try simp only [decide_eq_true_eq, decide_eq_false_iff_not, beq_iff_eq, beq_eq_false_iff_ne, bne_iff_ne, bne_eq_false_iff_eq, ne_eq, Bool.not_eq_true', Bool.not_eq_false'] at hb)
    refine ro rfl rfl (OpOk.step (ok_move (.inl rfl))) ?_
    refine ro rfl rfl (OpOk.step (ok_binOp rfl ti_int rfl)) ?_
    refine ro rfl rfl (OpOk.step (ok_pick rfl rfl)) ?_
    refine ro_nil ?_
    refine keepK hK6 [1, 2, 5, 6, 14] (by dsimp) (by dsimp) ?_
    refine T.cond rfl (fun hc => ?_) (fun hc => ?_) -- cond 1
    · (try simp only [decide_eq_true_eq, decide_eq_false_iff_not, beq_iff_eq, beq_eq_false_iff_ne, bne_iff_ne, bne_eq_false_iff_eq, ne_eq, Bool.not_eq_true', Bool.not_eq_false'] at hc)
      obtain ⟨x, hx⟩ : ∃ x, l[i]? = some x := ⟨_, List.getElem?_eq_getElem (by first | omega | (simp at hc hb; omega))⟩
      have hil' : i < l.length := (List.getElem?_eq_some_iff.1 hx).1
      have hxd := hd x (List.mem_of_getElem? hx)
      have hst : dsum (l.take (i + 1)) = dsum (l.take i) + x.d.length := by rw [take_succ_get hx, dsum_snoc]
      have hdt := dsum_take l (i + 1)
      refine T.skip ?_
      refine keepK hK5 [1, 2, 5, 6] (by dsimp) (by dsimp) ?_
      refine T.seq fun K7 hK7 => ?_
      refine T.block ?_
      refine T.seq fun K8 hK8 => ?_
      refine T.region ?_ -- region 5
      refine ro rfl rfl (OpOk.step (ok_move (.inl rfl))) ?_
      refine ro rfl rfl (OpOk.step (ok_move (.inl rfl))) ?_
      refine ro rfl rfl (OpOk.step (ok_move (.inl rfl))) ?_
      refine ro rfl rfl (OpOk.step (by exact ok_index_map (F := CmdC) rfl ti_Lapi_Cmd rfl ti_api_Cmd rfl rfl rfl hx (by simp [CmdC]))) ?_
      refine ro rfl rfl (OpOk.step (ok_fieldAddr rfl ti_api_Cmd rfl rfl ti_Luint8 (by decide) rfl)) ?_
      refine ro rfl rfl (OpOk.step (ok_load rfl ti_Luint8 rfl rfl)) ?_
      refine ro rfl rfl (OpOk.step (ok_len' rfl rfl ti_Luint8 rfl (by first | exact ints_length _ _ | exact rowsA_length _ _ | exact Cms_len _ | exact mapLen _ | rfl))) ?_
      refine ro rfl rfl (OpOk.step ((ok_add64 rfl ti_int rfl rfl (by omega) (by omega)).eq (x' := .int (dsum (l.take (i + 1)) : Nat)) (by rw [hst]; simp) rfl)) ?_
      refine ro rfl rfl (OpOk.step (ok_move (.inr rfl))) ?_
      refine ro_nil ?_
      refine keepK hK8 [1, 2, 5, 6] (by dsimp) (by dsimp) ?_
      refine T.seq fun K9 hK9 => ?_
      refine T.region ?_ -- region 6
      refine ro rfl rfl (OpOk.step (ok_move (.inl rfl))) ?_
      refine ro rfl rfl (OpOk.step (ok_binOp rfl ti_int rfl)) ?_
      refine ro_nil ?_
      refine keepK hK9 [1, 2, 5, 6, 26] (by dsimp) (by dsimp) ?_
      refine T.cond rfl (fun hc => ?_) (fun hc => ?_) -- cond 2
      · (try simp only [decide_eq_true_eq, decide_eq_false_iff_not, beq_iff_eq, beq_eq_false_iff_ne, bne_iff_ne, bne_eq_false_iff_eq, ne_eq, Bool.not_eq_true', Bool.not_eq_false'] at hc)
        have hno : ¬ FewC c l := by unfold FewC; omega
        rw [decide_eq_false hno] at hQ
        refine T.seq fun K10 hK10 => ?_
        refine T.region ?_ -- region 7
        refine ro rfl rfl (OpOk.step (ok_moveb (c := true) (.inr rfl) rfl)) ?_
        refine ro_nil ?_
        refine keepK hK10 [4] (by dsimp) (by dsimp) ?_
        refine T.ret (hQ _ _ _ rfl ?_).1 -- ret 1
        exact TEnt.fin [] (by decide) (by simp) rfl ⟨rfl, trivial⟩
      · (try simp only [decide_eq_true_eq, decide_eq_false_iff_not, beq_iff_eq, beq_eq_false_iff_ne, bne_iff_ne, bne_eq_false_iff_eq, ne_eq, Bool.not_eq_true', Bool.not_eq_false'] at hc)
        refine T.skip ?_
        refine keepK hK7 [1, 2, 5, 6] (by dsimp) (by dsimp) ?_
        refine T.region ?_ -- region 4
        refine ro rfl rfl (OpOk.step (ok_move (.inl rfl))) ?_
        refine ro rfl rfl (OpOk.step (ok_add64 rfl ti_int rfl rfl (by omega) (by omega))) ?_
        refine ro rfl rfl (OpOk.step (ok_move (.inr rfl))) ?_
        refine ro_nil ?_
        exact ⟨i + 1, ⟨by omega, by first | omega | (simp at hc hb; omega), by omega⟩, by omega, TEnt.toH rfl ⟨rfl, rfl, rfl, rfl, trivial⟩⟩
    · (try simp only [decide_eq_true_eq, decide_eq_false_iff_not, beq_iff_eq, beq_eq_false_iff_ne, bne_iff_ne, bne_eq_false_iff_eq, ne_eq, Bool.not_eq_true', Bool.not_eq_false'] at hc)
      have hfew : l.length ≤ 40 → dsum l ≤ 20000 := by
        intro h
        have hin : i = l.length := by first | omega | (simp at hc; omega)
        rw [hin, List.take_length] at hds
        exact hds
      refine T.exit ?_
      refine keepK hK3 [1, 2] (by dsimp) (by dsimp) ?_
      refine T.seq fun K11 hK11 => ?_
      refine T.region ?_ -- region 8
      refine ro rfl rfl (OpOk.step (ok_move (.inl rfl))) ?_
      refine ro rfl rfl (OpOk.step (ok_len' rfl rfl ti_Lapi_Cmd rfl (by first | exact ints_length _ _ | exact rowsA_length _ _ | exact Cms_len _ | exact mapLen _ | rfl))) ?_
      refine ro rfl rfl (OpOk.step (ok_binOp rfl ti_int rfl)) ?_
      refine ro_case rfl rfl (OpOk.step (ok_moveb (.inl rfl) rfl)) (fun hb => ?_) (fun hb => ?_)
      · (try simp only [decide_eq_true_eq, decide_eq_false_iff_not, beq_iff_eq, beq_eq_false_iff_ne, bne_iff_ne, bne_eq_false_iff_eq, ne_eq, Bool.not_eq_true', Bool.not_eq_false'] at hb)
        refine ro_skip rfl rfl ?_
        refine ro_skip rfl rfl ?_
        refine ro_skip rfl rfl ?_
        refine ro_skip rfl rfl ?_
        refine ro_skip rfl rfl ?_
        refine ro_skip rfl rfl ?_
        refine ro_skip rfl rfl ?_
        refine ro_skip rfl rfl ?_
        refine ro rfl rfl (OpOk.step (ok_pickb (t := true) (d := true) rfl rfl rfl)) ?_
        refine ro rfl rfl (OpOk.step (ok_moveb (c := true) (.inr rfl) rfl)) ?_
        refine ro_nil ?_
        refine keepK hK11 [4] (by dsimp) (by dsimp) ?_
        refine T.ret (hQ _ _ _ rfl ?_).1 -- ret 2
        first
          | (rw [decide_eq_false (by unfold FewC; first | omega | (intro h; simp_all; done))]; exact TEnt.fin [] (by decide) (by simp) rfl ⟨rfl, trivial⟩)
          | (rw [decide_eq_true (by unfold FewC; refine ⟨by omega, hfew (by omega), fun h => ?_⟩; first | (exfalso; omega) | (simp_all; done))]; exact TEnt.fin [] (by decide) (by simp) rfl ⟨rfl, trivial⟩)
          | (have e : (!decide (FewC c l)) = !decide (smallC c) := (by
               have h1 := hfew (by omega)
               congr 1
               refine decide_eq_decide.2 ⟨fun h => h.2.2 (by omega), fun h => ⟨by omega, h1, fun _ => h⟩⟩)
             rw [e]; exact TEnt.fin [] (by decide) (by simp) rfl ⟨rfl, trivial⟩)
      · (try simp only [decide_eq_true_eq, decide_eq_false_iff_not, beq_iff_eq, beq_eq_false_iff_ne, bne_iff_ne, bne_eq_false_iff_eq, ne_eq, Bool.not_eq_true', Bool.not_eq_false'] at hb)
        refine ro rfl rfl (OpOk.step (ok_load rfl ti_api_Conf rfl rfl)) ?_
        refine ro rfl rfl (ok_call rfl rfl rfl ((rcheck_ok c).plain (by simp [renL, AV.ren, CC_take, CC_ren]) rfl)) ?_
        refine ro rfl rfl (OpOk.step (ok_binOp rfl ti_int rfl)) ?_
        refine ro_case rfl rfl (OpOk.step (ok_moveb (.inl rfl) rfl)) (fun hb => ?_) (fun hb => ?_)
        · (try simp only [decide_eq_true_eq, decide_eq_false_iff_not, beq_iff_eq, beq_eq_false_iff_ne, bne_iff_ne, bne_eq_false_iff_eq, ne_eq, Bool.not_eq_true', Bool.not_eq_false'] at hb)
          refine ro rfl rfl (OpOk.step (ok_load rfl ti_api_Conf rfl rfl)) ?_
          refine ro rfl rfl (ok_call rfl rfl rfl ((small_ok c).plain (by simp [renL, AV.ren, CC_take, CC_ren]) rfl)) ?_
          refine ro rfl rfl (OpOk.step (ok_unOp rfl rfl)) ?_
          refine ro rfl rfl (OpOk.step (ok_pick rfl rfl)) ?_
          refine ro rfl rfl (OpOk.step (ok_pick rfl rfl)) ?_
          refine ro rfl rfl (OpOk.step (ok_move (.inr rfl))) ?_
          refine ro_nil ?_
          refine keepK hK11 [4] (by dsimp) (by dsimp) ?_
          refine T.ret (hQ _ _ _ rfl ?_).1 -- ret 3
          first
            | (rw [decide_eq_false (by unfold FewC; first | omega | (intro h; simp_all; done))]; exact TEnt.fin [] (by decide) (by simp) rfl ⟨rfl, trivial⟩)
            | (rw [decide_eq_true (by unfold FewC; refine ⟨by omega, hfew (by omega), fun h => ?_⟩; first | (exfalso; omega) | (simp_all; done))]; exact TEnt.fin [] (by decide) (by simp) rfl ⟨rfl, trivial⟩)
            | (have e : (!decide (FewC c l)) = !decide (smallC c) := (by
                 have h1 := hfew (by omega)
                 congr 1
                 refine decide_eq_decide.2 ⟨fun h => h.2.2 (by omega), fun h => ⟨by omega, h1, fun _ => h⟩⟩)
               rw [e]; exact TEnt.fin [] (by decide) (by simp) rfl ⟨rfl, trivial⟩)
        · (try simp only [decide_eq_true_eq, decide_eq_false_iff_not, beq_iff_eq, beq_eq_false_iff_ne, bne_iff_ne, bne_eq_false_iff_eq, ne_eq, Bool.not_eq_true', Bool.not_eq_false'] at hb)
          refine ro_skip rfl rfl ?_
          refine ro_skip rfl rfl ?_
          refine ro_skip rfl rfl ?_
          refine ro rfl rfl (OpOk.step (ok_pickb (t := false) (d := false) rfl rfl rfl)) ?_
          refine ro rfl rfl (OpOk.step (ok_pickb (t := false) (d := false) rfl rfl rfl)) ?_
          refine ro rfl rfl (OpOk.step (ok_moveb (c := false) (.inr rfl) rfl)) ?_
          refine ro_nil ?_
          refine keepK hK11 [4] (by dsimp) (by dsimp) ?_
          refine T.ret (hQ _ _ _ rfl ?_).1 -- ret 4
          first
            | (rw [decide_eq_false (by unfold FewC; first | omega | (intro h; simp_all; done))]; exact TEnt.fin [] (by decide) (by simp) rfl ⟨rfl, trivial⟩)
            | (rw [decide_eq_true (by unfold FewC; refine ⟨by omega, hfew (by omega), fun h => ?_⟩; first | (exfalso; omega) | (simp_all; done))]; exact TEnt.fin [] (by decide) (by simp) rfl ⟨rfl, trivial⟩)
            | (have e : (!decide (FewC c l)) = !decide (smallC c) := (by
                 have h1 := hfew (by omega)
                 congr 1
                 refine decide_eq_decide.2 ⟨fun h => h.2.2 (by omega), fun h => ⟨by omega, h1, fun _ => h⟩⟩)
               rw [e]; exact TEnt.fin [] (by decide) (by simp) rfl ⟨rfl, trivial⟩)
  · (try simp only [decide_eq_true_eq, decide_eq_false_iff_not, beq_iff_eq, beq_eq_false_iff_ne, bne_iff_ne, bne_eq_false_iff_eq, ne_eq, Bool.not_eq_true', Bool.not_eq_false'] at hb)
    have hfew : l.length ≤ 40 → dsum l ≤ 20000 := by
      intro h
      have hin : i = l.length := by first | omega | (simp at hb; omega)
      rw [hin, List.take_length] at hds
      exact hds
    refine ro_skip rfl rfl ?_
    refine ro_skip rfl rfl ?_
    refine ro rfl rfl (OpOk.step (ok_pickb (t := false) (d := false) rfl rfl rfl)) ?_
    refine ro_nil ?_
    refine keepK hK6 [1, 2, 5, 6, 14] (by dsimp) (by dsimp) ?_
    refine T.cond_false rfl ?_
    refine T.exit ?_
    refine keepK hK3 [1, 2] (by dsimp) (by dsimp) ?_
    refine T.seq fun K12 hK12 => ?_
    refine T.region ?_ -- region 8
    refine ro rfl rfl (OpOk.step (ok_move (.inl rfl))) ?_
    refine ro rfl rfl (OpOk.step (ok_len' rfl rfl ti_Lapi_Cmd rfl (by first | exact ints_length _ _ | exact rowsA_length _ _ | exact Cms_len _ | exact mapLen _ | rfl))) ?_
    refine ro rfl rfl (OpOk.step (ok_binOp rfl ti_int rfl)) ?_
    refine ro_case rfl rfl (OpOk.step (ok_moveb (.inl rfl) rfl)) (fun hb => ?_) (fun hb => ?_)
    · (try simp only [decide_eq_true_eq, decide_eq_false_iff_not, beq_iff_eq, beq_eq_false_iff_ne, bne_iff_ne, bne_eq_false_iff_eq, ne_eq, Bool.not_eq_true', Bool.not_eq_false'] at hb)
      refine ro_skip rfl rfl ?_
      refine ro_skip rfl rfl ?_
      refine ro_skip rfl rfl ?_
      refine ro_skip rfl rfl ?_
      refine ro_skip rfl rfl ?_
      refine ro_skip rfl rfl ?_
      refine ro_skip rfl rfl ?_
      refine ro_skip rfl rfl ?_
      refine ro rfl rfl (OpOk.step (ok_pickb (t := true) (d := true) rfl rfl rfl)) ?_
      refine ro rfl rfl (OpOk.step (ok_moveb (c := true) (.inr rfl) rfl)) ?_
      refine ro_nil ?_
      refine keepK hK12 [4] (by dsimp) (by dsimp) ?_
      refine T.ret (hQ _ _ _ rfl ?_).1 -- ret 5
      first
        | (rw [decide_eq_false (by unfold FewC; first | omega | (intro h; simp_all; done))]; exact TEnt.fin [] (by decide) (by simp) rfl ⟨rfl, trivial⟩)
        | (rw [decide_eq_true (by unfold FewC; refine ⟨by omega, hfew (by omega), fun h => ?_⟩; first | (exfalso; omega) | (simp_all; done))]; exact TEnt.fin [] (by decide) (by simp) rfl ⟨rfl, trivial⟩)
        | (have e : (!decide (FewC c l)) = !decide (smallC c) := (by
             have h1 := hfew (by omega)
             congr 1
             refine decide_eq_decide.2 ⟨fun h => h.2.2 (by omega), fun h => ⟨by omega, h1, fun _ => h⟩⟩)
           rw [e]; exact TEnt.fin [] (by decide) (by simp) rfl ⟨rfl, trivial⟩)
    · (try simp only [decide_eq_true_eq, decide_eq_false_iff_not, beq_iff_eq, beq_eq_false_iff_ne, bne_iff_ne, bne_eq_false_iff_eq, ne_eq, Bool.not_eq_true', Bool.not_eq_false'] at hb)
      refine ro rfl rfl (OpOk.step (ok_load rfl ti_api_Conf rfl rfl)) ?_
      refine ro rfl rfl (ok_call rfl rfl rfl ((rcheck_ok c).plain (by simp [renL, AV.ren, CC_take, CC_ren]) rfl)) ?_
      refine ro rfl rfl (OpOk.step (ok_binOp rfl ti_int rfl)) ?_
      refine ro_case rfl rfl (OpOk.step (ok_moveb (.inl rfl) rfl)) (fun hb => ?_) (fun hb => ?_)
      · (try simp only [decide_eq_true_eq, decide_eq_false_iff_not, beq_iff_eq, beq_eq_false_iff_ne, bne_iff_ne, bne_eq_false_iff_eq, ne_eq, Bool.not_eq_true', Bool.not_eq_false'] at hb)
        refine ro rfl rfl (OpOk.step (ok_load rfl ti_api_Conf rfl rfl)) ?_
        refine ro rfl rfl (ok_call rfl rfl rfl ((small_ok c).plain (by simp [renL, AV.ren, CC_take, CC_ren]) rfl)) ?_
        refine ro rfl rfl (OpOk.step (ok_unOp rfl rfl)) ?_
        refine ro rfl rfl (OpOk.step (ok_pick rfl rfl)) ?_
        refine ro rfl rfl (OpOk.step (ok_pick rfl rfl)) ?_
        refine ro rfl rfl (OpOk.step (ok_move (.inr rfl))) ?_
        refine ro_nil ?_
        refine keepK hK12 [4] (by dsimp) (by dsimp) ?_
        refine T.ret (hQ _ _ _ rfl ?_).1 -- ret 6
        first
          | (rw [decide_eq_false (by unfold FewC; first | omega | (intro h; simp_all; done))]; exact TEnt.fin [] (by decide) (by simp) rfl ⟨rfl, trivial⟩)
          | (rw [decide_eq_true (by unfold FewC; refine ⟨by omega, hfew (by omega), fun h => ?_⟩; first | (exfalso; omega) | (simp_all; done))]; exact TEnt.fin [] (by decide) (by simp) rfl ⟨rfl, trivial⟩)
          | (have e : (!decide (FewC c l)) = !decide (smallC c) := (by
               have h1 := hfew (by omega)
               congr 1
               refine decide_eq_decide.2 ⟨fun h => h.2.2 (by omega), fun h => ⟨by omega, h1, fun _ => h⟩⟩)
             rw [e]; exact TEnt.fin [] (by decide) (by simp) rfl ⟨rfl, trivial⟩)
      · (try simp only [decide_eq_true_eq, decide_eq_false_iff_not, beq_iff_eq, beq_eq_false_iff_ne, bne_iff_ne, bne_eq_false_iff_eq, ne_eq, Bool.not_eq_true', Bool.not_eq_false'] at hb)
        refine ro_skip rfl rfl ?_
        refine ro_skip rfl rfl ?_
        refine ro_skip rfl rfl ?_
        refine ro rfl rfl (OpOk.step (ok_pickb (t := false) (d := false) rfl rfl rfl)) ?_
        refine ro rfl rfl (OpOk.step (ok_pickb (t := false) (d := false) rfl rfl rfl)) ?_
        refine ro rfl rfl (OpOk.step (ok_moveb (c := false) (.inr rfl) rfl)) ?_
        refine ro_nil ?_
        refine keepK hK12 [4] (by dsimp) (by dsimp) ?_
        refine T.ret (hQ _ _ _ rfl ?_).1 -- ret 7
        first
          | (rw [decide_eq_false (by unfold FewC; first | omega | (intro h; simp_all; done))]; exact TEnt.fin [] (by decide) (by simp) rfl ⟨rfl, trivial⟩)
          | (rw [decide_eq_true (by unfold FewC; refine ⟨by omega, hfew (by omega), fun h => ?_⟩; first | (exfalso; omega) | (simp_all; done))]; exact TEnt.fin [] (by decide) (by simp) rfl ⟨rfl, trivial⟩)
          | (have e : (!decide (FewC c l)) = !decide (smallC c) := (by
               have h1 := hfew (by omega)
               congr 1
               refine decide_eq_decide.2 ⟨fun h => h.2.2 (by omega), fun h => ⟨by omega, h1, fun _ => h⟩⟩)
             rw [e]; exact TEnt.fin [] (by decide) (by simp) rfl ⟨rfl, trivial⟩)
def cfPlain : Cf := ⟨7, 4, 2, 64, 24, 3, 1, 3, 2, 3, 7⟩
def cm0 : Cm := ⟨0, 0, 0, 0, List.replicate 64 0, false⟩
def cm1 : Cm := ⟨0, 0, 1, 0, List.replicate 64 0, false⟩
theorem merge_live : mergeC cfPlain [cm0, cm1] = [bothC cm0 cm1] := by
  have h : GoesC cfPlain cm0 cm1 := by decide +kernel
  show mstep cfPlain [cm0] cm1 = _
  rw [mstep_snoc (k := 0) (y := cm0) rfl rfl, if_pos h]; rfl
theorem live34_ok : CSpec Try.prog 23 [] [] [] (.b true) := by
  refine CSpec.body Try.func23 rfl rfl rfl rfl rfl fun Q hQ => ?_
  refine T.seq fun K1 hK1 => ?_
  refine T.region ?_ -- region 0
  refine ro rfl rfl (OpOk.step (ok_moveb (c := false) (.inr rfl) rfl)) ?_
  refine ro_nil ?_
  refine keepK hK1 [] (by dsimp) (by dsimp) ?_
  refine T.seq fun K2 hK2 => ?_
  refine T.region ?_ -- region 1
  refine ro rfl rfl (OpOk.step (((ok_makeSlice (n := 64) rfl ti_Luint8 rfl ti_uint8 rfl rfl (by omega) (by omega) (by decide) rfl (by decide)).frz rfl rfl).eq (x' := .fz 1 (ints .u8 (List.replicate 64 0))) (H'' := [some ⟨1, false, ints .u8 (List.replicate 64 0)⟩]) rfl rfl)) ?_
  refine ro rfl rfl (OpOk.step (ok_move (.inr rfl))) ?_
  refine ro_nil ?_
  refine keepK hK2 [1] (by dsimp) (by dsimp) ?_
  refine T.seq fun K3 hK3 => ?_
  refine T.region ?_ -- region 2
  refine ro rfl rfl (ok_call rfl rfl rfl (plain_ok.plain rfl rfl)) ?_
  refine ro rfl rfl (OpOk.step (ok_move (.inl rfl))) ?_
  refine ro rfl rfl (OpOk.step ((ok_build rfl ti_api_Cmd rfl).eq (x' := .agg (CmdC cm0)) rfl rfl)) ?_
  refine ro rfl rfl (OpOk.step (ok_move (.inl rfl))) ?_
  refine ro rfl rfl (OpOk.step ((ok_build rfl ti_api_Cmd rfl).eq (x' := .agg (CmdC cm1)) rfl rfl)) ?_
  refine ro rfl rfl (OpOk.step (((ok_buildSlice (n := 2) (ps := #[(0, .tmp 6), (1, .tmp 8)]) rfl ti_Lapi_Cmd rfl ti_api_Cmd (by decide) rfl rfl (by decide) rfl rfl rfl).frz rfl rfl).eq (x' := .fz 6 (Cms [cm0, cm1])) (H'' := [some ⟨1, false, ints .u8 (List.replicate 64 0)⟩, some ⟨6, false, Cms [cm0, cm1]⟩]) rfl rfl)) ?_
  refine ro rfl rfl (ok_call rfl rfl rfl (((qmerge_frz cfPlain [cm0, cm1] (by decide) (by decide)).plain (by simp [renL, AV.ren, CC_ren, Cms_ren]; rfl) (by simp [AV.ren, Cms_ren])).eq (x' := .fz 6 (Cms [bothC cm0 cm1])) (H'' := [some ⟨1, false, ints .u8 (List.replicate 64 0)⟩, some ⟨6, false, Cms [cm0, cm1]⟩]) (by rw [merge_live]) rfl)) ?_
  refine ro rfl rfl (OpOk.step (ok_move (.inr rfl))) ?_
  refine ro_nil ?_
  refine keepK hK3 [2] (by dsimp) (by dsimp) ?_
  refine T.seq fun K4 hK4 => ?_
  refine T.region ?_ -- region 3
  refine ro rfl rfl (OpOk.step (ok_move (.inl rfl))) ?_
  refine ro rfl rfl (OpOk.step (ok_len' rfl rfl ti_Lapi_Cmd rfl (by first | exact ints_length _ _ | exact rowsA_length _ _ | exact Cms_len _ | exact mapLen _ | rfl))) ?_
  refine ro rfl rfl (OpOk.step (ok_binOp rfl ti_int rfl)) ?_
  refine ro rfl rfl (OpOk.step (OpOk.bool (d := true) (ok_moveb (.inl rfl) rfl) (by decide))) ?_
  refine ro rfl rfl (OpOk.step (ok_move (.inl rfl))) ?_
  refine ro rfl rfl (OpOk.step (by exact ok_index_map (F := CmdC) (k := 0) rfl ti_Lapi_Cmd rfl ti_api_Cmd rfl rfl rfl (y := bothC cm0 cm1) rfl (by simp [CmdC]))) ?_
  refine ro rfl rfl (OpOk.step (ok_fieldAddr rfl ti_api_Cmd rfl rfl ti_Luint8 (by decide) rfl)) ?_
  refine ro rfl rfl (OpOk.step (ok_load rfl ti_Luint8 rfl rfl)) ?_
  refine ro rfl rfl (OpOk.step (ok_len' rfl rfl ti_Luint8 rfl (by first | exact ints_length _ _ | exact rowsA_length _ _ | exact Cms_len _ | exact mapLen _ | rfl))) ?_
  refine ro rfl rfl (OpOk.step (OpOk.bool (d := true) (ok_binOp rfl ti_int rfl) (by decide))) ?_
  refine ro rfl rfl (OpOk.step (ok_pickb (t := true) (d := true) rfl rfl rfl)) ?_
  refine ro rfl rfl (OpOk.step (ok_moveb (c := true) (.inr rfl) rfl)) ?_
  refine ro_nil ?_
  refine keepK hK4 [0] (by dsimp) (by dsimp) ?_
  refine T.ret (hQ _ _ _ rfl ?_).1
  exact TEnt.fin [] (by decide) (by simp) rfl ⟨rfl, trivial⟩ -- ?? ret 1

set_option maxHeartbeats 1000000 in
theorem queueMerges_ok (c : Cf) (l : List Cm) (hl : l.length ≤ 140737488355328) (hd : ∀ x ∈ l, x.d.length ≤ 140737488355328) : CSpec Try.prog 5 [] [.agg (CC c), .fz 6 (Cms l)] [] (.b true) := by
  refine CSpec.body Try.func5 rfl rfl rfl rfl rfl fun Q hQ => ?_
  refine T.seq fun K1 hK1 => ?_
  refine T.region ?_ -- region 0
  refine ro rfl rfl (OpOk.step (ok_box (n := 11) rfl rfl (by decide))) ?_
  refine ro rfl rfl (OpOk.step (ok_moveb (c := false) (.inr rfl) rfl)) ?_
  refine ro_nil ?_
  refine keepK hK1 [1, 2] (by dsimp) (by dsimp) ?_
  refine T.seq fun K2 hK2 => ?_
  refine T.seq fun K3 hK3 => ?_
  refine T.region ?_ -- region 1
  refine ro rfl rfl (OpOk.step (ok_load rfl ti_api_Conf rfl rfl)) ?_
  refine ro rfl rfl (OpOk.step (ok_move (.inl rfl))) ?_
  refine ro rfl rfl (ok_call rfl rfl rfl ((much_ok c l hl hd).plain (by simp [renL, AV.ren, CC_take, CC_ren, Cms_ren]) rfl)) ?_
  refine ro_nil ?_
  refine keepK hK3 [1, 2, 8] (by dsimp) (by dsimp) ?_
  refine T.cond rfl (fun hc => ?_) (fun hc => ?_) -- cond 1
  · (try simp only [decide_eq_true_eq, decide_eq_false_iff_not, beq_iff_eq, beq_eq_false_iff_ne, bne_iff_ne, bne_eq_false_iff_eq, ne_eq, Bool.not_eq_true', Bool.not_eq_false'] at hc)
    refine T.seq fun K4 hK4 => ?_
    refine T.region ?_ -- region 2
    refine ro rfl rfl (ok_call rfl rfl rfl (live34_ok.plain rfl rfl)) ?_
    refine ro rfl rfl (OpOk.step (ok_move (.inr rfl))) ?_
    refine ro_nil ?_
    refine keepK hK4 [4] (by dsimp) (by dsimp) ?_
    refine T.ret (hQ _ _ _ rfl ?_).1 -- ret 1
    exact TEnt.fin [] (by decide) (by simp) rfl ⟨rfl, trivial⟩
  · (try simp only [decide_eq_true_eq, decide_eq_false_iff_not, beq_iff_eq, beq_eq_false_iff_ne, bne_iff_ne, bne_eq_false_iff_eq, ne_eq, Bool.not_eq_true', Bool.not_eq_false'] at hc)
    have hfew : FewC c l := by simpa using hc
    obtain ⟨hl40, hd2, hsm⟩ := hfew
    refine T.skip ?_
    refine keepK hK2 [1, 2] (by dsimp) (by dsimp) ?_
    refine T.seq fun K5 hK5 => ?_
    refine T.seq fun K6 hK6 => ?_
    refine T.region ?_ -- region 3
    refine ro rfl rfl (OpOk.step (ok_move (.inr rfl))) ?_
    refine ro_nil ?_
    refine keepK hK6 [1, 2, 5] (by dsimp) (by dsimp) ?_
    refine T.block ?_
    refine T.loopI (ι := Nat) (fun i => 1 ≤ i) (fun i => l.length - i) (fun i => ([(1, .fz 6 (Cms l)), (2, .ref 0 0 0), (5, .int i)], [some (CB c)])) 1 (Nat.le_refl _) (TEnt.toH rfl ⟨rfl, rfl, rfl, trivial⟩) (fun i hi => ?_) -- loop 1
    refine T.seq fun K7 hK7 => ?_
    refine T.seq fun K8 hK8 => ?_
    refine T.region ?_ -- region 4
    refine ro rfl rfl (OpOk.step (ok_move (.inl rfl))) ?_
    refine ro rfl rfl (OpOk.step (ok_move (.inl rfl))) ?_
    refine ro rfl rfl (OpOk.step (ok_len' rfl rfl ti_Lapi_Cmd rfl (by first | exact ints_length _ _ | exact rowsA_length _ _ | exact Cms_len _ | exact mapLen _ | rfl))) ?_
    refine ro rfl rfl (OpOk.step (ok_binOp rfl ti_int rfl)) ?_
    refine ro_nil ?_
    refine keepK hK8 [1, 2, 5, 13] (by dsimp) (by dsimp) ?_
    refine T.cond rfl (fun hc => ?_) (fun hc => ?_) -- cond 2
    · (try simp only [decide_eq_true_eq, decide_eq_false_iff_not, beq_iff_eq, beq_eq_false_iff_ne, bne_iff_ne, bne_eq_false_iff_eq, ne_eq, Bool.not_eq_true', Bool.not_eq_false'] at hc)
      have hil : i < l.length := by first | omega | (simp at hc; omega)
      obtain ⟨x, hx⟩ : ∃ x, l[i]? = some x := ⟨_, List.getElem?_eq_getElem hil⟩
      obtain ⟨k, rfl⟩ : ∃ k, i = k + 1 := ⟨i - 1, by omega⟩
      obtain ⟨y, hy⟩ : ∃ y, l[k]? = some y := ⟨_, List.getElem?_eq_getElem (by omega)⟩
      have hdx := dsum_get hx
      have hdy := dsum_get hy
      refine T.skip ?_
      refine keepK hK7 [1, 2, 5] (by dsimp) (by dsimp) ?_
      refine T.seq fun K9 hK9 => ?_
      refine T.block ?_
      refine T.seq fun K10 hK10 => ?_
      refine T.drawH mixed [] ?_ -- region 6
      refine any_take 0 rfl (by first | rfl | decide +kernel) rfl (HeldL.refl _) (fun H' hH => OpOk.step (ok_load rfl ti_api_Conf (locA_held hH rfl) rfl)) ?_
      refine any_take 1 rfl (by first | rfl | decide +kernel) rfl (HeldL.refl _) (fun H' hH => OpOk.step (ok_move (.inl rfl))) ?_
      refine any_take 2 rfl (by first | rfl | decide +kernel) rfl (HeldL.refl _) (fun H' hH => OpOk.step (ok_move (.inl rfl))) ?_
      refine any_take 3 rfl (by first | rfl | decide +kernel) rfl (HeldL.refl _) (fun H' hH => OpOk.step (ok_sub64 rfl ti_int rfl rfl (by omega) (by omega))) ?_
      refine any_take 4 rfl (by first | rfl | decide +kernel) rfl (HeldL.refl _) (fun H' hH => OpOk.step (by exact ok_index_map (F := CmdC) (k := k) rfl ti_Lapi_Cmd rfl ti_api_Cmd rfl rfl (by omega) hy (by simp [CmdC]))) ?_
      refine any_take 5 rfl (by first | rfl | decide +kernel) rfl (HeldL.refl _) (fun H' hH => OpOk.step ((ok_load rfl ti_api_Cmd (locA_held hH rfl) rfl).eq (x' := .agg (CmdC y)) rfl rfl)) ?_
      refine any_take 6 rfl (by first | rfl | decide +kernel) rfl (HeldL.refl _) (fun H' hH => OpOk.step (ok_move (.inl rfl))) ?_
      refine any_take 7 rfl (by first | rfl | decide +kernel) rfl (HeldL.refl _) (fun H' hH => OpOk.step (ok_move (.inl rfl))) ?_
      refine any_take 8 rfl (by first | rfl | decide +kernel) rfl (HeldL.refl _) (fun H' hH => OpOk.step (by exact ok_index_map (F := CmdC) (k := k + 1) rfl ti_Lapi_Cmd rfl ti_api_Cmd rfl rfl rfl hx (by simp [CmdC]))) ?_
      refine any_take 9 rfl (by first | rfl | decide +kernel) rfl (HeldL.refl _) (fun H' hH => OpOk.step ((ok_load rfl ti_api_Cmd (locA_held hH rfl) rfl).eq (x' := .agg (CmdC x)) rfl rfl)) ?_
      refine any_take 11 rfl (by first | rfl | decide +kernel) rfl (HeldL.refl _) (fun H' hH => OpOk.step (ok_load rfl ti_api_Conf (locA_held hH rfl) rfl)) ?_
      refine any_take 12 rfl (by first | rfl | decide +kernel) rfl (HeldL.refl _) (fun H' hH => OpOk.step (ok_move (.inl rfl))) ?_
      refine any_take 13 rfl (by first | rfl | decide +kernel) rfl (HeldL.refl _) (fun H' hH => OpOk.step (ok_move (.inl rfl))) ?_
      refine any_take 14 rfl (by first | rfl | decide +kernel) rfl (HeldL.refl _) (fun H' hH => OpOk.step (ok_sub64 rfl ti_int rfl rfl (by omega) (by omega))) ?_
      refine any_take 15 rfl (by first | rfl | decide +kernel) rfl (HeldL.refl _) (fun H' hH => OpOk.step (by exact ok_index_map (F := CmdC) (k := k) rfl ti_Lapi_Cmd rfl ti_api_Cmd rfl rfl (by omega) hy (by simp [CmdC]))) ?_
      refine any_take 16 rfl (by first | rfl | decide +kernel) rfl (HeldL.refl _) (fun H' hH => OpOk.step ((ok_load rfl ti_api_Cmd (locA_held hH rfl) rfl).eq (x' := .agg (CmdC y)) rfl rfl)) ?_
      refine any_take 17 rfl (by first | rfl | decide +kernel) rfl (HeldL.refl _) (fun H' hH => OpOk.step (ok_move (.inl rfl))) ?_
      refine any_take 18 rfl (by first | rfl | decide +kernel) rfl (HeldL.refl _) (fun H' hH => OpOk.step (ok_move (.inl rfl))) ?_
      refine any_take 19 rfl (by first | rfl | decide +kernel) rfl (HeldL.refl _) (fun H' hH => OpOk.step (by exact ok_index_map (F := CmdC) (k := k + 1) rfl ti_Lapi_Cmd rfl ti_api_Cmd rfl rfl rfl hx (by simp [CmdC]))) ?_
      refine any_take 20 rfl (by first | rfl | decide +kernel) rfl (HeldL.refl _) (fun H' hH => OpOk.step ((ok_load rfl ti_api_Cmd (locA_held hH rfl) rfl).eq (x' := .agg (CmdC x)) rfl rfl)) ?_
      refine any_one 10 rfl (by first | rfl | decide +kernel) rfl rfl (ok_call rfl rfl rfl ((qgoes_ok c y x (by omega) (by omega)).plain (by simp [renL, AV.ren, CC_take, CC_ren, CmdC_ren]) rfl)) (.inr (by first | (simp [HeldL]; done) | (simp only [HeldL, List.map_cons, List.map_nil, List.cons_append, List.nil_append, List.set_cons_zero, List.set_cons_succ]; (repeat' first | trivial | rfl | constructor)))) ?_
      refine any_one 21 rfl (by first | rfl | decide +kernel) rfl rfl (ok_call rfl rfl rfl ((rgoes_ok c y x (by omega) (by omega)).plain (by simp [renL, AV.ren, CC_take, CC_ren, CmdC_ren]) rfl)) (.inr (by first | (simp [HeldL]; done) | (simp only [HeldL, List.map_cons, List.map_nil, List.cons_append, List.nil_append, List.set_cons_zero, List.set_cons_succ]; (repeat' first | trivial | rfl | constructor)))) ?_
      refine any_take 22 rfl (by first | rfl | decide +kernel) rfl (by first | exact HeldL.refl _ | exact HeldL.append _ _ | simp [HeldL]) (fun H' hH => OpOk.step (ok_binOp rfl ti_bool rfl)) ?_
      refine any_done rfl ?_
      refine keepK hK10 [1, 2, 5, 38] (by dsimp) (by dsimp) ?_
      refine T.cond rfl (fun hc => ?_) (fun hc => ?_) -- cond 3
      · (try simp only [decide_eq_true_eq, decide_eq_false_iff_not, beq_iff_eq, beq_eq_false_iff_ne, bne_iff_ne, bne_eq_false_iff_eq, ne_eq, Bool.not_eq_true', Bool.not_eq_false'] at hc)
        exact absurd hc (by simp)
      · (try simp only [decide_eq_true_eq, decide_eq_false_iff_not, beq_iff_eq, beq_eq_false_iff_ne, bne_iff_ne, bne_eq_false_iff_eq, ne_eq, Bool.not_eq_true', Bool.not_eq_false'] at hc)
        refine T.skip ?_
        refine keepK hK9 [1, 2, 5] (by dsimp) (by dsimp) ?_
        refine T.region ?_ -- region 5
        refine ro rfl rfl (OpOk.step (ok_move (.inl rfl))) ?_
        refine ro rfl rfl (OpOk.step (ok_add64 rfl ti_int rfl rfl (by omega) (by omega))) ?_
        refine ro rfl rfl (OpOk.step (ok_move (.inr rfl))) ?_
        refine ro_nil ?_
        exact ⟨k + 2, by omega, by omega, TEnt.toH rfl ⟨rfl, rfl, rfl, trivial⟩⟩
    · (try simp only [decide_eq_true_eq, decide_eq_false_iff_not, beq_iff_eq, beq_eq_false_iff_ne, bne_iff_ne, bne_eq_false_iff_eq, ne_eq, Bool.not_eq_true', Bool.not_eq_false'] at hc)
      refine T.exit ?_
      refine keepK hK5 [1, 2] (by dsimp) (by dsimp) ?_
      refine T.seq fun K11 hK11 => ?_
      have hml : (mergeC c l).length ≤ 1000 := by
        have := (mergeC_dsum c l l.length (Nat.le_refl _)).2
        rw [List.take_length] at this
        omega
      refine T.drawH mixed [] ?_ -- region 8
      refine any_take 0 rfl (by first | rfl | decide +kernel) rfl (HeldL.refl _) (fun H' hH => OpOk.step (ok_load rfl ti_api_Conf (locA_held hH rfl) rfl)) ?_
      refine any_take 1 rfl (by first | rfl | decide +kernel) rfl (HeldL.refl _) (fun H' hH => OpOk.step (ok_move (.inl rfl))) ?_
      refine any_take 3 rfl (by first | rfl | decide +kernel) rfl (HeldL.refl _) (fun H' hH => OpOk.step (ok_load rfl ti_api_Conf (locA_held hH rfl) rfl)) ?_
      refine any_take 4 rfl (by first | rfl | decide +kernel) rfl (HeldL.refl _) (fun H' hH => OpOk.step (ok_move (.inl rfl))) ?_
      refine any_one 2 rfl (by first | rfl | decide +kernel) rfl rfl (ok_call rfl rfl rfl ((qmerge_frz c l (by omega) (by omega)).plain (by simp [renL, AV.ren, CC_take, CC_ren, Cms_ren]) (by simp [AV.ren, Cms_ren]))) (.inr (by first | (simp [HeldL]; done) | (simp only [HeldL, List.map_cons, List.map_nil, List.cons_append, List.nil_append, List.set_cons_zero, List.set_cons_succ]; (repeat' first | trivial | rfl | constructor)))) ?_
      refine any_one 5 rfl (by first | rfl | decide +kernel) rfl rfl (ok_call rfl rfl rfl ((rmerge_frz c l (by omega) (by omega)).plain (by simp [renL, AV.ren, CC_take, CC_ren, Cms_ren]) (by simp [AV.ren, Cms_ren]))) (.inr (by first | (simp [HeldL]; done) | (simp only [HeldL, List.map_cons, List.map_nil, List.cons_append, List.nil_append, List.set_cons_zero, List.set_cons_succ]; (repeat' first | trivial | rfl | constructor)))) ?_
      refine any_one 6 rfl (by first | rfl | decide +kernel) rfl rfl (ok_call rfl rfl rfl ((rqsame_ok (mergeC c l) hml).plain (by simp [renL, AV.ren, Cms_ren]) rfl)) (.inr (by first | (simp [HeldL]; done) | (simp only [HeldL, List.map_cons, List.map_nil, List.cons_append, List.nil_append, List.set_cons_zero, List.set_cons_succ]; (repeat' first | trivial | rfl | constructor)))) ?_
      refine any_take 7 rfl (by first | rfl | decide +kernel) rfl (by first | exact HeldL.refl _ | exact HeldL.append _ _ | simp [HeldL]) (fun H' hH => OpOk.step (OpOk.bool (d := true) (ok_moveb (.inl rfl) rfl) (rfl))) ?_
      refine any_one 8 rfl (by first | rfl | decide +kernel) rfl rfl (ok_call rfl rfl rfl (live34_ok.plain rfl rfl)) (.inr (by first | (simp [HeldL]; done) | (simp only [HeldL, List.map_cons, List.map_nil, List.cons_append, List.nil_append, List.set_cons_zero, List.set_cons_succ]; (repeat' first | trivial | rfl | constructor)))) ?_
      refine any_take 9 rfl (by first | rfl | decide +kernel) rfl (by first | exact HeldL.refl _ | exact HeldL.append _ _ | simp [HeldL]) (fun H' hH => OpOk.step (ok_pick rfl rfl)) ?_
      refine any_take 10 rfl (by first | rfl | decide +kernel) rfl (by first | exact HeldL.refl _ | exact HeldL.append _ _ | simp [HeldL]) (fun H' hH => OpOk.step (ok_move (.inr rfl))) ?_
      refine any_done rfl ?_
      refine keepK hK11 [4] (by dsimp) (by dsimp) ?_
      refine T.ret (hQ _ _ _ rfl ?_).1 -- ret 2
      exact TEnt.fin [] (by decide) (by simp) rfl ⟨rfl, trivial⟩
abbrev CmT := Int × Int × Int × Int × List Int × Bool
def cmOf (x : CmT) : Cm := ⟨x.1, x.2.1, x.2.2.1, x.2.2.2.1, x.2.2.2.2.1, x.2.2.2.2.2⟩
theorem cms_row (l : List CmT) : (l.map fun x => AV.agg (CmdC (cmOf x))) = Cms (l.map cmOf) := by simp [Cms]
theorem cms_hyp {l : List CmT} {p : Cm → Prop} (h : ∀ x ∈ l, p (cmOf x)) : ∀ x ∈ l.map cmOf, p x := by
  intro x hx
  obtain ⟨y, hy, rfl⟩ := List.mem_map.1 hx
  exact h y hy
theorem rowLen {l : List Int} (h : l.length * 1 ≤ 140737488351232 ∧ ∀ x ∈ l, (Lit.int .u8 x).wf = true) : l.length ≤ 140737488355328 := by omega
theorem rowBytes {l : List Int} (h : l.length * 1 ≤ 140737488351232 ∧ ∀ x ∈ l, (Lit.int .u8 x).wf = true) : Bytes l := bytes_of h.2
theorem queueMerges_row (c : Cf) (l : List CmT) (hl : l.length ≤ 140737488355328) (hd : ∀ x ∈ l, (cmOf x).d.length ≤ 140737488355328) : CSpec Try.prog 5 [] [.agg (CC c), .fz 6 (l.map fun x => .agg (CmdC (cmOf x)))] [] (.b true) := by
  rw [cms_row]
  exact queueMerges_ok c (l.map cmOf) (by simpa using hl) (cms_hyp hd)
end Go.Proofs.Ytknhemdpfdopaaa.AmF
