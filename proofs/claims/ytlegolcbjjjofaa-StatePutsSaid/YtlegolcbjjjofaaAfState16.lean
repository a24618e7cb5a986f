/- Walks over the abstract machine: states of the log: more than is asked; the first state. -/
import Derived.Test.YtlegolcbjjjofaaAfState9a
namespace Go.Proofs.Ytlegolcbjjjofaa.AmF
open Go Go.AM
set_option maxRecDepth 100000
set_option maxHeartbeats 4000000
set_option linter.unusedSimpArgs false
set_option linter.unusedVariables false
attribute [local simp] tkeep tget tput ev cav argsTM pickA normT putA splice AV.cells ints_length rowsA_length Prs_len Zns_len
def sumP (l : List Pr) : Int := (l.map fun p => (p.b.length : Int)).sum
def sumB (l : List Zn) : Int := (l.map fun z => sumP z.pars).sum
theorem sumP_snoc {l : List Pr} {i : Nat} {p : Pr} (h : l[i]? = some p) : sumP (l.take (i + 1)) = sumP (l.take i) + p.b.length := by
  unfold sumP
  rw [take_succ_get h]; simp [List.sum_append]
theorem sumB_snoc {l : List Zn} {i : Nat} {z : Zn} (h : l[i]? = some z) : sumB (l.take (i + 1)) = sumB (l.take i) + sumP z.pars := by
  unfold sumB
  rw [take_succ_get h]; simp [List.sum_append]
theorem sumP_bd : ∀ (l : List Pr), (∀ p ∈ l, p.b.length ≤ 140737488355328) → 0 ≤ sumP l ∧ sumP l ≤ 140737488355328 * l.length
  | [], _ => by simp [sumP]
  | p :: l, h => by
    have h1 := sumP_bd l fun q hq => h q (List.mem_cons_of_mem _ hq)
    have h2 := h p (List.mem_cons_self ..)
    have h3 : sumP (p :: l) = p.b.length + sumP l := by simp [sumP]
    rw [h3, List.length_cons]
    omega
/-- As far as it was looked, no more than is asked. -/
def FewZ (zs : List Zn) (i : Nat) : Prop := ∀ (k : Nat), k < i → ∀ z, zs[k]? = some z → z.pars.length ≤ 5 ∧ sumB (zs.take (k + 1)) ≤ 4000
def FewS (s : St) : Prop := FewZ s.zs (min s.zs.length 80) ∧ s.zs.length ≤ 70 ∧ s.st.length ≤ 30
noncomputable def muchB (s : St) : Bool := @decide (¬ FewS s) (Classical.propDecidable _)
theorem muchB_true {s : St} (h : ¬ FewS s) : muchB s = true := by unfold muchB; exact @decide_eq_true _ (Classical.propDecidable _) h
theorem muchB_false {s : St} (h : FewS s) : muchB s = false := by unfold muchB; exact @decide_eq_false _ (Classical.propDecidable _) (fun h' => h' h)
theorem FewS_of {s : St} (h : muchB s = false) : FewS s := by
  apply Classical.byContradiction
  intro h'
  rw [muchB_true h'] at h
  cases h
theorem FewS_pars {s : St} (h : FewS s) {z : Zn} (hz : z ∈ s.zs) : z.pars.length ≤ 5 := by
  obtain ⟨k, hk⟩ := List.mem_iff_getElem?.1 hz
  have hl := (List.getElem?_eq_some_iff.1 hk).1
  exact (h.1 k (by have := h.2.1; omega) z hk).1
theorem FewZ_step {zs : List Zn} {i : Nat} {z : Zn} (h : FewZ zs i) (hz : zs[i]? = some z) (h1 : z.pars.length ≤ 5) (h2 : sumB (zs.take (i + 1)) ≤ 4000) : FewZ zs (i + 1) := by
  intro k hk u hu
  rcases Nat.lt_or_ge k i with h3 | h3
  · exact h k h3 u hu
  · obtain rfl : k = i := by omega
    rw [hz] at hu
    cases hu
    exact ⟨h1, h2⟩
theorem FewS_no {s : St} {i : Nat} {z : Zn} (hz : s.zs[i]? = some z) (hi : i < 80) (h : 5 < z.pars.length ∨ 4000 < sumB (s.zs.take (i + 1))) : ¬ FewS s := by
  intro hf
  have hl := (List.getElem?_eq_some_iff.1 hz).1
  have := hf.1 i (by omega) z hz
  omega
theorem sumB_of {zs : List Zn} {i : Nat} (h : FewZ zs i) (hi : i ≤ zs.length) : sumB (zs.take i) ≤ 4000 := by
  cases i with
  | zero => simp [sumB]
  | succ i =>
    obtain ⟨z, hz⟩ : ∃ z, zs[i]? = some z := ⟨_, List.getElem?_eq_getElem (by omega)⟩
    exact (h i (Nat.lt_succ_self _) z hz).2
theorem sumB_nn : ∀ (l : List Zn), (∀ z ∈ l, ∀ p ∈ z.pars, p.b.length ≤ 140737488355328) → 0 ≤ sumB l
  | [], _ => by simp [sumB]
  | z :: l, h => by
    have h1 := sumB_nn l fun q hq => h q (List.mem_cons_of_mem _ hq)
    have h2 := (sumP_bd z.pars (h z (List.mem_cons_self ..))).1
    have h3 : sumB (z :: l) = sumP z.pars + sumB l := by simp [sumB]
    omega
theorem smuch_ok (s : St) (hn : s.st.length ≤ 140737488355328) (hm : s.zs.length ≤ 140737488355328) (hl : ∀ z ∈ s.zs, z.pars.length ≤ 140737488355328) (hpb : ∀ z ∈ s.zs, ∀ p ∈ z.pars, p.b.length ≤ 140737488355328) : CSpec Try.prog 25 [] [.agg (StC s)] [] (.b (muchB s)) := by
 refine CSpec.body Try.func25 rfl rfl rfl rfl rfl fun Q hQ => ?_
 refine T.seq fun K1 hK1 => ?_
 refine T.region ?_ -- region 0
 refine ro rfl rfl (OpOk.step (ok_box (n := 15) rfl rfl (by decide))) ?_
 refine ro rfl rfl (OpOk.step (ok_moveb (c := false) (.inr rfl) rfl)) ?_
 refine ro_nil ?_
 refine keepK hK1 [1] (by dsimp) (by dsimp) ?_
 refine T.seq fun K2 hK2 => ?_
 refine T.region ?_ -- region 1
 refine ro rfl rfl (OpOk.step (ok_move (.inr rfl))) ?_
 refine ro_nil ?_
 refine keepK hK2 [1, 3] (by dsimp) (by dsimp) ?_
 refine T.seq fun K3 hK3 => ?_
 refine T.seq fun K4 hK4 => ?_
 refine T.region ?_ -- region 2
 refine ro rfl rfl (OpOk.step (ok_move (.inr rfl))) ?_
 refine ro_nil ?_
 refine keepK hK4 [1, 3, 4] (by dsimp) (by dsimp) ?_
 refine T.block ?_
 refine T.loopI (ι := Nat) (fun i => i ≤ s.zs.length ∧ i ≤ 80 ∧ FewZ s.zs i) (fun i => s.zs.length - i) (fun i => ([(1, .ref 0 0 0), (3, .int (sumB (s.zs.take i))), (4, .int i)], [some (StB s)])) 0 ⟨Nat.zero_le _, Nat.zero_le _, fun k hk => absurd hk (Nat.not_lt_zero _)⟩ (TEnt.toH rfl ⟨rfl, rfl, rfl, trivial⟩) (fun i hi => ?_) -- loop 1
 obtain ⟨hil, hi80, hfew⟩ := hi
 have hsb := sumB_of hfew hil
 have hs0 := sumB_nn (s.zs.take i) fun z hz => hpb z (List.mem_of_mem_take hz)
 refine T.seq fun K5 hK5 => ?_
 refine T.seq fun K6 hK6 => ?_
 refine T.region ?_ -- region 3
 refine ro rfl rfl (OpOk.step (ok_move (.inl rfl))) ?_
 refine ro rfl rfl (OpOk.step (ok_fieldAddr rfl ti_api_State rfl rfl ti_Lapi_Zone (by decide) rfl)) ?_
 refine ro rfl rfl (OpOk.step (ok_load rfl ti_Lapi_Zone rfl rfl)) ?_
 refine ro rfl rfl (OpOk.step (ok_len' rfl rfl ti_Lapi_Zone rfl (by first | exact ints_length _ _ | exact rowsA_length _ _ | exact Cms_len _ | exact mapLen _ | rfl))) ?_
 refine ro rfl rfl (OpOk.step (ok_binOp rfl ti_int rfl)) ?_
 refine ro_case rfl rfl (OpOk.step (ok_moveb (.inl rfl) rfl)) (fun hb => ?_) (fun hb => ?_)
 ·(try simp only [dE] at hb)
  refine ro rfl rfl (OpOk.step (ok_move (.inl rfl))) ?_
  refine ro rfl rfl (OpOk.step (ok_binOp rfl ti_int rfl)) ?_
  refine ro rfl rfl (OpOk.step (ok_pick rfl rfl)) ?_
  refine ro_nil ?_
  refine keepK hK6 [1, 3, 4, 14] (by dsimp) (by dsimp) ?_
  refine T.cond rfl (fun hc => ?_) (fun hc => ?_) -- cond 1
  ·(try simp only [dE] at hc)
   refine T.skip ?_
   refine keepK hK5 [1, 3, 4] (by dsimp) (by dsimp) ?_
   refine T.seq fun K7 hK7 => ?_
   refine T.block ?_
   refine T.seq fun K8 hK8 => ?_
   refine T.seq fun K9 hK9 => ?_
   have hiz : i < s.zs.length := by simp only [Zns_len] at *; omega
   have hi79 : i < 80 := by omega
   obtain ⟨z, hz⟩ : ∃ z, s.zs[i]? = some z := ⟨_, List.getElem?_eq_getElem hiz⟩
   have hzm := List.mem_of_getElem? hz
   have hbz := hpb z hzm
   have hbs := sumB_snoc hz
   obtain ⟨w, hw⟩ : ∃ w, w = i := ⟨_, rfl⟩
   subst hw
   refine T.region ?_ -- region 5
   refine ro rfl rfl (OpOk.step (ok_fieldAddr rfl ti_api_State rfl rfl ti_Lapi_Zone (by decide) rfl)) ?_
   refine ro rfl rfl (OpOk.step (ok_load rfl ti_Lapi_Zone rfl rfl)) ?_
   refine ro rfl rfl (OpOk.step (ok_move (.inl rfl))) ?_
   refine ro rfl rfl (OpOk.step (by exact ok_index_map (F := ZnC) rfl ti_Lapi_Zone rfl ti_api_Zone rfl rfl rfl hz (by simp [ZnC]))) ?_
   refine ro rfl rfl (OpOk.step (ok_fieldAddr rfl ti_api_Zone rfl rfl ti_Lapi_Par (by decide) rfl)) ?_
   refine ro rfl rfl (OpOk.step (ok_load rfl ti_Lapi_Par rfl rfl)) ?_
   refine ro rfl rfl (OpOk.step (ok_len' rfl rfl ti_Lapi_Par rfl (by first | exact ints_length _ _ | exact rowsA_length _ _ | exact Cms_len _ | exact mapLen _ | rfl))) ?_
   refine ro rfl rfl (OpOk.step (ok_binOp rfl ti_int rfl)) ?_
   refine ro_nil ?_
   refine keepK hK9 [1, 3, 4, 24] (by dsimp) (by dsimp) ?_
   refine T.cond rfl (fun hc => ?_) (fun hc => ?_) -- cond 2
   ·(try simp only [dE] at hc)
    rw [Prs_len] at hc
    refine T.seq fun K10 hK10 => ?_
    refine T.region ?_ -- region 6
    refine ro rfl rfl (OpOk.step (ok_moveb (c := true) (.inr rfl) rfl)) ?_
    refine ro_nil ?_
    refine keepK hK10 [2] (by dsimp) (by dsimp) ?_
    refine T.ret (hQ _ _ _ rfl ?_).1 -- ret 1
    exact by (rw [muchB_true (FewS_no hz hi79 (by omega))]; exact TEnt.fin [] (by decide) (by simp) rfl ⟨rfl, trivial⟩)
   ·(try simp only [dE] at hc)
    rw [Prs_len] at hc
    have hp5 : z.pars.length ≤ 5 := by omega
    refine T.skip ?_
    refine keepK hK8 [1, 3, 4] (by dsimp) (by dsimp) ?_
    refine T.seq fun K11 hK11 => ?_
    refine T.seq fun K12 hK12 => ?_
    refine T.region ?_ -- region 7
    refine ro rfl rfl (OpOk.step (ok_move (.inr rfl))) ?_
    refine ro_nil ?_
    refine keepK hK12 [1, 3, 4, 5] (by dsimp) (by dsimp) ?_
    refine T.block ?_
    refine T.loopI (ι := Nat) (fun k => k ≤ z.pars.length) (fun k => z.pars.length - k) (fun k => ([(1, .ref 0 0 0), (3, .int (sumB (s.zs.take w) + sumP (z.pars.take k))), (4, .int w), (5, .int k)], [some (StB s)])) 0 (Nat.zero_le _) (TEnt.toH rfl ⟨rfl, by simp [sumP], rfl, rfl, trivial⟩) (fun i hi => ?_) -- loop 2
    have hpk := sumP_bd (z.pars.take i) fun p hp => hbz p (List.mem_of_mem_take hp)
    refine T.seq fun K13 hK13 => ?_
    refine T.seq fun K14 hK14 => ?_
    refine T.region ?_ -- region 8
    refine ro rfl rfl (OpOk.step (ok_move (.inl rfl))) ?_
    refine ro rfl rfl (OpOk.step (ok_fieldAddr rfl ti_api_State rfl rfl ti_Lapi_Zone (by decide) rfl)) ?_
    refine ro rfl rfl (OpOk.step (ok_load rfl ti_Lapi_Zone rfl rfl)) ?_
    refine ro rfl rfl (OpOk.step (ok_move (.inl rfl))) ?_
    refine ro rfl rfl (OpOk.step (by exact ok_index_map (F := ZnC) rfl ti_Lapi_Zone rfl ti_api_Zone rfl rfl rfl hz (by simp [ZnC]))) ?_
    refine ro rfl rfl (OpOk.step (ok_fieldAddr rfl ti_api_Zone rfl rfl ti_Lapi_Par (by decide) rfl)) ?_
    refine ro rfl rfl (OpOk.step (ok_load rfl ti_Lapi_Par rfl rfl)) ?_
    refine ro rfl rfl (OpOk.step (ok_len' rfl rfl ti_Lapi_Par rfl (by first | exact ints_length _ _ | exact rowsA_length _ _ | exact Cms_len _ | exact mapLen _ | rfl))) ?_
    refine ro rfl rfl (OpOk.step (ok_binOp rfl ti_int rfl)) ?_
    refine ro_nil ?_
    refine keepK hK14 [1, 3, 4, 5, 33] (by dsimp) (by dsimp) ?_
    refine T.cond rfl (fun hc => ?_) (fun hc => ?_) -- cond 3
    ·(try simp only [dE] at hc)
     rw [Prs_len] at hc
     obtain ⟨p, hp⟩ : ∃ p, z.pars[i]? = some p := ⟨_, List.getElem?_eq_getElem (by omega)⟩
     have hps := sumP_snoc hp
     have hpl := hbz p (List.mem_of_getElem? hp)
     have htk : (z.pars.take i).length ≤ 5 := by rw [List.length_take]; omega
     refine T.skip ?_
     refine keepK hK13 [1, 3, 4, 5] (by dsimp) (by dsimp) ?_
     refine T.seq fun K15 hK15 => ?_
     refine T.block ?_
     refine T.region ?_ -- region 10
     refine ro rfl rfl (OpOk.step (ok_move (.inl rfl))) ?_
     refine ro rfl rfl (OpOk.step (ok_fieldAddr rfl ti_api_State rfl rfl ti_Lapi_Zone (by decide) rfl)) ?_
     refine ro rfl rfl (OpOk.step (ok_load rfl ti_Lapi_Zone rfl rfl)) ?_
     refine ro rfl rfl (OpOk.step (ok_move (.inl rfl))) ?_
     refine ro rfl rfl (OpOk.step (by exact ok_index_map (F := ZnC) rfl ti_Lapi_Zone rfl ti_api_Zone rfl rfl rfl hz (by simp [ZnC]))) ?_
     refine ro rfl rfl (OpOk.step (ok_fieldAddr rfl ti_api_Zone rfl rfl ti_Lapi_Par (by decide) rfl)) ?_
     refine ro rfl rfl (OpOk.step (ok_load rfl ti_Lapi_Par rfl rfl)) ?_
     refine ro rfl rfl (OpOk.step (ok_move (.inl rfl))) ?_
     refine ro rfl rfl (OpOk.step (by exact ok_index_map (F := PrC) rfl ti_Lapi_Par rfl ti_api_Par rfl rfl rfl hp (by simp [PrC]))) ?_
     refine ro rfl rfl (OpOk.step (ok_fieldAddr rfl ti_api_Par rfl rfl ti_Luint8 (by decide) rfl)) ?_
     refine ro rfl rfl (OpOk.step (ok_load rfl ti_Luint8 rfl rfl)) ?_
     refine ro rfl rfl (OpOk.step (ok_len' rfl rfl ti_Luint8 rfl (by first | exact ints_length _ _ | exact rowsA_length _ _ | exact Cms_len _ | exact mapLen _ | rfl))) ?_
     refine ro rfl rfl (OpOk.step (ok_add64 rfl ti_int rfl rfl (by omega) (by omega))) ?_
     refine ro rfl rfl (OpOk.step (ok_move (.inr rfl))) ?_
     refine ro_nil ?_
     refine keepK hK15 [1, 3, 4, 5] (by dsimp) (by dsimp) ?_
     refine T.region ?_ -- region 9
     refine ro rfl rfl (OpOk.step (ok_move (.inl rfl))) ?_
     refine ro rfl rfl (OpOk.step (ok_add64 rfl ti_int rfl rfl (by omega) (by omega))) ?_
     refine ro rfl rfl (OpOk.step (ok_move (.inr rfl))) ?_
     refine ro_nil ?_
     exact ⟨i + 1, by omega, by omega, TEnt.toH rfl ⟨rfl, by rw [hps, ← Int.add_assoc]; rfl, rfl, rfl, trivial⟩⟩
    ·(try simp only [dE] at hc)
     rw [Prs_len] at hc
     have hin : i = z.pars.length := by omega
     subst hin
     rw [List.take_length] at hpk
     rw [List.take_length, ← hbs]
     refine T.exit ?_
     refine keepK hK11 [1, 3, 4] (by dsimp) (by dsimp) ?_
     refine T.seq fun K16 hK16 => ?_
     refine T.region ?_ -- region 11
     refine ro rfl rfl (OpOk.step (ok_move (.inl rfl))) ?_
     refine ro rfl rfl (OpOk.step (ok_binOp rfl ti_int rfl)) ?_
     refine ro_nil ?_
     refine keepK hK16 [1, 3, 4, 50] (by dsimp) (by dsimp) ?_
     refine T.cond rfl (fun hc => ?_) (fun hc => ?_) -- cond 4
     ·(try simp only [dE] at hc)
      refine T.seq fun K17 hK17 => ?_
      refine T.region ?_ -- region 12
      refine ro rfl rfl (OpOk.step (ok_moveb (c := true) (.inr rfl) rfl)) ?_
      refine ro_nil ?_
      refine keepK hK17 [2] (by dsimp) (by dsimp) ?_
      refine T.ret (hQ _ _ _ rfl ?_).1 -- ret 2
      exact by (rw [muchB_true (FewS_no hz hi79 (by omega))]; exact TEnt.fin [] (by decide) (by simp) rfl ⟨rfl, trivial⟩)
     ·(try simp only [dE] at hc)
      refine T.skip ?_
      refine keepK hK7 [1, 3, 4] (by dsimp) (by dsimp) ?_
      refine T.region ?_ -- region 4
      refine ro rfl rfl (OpOk.step (ok_move (.inl rfl))) ?_
      refine ro rfl rfl (OpOk.step (ok_add64 rfl ti_int rfl rfl (by omega) (by omega))) ?_
      refine ro rfl rfl (OpOk.step (ok_move (.inr rfl))) ?_
      refine ro_nil ?_
      exact ⟨w + 1, ⟨by omega, by omega, FewZ_step hfew hz hp5 (by omega)⟩, by omega, TEnt.toH rfl ⟨rfl, rfl, rfl, trivial⟩⟩
  ·(try simp only [dE] at hc)
   refine T.exit ?_
   refine keepK hK3 [1] (by dsimp) (by dsimp) ?_
   refine T.seq fun K18 hK18 => ?_
   refine T.region ?_ -- region 13
   refine ro rfl rfl (OpOk.step (ok_fieldAddr rfl ti_api_State rfl rfl ti_Lapi_Zone (by decide) rfl)) ?_
   refine ro rfl rfl (OpOk.step (ok_load rfl ti_Lapi_Zone rfl rfl)) ?_
   refine ro rfl rfl (OpOk.step (ok_len' rfl rfl ti_Lapi_Zone rfl (by first | exact ints_length _ _ | exact rowsA_length _ _ | exact Cms_len _ | exact mapLen _ | rfl))) ?_
   refine ro rfl rfl (OpOk.step (ok_binOp rfl ti_int rfl)) ?_
   refine ro_case rfl rfl (OpOk.step (ok_moveb (.inl rfl) rfl)) (fun hb => ?_) (fun hb => ?_)
   ·(try simp only [dE] at hb)
    refine ro_skip rfl rfl ?_
    refine ro_skip rfl rfl ?_
    refine ro_skip rfl rfl ?_
    refine ro_skip rfl rfl ?_
    refine ro rfl rfl (OpOk.step (ok_pickb (t := true) (d := true) rfl rfl rfl)) ?_
    refine ro rfl rfl (OpOk.step (ok_moveb (c := true) (.inr rfl) rfl)) ?_
    refine ro_nil ?_
    refine keepK hK18 [2] (by dsimp) (by dsimp) ?_
    refine T.ret (hQ _ _ _ rfl ?_).1 -- ret 3
    exact by (rw [muchB_true (fun h => by have := h.2.1; simp only [Zns_len] at *; omega)]; exact TEnt.fin [] (by decide) (by simp) rfl ⟨rfl, trivial⟩)
   ·(try simp only [dE] at hb)
    refine ro rfl rfl (OpOk.step (ok_fieldAddr rfl ti_api_State rfl rfl ti_Lint (by decide) rfl)) ?_
    refine ro rfl rfl (OpOk.step (ok_load rfl ti_Lint rfl rfl)) ?_
    refine ro rfl rfl (OpOk.step (ok_len' rfl rfl ti_Lint rfl (by first | exact ints_length _ _ | exact rowsA_length _ _ | exact Cms_len _ | exact mapLen _ | rfl))) ?_
    refine ro rfl rfl (OpOk.step (ok_binOp rfl ti_int rfl)) ?_
    refine ro rfl rfl (OpOk.step (ok_pick rfl rfl)) ?_
    refine ro rfl rfl (OpOk.step (ok_move (.inr rfl))) ?_
    refine ro_nil ?_
    refine keepK hK18 [2] (by dsimp) (by dsimp) ?_
    refine T.ret (hQ _ _ _ rfl ?_).1 -- ret 4
    have e : muchB s = decide ((s.st.length : Int) > 30) := by
      simp only [Zns_len] at *
      have hf : FewZ s.zs (min s.zs.length 80) := by rw [show min s.zs.length 80 = i by omega]; exact hfew
      by_cases h : s.st.length ≤ 30
      · rw [muchB_false ⟨hf, by omega, h⟩, decide_eq_false (by omega)]
      · rw [muchB_true (fun h' => h h'.2.2), decide_eq_true (by omega)]
    rw [e]; exact TEnt.fin [] (by decide) (by simp) rfl ⟨rfl, trivial⟩
 ·(try simp only [dE] at hb)
  refine ro_skip rfl rfl ?_
  refine ro_skip rfl rfl ?_
  refine ro rfl rfl (OpOk.step (ok_pickb (t := false) (d := false) rfl rfl rfl)) ?_
  refine ro_nil ?_
  refine keepK hK6 [1, 3, 4, 14] (by dsimp) (by dsimp) ?_
  refine T.cond_false rfl ?_
  refine T.exit ?_
  refine keepK hK3 [1] (by dsimp) (by dsimp) ?_
  refine T.seq fun K19 hK19 => ?_
  refine T.region ?_ -- region 13
  refine ro rfl rfl (OpOk.step (ok_fieldAddr rfl ti_api_State rfl rfl ti_Lapi_Zone (by decide) rfl)) ?_
  refine ro rfl rfl (OpOk.step (ok_load rfl ti_Lapi_Zone rfl rfl)) ?_
  refine ro rfl rfl (OpOk.step (ok_len' rfl rfl ti_Lapi_Zone rfl (by first | exact ints_length _ _ | exact rowsA_length _ _ | exact Cms_len _ | exact mapLen _ | rfl))) ?_
  refine ro rfl rfl (OpOk.step (ok_binOp rfl ti_int rfl)) ?_
  refine ro_case rfl rfl (OpOk.step (ok_moveb (.inl rfl) rfl)) (fun hb => ?_) (fun hb => ?_)
  ·(try simp only [dE] at hb)
   refine ro_skip rfl rfl ?_
   refine ro_skip rfl rfl ?_
   refine ro_skip rfl rfl ?_
   refine ro_skip rfl rfl ?_
   refine ro rfl rfl (OpOk.step (ok_pickb (t := true) (d := true) rfl rfl rfl)) ?_
   refine ro rfl rfl (OpOk.step (ok_moveb (c := true) (.inr rfl) rfl)) ?_
   refine ro_nil ?_
   refine keepK hK19 [2] (by dsimp) (by dsimp) ?_
   refine T.ret (hQ _ _ _ rfl ?_).1 -- ret 5
   exact by (rw [muchB_true (fun h => by have := h.2.1; simp only [Zns_len] at *; omega)]; exact TEnt.fin [] (by decide) (by simp) rfl ⟨rfl, trivial⟩)
  ·(try simp only [dE] at hb)
   refine ro rfl rfl (OpOk.step (ok_fieldAddr rfl ti_api_State rfl rfl ti_Lint (by decide) rfl)) ?_
   refine ro rfl rfl (OpOk.step (ok_load rfl ti_Lint rfl rfl)) ?_
   refine ro rfl rfl (OpOk.step (ok_len' rfl rfl ti_Lint rfl (by first | exact ints_length _ _ | exact rowsA_length _ _ | exact Cms_len _ | exact mapLen _ | rfl))) ?_
   refine ro rfl rfl (OpOk.step (ok_binOp rfl ti_int rfl)) ?_
   refine ro rfl rfl (OpOk.step (ok_pick rfl rfl)) ?_
   refine ro rfl rfl (OpOk.step (ok_move (.inr rfl))) ?_
   refine ro_nil ?_
   refine keepK hK19 [2] (by dsimp) (by dsimp) ?_
   refine T.ret (hQ _ _ _ rfl ?_).1 -- ret 6
   have e : muchB s = decide ((s.st.length : Int) > 30) := by
     simp only [Zns_len] at *
     have hf : FewZ s.zs (min s.zs.length 80) := by rw [show min s.zs.length 80 = i by omega]; exact hfew
     by_cases h : s.st.length ≤ 30
     · rw [muchB_false ⟨hf, by omega, h⟩, decide_eq_false (by omega)]
     · rw [muchB_true (fun h' => h h'.2.2), decide_eq_true (by omega)]
   rw [e]; exact TEnt.fin [] (by decide) (by simp) rfl ⟨rfl, trivial⟩
end Go.Proofs.Ytlegolcbjjjofaa.AmF
