/- Walks over the abstract machine: states of the log: may one be? -/
import Derived.Test.YtjklgbafnfoolaaGreatGScanLays4
namespace Go.Proofs.YtjklgbafnfoolaaGreat.AmF
open Go Go.AM
set_option maxRecDepth 100000
set_option maxHeartbeats 2000000
set_option linter.unusedSimpArgs false
set_option linter.unusedVariables false
attribute [local simp] tkeep tget tput ev cav argsTM pickA normT putA splice AV.cells ints_length rowsA_length Prs_len Zns_len
/-- A parity that may be. -/
def PG (c : Cf) (p : Pr) : Prop := (1 ≤ p.w ∧ p.w ≤ sizeC c) ∧ (p.b.length : Int) = c.unit * c.blk
instance (c : Cf) (p : Pr) : Decidable (PG c p) := by unfold PG; infer_instance
/-- A zone that may be. -/
def RZ (c : Cf) (rb : Bool) (z : Zn) : Prop := (0 ≤ z.gen ∧ z.gen ≤ 1099511627776) ∧ (-1 ≤ z.slot ∧ z.slot < slotsC c) ∧ (0 ≤ z.w ∧ z.w ≤ sizeC c) ∧ (0 < z.w → z.full = true ∧ z.slot ≠ -1) ∧ (z.whole = true → z.slot ≠ -1 ∧ rb = true) ∧ z.pars.length ≤ 2 ∧ (0 < z.pars.length → z.slot ≠ -1) ∧ ∀ p ∈ z.pars, PG c p
instance (c : Cf) (rb : Bool) (z : Zn) : Decidable (RZ c rb z) := by unfold RZ; infer_instance
theorem slots_bd (c : Cf) : 0 ≤ slotsC c ∧ slotsC c ≤ 2097152 := by
  unfold slotsC
  split
  · rename_i h
    have := (saneC_iff c).1 h
    omega
  · omega
def SzB (c : Cf) : Blk := ⟨1, true, [.int (sizeC c)]⟩
theorem src2 : ∀ j, j < 2 → [0, 1][j]? = some j := by decide
theorem pos01 : pos [0, 1] 0 = some 0 ∧ pos [0, 1] 1 = some 1 := by decide
theorem PrC_take (p : Pr) : List.take 2 (PrC p) = PrC p := rfl
theorem ZnC_take (z : Zn) : List.take 6 (ZnC z) = ZnC z := rfl
theorem StC_take (s : St) : List.take 15 (StC s) = StC s := rfl
theorem SzB_ren (ρ : Nat → Option Nat) (c : Cf) : Blk.ren ρ (SzB c) = SzB c := by simp [SzB, Blk.ren, renL, AV.ren]
theorem rz1_ok (s : St) (p : Pr) (hc : chkC s.c = 0) : CSpec Tryz.prog 77 [SzB s.c, StB s] [.agg (PrC p), .ref 0 0 0, .ref 1 0 0] [some (SzB s.c), some (StB s)] (.b (decide (¬ PG s.c p))) := by
 refine CSpec.body Tryz.func77 rfl rfl rfl rfl rfl fun Q hQ => ?_
 refine T.seq fun K1 hK1 => ?_
 refine T.region ?_
 refine rs rfl rfl (ok_box (n := 2) rfl rfl (by decide)) ?_
 refine rs rfl rfl (ok_moveb (c := false) (.inr rfl) rfl) ?_
 refine ro_nil ?_
 refine keepK hK1 [1, 2, 3] (by dsimp) (by dsimp) ?_
 refine T.seq fun K2 hK2 => ?_
 refine T.drawH mixed [] ?_
 refine any_take 0 rfl (by first | rfl | decide +kernel) rfl (HeldL.refl _) (fun H' hH => OpOk.step (ok_fieldAddr rfl ti_api_Par rfl rfl ti_int (by decide) rfl)) ?_
 refine any_take 1 rfl (by first | rfl | decide +kernel) rfl (HeldL.refl _) (fun H' hH => OpOk.step (ok_load rfl ti_int (locA_held hH rfl) rfl)) ?_
 refine any_take 2 rfl (by first | rfl | decide +kernel) rfl (HeldL.refl _) (fun H' hH => OpOk.step (ok_load rfl ti_int (locA_held hH rfl) rfl)) ?_
 refine any_one 3 rfl (by first | rfl | decide +kernel) rfl rfl (ok_call rfl rfl rfl ((sin_ok p.w 1 (sizeC s.c)).plain rfl rfl)) (.inr (by first | (simp [HeldL]; done) | (simp only [dH]; (repeat' first | trivial | rfl | constructor)))) ?_
 refine any_take 4 rfl (by first | rfl | decide +kernel) rfl (by first | exact HeldL.refl _ | exact HeldL.append _ _ | simp [HeldL]) (fun H' hH => OpOk.step (ok_unOp rfl rfl)) ?_
 refine any_take_case 5 rfl (by first | rfl | decide +kernel) rfl (by first | exact HeldL.refl _ | exact HeldL.append _ _ | simp [HeldL]) (fun H' hH => OpOk.step (ok_moveb (.inl rfl) rfl)) (fun hb => ?_) (fun hb => ?_)
 ·(try simp only [dE] at hb)
  refine any_skip 6 rfl (by first | rfl | decide +kernel) rfl (by first | exact HeldL.refl _ | exact HeldL.append _ _ | simp [HeldL]) ?_
  refine any_skip 7 rfl (by first | rfl | decide +kernel) rfl (by first | exact HeldL.refl _ | exact HeldL.append _ _ | simp [HeldL]) ?_
  refine any_skip 8 rfl (by first | rfl | decide +kernel) rfl (by first | exact HeldL.refl _ | exact HeldL.append _ _ | simp [HeldL]) ?_
  refine any_skip 9 rfl (by first | rfl | decide +kernel) rfl (by first | exact HeldL.refl _ | exact HeldL.append _ _ | simp [HeldL]) ?_
  refine any_one_skip 10 rfl (by first | rfl | decide +kernel) rfl rfl (.inr (by first | exact HeldL.refl _ | exact HeldL.append _ _ | simp [HeldL])) ?_
  refine any_skip 11 rfl (by first | rfl | decide +kernel) rfl (by first | exact HeldL.refl _ | exact HeldL.append _ _ | simp [HeldL]) ?_
  refine any_take 12 rfl (by first | rfl | decide +kernel) rfl (by first | exact HeldL.refl _ | exact HeldL.append _ _ | simp [HeldL]) (fun H' hH => OpOk.step (ok_pickb (t := true) (d := true) rfl rfl rfl)) ?_
  refine any_take 13 rfl (by first | rfl | decide +kernel) rfl (by first | exact HeldL.refl _ | exact HeldL.append _ _ | simp [HeldL]) (fun H' hH => OpOk.step (ok_moveb (c := true) (.inr rfl) rfl)) ?_
  refine any_done rfl ?_
  refine keepK hK2 [4] (by dsimp) (by dsimp) ?_
  refine T.ret (hQ _ _ _ rfl ?_).1 -- ret 1
  exact by (rw [decide_eq_true (by unfold PG; omega)]; exact TEnt.fin [0, 1] (by decide) src2 (by simp [normH, hget, SzB_ren, StB_ren]) ⟨rfl, trivial⟩)
 ·(try simp only [dE] at hb)
  refine any_take 6 rfl (by first | rfl | decide +kernel) rfl (by first | exact HeldL.refl _ | exact HeldL.append _ _ | simp [HeldL]) (fun H' hH => OpOk.step (ok_fieldAddr rfl ti_api_Par rfl rfl ti_Luint8 (by decide) rfl)) ?_
  refine any_take 7 rfl (by first | rfl | decide +kernel) rfl (by first | exact HeldL.refl _ | exact HeldL.append _ _ | simp [HeldL]) (fun H' hH => OpOk.step (ok_load rfl ti_Luint8 (locA_held hH rfl) rfl)) ?_
  refine any_take 8 rfl (by first | rfl | decide +kernel) rfl (by first | exact HeldL.refl _ | exact HeldL.append _ _ | simp [HeldL]) (fun H' hH => OpOk.step (ok_len' rfl rfl ti_Luint8 rfl (by first | exact ints_length _ _ | exact rowsA_length _ _ | exact Cms_len _ | exact mapLen _ | rfl))) ?_
  refine any_take 9 rfl (by first | rfl | decide +kernel) rfl (by first | exact HeldL.refl _ | exact HeldL.append _ _ | simp [HeldL]) (fun H' hH => OpOk.step (ok_load rfl ti_api_State (locA_held hH rfl) rfl)) ?_
  refine any_one 10 rfl (by first | rfl | decide +kernel) rfl rfl (ok_call rfl rfl rfl ((sunit_ok s hc).plain (by simp [renL, AV.ren, StC_take, StC_ren]) rfl)) (.inr (by first | (simp [HeldL]; done) | (simp only [dH]; (repeat' first | trivial | rfl | constructor)))) ?_
  refine any_take 11 rfl (by first | rfl | decide +kernel) rfl (by first | exact HeldL.refl _ | exact HeldL.append _ _ | simp [HeldL]) (fun H' hH => OpOk.step (ok_binOp rfl ti_int rfl)) ?_
  refine any_take 12 rfl (by first | rfl | decide +kernel) rfl (by first | exact HeldL.refl _ | exact HeldL.append _ _ | simp [HeldL]) (fun H' hH => OpOk.step (ok_pick rfl rfl)) ?_
  refine any_take 13 rfl (by first | rfl | decide +kernel) rfl (by first | exact HeldL.refl _ | exact HeldL.append _ _ | simp [HeldL]) (fun H' hH => OpOk.step (ok_move (.inr rfl))) ?_
  refine any_done rfl ?_
  refine keepK hK2 [4] (by dsimp) (by dsimp) ?_
  refine T.ret (hQ _ _ _ rfl ?_).1 -- ret 2
  have e : decide (¬ PG s.c p) = ((p.b.length : Int) != s.c.unit * s.c.blk) := (by rw [Bool.eq_iff_iff, decide_eq_true_iff, bne_iff_ne]; unfold PG; omega)
  rw [e]; exact TEnt.fin [0, 1] (by decide) src2 (by simp [normH, hget, SzB_ren, StB_ren]) ⟨rfl, trivial⟩
theorem indexP_ok (s : St) (l : List Pr) (f : FuncId) (q : Pr → Bool) (hf : ∀ y, CSpec Tryz.prog f [SzB s.c, StB s] [.agg (PrC y), .ref 0 0 0, .ref 1 0 0] [some (SzB s.c), some (StB s)] (.b (q y))) (hl : l.length ≤ 140737488355328) : CSpec Tryz.prog 110 [SzB s.c, StB s] [.fz 2 (Prs l), .fn (.func f) [] [.ref 0 0 0, .ref 1 0 0]] [some (SzB s.c), some (StB s)] (.int (fIdx q l)) := by
 refine CSpec.body Tryz.func110 rfl rfl rfl rfl rfl fun Q hQ => ?_
 refine T.seq fun K1 hK1 => ?_
 refine T.region ?_
 refine rs rfl rfl (ok_move (.inr rfl)) ?_
 refine ro_nil ?_
 refine keepK hK1 [0, 1] (by dsimp) (by dsimp) ?_
 refine T.seq fun K2 hK2 => ?_
 refine T.seq fun K3 hK3 => ?_
 refine T.region ?_
 refine rs rfl rfl (ok_move (.inl rfl)) ?_
 refine rs rfl rfl (ok_len' rfl rfl ti_Lapi_Par rfl (by first | exact ints_length _ _ | exact rowsA_length _ _ | exact Cms_len _ | exact mapLen _ | rfl)) ?_
 refine rs rfl rfl (ok_move (.inl rfl)) ?_
 refine ro_nil ?_
 refine keepK hK3 [0, 1, 7, 8] (by dsimp) (by dsimp) ?_
 refine T.block ?_
 refine T.loopI (ι := Nat) (fun i => i ≤ l.length ∧ ∀ y ∈ l.take i, q y = false) (fun i => l.length - i) (fun i => ([(0, .fz 2 (Prs l)), (1, .fn (.func f) [] [.ref 0 0 0, .ref 1 0 0]), (7, .int l.length), (8, .int i)], [some (SzB s.c), some (StB s)])) 0 ⟨Nat.zero_le _, fun y hy => by simp at hy⟩ (TEnt.toH rfl ⟨rfl, rfl, by simp, rfl, trivial⟩) (fun i hi => ?_) -- loop 1
 obtain ⟨hil, hno⟩ := hi
 refine T.seq fun K4 hK4 => ?_
 refine T.region ?_
 refine rs rfl rfl (ok_binOp rfl ti_int rfl) ?_
 refine ro_nil ?_
 refine keepK hK4 [0, 1, 7, 8, 9] (by dsimp) (by dsimp) ?_
 refine T.seq fun K5 hK5 => ?_
 refine T.cond rfl (fun hc => ?_) (fun hc => ?_) -- cond 1
 ·(try simp only [dE] at hc)
  obtain ⟨y, hy⟩ : ∃ y, l[i]? = some y := ⟨_, List.getElem?_eq_getElem (by omega)⟩
  refine T.skip ?_
  refine keepK hK5 [0, 1, 7, 8] (by dsimp) (by dsimp) ?_
  refine T.seq fun K6 hK6 => ?_
  refine T.block ?_
  refine T.seq fun K7 hK7 => ?_
  refine T.region ?_
  refine rs rfl rfl (ok_move (.inl rfl)) ?_
  refine rs rfl rfl (ok_move (.inr rfl)) ?_
  refine ro_nil ?_
  refine keepK hK7 [0, 1, 5, 7, 8] (by dsimp) (by dsimp) ?_
  refine T.seq fun K8 hK8 => ?_
  refine T.region ?_
  refine rs rfl rfl (ok_move (.inl rfl)) ?_
  refine rs rfl rfl (ok_move (.inl rfl)) ?_
  refine rs rfl rfl (ok_move (.inl rfl)) ?_
  refine rs rfl rfl (by exact ok_index_map (F := PrC) rfl ti_Lapi_Par rfl ti_api_Par rfl rfl rfl hy (by simp [PrC])) ?_
  refine rs rfl rfl (ok_load rfl ti_api_Par rfl rfl) ?_
  refine ro rfl rfl (ok_call rfl rfl rfl (((hf y).pass [0, 1] (by decide) (by simp) (by simp [normH, hget, SzB_ren, StB_ren]) (by simp [renL, AV.ren, PrC_take, PrC_ren, pos01.1, pos01.2])).eq (x' := .b (q y)) (H'' := [some (SzB s.c), some (StB s)]) rfl (by simp [mergeH, setIds, renH, SzB_ren, StB_ren]))) ?_
  refine ro_nil ?_
  refine keepK hK8 [0, 1, 5, 7, 8, 16] (by dsimp) (by dsimp) ?_
  refine T.cond rfl (fun hc => ?_) (fun hc => ?_) -- cond 2
  ·(try simp only [dE] at hc)
   rw [fIdx_hit hy hc hno] at hQ
   refine T.seq fun K9 hK9 => ?_
   refine T.region ?_
   refine rs rfl rfl (ok_move (.inl rfl)) ?_
   refine rs rfl rfl (ok_move (.inr rfl)) ?_
   refine ro_nil ?_
   refine keepK hK9 [4] (by dsimp) (by dsimp) ?_
   refine T.ret (hQ _ _ _ rfl ?_).1 -- ret 1
   exact TEnt.toH rfl ⟨rfl, trivial⟩
  ·(try simp only [dE] at hc)
   refine T.skip ?_
   refine keepK hK6 [0, 1, 7, 8] (by dsimp) (by dsimp) ?_
   refine T.region ?_
   refine rs rfl rfl (ok_add64 rfl ti_int rfl rfl (by omega) (by omega)) ?_
   refine rs rfl rfl (ok_move (.inl rfl)) ?_
   refine ro_nil ?_
   exact ⟨i + 1, ⟨by omega, take_snoc_all hy hno hc⟩, by omega, TEnt.toH rfl ⟨rfl, rfl, rfl, rfl, trivial⟩⟩
 ·(try simp only [dE] at hc)
  have hin : i = l.length := by omega
  rw [hin, List.take_length] at hno
  rw [fIdx_none hno] at hQ
  refine T.exit ?_
  refine keepK hK2 [] (by dsimp) (by dsimp) ?_
  refine T.seq fun K10 hK10 => ?_
  refine T.region ?_
  refine rs rfl rfl (ok_move (.inr rfl)) ?_
  refine ro_nil ?_
  refine keepK hK10 [4] (by dsimp) (by dsimp) ?_
  refine T.ret (hQ _ _ _ rfl ?_).1 -- ret 2
  exact TEnt.toH rfl ⟨rfl, trivial⟩
theorem containsP_ok (s : St) (l : List Pr) (f : FuncId) (q : Pr → Bool) (hf : ∀ y, CSpec Tryz.prog f [SzB s.c, StB s] [.agg (PrC y), .ref 0 0 0, .ref 1 0 0] [some (SzB s.c), some (StB s)] (.b (q y))) (hl : l.length ≤ 140737488355328) : CSpec Tryz.prog 79 [SzB s.c, StB s] [.fz 2 (Prs l), .fn (.func f) [] [.ref 0 0 0, .ref 1 0 0]] [some (SzB s.c), some (StB s)] (.b (l.any q)) := by
 refine CSpec.body Tryz.func79 rfl rfl rfl rfl rfl fun Q hQ => ?_
 refine T.seq fun K1 hK1 => ?_
 refine T.region ?_
 refine rs rfl rfl (ok_moveb (c := false) (.inr rfl) rfl) ?_
 refine ro_nil ?_
 refine keepK hK1 [0, 1] (by dsimp) (by dsimp) ?_
 refine T.seq fun K2 hK2 => ?_
 refine T.region ?_
 refine rs rfl rfl (ok_move (.inl rfl)) ?_
 refine rs rfl rfl (ok_move (.inl rfl)) ?_
 refine ro rfl rfl (ok_call rfl rfl rfl (((indexP_ok s l f q hf hl).pass [0, 1] (by decide) (by simp) (by simp [normH, hget, SzB_ren, StB_ren]) (by simp [renL, AV.ren, Prs_ren, pos01.1, pos01.2])).eq (x' := .int (fIdx q l)) (H'' := [some (SzB s.c), some (StB s)]) rfl (by simp [mergeH, setIds, renH, SzB_ren, StB_ren]))) ?_
 refine ro rfl rfl (OpOk.step ((ok_binOp rfl ti_int rfl).eq (x' := .b (l.any q)) (by
  have e : decide (fIdx q l ≥ 0) = l.any q := by
    rw [Bool.eq_iff_iff, decide_eq_true_iff, List.any_eq_true]
    exact fIdx_iff q l
  exact congrArg AV.b e) rfl)) ?_
 refine rs rfl rfl (ok_move (.inr rfl)) ?_
 refine ro_nil ?_
 refine keepK hK2 [4] (by dsimp) (by dsimp) ?_
 refine T.ret (hQ _ _ _ rfl ?_).1 -- ret 1
 exact TEnt.toH rfl ⟨rfl, trivial⟩
theorem pos20 : pos [2, 0] 2 = some 0 ∧ pos [2, 0] 0 = some 1 := by decide
theorem RZ_last {c : Cf} {rb : Bool} {z : Zn} (h : (0 ≤ z.gen ∧ z.gen ≤ 1099511627776) ∧ (-1 ≤ z.slot ∧ z.slot < slotsC c) ∧ (0 ≤ z.w ∧ z.w ≤ sizeC c) ∧ (0 < z.w → z.full = true ∧ z.slot ≠ -1) ∧ (z.whole = true → z.slot ≠ -1 ∧ rb = true) ∧ z.pars.length ≤ 2 ∧ (0 < z.pars.length → z.slot ≠ -1)) : decide (RZ c rb z) = !(z.pars.any fun y => decide (¬ PG c y)) := by
  obtain ⟨h1, h2, h3, h4, h5, h6, h7⟩ := h
  rw [Bool.eq_iff_iff, decide_eq_true_iff, Bool.not_eq_true', ← Bool.not_eq_true, List.any_eq_true]
  constructor
  · rintro ⟨_, _, _, _, _, _, _, h⟩ ⟨p, hp, h'⟩
    exact (decide_eq_true_iff.1 h') (h p hp)
  · intro h
    refine ⟨h1, h2, h3, h4, h5, h6, h7, fun p hp => ?_⟩
    exact Decidable.byContradiction fun hn => h ⟨p, hp, decide_eq_true hn⟩
theorem rzone_ok (s : St) (z : Zn) (rb : Bool) (hck : chkC s.c = 0) (hl : z.pars.length ≤ 140737488355328) : CSpec Tryz.prog 36 [] [.agg (StC s), .agg (ZnC z), .b rb] [] (.b (decide (RZ s.c rb z))) := by
 have hsb := slots_bd s.c
 have hzb := (size_bd s.c).2.2.2.2
 refine CSpec.body Tryz.func36 rfl rfl rfl rfl rfl fun Q hQ => ?_
 refine T.seq fun K1 hK1 => ?_
 refine T.region ?_
 refine rs rfl rfl (ok_box (n := 15) rfl rfl (by decide)) ?_
 refine rs rfl rfl (ok_box (n := 6) rfl rfl (by decide)) ?_
 refine rs rfl rfl (ok_moveb (c := false) (.inr rfl) rfl) ?_
 refine ro_nil ?_
 refine keepK hK1 [2, 3, 4] (by dsimp) (by dsimp) ?_
 refine T.seq fun K2 hK2 => ?_
 refine T.region ?_
 refine rs rfl rfl (ok_fieldAddr rfl ti_api_State rfl rfl ti_api_Conf (by decide) rfl) ?_
 refine rs rfl rfl (ok_load rfl ti_api_Conf rfl rfl) ?_
 refine ro rfl rfl (ok_call rfl rfl rfl ((size_ok s.c).plain (by show renL _ [.agg (CC s.c)] = _; simp [renL, AV.ren, CC_ren]) rfl)) ?_
 refine rs rfl rfl (ok_alloc rfl ti_int rfl (by decide)) ?_
 refine rs rfl rfl (ok_store rfl ti_int (by decide) rfl rfl rfl rfl rfl (by first | exact Nat.le_of_ble_eq_true rfl | simp) (by first | exact .inl ⟨rfl, rfl⟩ | exact .inr rfl)) ?_
 refine ro_nil ?_
 refine keepK hK2 [2, 3, 4, 7] (by dsimp) (by dsimp) ?_
 refine T.seq fun K3 hK3 => ?_
 refine T.block ?_
 refine T.seq fun K4 hK4 => ?_
 refine T.drawH mixed [] ?_
 refine any_take 0 rfl (by first | rfl | decide +kernel) rfl (HeldL.refl _) (fun H' hH => OpOk.step (ok_fieldAddr rfl ti_api_Zone rfl rfl ti_int (by decide) rfl)) ?_
 refine any_take 1 rfl (by first | rfl | decide +kernel) rfl (HeldL.refl _) (fun H' hH => OpOk.step (ok_load rfl ti_int (locA_held hH rfl) rfl)) ?_
 refine any_one 2 rfl (by first | rfl | decide +kernel) rfl rfl (ok_call rfl rfl rfl ((sin_ok z.gen 0 1099511627776).plain rfl rfl)) (.inr (by first | (simp [HeldL]; done) | (simp only [dH]; (repeat' first | trivial | rfl | constructor)))) ?_
 refine any_take 3 rfl (by first | rfl | decide +kernel) rfl (by first | exact HeldL.refl _ | exact HeldL.append _ _ | simp [HeldL]) (fun H' hH => OpOk.step (ok_unOp rfl rfl)) ?_
 refine any_take_case 4 rfl (by first | rfl | decide +kernel) rfl (by first | exact HeldL.refl _ | exact HeldL.append _ _ | simp [HeldL]) (fun H' hH => OpOk.step (ok_moveb (.inl rfl) rfl)) (fun hb => ?_) (fun hb => ?_)
 ·(try simp only [dE] at hb)
  refine any_skip 5 rfl (by first | rfl | decide +kernel) rfl (by first | exact HeldL.refl _ | exact HeldL.append _ _ | simp [HeldL]) ?_
  refine any_skip 6 rfl (by first | rfl | decide +kernel) rfl (by first | exact HeldL.refl _ | exact HeldL.append _ _ | simp [HeldL]) ?_
  refine any_skip 7 rfl (by first | rfl | decide +kernel) rfl (by first | exact HeldL.refl _ | exact HeldL.append _ _ | simp [HeldL]) ?_
  refine any_skip 8 rfl (by first | rfl | decide +kernel) rfl (by first | exact HeldL.refl _ | exact HeldL.append _ _ | simp [HeldL]) ?_
  refine any_one_skip 9 rfl (by first | rfl | decide +kernel) rfl rfl (.inr (by first | exact HeldL.refl _ | exact HeldL.append _ _ | simp [HeldL])) ?_
  refine any_skip 10 rfl (by first | rfl | decide +kernel) rfl (by first | exact HeldL.refl _ | exact HeldL.append _ _ | simp [HeldL]) ?_
  refine any_one_skip 11 rfl (by first | rfl | decide +kernel) rfl rfl (.inr (by first | exact HeldL.refl _ | exact HeldL.append _ _ | simp [HeldL])) ?_
  refine any_skip 12 rfl (by first | rfl | decide +kernel) rfl (by first | exact HeldL.refl _ | exact HeldL.append _ _ | simp [HeldL]) ?_
  refine any_take 13 rfl (by first | rfl | decide +kernel) rfl (by first | exact HeldL.refl _ | exact HeldL.append _ _ | simp [HeldL]) (fun H' hH => OpOk.step (ok_pickb (t := true) (d := true) rfl rfl rfl)) ?_
  refine any_take 14 rfl (by first | rfl | decide +kernel) rfl (by first | exact HeldL.refl _ | exact HeldL.append _ _ | simp [HeldL]) (fun H' hH => OpOk.step (ok_moveb (c := true) (.inl rfl) rfl)) ?_
  refine any_skip 15 rfl (by first | rfl | decide +kernel) rfl (by first | exact HeldL.refl _ | exact HeldL.append _ _ | simp [HeldL]) ?_
  refine any_skip 16 rfl (by first | rfl | decide +kernel) rfl (by first | exact HeldL.refl _ | exact HeldL.append _ _ | simp [HeldL]) ?_
  refine any_skip 17 rfl (by first | rfl | decide +kernel) rfl (by first | exact HeldL.refl _ | exact HeldL.append _ _ | simp [HeldL]) ?_
  refine any_one_skip 18 rfl (by first | rfl | decide +kernel) rfl rfl (.inr (by first | exact HeldL.refl _ | exact HeldL.append _ _ | simp [HeldL])) ?_
  refine any_skip 19 rfl (by first | rfl | decide +kernel) rfl (by first | exact HeldL.refl _ | exact HeldL.append _ _ | simp [HeldL]) ?_
  refine any_take 20 rfl (by first | rfl | decide +kernel) rfl (by first | exact HeldL.refl _ | exact HeldL.append _ _ | simp [HeldL]) (fun H' hH => OpOk.step (ok_pickb (t := true) (d := true) rfl rfl rfl)) ?_
  refine any_take 21 rfl (by first | rfl | decide +kernel) rfl (by first | exact HeldL.refl _ | exact HeldL.append _ _ | simp [HeldL]) (fun H' hH => OpOk.step (ok_moveb (c := true) (.inr rfl) rfl)) ?_
  refine any_done rfl ?_
  refine keepK hK4 [2, 3, 4, 7, 12] (by dsimp) (by dsimp) ?_
  refine T.cond_true rfl ?_
  refine T.seq fun K5 hK5 => ?_
  refine T.region ?_
  refine rs rfl rfl (ok_moveb (c := false) (.inr rfl) rfl) ?_
  refine ro_nil ?_
  refine keepK hK5 [6] (by dsimp) (by dsimp) ?_
  refine T.ret (hQ _ _ _ rfl ?_).1 -- ret 1
  exact by (rw [decide_eq_false (fun h => by obtain ⟨⟨h1, h2⟩, ⟨h3, h4⟩, ⟨h5, h6⟩, h7, h8, h9, h10, h11⟩ := h; omega)]; exact TEnt.fin [] (by decide) (by simp) rfl ⟨rfl, trivial⟩)
 ·(try simp only [dE] at hb)
  refine any_take 5 rfl (by first | rfl | decide +kernel) rfl (by first | exact HeldL.refl _ | exact HeldL.append _ _ | simp [HeldL]) (fun H' hH => OpOk.step (ok_fieldAddr rfl ti_api_Zone rfl rfl ti_int (by decide) rfl)) ?_
  refine any_take 6 rfl (by first | rfl | decide +kernel) rfl (by first | exact HeldL.refl _ | exact HeldL.append _ _ | simp [HeldL]) (fun H' hH => OpOk.step (ok_load rfl ti_int (locA_held hH rfl) rfl)) ?_
  refine any_take 7 rfl (by first | rfl | decide +kernel) rfl (by first | exact HeldL.refl _ | exact HeldL.append _ _ | simp [HeldL]) (fun H' hH => OpOk.step (ok_fieldAddr rfl ti_api_State rfl rfl ti_api_Conf (by decide) rfl)) ?_
  refine any_take 8 rfl (by first | rfl | decide +kernel) rfl (by first | exact HeldL.refl _ | exact HeldL.append _ _ | simp [HeldL]) (fun H' hH => OpOk.step (ok_load rfl ti_api_Conf (locA_held hH rfl) rfl)) ?_
  refine any_one 9 rfl (by first | rfl | decide +kernel) rfl rfl (ok_call rfl rfl rfl ((slots_ok s.c).plain (by show renL _ [.agg (CC s.c)] = _; simp [renL, AV.ren, CC_ren]) rfl)) (.inr (by first | (simp [HeldL]; done) | (simp only [dH]; (repeat' first | trivial | rfl | constructor)))) ?_
  refine any_take 10 rfl (by first | rfl | decide +kernel) rfl (by first | exact HeldL.refl _ | exact HeldL.append _ _ | simp [HeldL]) (fun H' hH => OpOk.step (ok_sub64 rfl ti_int rfl rfl (by omega) (by omega))) ?_
  refine any_one 11 rfl (by first | rfl | decide +kernel) rfl rfl (ok_call rfl rfl rfl ((sin_ok z.slot (-1) (slotsC s.c - 1)).plain rfl rfl)) (.inr (by first | (simp [HeldL]; done) | (simp only [dH]; (repeat' first | trivial | rfl | constructor)))) ?_
  refine any_take 12 rfl (by first | rfl | decide +kernel) rfl (by first | exact HeldL.refl _ | exact HeldL.append _ _ | simp [HeldL]) (fun H' hH => OpOk.step (ok_unOp rfl rfl)) ?_
  refine any_take 13 rfl (by first | rfl | decide +kernel) rfl (by first | exact HeldL.refl _ | exact HeldL.append _ _ | simp [HeldL]) (fun H' hH => OpOk.step (ok_pick rfl rfl)) ?_
  refine any_take_case 14 rfl (by first | rfl | decide +kernel) rfl (by first | exact HeldL.refl _ | exact HeldL.append _ _ | simp [HeldL]) (fun H' hH => OpOk.step (ok_moveb (.inl rfl) rfl)) (fun hb => ?_) (fun hb => ?_)
  ·(try simp only [dE] at hb)
   refine any_skip 15 rfl (by first | rfl | decide +kernel) rfl (by first | exact HeldL.refl _ | exact HeldL.append _ _ | simp [HeldL]) ?_
   refine any_skip 16 rfl (by first | rfl | decide +kernel) rfl (by first | exact HeldL.refl _ | exact HeldL.append _ _ | simp [HeldL]) ?_
   refine any_skip 17 rfl (by first | rfl | decide +kernel) rfl (by first | exact HeldL.refl _ | exact HeldL.append _ _ | simp [HeldL]) ?_
   refine any_one_skip 18 rfl (by first | rfl | decide +kernel) rfl rfl (.inr (by first | exact HeldL.refl _ | exact HeldL.append _ _ | simp [HeldL])) ?_
   refine any_skip 19 rfl (by first | rfl | decide +kernel) rfl (by first | exact HeldL.refl _ | exact HeldL.append _ _ | simp [HeldL]) ?_
   refine any_take 20 rfl (by first | rfl | decide +kernel) rfl (by first | exact HeldL.refl _ | exact HeldL.append _ _ | simp [HeldL]) (fun H' hH => OpOk.step (ok_pickb (t := true) (d := true) rfl rfl rfl)) ?_
   refine any_take 21 rfl (by first | rfl | decide +kernel) rfl (by first | exact HeldL.refl _ | exact HeldL.append _ _ | simp [HeldL]) (fun H' hH => OpOk.step (ok_moveb (c := true) (.inr rfl) rfl)) ?_
   refine any_done rfl ?_
   refine keepK hK4 [2, 3, 4, 7, 12] (by dsimp) (by dsimp) ?_
   refine T.cond_true rfl ?_
   refine T.seq fun K6 hK6 => ?_
   refine T.region ?_
   refine rs rfl rfl (ok_moveb (c := false) (.inr rfl) rfl) ?_
   refine ro_nil ?_
   refine keepK hK6 [6] (by dsimp) (by dsimp) ?_
   refine T.ret (hQ _ _ _ rfl ?_).1 -- ret 2
   exact by (rw [decide_eq_false (fun h => by obtain ⟨⟨h1, h2⟩, ⟨h3, h4⟩, ⟨h5, h6⟩, h7, h8, h9, h10, h11⟩ := h; omega)]; exact TEnt.fin [] (by decide) (by simp) rfl ⟨rfl, trivial⟩)
  ·(try simp only [dE] at hb)
   refine any_take 15 rfl (by first | rfl | decide +kernel) rfl (by first | exact HeldL.refl _ | exact HeldL.append _ _ | simp [HeldL]) (fun H' hH => OpOk.step (ok_fieldAddr rfl ti_api_Zone rfl rfl ti_int (by decide) rfl)) ?_
   refine any_take 16 rfl (by first | rfl | decide +kernel) rfl (by first | exact HeldL.refl _ | exact HeldL.append _ _ | simp [HeldL]) (fun H' hH => OpOk.step (ok_load rfl ti_int (locA_held hH rfl) rfl)) ?_
   refine any_take 17 rfl (by first | rfl | decide +kernel) rfl (by first | exact HeldL.refl _ | exact HeldL.append _ _ | simp [HeldL]) (fun H' hH => OpOk.step (ok_load rfl ti_int (locA_held hH rfl) rfl)) ?_
   refine any_one 18 rfl (by first | rfl | decide +kernel) rfl rfl (ok_call rfl rfl rfl ((sin_ok z.w 0 (sizeC s.c)).plain rfl rfl)) (.inr (by first | (simp [HeldL]; done) | (simp only [dH]; (repeat' first | trivial | rfl | constructor)))) ?_
   refine any_take 19 rfl (by first | rfl | decide +kernel) rfl (by first | exact HeldL.refl _ | exact HeldL.append _ _ | simp [HeldL]) (fun H' hH => OpOk.step (ok_unOp rfl rfl)) ?_
   refine any_take 20 rfl (by first | rfl | decide +kernel) rfl (by first | exact HeldL.refl _ | exact HeldL.append _ _ | simp [HeldL]) (fun H' hH => OpOk.step (ok_pick rfl rfl)) ?_
   refine any_take 21 rfl (by first | rfl | decide +kernel) rfl (by first | exact HeldL.refl _ | exact HeldL.append _ _ | simp [HeldL]) (fun H' hH => OpOk.step (ok_move (.inr rfl))) ?_
   refine any_done rfl ?_
   refine keepK hK4 [2, 3, 4, 7, 12] (by dsimp) (by dsimp) ?_
   refine T.cond rfl (fun hc => ?_) (fun hc => ?_) -- cond 1
   ·(try simp only [dE] at hc)
    refine T.seq fun K7 hK7 => ?_
    refine T.region ?_
    refine rs rfl rfl (ok_moveb (c := false) (.inr rfl) rfl) ?_
    refine ro_nil ?_
    refine keepK hK7 [6] (by dsimp) (by dsimp) ?_
    refine T.ret (hQ _ _ _ rfl ?_).1 -- ret 3
    exact by (rw [decide_eq_false (fun h => by obtain ⟨⟨h1, h2⟩, ⟨h3, h4⟩, ⟨h5, h6⟩, h7, h8, h9, h10, h11⟩ := h; omega)]; exact TEnt.fin [] (by decide) (by simp) rfl ⟨rfl, trivial⟩)
   ·(try simp only [dE] at hc)
    refine T.seq fun K8 hK8 => ?_
    refine T.region ?_
    refine rs rfl rfl (ok_fieldAddr rfl ti_api_Zone rfl rfl ti_int (by decide) rfl) ?_
    refine rs rfl rfl (ok_load rfl ti_int rfl rfl) ?_
    refine rs rfl rfl (ok_binOp rfl ti_int rfl) ?_
    refine ro_case rfl rfl (OpOk.step (ok_moveb (.inl rfl) rfl)) (fun hb => ?_) (fun hb => ?_)
    ·(try simp only [dE] at hb)
     refine rs rfl rfl (ok_fieldAddr rfl ti_api_Zone rfl rfl ti_bool (by decide) rfl) ?_
     refine rs rfl rfl (ok_load rfl ti_bool rfl rfl) ?_
     refine rs rfl rfl (ok_unOp rfl rfl) ?_
     refine ro_case rfl rfl (OpOk.step (ok_moveb (.inl rfl) rfl)) (fun hb => ?_) (fun hb => ?_)
     ·(try simp only [dE] at hb)
      refine ro_skip rfl rfl ?_
      refine ro_skip rfl rfl ?_
      refine ro_skip rfl rfl ?_
      refine rs rfl rfl (ok_pickb (t := true) (d := true) rfl rfl rfl) ?_
      refine rs rfl rfl (ok_pickb (t := true) (d := true) rfl rfl rfl) ?_
      refine rs rfl rfl (ok_moveb (c := true) (.inr rfl) rfl) ?_
      refine ro_nil ?_
      refine keepK hK8 [2, 3, 4, 7, 34] (by dsimp) (by dsimp) ?_
      refine T.cond_true rfl ?_
      refine T.seq fun K9 hK9 => ?_
      refine T.region ?_
      refine rs rfl rfl (ok_moveb (c := false) (.inr rfl) rfl) ?_
      refine ro_nil ?_
      refine keepK hK9 [6] (by dsimp) (by dsimp) ?_
      refine T.ret (hQ _ _ _ rfl ?_).1 -- ret 4
      exact by (rw [decide_eq_false (fun h => by obtain ⟨⟨h1, h2⟩, ⟨h3, h4⟩, ⟨h5, h6⟩, h7, h8, h9, h10, h11⟩ := h; simp_all <;> omega)]; exact TEnt.fin [] (by decide) (by simp) rfl ⟨rfl, trivial⟩)
     ·(try simp only [dE] at hb)
      refine rs rfl rfl (ok_fieldAddr rfl ti_api_Zone rfl rfl ti_int (by decide) rfl) ?_
      refine rs rfl rfl (ok_load rfl ti_int rfl rfl) ?_
      refine rs rfl rfl (ok_binOp rfl ti_int rfl) ?_
      refine rs rfl rfl (ok_pick rfl rfl) ?_
      refine rs rfl rfl (ok_pick rfl rfl) ?_
      refine rs rfl rfl (ok_move (.inr rfl)) ?_
      refine ro_nil ?_
      refine keepK hK8 [2, 3, 4, 7, 34] (by dsimp) (by dsimp) ?_
      refine T.cond rfl (fun hc => ?_) (fun hc => ?_) -- cond 2
      ·(try simp only [dE] at hc)
       refine T.seq fun K10 hK10 => ?_
       refine T.region ?_
       refine rs rfl rfl (ok_moveb (c := false) (.inr rfl) rfl) ?_
       refine ro_nil ?_
       refine keepK hK10 [6] (by dsimp) (by dsimp) ?_
       refine T.ret (hQ _ _ _ rfl ?_).1 -- ret 5
       exact by (rw [decide_eq_false (fun h => by obtain ⟨⟨h1, h2⟩, ⟨h3, h4⟩, ⟨h5, h6⟩, h7, h8, h9, h10, h11⟩ := h; omega)]; exact TEnt.fin [] (by decide) (by simp) rfl ⟨rfl, trivial⟩)
      ·(try simp only [dE] at hc)
       refine T.seq fun K11 hK11 => ?_
       refine T.region ?_
       refine rs rfl rfl (ok_fieldAddr rfl ti_api_Zone rfl rfl ti_bool (by decide) rfl) ?_
       refine rs rfl rfl (ok_load rfl ti_bool rfl rfl) ?_
       refine ro_case rfl rfl (OpOk.step (ok_moveb (.inl rfl) rfl)) (fun hb => ?_) (fun hb => ?_)
       ·(try simp only [dE] at hb)
        refine rs rfl rfl (ok_fieldAddr rfl ti_api_Zone rfl rfl ti_int (by decide) rfl) ?_
        refine rs rfl rfl (ok_load rfl ti_int rfl rfl) ?_
        refine rs rfl rfl (ok_binOp rfl ti_int rfl) ?_
        refine ro_case rfl rfl (OpOk.step (ok_moveb (.inl rfl) rfl)) (fun hb => ?_) (fun hb => ?_)
        ·(try simp only [dE] at hb)
         refine ro_skip rfl rfl ?_
         refine ro_skip rfl rfl ?_
         refine rs rfl rfl (ok_pickb (t := true) (d := true) rfl rfl rfl) ?_
         refine rs rfl rfl (ok_pickb (t := true) (d := true) rfl rfl rfl) ?_
         refine rs rfl rfl (ok_moveb (c := true) (.inr rfl) rfl) ?_
         refine ro_nil ?_
         refine keepK hK11 [3, 4, 7, 48] (by dsimp) (by dsimp) ?_
         refine T.cond_true rfl ?_
         refine T.seq fun K12 hK12 => ?_
         refine T.region ?_
         refine rs rfl rfl (ok_moveb (c := false) (.inr rfl) rfl) ?_
         refine ro_nil ?_
         refine keepK hK12 [6] (by dsimp) (by dsimp) ?_
         refine T.ret (hQ _ _ _ rfl ?_).1 -- ret 6
         exact by (rw [decide_eq_false (fun h => by obtain ⟨⟨h1, h2⟩, ⟨h3, h4⟩, ⟨h5, h6⟩, h7, h8, h9, h10, h11⟩ := h; omega)]; exact TEnt.fin [] (by decide) (by simp) rfl ⟨rfl, trivial⟩)
        ·(try simp only [dE] at hb)
         refine rs rfl rfl (ok_move (.inl rfl)) ?_
         refine rs rfl rfl (ok_unOp rfl rfl) ?_
         refine rs rfl rfl (ok_pick rfl rfl) ?_
         refine rs rfl rfl (ok_pick rfl rfl) ?_
         refine rs rfl rfl (ok_move (.inr rfl)) ?_
         refine ro_nil ?_
         refine keepK hK11 [3, 4, 7, 48] (by dsimp) (by dsimp) ?_
         refine T.cond rfl (fun hc => ?_) (fun hc => ?_) -- cond 3
         ·(try simp only [dE] at hc)
          refine T.seq fun K13 hK13 => ?_
          refine T.region ?_
          refine rs rfl rfl (ok_moveb (c := false) (.inr rfl) rfl) ?_
          refine ro_nil ?_
          refine keepK hK13 [6] (by dsimp) (by dsimp) ?_
          refine T.ret (hQ _ _ _ rfl ?_).1 -- ret 7
          exact by (rw [decide_eq_false (fun h => by obtain ⟨⟨h1, h2⟩, ⟨h3, h4⟩, ⟨h5, h6⟩, h7, h8, h9, h10, h11⟩ := h; simp_all <;> omega)]; exact TEnt.fin [] (by decide) (by simp) rfl ⟨rfl, trivial⟩)
         ·(try simp only [dE] at hc)
          refine T.seq fun K14 hK14 => ?_
          refine T.region ?_
          refine rs rfl rfl (ok_fieldAddr rfl ti_api_Zone rfl rfl ti_Lapi_Par (by decide) rfl) ?_
          refine rs rfl rfl (ok_load rfl ti_Lapi_Par rfl rfl) ?_
          refine rs rfl rfl (ok_len' rfl rfl ti_Lapi_Par rfl (by first | exact ints_length _ _ | exact rowsA_length _ _ | exact Cms_len _ | exact mapLen _ | rfl)) ?_
          refine rs rfl rfl (ok_binOp rfl ti_int rfl) ?_
          refine ro_case rfl rfl (OpOk.step (ok_moveb (.inl rfl) rfl)) (fun hb => ?_) (fun hb => ?_)
          ·(try simp only [dE] at hb)
           refine ro_skip rfl rfl ?_
           refine ro_skip rfl rfl ?_
           refine ro_skip rfl rfl ?_
           refine ro_skip rfl rfl ?_
           refine ro_skip rfl rfl ?_
           refine ro_skip rfl rfl ?_
           refine ro_skip rfl rfl ?_
           refine ro_skip rfl rfl ?_
           refine ro_skip rfl rfl ?_
           refine rs rfl rfl (ok_pickb (t := true) (d := true) rfl rfl rfl) ?_
           refine rs rfl rfl (ok_moveb (c := true) (.inr rfl) rfl) ?_
           refine ro_nil ?_
           refine keepK hK14 [3, 4, 7, 60] (by dsimp) (by dsimp) ?_
           refine T.cond_true rfl ?_
           refine T.seq fun K15 hK15 => ?_
           refine T.region ?_
           refine rs rfl rfl (ok_moveb (c := false) (.inr rfl) rfl) ?_
           refine ro_nil ?_
           refine keepK hK15 [6] (by dsimp) (by dsimp) ?_
           refine T.ret (hQ _ _ _ rfl ?_).1 -- ret 8
           exact by (rw [decide_eq_false (fun h => by obtain ⟨⟨h1, h2⟩, ⟨h3, h4⟩, ⟨h5, h6⟩, h7, h8, h9, h10, h11⟩ := h; simp_all <;> omega)]; exact TEnt.fin [] (by decide) (by simp) rfl ⟨rfl, trivial⟩)
          ·(try simp only [dE] at hb)
           refine rs rfl rfl (ok_fieldAddr rfl ti_api_Zone rfl rfl ti_Lapi_Par (by decide) rfl) ?_
           refine rs rfl rfl (ok_load rfl ti_Lapi_Par rfl rfl) ?_
           refine rs rfl rfl (ok_len' rfl rfl ti_Lapi_Par rfl (by first | exact ints_length _ _ | exact rowsA_length _ _ | exact Cms_len _ | exact mapLen _ | rfl)) ?_
           refine rs rfl rfl (ok_binOp rfl ti_int rfl) ?_
           refine ro_case rfl rfl (OpOk.step (ok_moveb (.inl rfl) rfl)) (fun hb => ?_) (fun hb => ?_)
           ·(try simp only [dE] at hb)
            refine rs rfl rfl (ok_fieldAddr rfl ti_api_Zone rfl rfl ti_int (by decide) rfl) ?_
            refine rs rfl rfl (ok_load rfl ti_int rfl rfl) ?_
            refine rs rfl rfl (ok_binOp rfl ti_int rfl) ?_
            refine rs rfl rfl (ok_pick rfl rfl) ?_
            refine rs rfl rfl (ok_pick rfl rfl) ?_
            refine rs rfl rfl (ok_move (.inr rfl)) ?_
            refine ro_nil ?_
            refine keepK hK14 [3, 4, 7, 60] (by dsimp) (by dsimp) ?_
            refine T.cond rfl (fun hc => ?_) (fun hc => ?_) -- cond 4
            ·(try simp only [dE] at hc)
             refine T.seq fun K16 hK16 => ?_
             refine T.region ?_
             refine rs rfl rfl (ok_moveb (c := false) (.inr rfl) rfl) ?_
             refine ro_nil ?_
             refine keepK hK16 [6] (by dsimp) (by dsimp) ?_
             refine T.ret (hQ _ _ _ rfl ?_).1 -- ret 9
             exact by (rw [decide_eq_false (fun h => by obtain ⟨⟨h1, h2⟩, ⟨h3, h4⟩, ⟨h5, h6⟩, h7, h8, h9, h10, h11⟩ := h; omega)]; exact TEnt.fin [] (by decide) (by simp) rfl ⟨rfl, trivial⟩)
            ·(try simp only [dE] at hc)
             refine T.skip ?_
             refine keepK hK3 [3, 4, 7] (by dsimp) (by dsimp) ?_
             refine T.seq fun K17 hK17 => ?_
             refine T.region ?_
             refine rs rfl rfl (ok_makeFunc rfl) ?_
             refine rs rfl rfl (ok_move (.inr rfl)) ?_
             refine ro_nil ?_
             refine keepK hK17 [4, 8] (by dsimp) (by dsimp) ?_
             refine T.seq fun K18 hK18 => ?_
             refine T.region ?_
             refine rs rfl rfl (ok_fieldAddr rfl ti_api_Zone rfl rfl ti_Lapi_Par (by decide) rfl) ?_
             refine rs rfl rfl (ok_load rfl ti_Lapi_Par rfl rfl) ?_
             refine rs rfl rfl (ok_move (.inl rfl)) ?_
             refine ro rfl rfl (ok_call rfl rfl rfl (((containsP_ok s z.pars _ _ (fun y => rz1_ok s y hck) hl).pass [2, 0] (by decide) (by simp) (by simp [normH, hget]; exact ⟨SzB_ren _ _, StB_ren _ _⟩) (by simp [renL, AV.ren, Prs_ren, pos20.1, pos20.2])).eq (x' := .b (z.pars.any fun y => decide (¬ PG s.c y))) (H'' := [some (StB s), some (ZnB z), some (SzB s.c)]) rfl (by simp [mergeH, setIds, renH, SzB_ren, StB_ren]; rfl))) ?_
             refine rs rfl rfl (ok_unOp rfl rfl) ?_
             refine rs rfl rfl (ok_move (.inr rfl)) ?_
             refine ro_nil ?_
             refine keepK hK18 [6] (by dsimp) (by dsimp) ?_
             refine T.ret (hQ _ _ _ rfl ?_).1 -- ret 10
             exact by (rw [RZ_last (by refine ⟨⟨?_, ?_⟩, ⟨?_, ?_⟩, ⟨?_, ?_⟩, fun _ => ⟨?_, ?_⟩, fun _ => ⟨?_, ?_⟩, ?_, fun _ => ?_⟩ <;> first | assumption | omega | (simp_all <;> omega))]; exact TEnt.fin [] (by decide) (by simp) rfl ⟨rfl, trivial⟩)
           ·(try simp only [dE] at hb)
            refine ro_skip rfl rfl ?_
            refine ro_skip rfl rfl ?_
            refine ro_skip rfl rfl ?_
            refine rs rfl rfl (ok_pickb (t := false) (d := false) rfl rfl rfl) ?_
            refine rs rfl rfl (ok_pickb (t := false) (d := false) rfl rfl rfl) ?_
            refine rs rfl rfl (ok_moveb (c := false) (.inr rfl) rfl) ?_
            refine ro_nil ?_
            refine keepK hK14 [3, 4, 7, 60] (by dsimp) (by dsimp) ?_
            refine T.cond_false rfl ?_
            refine T.skip ?_
            refine keepK hK3 [3, 4, 7] (by dsimp) (by dsimp) ?_
            refine T.seq fun K19 hK19 => ?_
            refine T.region ?_
            refine rs rfl rfl (ok_makeFunc rfl) ?_
            refine rs rfl rfl (ok_move (.inr rfl)) ?_
            refine ro_nil ?_
            refine keepK hK19 [4, 8] (by dsimp) (by dsimp) ?_
            refine T.seq fun K20 hK20 => ?_
            refine T.region ?_
            refine rs rfl rfl (ok_fieldAddr rfl ti_api_Zone rfl rfl ti_Lapi_Par (by decide) rfl) ?_
            refine rs rfl rfl (ok_load rfl ti_Lapi_Par rfl rfl) ?_
            refine rs rfl rfl (ok_move (.inl rfl)) ?_
            refine ro rfl rfl (ok_call rfl rfl rfl (((containsP_ok s z.pars _ _ (fun y => rz1_ok s y hck) hl).pass [2, 0] (by decide) (by simp) (by simp [normH, hget]; exact ⟨SzB_ren _ _, StB_ren _ _⟩) (by simp [renL, AV.ren, Prs_ren, pos20.1, pos20.2])).eq (x' := .b (z.pars.any fun y => decide (¬ PG s.c y))) (H'' := [some (StB s), some (ZnB z), some (SzB s.c)]) rfl (by simp [mergeH, setIds, renH, SzB_ren, StB_ren]; rfl))) ?_
            refine rs rfl rfl (ok_unOp rfl rfl) ?_
            refine rs rfl rfl (ok_move (.inr rfl)) ?_
            refine ro_nil ?_
            refine keepK hK20 [6] (by dsimp) (by dsimp) ?_
            refine T.ret (hQ _ _ _ rfl ?_).1 -- ret 11
            exact by (rw [RZ_last (by refine ⟨⟨?_, ?_⟩, ⟨?_, ?_⟩, ⟨?_, ?_⟩, fun _ => ⟨?_, ?_⟩, fun _ => ⟨?_, ?_⟩, ?_, fun _ => ?_⟩ <;> first | assumption | omega | (simp_all <;> omega))]; exact TEnt.fin [] (by decide) (by simp) rfl ⟨rfl, trivial⟩)
       ·(try simp only [dE] at hb)
        refine ro_skip rfl rfl ?_
        refine ro_skip rfl rfl ?_
        refine ro_skip rfl rfl ?_
        refine ro_skip rfl rfl ?_
        refine ro_skip rfl rfl ?_
        refine ro_skip rfl rfl ?_
        refine ro_skip rfl rfl ?_
        refine rs rfl rfl (ok_pickb (t := false) (d := false) rfl rfl rfl) ?_
        refine rs rfl rfl (ok_moveb (c := false) (.inr rfl) rfl) ?_
        refine ro_nil ?_
        refine keepK hK11 [3, 4, 7, 48] (by dsimp) (by dsimp) ?_
        refine T.cond_false rfl ?_
        refine T.seq fun K21 hK21 => ?_
        refine T.region ?_
        refine rs rfl rfl (ok_fieldAddr rfl ti_api_Zone rfl rfl ti_Lapi_Par (by decide) rfl) ?_
        refine rs rfl rfl (ok_load rfl ti_Lapi_Par rfl rfl) ?_
        refine rs rfl rfl (ok_len' rfl rfl ti_Lapi_Par rfl (by first | exact ints_length _ _ | exact rowsA_length _ _ | exact Cms_len _ | exact mapLen _ | rfl)) ?_
        refine rs rfl rfl (ok_binOp rfl ti_int rfl) ?_
        refine ro_case rfl rfl (OpOk.step (ok_moveb (.inl rfl) rfl)) (fun hb => ?_) (fun hb => ?_)
        ·(try simp only [dE] at hb)
         refine ro_skip rfl rfl ?_
         refine ro_skip rfl rfl ?_
         refine ro_skip rfl rfl ?_
         refine ro_skip rfl rfl ?_
         refine ro_skip rfl rfl ?_
         refine ro_skip rfl rfl ?_
         refine ro_skip rfl rfl ?_
         refine ro_skip rfl rfl ?_
         refine ro_skip rfl rfl ?_
         refine rs rfl rfl (ok_pickb (t := true) (d := true) rfl rfl rfl) ?_
         refine rs rfl rfl (ok_moveb (c := true) (.inr rfl) rfl) ?_
         refine ro_nil ?_
         refine keepK hK21 [3, 4, 7, 60] (by dsimp) (by dsimp) ?_
         refine T.cond_true rfl ?_
         refine T.seq fun K22 hK22 => ?_
         refine T.region ?_
         refine rs rfl rfl (ok_moveb (c := false) (.inr rfl) rfl) ?_
         refine ro_nil ?_
         refine keepK hK22 [6] (by dsimp) (by dsimp) ?_
         refine T.ret (hQ _ _ _ rfl ?_).1 -- ret 12
         exact by (rw [decide_eq_false (fun h => by obtain ⟨⟨h1, h2⟩, ⟨h3, h4⟩, ⟨h5, h6⟩, h7, h8, h9, h10, h11⟩ := h; simp_all <;> omega)]; exact TEnt.fin [] (by decide) (by simp) rfl ⟨rfl, trivial⟩)
        ·(try simp only [dE] at hb)
         refine rs rfl rfl (ok_fieldAddr rfl ti_api_Zone rfl rfl ti_Lapi_Par (by decide) rfl) ?_
         refine rs rfl rfl (ok_load rfl ti_Lapi_Par rfl rfl) ?_
         refine rs rfl rfl (ok_len' rfl rfl ti_Lapi_Par rfl (by first | exact ints_length _ _ | exact rowsA_length _ _ | exact Cms_len _ | exact mapLen _ | rfl)) ?_
         refine rs rfl rfl (ok_binOp rfl ti_int rfl) ?_
         refine ro_case rfl rfl (OpOk.step (ok_moveb (.inl rfl) rfl)) (fun hb => ?_) (fun hb => ?_)
         ·(try simp only [dE] at hb)
          refine rs rfl rfl (ok_fieldAddr rfl ti_api_Zone rfl rfl ti_int (by decide) rfl) ?_
          refine rs rfl rfl (ok_load rfl ti_int rfl rfl) ?_
          refine rs rfl rfl (ok_binOp rfl ti_int rfl) ?_
          refine rs rfl rfl (ok_pick rfl rfl) ?_
          refine rs rfl rfl (ok_pick rfl rfl) ?_
          refine rs rfl rfl (ok_move (.inr rfl)) ?_
          refine ro_nil ?_
          refine keepK hK21 [3, 4, 7, 60] (by dsimp) (by dsimp) ?_
          refine T.cond rfl (fun hc => ?_) (fun hc => ?_) -- cond 5
          ·(try simp only [dE] at hc)
           refine T.seq fun K23 hK23 => ?_
           refine T.region ?_
           refine rs rfl rfl (ok_moveb (c := false) (.inr rfl) rfl) ?_
           refine ro_nil ?_
           refine keepK hK23 [6] (by dsimp) (by dsimp) ?_
           refine T.ret (hQ _ _ _ rfl ?_).1 -- ret 13
           exact by (rw [decide_eq_false (fun h => by obtain ⟨⟨h1, h2⟩, ⟨h3, h4⟩, ⟨h5, h6⟩, h7, h8, h9, h10, h11⟩ := h; omega)]; exact TEnt.fin [] (by decide) (by simp) rfl ⟨rfl, trivial⟩)
          ·(try simp only [dE] at hc)
           refine T.skip ?_
           refine keepK hK3 [3, 4, 7] (by dsimp) (by dsimp) ?_
           refine T.seq fun K24 hK24 => ?_
           refine T.region ?_
           refine rs rfl rfl (ok_makeFunc rfl) ?_
           refine rs rfl rfl (ok_move (.inr rfl)) ?_
           refine ro_nil ?_
           refine keepK hK24 [4, 8] (by dsimp) (by dsimp) ?_
           refine T.seq fun K25 hK25 => ?_
           refine T.region ?_
           refine rs rfl rfl (ok_fieldAddr rfl ti_api_Zone rfl rfl ti_Lapi_Par (by decide) rfl) ?_
           refine rs rfl rfl (ok_load rfl ti_Lapi_Par rfl rfl) ?_
           refine rs rfl rfl (ok_move (.inl rfl)) ?_
           refine ro rfl rfl (ok_call rfl rfl rfl (((containsP_ok s z.pars _ _ (fun y => rz1_ok s y hck) hl).pass [2, 0] (by decide) (by simp) (by simp [normH, hget]; exact ⟨SzB_ren _ _, StB_ren _ _⟩) (by simp [renL, AV.ren, Prs_ren, pos20.1, pos20.2])).eq (x' := .b (z.pars.any fun y => decide (¬ PG s.c y))) (H'' := [some (StB s), some (ZnB z), some (SzB s.c)]) rfl (by simp [mergeH, setIds, renH, SzB_ren, StB_ren]; rfl))) ?_
           refine rs rfl rfl (ok_unOp rfl rfl) ?_
           refine rs rfl rfl (ok_move (.inr rfl)) ?_
           refine ro_nil ?_
           refine keepK hK25 [6] (by dsimp) (by dsimp) ?_
           refine T.ret (hQ _ _ _ rfl ?_).1 -- ret 14
           exact by (rw [RZ_last (by refine ⟨⟨?_, ?_⟩, ⟨?_, ?_⟩, ⟨?_, ?_⟩, fun _ => ⟨?_, ?_⟩, fun _ => ⟨?_, ?_⟩, ?_, fun _ => ?_⟩ <;> first | assumption | omega | (simp_all <;> omega))]; exact TEnt.fin [] (by decide) (by simp) rfl ⟨rfl, trivial⟩)
         ·(try simp only [dE] at hb)
          refine ro_skip rfl rfl ?_
          refine ro_skip rfl rfl ?_
          refine ro_skip rfl rfl ?_
          refine rs rfl rfl (ok_pickb (t := false) (d := false) rfl rfl rfl) ?_
          refine rs rfl rfl (ok_pickb (t := false) (d := false) rfl rfl rfl) ?_
          refine rs rfl rfl (ok_moveb (c := false) (.inr rfl) rfl) ?_
          refine ro_nil ?_
          refine keepK hK21 [3, 4, 7, 60] (by dsimp) (by dsimp) ?_
          refine T.cond_false rfl ?_
          refine T.skip ?_
          refine keepK hK3 [3, 4, 7] (by dsimp) (by dsimp) ?_
          refine T.seq fun K26 hK26 => ?_
          refine T.region ?_
          refine rs rfl rfl (ok_makeFunc rfl) ?_
          refine rs rfl rfl (ok_move (.inr rfl)) ?_
          refine ro_nil ?_
          refine keepK hK26 [4, 8] (by dsimp) (by dsimp) ?_
          refine T.seq fun K27 hK27 => ?_
          refine T.region ?_
          refine rs rfl rfl (ok_fieldAddr rfl ti_api_Zone rfl rfl ti_Lapi_Par (by decide) rfl) ?_
          refine rs rfl rfl (ok_load rfl ti_Lapi_Par rfl rfl) ?_
          refine rs rfl rfl (ok_move (.inl rfl)) ?_
          refine ro rfl rfl (ok_call rfl rfl rfl (((containsP_ok s z.pars _ _ (fun y => rz1_ok s y hck) hl).pass [2, 0] (by decide) (by simp) (by simp [normH, hget]; exact ⟨SzB_ren _ _, StB_ren _ _⟩) (by simp [renL, AV.ren, Prs_ren, pos20.1, pos20.2])).eq (x' := .b (z.pars.any fun y => decide (¬ PG s.c y))) (H'' := [some (StB s), some (ZnB z), some (SzB s.c)]) rfl (by simp [mergeH, setIds, renH, SzB_ren, StB_ren]; rfl))) ?_
          refine rs rfl rfl (ok_unOp rfl rfl) ?_
          refine rs rfl rfl (ok_move (.inr rfl)) ?_
          refine ro_nil ?_
          refine keepK hK27 [6] (by dsimp) (by dsimp) ?_
          refine T.ret (hQ _ _ _ rfl ?_).1 -- ret 15
          exact by (rw [RZ_last (by refine ⟨⟨?_, ?_⟩, ⟨?_, ?_⟩, ⟨?_, ?_⟩, fun _ => ⟨?_, ?_⟩, fun _ => ⟨?_, ?_⟩, ?_, fun _ => ?_⟩ <;> first | assumption | omega | (simp_all <;> omega))]; exact TEnt.fin [] (by decide) (by simp) rfl ⟨rfl, trivial⟩)
    ·(try simp only [dE] at hb)
     refine ro_skip rfl rfl ?_
     refine ro_skip rfl rfl ?_
     refine ro_skip rfl rfl ?_
     refine ro_skip rfl rfl ?_
     refine ro_skip rfl rfl ?_
     refine ro_skip rfl rfl ?_
     refine ro_skip rfl rfl ?_
     refine ro_skip rfl rfl ?_
     refine rs rfl rfl (ok_pickb (t := false) (d := false) rfl rfl rfl) ?_
     refine rs rfl rfl (ok_moveb (c := false) (.inr rfl) rfl) ?_
     refine ro_nil ?_
     refine keepK hK8 [2, 3, 4, 7, 34] (by dsimp) (by dsimp) ?_
     refine T.cond_false rfl ?_
     refine T.seq fun K28 hK28 => ?_
     refine T.region ?_
     refine rs rfl rfl (ok_fieldAddr rfl ti_api_Zone rfl rfl ti_bool (by decide) rfl) ?_
     refine rs rfl rfl (ok_load rfl ti_bool rfl rfl) ?_
     refine ro_case rfl rfl (OpOk.step (ok_moveb (.inl rfl) rfl)) (fun hb => ?_) (fun hb => ?_)
     ·(try simp only [dE] at hb)
      refine rs rfl rfl (ok_fieldAddr rfl ti_api_Zone rfl rfl ti_int (by decide) rfl) ?_
      refine rs rfl rfl (ok_load rfl ti_int rfl rfl) ?_
      refine rs rfl rfl (ok_binOp rfl ti_int rfl) ?_
      refine ro_case rfl rfl (OpOk.step (ok_moveb (.inl rfl) rfl)) (fun hb => ?_) (fun hb => ?_)
      ·(try simp only [dE] at hb)
       refine ro_skip rfl rfl ?_
       refine ro_skip rfl rfl ?_
       refine rs rfl rfl (ok_pickb (t := true) (d := true) rfl rfl rfl) ?_
       refine rs rfl rfl (ok_pickb (t := true) (d := true) rfl rfl rfl) ?_
       refine rs rfl rfl (ok_moveb (c := true) (.inr rfl) rfl) ?_
       refine ro_nil ?_
       refine keepK hK28 [3, 4, 7, 48] (by dsimp) (by dsimp) ?_
       refine T.cond_true rfl ?_
       refine T.seq fun K29 hK29 => ?_
       refine T.region ?_
       refine rs rfl rfl (ok_moveb (c := false) (.inr rfl) rfl) ?_
       refine ro_nil ?_
       refine keepK hK29 [6] (by dsimp) (by dsimp) ?_
       refine T.ret (hQ _ _ _ rfl ?_).1 -- ret 16
       exact by (rw [decide_eq_false (fun h => by obtain ⟨⟨h1, h2⟩, ⟨h3, h4⟩, ⟨h5, h6⟩, h7, h8, h9, h10, h11⟩ := h; simp_all <;> omega)]; exact TEnt.fin [] (by decide) (by simp) rfl ⟨rfl, trivial⟩)
      ·(try simp only [dE] at hb)
       refine rs rfl rfl (ok_move (.inl rfl)) ?_
       refine rs rfl rfl (ok_unOp rfl rfl) ?_
       refine rs rfl rfl (ok_pick rfl rfl) ?_
       refine rs rfl rfl (ok_pick rfl rfl) ?_
       refine rs rfl rfl (ok_move (.inr rfl)) ?_
       refine ro_nil ?_
       refine keepK hK28 [3, 4, 7, 48] (by dsimp) (by dsimp) ?_
       refine T.cond rfl (fun hc => ?_) (fun hc => ?_) -- cond 6
       ·(try simp only [dE] at hc)
        refine T.seq fun K30 hK30 => ?_
        refine T.region ?_
        refine rs rfl rfl (ok_moveb (c := false) (.inr rfl) rfl) ?_
        refine ro_nil ?_
        refine keepK hK30 [6] (by dsimp) (by dsimp) ?_
        refine T.ret (hQ _ _ _ rfl ?_).1 -- ret 17
        exact by (rw [decide_eq_false (fun h => by obtain ⟨⟨h1, h2⟩, ⟨h3, h4⟩, ⟨h5, h6⟩, h7, h8, h9, h10, h11⟩ := h; simp_all <;> omega)]; exact TEnt.fin [] (by decide) (by simp) rfl ⟨rfl, trivial⟩)
       ·(try simp only [dE] at hc)
        refine T.seq fun K31 hK31 => ?_
        refine T.region ?_
        refine rs rfl rfl (ok_fieldAddr rfl ti_api_Zone rfl rfl ti_Lapi_Par (by decide) rfl) ?_
        refine rs rfl rfl (ok_load rfl ti_Lapi_Par rfl rfl) ?_
        refine rs rfl rfl (ok_len' rfl rfl ti_Lapi_Par rfl (by first | exact ints_length _ _ | exact rowsA_length _ _ | exact Cms_len _ | exact mapLen _ | rfl)) ?_
        refine rs rfl rfl (ok_binOp rfl ti_int rfl) ?_
        refine ro_case rfl rfl (OpOk.step (ok_moveb (.inl rfl) rfl)) (fun hb => ?_) (fun hb => ?_)
        ·(try simp only [dE] at hb)
         refine ro_skip rfl rfl ?_
         refine ro_skip rfl rfl ?_
         refine ro_skip rfl rfl ?_
         refine ro_skip rfl rfl ?_
         refine ro_skip rfl rfl ?_
         refine ro_skip rfl rfl ?_
         refine ro_skip rfl rfl ?_
         refine ro_skip rfl rfl ?_
         refine ro_skip rfl rfl ?_
         refine rs rfl rfl (ok_pickb (t := true) (d := true) rfl rfl rfl) ?_
         refine rs rfl rfl (ok_moveb (c := true) (.inr rfl) rfl) ?_
         refine ro_nil ?_
         refine keepK hK31 [3, 4, 7, 60] (by dsimp) (by dsimp) ?_
         refine T.cond_true rfl ?_
         refine T.seq fun K32 hK32 => ?_
         refine T.region ?_
         refine rs rfl rfl (ok_moveb (c := false) (.inr rfl) rfl) ?_
         refine ro_nil ?_
         refine keepK hK32 [6] (by dsimp) (by dsimp) ?_
         refine T.ret (hQ _ _ _ rfl ?_).1 -- ret 18
         exact by (rw [decide_eq_false (fun h => by obtain ⟨⟨h1, h2⟩, ⟨h3, h4⟩, ⟨h5, h6⟩, h7, h8, h9, h10, h11⟩ := h; simp_all <;> omega)]; exact TEnt.fin [] (by decide) (by simp) rfl ⟨rfl, trivial⟩)
        ·(try simp only [dE] at hb)
         refine rs rfl rfl (ok_fieldAddr rfl ti_api_Zone rfl rfl ti_Lapi_Par (by decide) rfl) ?_
         refine rs rfl rfl (ok_load rfl ti_Lapi_Par rfl rfl) ?_
         refine rs rfl rfl (ok_len' rfl rfl ti_Lapi_Par rfl (by first | exact ints_length _ _ | exact rowsA_length _ _ | exact Cms_len _ | exact mapLen _ | rfl)) ?_
         refine rs rfl rfl (ok_binOp rfl ti_int rfl) ?_
         refine ro_case rfl rfl (OpOk.step (ok_moveb (.inl rfl) rfl)) (fun hb => ?_) (fun hb => ?_)
         ·(try simp only [dE] at hb)
          refine rs rfl rfl (ok_fieldAddr rfl ti_api_Zone rfl rfl ti_int (by decide) rfl) ?_
          refine rs rfl rfl (ok_load rfl ti_int rfl rfl) ?_
          refine rs rfl rfl (ok_binOp rfl ti_int rfl) ?_
          refine rs rfl rfl (ok_pick rfl rfl) ?_
          refine rs rfl rfl (ok_pick rfl rfl) ?_
          refine rs rfl rfl (ok_move (.inr rfl)) ?_
          refine ro_nil ?_
          refine keepK hK31 [3, 4, 7, 60] (by dsimp) (by dsimp) ?_
          refine T.cond rfl (fun hc => ?_) (fun hc => ?_) -- cond 7
          ·(try simp only [dE] at hc)
           refine T.seq fun K33 hK33 => ?_
           refine T.region ?_
           refine rs rfl rfl (ok_moveb (c := false) (.inr rfl) rfl) ?_
           refine ro_nil ?_
           refine keepK hK33 [6] (by dsimp) (by dsimp) ?_
           refine T.ret (hQ _ _ _ rfl ?_).1 -- ret 19
           exact by (rw [decide_eq_false (fun h => by obtain ⟨⟨h1, h2⟩, ⟨h3, h4⟩, ⟨h5, h6⟩, h7, h8, h9, h10, h11⟩ := h; omega)]; exact TEnt.fin [] (by decide) (by simp) rfl ⟨rfl, trivial⟩)
          ·(try simp only [dE] at hc)
           refine T.skip ?_
           refine keepK hK3 [3, 4, 7] (by dsimp) (by dsimp) ?_
           refine T.seq fun K34 hK34 => ?_
           refine T.region ?_
           refine rs rfl rfl (ok_makeFunc rfl) ?_
           refine rs rfl rfl (ok_move (.inr rfl)) ?_
           refine ro_nil ?_
           refine keepK hK34 [4, 8] (by dsimp) (by dsimp) ?_
           refine T.seq fun K35 hK35 => ?_
           refine T.region ?_
           refine rs rfl rfl (ok_fieldAddr rfl ti_api_Zone rfl rfl ti_Lapi_Par (by decide) rfl) ?_
           refine rs rfl rfl (ok_load rfl ti_Lapi_Par rfl rfl) ?_
           refine rs rfl rfl (ok_move (.inl rfl)) ?_
           refine ro rfl rfl (ok_call rfl rfl rfl (((containsP_ok s z.pars _ _ (fun y => rz1_ok s y hck) hl).pass [2, 0] (by decide) (by simp) (by simp [normH, hget]; exact ⟨SzB_ren _ _, StB_ren _ _⟩) (by simp [renL, AV.ren, Prs_ren, pos20.1, pos20.2])).eq (x' := .b (z.pars.any fun y => decide (¬ PG s.c y))) (H'' := [some (StB s), some (ZnB z), some (SzB s.c)]) rfl (by simp [mergeH, setIds, renH, SzB_ren, StB_ren]; rfl))) ?_
           refine rs rfl rfl (ok_unOp rfl rfl) ?_
           refine rs rfl rfl (ok_move (.inr rfl)) ?_
           refine ro_nil ?_
           refine keepK hK35 [6] (by dsimp) (by dsimp) ?_
           refine T.ret (hQ _ _ _ rfl ?_).1 -- ret 20
           exact by (rw [RZ_last (by refine ⟨⟨?_, ?_⟩, ⟨?_, ?_⟩, ⟨?_, ?_⟩, fun _ => ⟨?_, ?_⟩, fun _ => ⟨?_, ?_⟩, ?_, fun _ => ?_⟩ <;> first | assumption | omega | (simp_all <;> omega))]; exact TEnt.fin [] (by decide) (by simp) rfl ⟨rfl, trivial⟩)
         ·(try simp only [dE] at hb)
          refine ro_skip rfl rfl ?_
          refine ro_skip rfl rfl ?_
          refine ro_skip rfl rfl ?_
          refine rs rfl rfl (ok_pickb (t := false) (d := false) rfl rfl rfl) ?_
          refine rs rfl rfl (ok_pickb (t := false) (d := false) rfl rfl rfl) ?_
          refine rs rfl rfl (ok_moveb (c := false) (.inr rfl) rfl) ?_
          refine ro_nil ?_
          refine keepK hK31 [3, 4, 7, 60] (by dsimp) (by dsimp) ?_
          refine T.cond_false rfl ?_
          refine T.skip ?_
          refine keepK hK3 [3, 4, 7] (by dsimp) (by dsimp) ?_
          refine T.seq fun K36 hK36 => ?_
          refine T.region ?_
          refine rs rfl rfl (ok_makeFunc rfl) ?_
          refine rs rfl rfl (ok_move (.inr rfl)) ?_
          refine ro_nil ?_
          refine keepK hK36 [4, 8] (by dsimp) (by dsimp) ?_
          refine T.seq fun K37 hK37 => ?_
          refine T.region ?_
          refine rs rfl rfl (ok_fieldAddr rfl ti_api_Zone rfl rfl ti_Lapi_Par (by decide) rfl) ?_
          refine rs rfl rfl (ok_load rfl ti_Lapi_Par rfl rfl) ?_
          refine rs rfl rfl (ok_move (.inl rfl)) ?_
          refine ro rfl rfl (ok_call rfl rfl rfl (((containsP_ok s z.pars _ _ (fun y => rz1_ok s y hck) hl).pass [2, 0] (by decide) (by simp) (by simp [normH, hget]; exact ⟨SzB_ren _ _, StB_ren _ _⟩) (by simp [renL, AV.ren, Prs_ren, pos20.1, pos20.2])).eq (x' := .b (z.pars.any fun y => decide (¬ PG s.c y))) (H'' := [some (StB s), some (ZnB z), some (SzB s.c)]) rfl (by simp [mergeH, setIds, renH, SzB_ren, StB_ren]; rfl))) ?_
          refine rs rfl rfl (ok_unOp rfl rfl) ?_
          refine rs rfl rfl (ok_move (.inr rfl)) ?_
          refine ro_nil ?_
          refine keepK hK37 [6] (by dsimp) (by dsimp) ?_
          refine T.ret (hQ _ _ _ rfl ?_).1 -- ret 21
          exact by (rw [RZ_last (by refine ⟨⟨?_, ?_⟩, ⟨?_, ?_⟩, ⟨?_, ?_⟩, fun _ => ⟨?_, ?_⟩, fun _ => ⟨?_, ?_⟩, ?_, fun _ => ?_⟩ <;> first | assumption | omega | (simp_all <;> omega))]; exact TEnt.fin [] (by decide) (by simp) rfl ⟨rfl, trivial⟩)
     ·(try simp only [dE] at hb)
      refine ro_skip rfl rfl ?_
      refine ro_skip rfl rfl ?_
      refine ro_skip rfl rfl ?_
      refine ro_skip rfl rfl ?_
      refine ro_skip rfl rfl ?_
      refine ro_skip rfl rfl ?_
      refine ro_skip rfl rfl ?_
      refine rs rfl rfl (ok_pickb (t := false) (d := false) rfl rfl rfl) ?_
      refine rs rfl rfl (ok_moveb (c := false) (.inr rfl) rfl) ?_
      refine ro_nil ?_
      refine keepK hK28 [3, 4, 7, 48] (by dsimp) (by dsimp) ?_
      refine T.cond_false rfl ?_
      refine T.seq fun K38 hK38 => ?_
      refine T.region ?_
      refine rs rfl rfl (ok_fieldAddr rfl ti_api_Zone rfl rfl ti_Lapi_Par (by decide) rfl) ?_
      refine rs rfl rfl (ok_load rfl ti_Lapi_Par rfl rfl) ?_
      refine rs rfl rfl (ok_len' rfl rfl ti_Lapi_Par rfl (by first | exact ints_length _ _ | exact rowsA_length _ _ | exact Cms_len _ | exact mapLen _ | rfl)) ?_
      refine rs rfl rfl (ok_binOp rfl ti_int rfl) ?_
      refine ro_case rfl rfl (OpOk.step (ok_moveb (.inl rfl) rfl)) (fun hb => ?_) (fun hb => ?_)
      ·(try simp only [dE] at hb)
       refine ro_skip rfl rfl ?_
       refine ro_skip rfl rfl ?_
       refine ro_skip rfl rfl ?_
       refine ro_skip rfl rfl ?_
       refine ro_skip rfl rfl ?_
       refine ro_skip rfl rfl ?_
       refine ro_skip rfl rfl ?_
       refine ro_skip rfl rfl ?_
       refine ro_skip rfl rfl ?_
       refine rs rfl rfl (ok_pickb (t := true) (d := true) rfl rfl rfl) ?_
       refine rs rfl rfl (ok_moveb (c := true) (.inr rfl) rfl) ?_
       refine ro_nil ?_
       refine keepK hK38 [3, 4, 7, 60] (by dsimp) (by dsimp) ?_
       refine T.cond_true rfl ?_
       refine T.seq fun K39 hK39 => ?_
       refine T.region ?_
       refine rs rfl rfl (ok_moveb (c := false) (.inr rfl) rfl) ?_
       refine ro_nil ?_
       refine keepK hK39 [6] (by dsimp) (by dsimp) ?_
       refine T.ret (hQ _ _ _ rfl ?_).1 -- ret 22
       exact by (rw [decide_eq_false (fun h => by obtain ⟨⟨h1, h2⟩, ⟨h3, h4⟩, ⟨h5, h6⟩, h7, h8, h9, h10, h11⟩ := h; simp_all <;> omega)]; exact TEnt.fin [] (by decide) (by simp) rfl ⟨rfl, trivial⟩)
      ·(try simp only [dE] at hb)
       refine rs rfl rfl (ok_fieldAddr rfl ti_api_Zone rfl rfl ti_Lapi_Par (by decide) rfl) ?_
       refine rs rfl rfl (ok_load rfl ti_Lapi_Par rfl rfl) ?_
       refine rs rfl rfl (ok_len' rfl rfl ti_Lapi_Par rfl (by first | exact ints_length _ _ | exact rowsA_length _ _ | exact Cms_len _ | exact mapLen _ | rfl)) ?_
       refine rs rfl rfl (ok_binOp rfl ti_int rfl) ?_
       refine ro_case rfl rfl (OpOk.step (ok_moveb (.inl rfl) rfl)) (fun hb => ?_) (fun hb => ?_)
       ·(try simp only [dE] at hb)
        refine rs rfl rfl (ok_fieldAddr rfl ti_api_Zone rfl rfl ti_int (by decide) rfl) ?_
        refine rs rfl rfl (ok_load rfl ti_int rfl rfl) ?_
        refine rs rfl rfl (ok_binOp rfl ti_int rfl) ?_
        refine rs rfl rfl (ok_pick rfl rfl) ?_
        refine rs rfl rfl (ok_pick rfl rfl) ?_
        refine rs rfl rfl (ok_move (.inr rfl)) ?_
        refine ro_nil ?_
        refine keepK hK38 [3, 4, 7, 60] (by dsimp) (by dsimp) ?_
        refine T.cond rfl (fun hc => ?_) (fun hc => ?_) -- cond 8
        ·(try simp only [dE] at hc)
         refine T.seq fun K40 hK40 => ?_
         refine T.region ?_
         refine rs rfl rfl (ok_moveb (c := false) (.inr rfl) rfl) ?_
         refine ro_nil ?_
         refine keepK hK40 [6] (by dsimp) (by dsimp) ?_
         refine T.ret (hQ _ _ _ rfl ?_).1 -- ret 23
         exact by (rw [decide_eq_false (fun h => by obtain ⟨⟨h1, h2⟩, ⟨h3, h4⟩, ⟨h5, h6⟩, h7, h8, h9, h10, h11⟩ := h; simp_all <;> omega)]; exact TEnt.fin [] (by decide) (by simp) rfl ⟨rfl, trivial⟩)
        ·(try simp only [dE] at hc)
         refine T.skip ?_
         refine keepK hK3 [3, 4, 7] (by dsimp) (by dsimp) ?_
         refine T.seq fun K41 hK41 => ?_
         refine T.region ?_
         refine rs rfl rfl (ok_makeFunc rfl) ?_
         refine rs rfl rfl (ok_move (.inr rfl)) ?_
         refine ro_nil ?_
         refine keepK hK41 [4, 8] (by dsimp) (by dsimp) ?_
         refine T.seq fun K42 hK42 => ?_
         refine T.region ?_
         refine rs rfl rfl (ok_fieldAddr rfl ti_api_Zone rfl rfl ti_Lapi_Par (by decide) rfl) ?_
         refine rs rfl rfl (ok_load rfl ti_Lapi_Par rfl rfl) ?_
         refine rs rfl rfl (ok_move (.inl rfl)) ?_
         refine ro rfl rfl (ok_call rfl rfl rfl (((containsP_ok s z.pars _ _ (fun y => rz1_ok s y hck) hl).pass [2, 0] (by decide) (by simp) (by simp [normH, hget]; exact ⟨SzB_ren _ _, StB_ren _ _⟩) (by simp [renL, AV.ren, Prs_ren, pos20.1, pos20.2])).eq (x' := .b (z.pars.any fun y => decide (¬ PG s.c y))) (H'' := [some (StB s), some (ZnB z), some (SzB s.c)]) rfl (by simp [mergeH, setIds, renH, SzB_ren, StB_ren]; rfl))) ?_
         refine rs rfl rfl (ok_unOp rfl rfl) ?_
         refine rs rfl rfl (ok_move (.inr rfl)) ?_
         refine ro_nil ?_
         refine keepK hK42 [6] (by dsimp) (by dsimp) ?_
         refine T.ret (hQ _ _ _ rfl ?_).1 -- ret 24
         exact by (rw [RZ_last (by refine ⟨⟨?_, ?_⟩, ⟨?_, ?_⟩, ⟨?_, ?_⟩, fun _ => ⟨?_, ?_⟩, fun _ => ⟨?_, ?_⟩, ?_, fun _ => ?_⟩ <;> first | assumption | omega | (simp_all <;> omega))]; exact TEnt.fin [] (by decide) (by simp) rfl ⟨rfl, trivial⟩)
       ·(try simp only [dE] at hb)
        refine ro_skip rfl rfl ?_
        refine ro_skip rfl rfl ?_
        refine ro_skip rfl rfl ?_
        refine rs rfl rfl (ok_pickb (t := false) (d := false) rfl rfl rfl) ?_
        refine rs rfl rfl (ok_pickb (t := false) (d := false) rfl rfl rfl) ?_
        refine rs rfl rfl (ok_moveb (c := false) (.inr rfl) rfl) ?_
        refine ro_nil ?_
        refine keepK hK38 [3, 4, 7, 60] (by dsimp) (by dsimp) ?_
        refine T.cond_false rfl ?_
        refine T.skip ?_
        refine keepK hK3 [3, 4, 7] (by dsimp) (by dsimp) ?_
        refine T.seq fun K43 hK43 => ?_
        refine T.region ?_
        refine rs rfl rfl (ok_makeFunc rfl) ?_
        refine rs rfl rfl (ok_move (.inr rfl)) ?_
        refine ro_nil ?_
        refine keepK hK43 [4, 8] (by dsimp) (by dsimp) ?_
        refine T.seq fun K44 hK44 => ?_
        refine T.region ?_
        refine rs rfl rfl (ok_fieldAddr rfl ti_api_Zone rfl rfl ti_Lapi_Par (by decide) rfl) ?_
        refine rs rfl rfl (ok_load rfl ti_Lapi_Par rfl rfl) ?_
        refine rs rfl rfl (ok_move (.inl rfl)) ?_
        refine ro rfl rfl (ok_call rfl rfl rfl (((containsP_ok s z.pars _ _ (fun y => rz1_ok s y hck) hl).pass [2, 0] (by decide) (by simp) (by simp [normH, hget]; exact ⟨SzB_ren _ _, StB_ren _ _⟩) (by simp [renL, AV.ren, Prs_ren, pos20.1, pos20.2])).eq (x' := .b (z.pars.any fun y => decide (¬ PG s.c y))) (H'' := [some (StB s), some (ZnB z), some (SzB s.c)]) rfl (by simp [mergeH, setIds, renH, SzB_ren, StB_ren]; rfl))) ?_
        refine rs rfl rfl (ok_unOp rfl rfl) ?_
        refine rs rfl rfl (ok_move (.inr rfl)) ?_
        refine ro_nil ?_
        refine keepK hK44 [6] (by dsimp) (by dsimp) ?_
        refine T.ret (hQ _ _ _ rfl ?_).1 -- ret 25
        exact by (rw [RZ_last (by refine ⟨⟨?_, ?_⟩, ⟨?_, ?_⟩, ⟨?_, ?_⟩, fun _ => ⟨?_, ?_⟩, fun _ => ⟨?_, ?_⟩, ?_, fun _ => ?_⟩ <;> first | assumption | omega | (simp_all <;> omega))]; exact TEnt.fin [] (by decide) (by simp) rfl ⟨rfl, trivial⟩)
end Go.Proofs.YtjklgbafnfoolaaGreat.AmF
namespace Go.Proofs.YtjklgbafnfoolaaGreat.AmF
open Go Go.AM
set_option maxRecDepth 100000
set_option maxHeartbeats 2000000
set_option linter.unusedSimpArgs false
set_option linter.unusedVariables false
attribute [local simp] tkeep tget tput ev cav argsTM pickA normT putA splice AV.cells ints_length rowsA_length Prs_len Zns_len
/-- No slot is had twice. -/
def DS (zs : List Zn) : Prop := zs.Pairwise fun a b => a.slot = b.slot → b.slot = -1
instance (zs : List Zn) : Decidable (DS zs) := by unfold DS; infer_instance
/-- A state that may be. -/
def RS (s : St) : Prop := chkC s.c = 0 ∧ (1 ≤ s.ep ∧ s.ep ≤ 1099511627776) ∧ (0 ≤ s.sq ∧ s.sq ≤ 1099511627776) ∧ (s.st.length : Int) = s.c.mem ∧ (s.zs.length : Int) = s.c.zon ∧ (∀ n ∈ s.st, 0 ≤ n ∧ n ≤ 2) ∧ s.st.countP oddP ≤ 1 ∧ (∀ z ∈ s.zs, RZ s.c (decide (2 ∈ s.st)) z) ∧ DS s.zs
instance (s : St) : Decidable (RS s) := by unfold RS; infer_instance
/-- The slots that were seen. -/
def seenZ (l : List Zn) : List Int := l.foldl (fun ks z => mput ks z.slot) []
theorem seenZ_snoc (l : List Zn) (z : Zn) : seenZ (l ++ [z]) = mput (seenZ l) z.slot := by simp [seenZ]
theorem seenZ_go (l : List Zn) : ∀ (ks : List Int) (n : Int), n ∈ l.foldl (fun ks z => mput ks z.slot) ks ↔ n ∈ ks ∨ ∃ z ∈ l, z.slot = n := by
  induction l with
  | nil => intro ks n; simp
  | cons z l ih =>
    intro ks n
    rw [List.foldl_cons, ih, mput_mem]
    constructor
    · rintro ((h | h) | ⟨y, hy, h⟩)
      · exact .inr ⟨z, List.mem_cons_self .., h.symm⟩
      · exact .inl h
      · exact .inr ⟨y, List.mem_cons_of_mem _ hy, h⟩
    · rintro (h | ⟨y, hy, h⟩)
      · exact .inl (.inr h)
      · rcases List.mem_cons.1 hy with e | hy
        · subst e; exact .inl (.inl h.symm)
        · exact .inr ⟨y, hy, h⟩
theorem seenZ_mem {l : List Zn} {n : Int} : n ∈ seenZ l ↔ ∃ z ∈ l, z.slot = n := by
  unfold seenZ
  rw [seenZ_go]
  simp
theorem DS_snoc {l : List Zn} {z : Zn} (h : DS l) (hz : z.slot = -1 ∨ z.slot ∉ seenZ l) : DS (l ++ [z]) := by
  unfold DS at *
  rw [List.pairwise_append]
  refine ⟨h, List.pairwise_singleton _ _, fun a ha b hb e => ?_⟩
  rw [List.mem_singleton.1 hb] at e ⊢
  rcases hz with h1 | h1
  · exact h1
  · exact absurd (seenZ_mem.2 ⟨a, ha, e⟩) h1
theorem DS_no {l : List Zn} {z : Zn} {i : Nat} (hx : l[i]? = some z) (h1 : z.slot ≠ -1) (h2 : z.slot ∈ seenZ (l.take i)) : ¬ DS l := by
  intro h
  obtain ⟨a, ha, e⟩ := seenZ_mem.1 h2
  have h3 : DS (l.take (i + 1)) := List.Pairwise.sublist (List.take_sublist _ _) h
  rw [take_succ_get hx] at h3
  unfold DS at h3
  rw [List.pairwise_append] at h3
  exact h1 (h3.2.2 a ha z (List.mem_singleton.2 rfl) e)
theorem countP_take_le {l : List Int} (i : Nat) : (l.take i).countP oddP ≤ l.length := Nat.le_trans List.countP_le_length (by simp; omega)
theorem RS_st {s : St} {i : Nat} {n : Int} (hx : s.st[i]? = some n) (h : ¬ (0 ≤ n ∧ n ≤ 2)) : ¬ RS s := fun ⟨_, _, _, _, _, h', _⟩ => h (h' n (List.mem_of_getElem? hx))
theorem RS_zn {s : St} {i : Nat} {z : Zn} (hx : s.zs[i]? = some z) (h : ¬ RZ s.c (decide (2 ∈ s.st)) z) : ¬ RS s := fun ⟨_, _, _, _, _, _, _, h', _⟩ => h (h' z (List.mem_of_getElem? hx))
theorem RS_ds {s : St} (h : ¬ DS s.zs) : ¬ RS s := fun ⟨_, _, _, _, _, _, _, _, h'⟩ => h h'
theorem RS_last {s : St} (h1 : chkC s.c = 0 ∧ (1 ≤ s.ep ∧ s.ep ≤ 1099511627776) ∧ (0 ≤ s.sq ∧ s.sq ≤ 1099511627776) ∧ (s.st.length : Int) = s.c.mem ∧ (s.zs.length : Int) = s.c.zon) (h2 : ∀ n ∈ s.st, 0 ≤ n ∧ n ≤ 2) (h3 : ∀ z ∈ s.zs, RZ s.c (decide (2 ∈ s.st)) z) (h4 : DS s.zs) : decide (RS s) = decide (((s.st.countP oddP : Nat) : Int) ≤ 1) := by
  rw [decide_eq_decide]
  obtain ⟨a, b, c, d, e⟩ := h1
  constructor
  · rintro ⟨_, _, _, _, _, _, h, _⟩; omega
  · intro h; exact ⟨a, b, c, d, e, h2, by omega, h3, h4⟩
theorem countP_snoc {l : List Int} {i : Nat} {n : Int} (hx : l[i]? = some n) : (l.take (i + 1)).countP oddP = (l.take i).countP oddP + if oddP n then 1 else 0 := by
  rw [take_succ_get hx, List.countP_append]
  simp [List.countP_cons]
theorem all_snoc {α : Type} {p : α → Prop} {l : List α} {i : Nat} {x : α} (hx : l[i]? = some x) (h : ∀ y ∈ l.take i, p y) (hp : p x) : ∀ y ∈ l.take (i + 1), p y := by
  rw [take_succ_get hx]
  intro y hy
  rcases List.mem_append.1 hy with hy | hy
  · exact h y hy
  · rw [List.mem_singleton.1 hy]; exact hp
theorem sright_ok (s : St) (hn : s.st.length ≤ 140737488355328) (hm : s.zs.length ≤ 140737488355328) (hl : ∀ z ∈ s.zs, z.pars.length ≤ 140737488355328) : CSpec Tryz.prog 19 [] [.agg (StC s)] [] (.b (decide (RS s))) := by
 refine CSpec.body Tryz.func19 rfl rfl rfl rfl rfl fun Q hQ => ?_
 refine T.seq fun K1 hK1 => ?_
 refine T.region ?_
 refine rs rfl rfl (ok_box (n := 15) rfl rfl (by decide)) ?_
 refine rs rfl rfl (ok_moveb (c := false) (.inr rfl) rfl) ?_
 refine ro_nil ?_
 refine keepK hK1 [1] (by dsimp) (by dsimp) ?_
 refine T.seq fun K2 hK2 => ?_
 refine T.region ?_
 refine rs rfl rfl (ok_fieldAddr rfl ti_api_State rfl rfl ti_api_Conf (by decide) rfl) ?_
 refine rs rfl rfl (ok_load rfl ti_api_Conf rfl rfl) ?_
 refine rs rfl rfl (ok_alloc rfl ti_api_Conf rfl (by decide)) ?_
 refine rs rfl rfl (ok_store rfl ti_api_Conf (by decide) rfl rfl rfl rfl rfl (by first | exact Nat.le_of_ble_eq_true rfl | simp) (by first | exact .inl ⟨rfl, rfl⟩ | exact .inr rfl)) ?_
 refine ro_nil ?_
 refine keepK hK2 [1, 3] (by dsimp) (by dsimp) ?_
 refine T.seq fun K3 hK3 => ?_
 refine T.seq fun K4 hK4 => ?_
 refine T.region ?_
 refine rs rfl rfl (ok_load rfl ti_api_Conf rfl rfl) ?_
 refine ro rfl rfl (ok_call rfl rfl rfl ((check_ok s.c).plain (by show renL _ [.agg (CC s.c)] = _; simp [renL, AV.ren, CC_ren]) rfl)) ?_
 refine rs rfl rfl (ok_binOp rfl ti_api_Errno rfl) ?_
 refine ro_case rfl rfl (OpOk.step (ok_moveb (.inl rfl) rfl)) (fun hb => ?_) (fun hb => ?_)
 ·(try simp only [dE] at hb)
  refine ro_skip rfl rfl ?_
  refine ro_skip rfl rfl ?_
  refine ro_skip rfl rfl ?_
  refine ro_skip rfl rfl ?_
  refine rs rfl rfl (ok_pickb (t := true) (d := true) rfl rfl rfl) ?_
  refine rs rfl rfl (ok_moveb (c := true) (.inl rfl) rfl) ?_
  refine ro_skip rfl rfl ?_
  refine ro_skip rfl rfl ?_
  refine ro_skip rfl rfl ?_
  refine ro_skip rfl rfl ?_
  refine rs rfl rfl (ok_pickb (t := true) (d := true) rfl rfl rfl) ?_
  refine rs rfl rfl (ok_moveb (c := true) (.inl rfl) rfl) ?_
  refine ro_skip rfl rfl ?_
  refine ro_skip rfl rfl ?_
  refine ro_skip rfl rfl ?_
  refine ro_skip rfl rfl ?_
  refine ro_skip rfl rfl ?_
  refine ro_skip rfl rfl ?_
  refine rs rfl rfl (ok_pickb (t := true) (d := true) rfl rfl rfl) ?_
  refine rs rfl rfl (ok_moveb (c := true) (.inl rfl) rfl) ?_
  refine ro_skip rfl rfl ?_
  refine ro_skip rfl rfl ?_
  refine ro_skip rfl rfl ?_
  refine ro_skip rfl rfl ?_
  refine ro_skip rfl rfl ?_
  refine ro_skip rfl rfl ?_
  refine rs rfl rfl (ok_pickb (t := true) (d := true) rfl rfl rfl) ?_
  refine ro_nil ?_
  refine keepK hK4 [1, 43] (by dsimp) (by dsimp) ?_
  refine T.cond_true rfl ?_
  refine T.seq fun K5 hK5 => ?_
  refine T.region ?_
  refine rs rfl rfl (ok_moveb (c := false) (.inr rfl) rfl) ?_
  refine ro_nil ?_
  refine keepK hK5 [2] (by dsimp) (by dsimp) ?_
  refine T.ret (hQ _ _ _ rfl ?_).1 -- ret 1
  exact by first
    | (rw [RS_last hhead hall hzs hds]; exact TEnt.fin [] (by decide) (by simp) rfl ⟨rfl, trivial⟩)
  
    | (rw [decide_eq_false (fun h => by obtain ⟨h1, h2, h3, h4, h5, h⟩ := h; omega)]; exact TEnt.fin [] (by decide) (by simp) rfl ⟨rfl, trivial⟩)
    | (rw [decide_eq_false (RS_st (by assumption) (by assumption))]; exact TEnt.fin [] (by decide) (by simp) rfl ⟨rfl, trivial⟩)
    | (rw [decide_eq_false (RS_zn hz (by assumption))]; exact TEnt.fin [] (by decide) (by simp) rfl ⟨rfl, trivial⟩)
    | (rw [decide_eq_false (RS_ds (DS_no hz (by assumption) (by assumption)))]; exact TEnt.fin [] (by decide) (by simp) rfl ⟨rfl, trivial⟩)
    | (rw [decide_eq_false hno]; exact TEnt.fin [] (by decide) (by simp) rfl ⟨rfl, trivial⟩)
 ·(try simp only [dE] at hb)
  refine rs rfl rfl (ok_fieldAddr rfl ti_api_State rfl rfl ti_int (by decide) rfl) ?_
  refine rs rfl rfl (ok_load rfl ti_int rfl rfl) ?_
  refine ro rfl rfl (ok_call rfl rfl rfl ((sin_ok s.ep 1 1099511627776).plain rfl rfl)) ?_
  refine rs rfl rfl (ok_unOp rfl rfl) ?_
  refine rs rfl rfl (ok_pick rfl rfl) ?_
  refine ro_case rfl rfl (OpOk.step (ok_moveb (.inl rfl) rfl)) (fun hb => ?_) (fun hb => ?_)
  ·(try simp only [dE] at hb)
   refine ro_skip rfl rfl ?_
   refine ro_skip rfl rfl ?_
   refine ro_skip rfl rfl ?_
   refine ro_skip rfl rfl ?_
   refine rs rfl rfl (ok_pickb (t := true) (d := true) rfl rfl rfl) ?_
   refine rs rfl rfl (ok_moveb (c := true) (.inl rfl) rfl) ?_
   refine ro_skip rfl rfl ?_
   refine ro_skip rfl rfl ?_
   refine ro_skip rfl rfl ?_
   refine ro_skip rfl rfl ?_
   refine ro_skip rfl rfl ?_
   refine ro_skip rfl rfl ?_
   refine rs rfl rfl (ok_pickb (t := true) (d := true) rfl rfl rfl) ?_
   refine rs rfl rfl (ok_moveb (c := true) (.inl rfl) rfl) ?_
   refine ro_skip rfl rfl ?_
   refine ro_skip rfl rfl ?_
   refine ro_skip rfl rfl ?_
   refine ro_skip rfl rfl ?_
   refine ro_skip rfl rfl ?_
   refine ro_skip rfl rfl ?_
   refine rs rfl rfl (ok_pickb (t := true) (d := true) rfl rfl rfl) ?_
   refine ro_nil ?_
   refine keepK hK4 [1, 43] (by dsimp) (by dsimp) ?_
   refine T.cond_true rfl ?_
   refine T.seq fun K6 hK6 => ?_
   refine T.region ?_
   refine rs rfl rfl (ok_moveb (c := false) (.inr rfl) rfl) ?_
   refine ro_nil ?_
   refine keepK hK6 [2] (by dsimp) (by dsimp) ?_
   refine T.ret (hQ _ _ _ rfl ?_).1 -- ret 2
   exact by first
     | (rw [RS_last hhead hall hzs hds]; exact TEnt.fin [] (by decide) (by simp) rfl ⟨rfl, trivial⟩)
   
     | (rw [decide_eq_false (fun h => by obtain ⟨h1, h2, h3, h4, h5, h⟩ := h; omega)]; exact TEnt.fin [] (by decide) (by simp) rfl ⟨rfl, trivial⟩)
     | (rw [decide_eq_false (RS_st (by assumption) (by assumption))]; exact TEnt.fin [] (by decide) (by simp) rfl ⟨rfl, trivial⟩)
     | (rw [decide_eq_false (RS_zn hz (by assumption))]; exact TEnt.fin [] (by decide) (by simp) rfl ⟨rfl, trivial⟩)
     | (rw [decide_eq_false (RS_ds (DS_no hz (by assumption) (by assumption)))]; exact TEnt.fin [] (by decide) (by simp) rfl ⟨rfl, trivial⟩)
     | (rw [decide_eq_false hno]; exact TEnt.fin [] (by decide) (by simp) rfl ⟨rfl, trivial⟩)
  ·(try simp only [dE] at hb)
   refine rs rfl rfl (ok_fieldAddr rfl ti_api_State rfl rfl ti_int (by decide) rfl) ?_
   refine rs rfl rfl (ok_load rfl ti_int rfl rfl) ?_
   refine ro rfl rfl (ok_call rfl rfl rfl ((sin_ok s.sq 0 1099511627776).plain rfl rfl)) ?_
   refine rs rfl rfl (ok_unOp rfl rfl) ?_
   refine rs rfl rfl (ok_pick rfl rfl) ?_
   refine ro_case rfl rfl (OpOk.step (ok_moveb (.inl rfl) rfl)) (fun hb => ?_) (fun hb => ?_)
   ·(try simp only [dE] at hb)
    refine ro_skip rfl rfl ?_
    refine ro_skip rfl rfl ?_
    refine ro_skip rfl rfl ?_
    refine ro_skip rfl rfl ?_
    refine ro_skip rfl rfl ?_
    refine ro_skip rfl rfl ?_
    refine rs rfl rfl (ok_pickb (t := true) (d := true) rfl rfl rfl) ?_
    refine rs rfl rfl (ok_moveb (c := true) (.inl rfl) rfl) ?_
    refine ro_skip rfl rfl ?_
    refine ro_skip rfl rfl ?_
    refine ro_skip rfl rfl ?_
    refine ro_skip rfl rfl ?_
    refine ro_skip rfl rfl ?_
    refine ro_skip rfl rfl ?_
    refine rs rfl rfl (ok_pickb (t := true) (d := true) rfl rfl rfl) ?_
    refine ro_nil ?_
    refine keepK hK4 [1, 43] (by dsimp) (by dsimp) ?_
    refine T.cond_true rfl ?_
    refine T.seq fun K7 hK7 => ?_
    refine T.region ?_
    refine rs rfl rfl (ok_moveb (c := false) (.inr rfl) rfl) ?_
    refine ro_nil ?_
    refine keepK hK7 [2] (by dsimp) (by dsimp) ?_
    refine T.ret (hQ _ _ _ rfl ?_).1 -- ret 3
    exact by first
      | (rw [RS_last hhead hall hzs hds]; exact TEnt.fin [] (by decide) (by simp) rfl ⟨rfl, trivial⟩)
    
      | (rw [decide_eq_false (fun h => by obtain ⟨h1, h2, h3, h4, h5, h⟩ := h; omega)]; exact TEnt.fin [] (by decide) (by simp) rfl ⟨rfl, trivial⟩)
      | (rw [decide_eq_false (RS_st (by assumption) (by assumption))]; exact TEnt.fin [] (by decide) (by simp) rfl ⟨rfl, trivial⟩)
      | (rw [decide_eq_false (RS_zn hz (by assumption))]; exact TEnt.fin [] (by decide) (by simp) rfl ⟨rfl, trivial⟩)
      | (rw [decide_eq_false (RS_ds (DS_no hz (by assumption) (by assumption)))]; exact TEnt.fin [] (by decide) (by simp) rfl ⟨rfl, trivial⟩)
      | (rw [decide_eq_false hno]; exact TEnt.fin [] (by decide) (by simp) rfl ⟨rfl, trivial⟩)
   ·(try simp only [dE] at hb)
    refine rs rfl rfl (ok_fieldAddr rfl ti_api_State rfl rfl ti_Lint (by decide) rfl) ?_
    refine rs rfl rfl (ok_load rfl ti_Lint rfl rfl) ?_
    refine rs rfl rfl (ok_len' rfl rfl ti_Lint rfl (by first | exact ints_length _ _ | exact rowsA_length _ _ | exact Cms_len _ | exact mapLen _ | rfl)) ?_
    refine rs rfl rfl (ok_fieldAddr rfl ti_api_Conf rfl rfl ti_int (by decide) rfl) ?_
    refine rs rfl rfl (ok_load rfl ti_int rfl rfl) ?_
    refine rs rfl rfl (ok_binOp rfl ti_int rfl) ?_
    refine rs rfl rfl (ok_pick rfl rfl) ?_
    refine ro_case rfl rfl (OpOk.step (ok_moveb (.inl rfl) rfl)) (fun hb => ?_) (fun hb => ?_)
    ·(try simp only [dE] at hb)
     refine ro_skip rfl rfl ?_
     refine ro_skip rfl rfl ?_
     refine ro_skip rfl rfl ?_
     refine ro_skip rfl rfl ?_
     refine ro_skip rfl rfl ?_
     refine ro_skip rfl rfl ?_
     refine rs rfl rfl (ok_pickb (t := true) (d := true) rfl rfl rfl) ?_
     refine ro_nil ?_
     refine keepK hK4 [1, 43] (by dsimp) (by dsimp) ?_
     refine T.cond_true rfl ?_
     refine T.seq fun K8 hK8 => ?_
     refine T.region ?_
     refine rs rfl rfl (ok_moveb (c := false) (.inr rfl) rfl) ?_
     refine ro_nil ?_
     refine keepK hK8 [2] (by dsimp) (by dsimp) ?_
     refine T.ret (hQ _ _ _ rfl ?_).1 -- ret 4
     exact by first
       | (rw [RS_last hhead hall hzs hds]; exact TEnt.fin [] (by decide) (by simp) rfl ⟨rfl, trivial⟩)
     
       | (rw [decide_eq_false (fun h => by obtain ⟨h1, h2, h3, h4, h5, h⟩ := h; omega)]; exact TEnt.fin [] (by decide) (by simp) rfl ⟨rfl, trivial⟩)
       | (rw [decide_eq_false (RS_st (by assumption) (by assumption))]; exact TEnt.fin [] (by decide) (by simp) rfl ⟨rfl, trivial⟩)
       | (rw [decide_eq_false (RS_zn hz (by assumption))]; exact TEnt.fin [] (by decide) (by simp) rfl ⟨rfl, trivial⟩)
       | (rw [decide_eq_false (RS_ds (DS_no hz (by assumption) (by assumption)))]; exact TEnt.fin [] (by decide) (by simp) rfl ⟨rfl, trivial⟩)
       | (rw [decide_eq_false hno]; exact TEnt.fin [] (by decide) (by simp) rfl ⟨rfl, trivial⟩)
    ·(try simp only [dE] at hb)
     refine rs rfl rfl (ok_fieldAddr rfl ti_api_State rfl rfl ti_Lapi_Zone (by decide) rfl) ?_
     refine rs rfl rfl (ok_load rfl ti_Lapi_Zone rfl rfl) ?_
     refine rs rfl rfl (ok_len' rfl rfl ti_Lapi_Zone rfl (by first | exact ints_length _ _ | exact rowsA_length _ _ | exact Cms_len _ | exact mapLen _ | rfl)) ?_
     refine rs rfl rfl (ok_fieldAddr rfl ti_api_Conf rfl rfl ti_int (by decide) rfl) ?_
     refine rs rfl rfl (ok_load rfl ti_int rfl rfl) ?_
     refine rs rfl rfl (ok_binOp rfl ti_int rfl) ?_
     refine rs rfl rfl (ok_pick rfl rfl) ?_
     refine ro_nil ?_
     refine keepK hK4 [1, 43] (by dsimp) (by dsimp) ?_
     refine T.cond rfl (fun hc => ?_) (fun hc => ?_) -- cond 1
     ·(try simp only [dE] at hc)
      try rw [Zns_len] at hc
      refine T.seq fun K9 hK9 => ?_
      refine T.region ?_
      refine rs rfl rfl (ok_moveb (c := false) (.inr rfl) rfl) ?_
      refine ro_nil ?_
      refine keepK hK9 [2] (by dsimp) (by dsimp) ?_
      refine T.ret (hQ _ _ _ rfl ?_).1 -- ret 5
      exact by first
        | (rw [RS_last hhead hall hzs hds]; exact TEnt.fin [] (by decide) (by simp) rfl ⟨rfl, trivial⟩)
      
        | (rw [decide_eq_false (fun h => by obtain ⟨h1, h2, h3, h4, h5, h⟩ := h; omega)]; exact TEnt.fin [] (by decide) (by simp) rfl ⟨rfl, trivial⟩)
        | (rw [decide_eq_false (RS_st (by assumption) (by assumption))]; exact TEnt.fin [] (by decide) (by simp) rfl ⟨rfl, trivial⟩)
        | (rw [decide_eq_false (RS_zn hz (by assumption))]; exact TEnt.fin [] (by decide) (by simp) rfl ⟨rfl, trivial⟩)
        | (rw [decide_eq_false (RS_ds (DS_no hz (by assumption) (by assumption)))]; exact TEnt.fin [] (by decide) (by simp) rfl ⟨rfl, trivial⟩)
        | (rw [decide_eq_false hno]; exact TEnt.fin [] (by decide) (by simp) rfl ⟨rfl, trivial⟩)
     ·(try simp only [dE] at hc)
      try rw [Zns_len] at hc
      have hhead : chkC s.c = 0 ∧ (1 ≤ s.ep ∧ s.ep ≤ 1099511627776) ∧ (0 ≤ s.sq ∧ s.sq ≤ 1099511627776) ∧ (s.st.length : Int) = s.c.mem ∧ (s.zs.length : Int) = s.c.zon := by omega
      have hck := hhead.1
      refine T.skip ?_
      refine keepK hK3 [1] (by dsimp) (by dsimp) ?_
      refine T.seq fun K10 hK10 => ?_
      refine T.region ?_
      refine rs rfl rfl (ok_move (.inr rfl)) ?_
      refine ro_nil ?_
      refine keepK hK10 [1, 4] (by dsimp) (by dsimp) ?_
      refine T.seq fun K11 hK11 => ?_
      refine T.seq fun K12 hK12 => ?_
      refine T.region ?_
      refine rs rfl rfl (ok_fieldAddr rfl ti_api_State rfl rfl ti_Lint (by decide) rfl) ?_
      refine rs rfl rfl (ok_load rfl ti_Lint rfl rfl) ?_
      refine rs rfl rfl (ok_len' rfl rfl ti_Lint rfl (by first | exact ints_length _ _ | exact rowsA_length _ _ | exact Cms_len _ | exact mapLen _ | rfl)) ?_
      refine rs rfl rfl (ok_move (.inl rfl)) ?_
      refine ro_nil ?_
      refine keepK hK12 [1, 4, 45, 46, 47] (by dsimp) (by dsimp) ?_
      refine T.block ?_
      refine T.loopI (ι := Nat) (fun i => i ≤ s.st.length ∧ ∀ n ∈ s.st.take i, 0 ≤ n ∧ n ≤ 2) (fun i => s.st.length - i) (fun i => ([(1, .ref 0 0 0), (4, .int ((s.st.take i).countP oddP)), (45, .fz 1 (ints .i64 s.st)), (46, .int s.st.length), (47, .int i)], [some (StB s), some (CB s.c)])) 0 ⟨Nat.zero_le _, fun y hy => by simp at hy⟩ (TEnt.toH rfl ⟨rfl, rfl, rfl, rfl, rfl, trivial⟩) (fun i hi => ?_) -- loop 1
      obtain ⟨hil, hall⟩ := hi
      refine T.seq fun K13 hK13 => ?_
      refine T.region ?_
      refine rs rfl rfl (ok_binOp rfl ti_int rfl) ?_
      refine ro_nil ?_
      refine keepK hK13 [1, 4, 45, 46, 47, 48] (by dsimp) (by dsimp) ?_
      refine T.seq fun K14 hK14 => ?_
      refine T.cond rfl (fun hc => ?_) (fun hc => ?_) -- cond 2
      ·(try simp only [dE] at hc)
       obtain ⟨n, hin⟩ : ∃ n, s.st[i]? = some n := ⟨_, List.getElem?_eq_getElem (by omega)⟩
       have hcl := countP_take_le (l := s.st) i
       refine T.skip ?_
       refine keepK hK14 [1, 4, 45, 46, 47] (by dsimp) (by dsimp) ?_
       refine T.seq fun K15 hK15 => ?_
       refine T.block ?_
       refine T.seq fun K16 hK16 => ?_
       refine T.region ?_
       refine rs rfl rfl (by exact ok_index_ints rfl ti_Lint rfl ti_int rfl rfl rfl (by omega) (by simpa using hin)) ?_
       refine rs rfl rfl (ok_load rfl ti_int rfl rfl) ?_
       refine rs rfl rfl (ok_move (.inr rfl)) ?_
       refine ro_nil ?_
       refine keepK hK16 [1, 4, 6, 45, 46, 47] (by dsimp) (by dsimp) ?_
       refine T.seq fun K17 hK17 => ?_
       refine T.seq fun K18 hK18 => ?_
       refine T.region ?_
       refine rs rfl rfl (ok_move (.inl rfl)) ?_
       refine ro rfl rfl (ok_call rfl rfl rfl ((sin_ok n 0 2).plain rfl rfl)) ?_
       refine rs rfl rfl (ok_unOp rfl rfl) ?_
       refine ro_nil ?_
       refine keepK hK18 [1, 4, 6, 45, 46, 47, 53] (by dsimp) (by dsimp) ?_
       refine T.cond rfl (fun hc => ?_) (fun hc => ?_) -- cond 3
       ·(try simp only [dE] at hc)
        have hno := RS_st hin (by omega)
        refine T.seq fun K19 hK19 => ?_
        refine T.region ?_
        refine rs rfl rfl (ok_moveb (c := false) (.inr rfl) rfl) ?_
        refine ro_nil ?_
        refine keepK hK19 [2] (by dsimp) (by dsimp) ?_
        refine T.ret (hQ _ _ _ rfl ?_).1 -- ret 6
        exact by first
          | (rw [RS_last hhead hall hzs hds]; exact TEnt.fin [] (by decide) (by simp) rfl ⟨rfl, trivial⟩)
        
          | (rw [decide_eq_false (fun h => by obtain ⟨h1, h2, h3, h4, h5, h⟩ := h; omega)]; exact TEnt.fin [] (by decide) (by simp) rfl ⟨rfl, trivial⟩)
          | (rw [decide_eq_false (RS_st (by assumption) (by assumption))]; exact TEnt.fin [] (by decide) (by simp) rfl ⟨rfl, trivial⟩)
          | (rw [decide_eq_false (RS_zn hz (by assumption))]; exact TEnt.fin [] (by decide) (by simp) rfl ⟨rfl, trivial⟩)
          | (rw [decide_eq_false (RS_ds (DS_no hz (by assumption) (by assumption)))]; exact TEnt.fin [] (by decide) (by simp) rfl ⟨rfl, trivial⟩)
          | (rw [decide_eq_false hno]; exact TEnt.fin [] (by decide) (by simp) rfl ⟨rfl, trivial⟩)
       ·(try simp only [dE] at hc)
        refine T.skip ?_
        refine keepK hK17 [1, 4, 6, 45, 46, 47] (by dsimp) (by dsimp) ?_
        refine T.seq fun K20 hK20 => ?_
        refine T.region ?_
        refine rs rfl rfl (ok_move (.inl rfl)) ?_
        refine rs rfl rfl (ok_binOp rfl ti_int rfl) ?_
        refine ro_nil ?_
        refine keepK hK20 [1, 4, 45, 46, 47, 55] (by dsimp) (by dsimp) ?_
        refine T.cond rfl (fun hc => ?_) (fun hc => ?_) -- cond 4
        ·(try simp only [dE] at hc)
         have hcs := countP_snoc hin
         rw [show oddP n = true by simp [oddP]; omega, if_pos rfl] at hcs
         refine T.region ?_
         refine rs rfl rfl (ok_move (.inl rfl)) ?_
         refine rs rfl rfl (ok_add64 rfl ti_int rfl rfl (by omega) (by omega)) ?_
         refine rs rfl rfl (ok_move (.inr rfl)) ?_
         refine ro_nil ?_
         refine keepK hK15 [1, 4, 45, 46, 47] (by dsimp) (by dsimp) ?_
         refine T.region ?_
         refine rs rfl rfl (ok_add64 rfl ti_int rfl rfl (by omega) (by omega)) ?_
         refine rs rfl rfl (ok_move (.inl rfl)) ?_
         refine ro_nil ?_
         exact ⟨i + 1, ⟨by omega, all_snoc hin hall (by omega)⟩, by omega, TEnt.toH rfl ⟨rfl, by simp [hcs], rfl, rfl, rfl, trivial⟩⟩
        ·(try simp only [dE] at hc)
         have hcs := countP_snoc hin
         rw [show oddP n = false by simp [oddP]; omega, if_neg (by decide)] at hcs
         refine T.skip ?_
         refine keepK hK15 [1, 4, 45, 46, 47] (by dsimp) (by dsimp) ?_
         refine T.region ?_
         refine rs rfl rfl (ok_add64 rfl ti_int rfl rfl (by omega) (by omega)) ?_
         refine rs rfl rfl (ok_move (.inl rfl)) ?_
         refine ro_nil ?_
         exact ⟨i + 1, ⟨by omega, all_snoc hin hall (by omega)⟩, by omega, TEnt.toH rfl ⟨rfl, by simp [hcs], rfl, rfl, rfl, trivial⟩⟩
      ·(try simp only [dE] at hc)
       have hin : i = s.st.length := by omega
       subst hin
       rw [List.take_length] at hall
       rw [List.take_length]
       refine T.exit ?_
       refine keepK hK11 [1, 4] (by dsimp) (by dsimp) ?_
       refine T.seq fun K21 hK21 => ?_
       refine T.region ?_
       refine rs rfl rfl (ok_fieldAddr rfl ti_api_State rfl rfl ti_Lint (by decide) rfl) ?_
       refine rs rfl rfl (ok_load rfl ti_Lint rfl rfl) ?_
       refine ro rfl rfl (ok_call rfl rfl rfl ((contains_ok s.st 2 hn).plain (by simp [renL, AV.ren, renL_ints]) rfl)) ?_
       refine rs rfl rfl (ok_move (.inr rfl)) ?_
       refine ro_nil ?_
       refine keepK hK21 [1, 4, 7] (by dsimp) (by dsimp) ?_
       refine T.mkMap rfl rfl rfl rfl (fun r K22 hK22 => ?_) -- a map
       refine uo rfl rfl (OpOk.step (ok_move (.inr rfl))) ?_
       refine uo_nil ?_
       refine keepU hK22 [1, 4, 7, 8] (by dsimp) (by dsimp) ?_
       refine U.seq fun K23 hK23 => ?_
       refine U.seq fun K24 hK24 => ?_
       refine U.lift ?_
       refine T.region ?_
       refine rs rfl rfl (ok_fieldAddr rfl ti_api_State rfl rfl ti_Lapi_Zone (by decide) rfl) ?_
       refine rs rfl rfl (ok_load rfl ti_Lapi_Zone rfl rfl) ?_
       refine rs rfl rfl (ok_len' rfl rfl ti_Lapi_Zone rfl (by first | exact ints_length _ _ | exact rowsA_length _ _ | exact Cms_len _ | exact mapLen _ | rfl)) ?_
       refine rs rfl rfl (ok_move (.inl rfl)) ?_
       refine ro_nil ?_
       refine keepU hK24 [1, 4, 7, 8, 64, 65, 66] (by dsimp) (by dsimp) ?_
       refine U.block ?_
       refine U.loopI (ι := Nat) (fun i => i ≤ s.zs.length ∧ (∀ z ∈ s.zs.take i, RZ s.c (decide (2 ∈ s.st)) z) ∧ DS (s.zs.take i)) (fun i => s.zs.length - i) (fun i => (([(1, .ref 0 0 0), (4, .int (s.st.countP oddP)), (7, .b (decide (2 ∈ s.st))), (8, .v (.map (some r))), (64, .fz 6 (Zns s.zs)), (65, .int s.zs.length), (66, .int i)], [some (StB s), some (CB s.c)]), seenZ (s.zs.take i))) 0 ⟨Nat.zero_le _, fun y hy => by simp at hy, by simp [DS]⟩ (TEnt.toH rfl ⟨rfl, rfl, rfl, rfl, rfl, by simp, rfl, trivial⟩) rfl (fun i hi => ?_) -- loop 2
       obtain ⟨hjl, hzs, hds⟩ := hi
       refine U.seq fun K25 hK25 => ?_
       refine U.lift ?_
       refine T.region ?_
       refine rs rfl rfl (ok_binOp rfl ti_int rfl) ?_
       refine ro_nil ?_
       refine keepU hK25 [1, 4, 7, 8, 64, 65, 66, 67] (by dsimp) (by dsimp) ?_
       refine U.seq fun K26 hK26 => ?_
       refine U.cond rfl (fun hc => ?_) (fun hc => ?_) -- cond 5
       ·(try simp only [dE] at hc)
        obtain ⟨z, hz⟩ : ∃ z, s.zs[i]? = some z := ⟨_, List.getElem?_eq_getElem (by omega)⟩
        refine U.skip ?_
        refine keepU hK26 [1, 4, 7, 8, 64, 65, 66] (by dsimp) (by dsimp) ?_
        refine U.seq fun K27 hK27 => ?_
        refine U.block ?_
        refine U.seq fun K28 hK28 => ?_
        refine U.lift ?_
        refine T.region ?_
        refine rs rfl rfl (by exact ok_index_map (F := ZnC) rfl ti_Lapi_Zone rfl ti_api_Zone rfl rfl rfl hz (by simp [ZnC])) ?_
        refine rs rfl rfl (ok_load rfl ti_api_Zone rfl rfl) ?_
        refine rs rfl rfl (ok_alloc rfl ti_api_Zone rfl (by decide)) ?_
        refine rs rfl rfl (ok_store rfl ti_api_Zone (by decide) rfl rfl rfl rfl rfl (by first | exact Nat.le_of_ble_eq_true rfl | simp) (by first | exact .inl ⟨rfl, rfl⟩ | exact .inr rfl)) ?_
        refine ro_nil ?_
        refine keepU hK28 [1, 4, 7, 8, 10, 64, 65, 66] (by dsimp) (by dsimp) ?_
        refine U.seq fun K29 hK29 => ?_
        refine U.seq fun K30 hK30 => ?_
        refine U.region ?_
        refine uo rfl rfl (OpOk.step (ok_load rfl ti_api_State rfl rfl)) ?_
        refine uo rfl rfl (OpOk.step (ok_load rfl ti_api_Zone rfl rfl)) ?_
        refine uo rfl rfl (OpOk.step (ok_move (.inl rfl))) ?_
        refine uo rfl rfl (ok_call rfl rfl rfl ((rzone_ok s z (decide (2 ∈ s.st)) hck (hl z (List.mem_of_getElem? hz))).plain (by simp [renL, AV.ren, StC_take, StC_ren, ZnC_take, ZnC_ren]) rfl)) ?_
        refine uo rfl rfl (OpOk.step (ok_unOp rfl rfl)) ?_
        refine uo_case rfl rfl (OpOk.step (ok_moveb (.inl rfl) rfl)) (fun hb => ?_) (fun hb => ?_)
        ·(try simp only [dE] at hb)
         refine uo_skip rfl rfl ?_
         refine uo_skip rfl rfl ?_
         refine uo_skip rfl rfl ?_
         refine uo_skip rfl rfl ?_
         refine uo_skip rfl rfl ?_
         refine uo_skip rfl rfl ?_
         refine uo_skip rfl rfl ?_
         refine uo_skip rfl rfl ?_
         refine uo_skip rfl rfl ?_
         refine uo rfl rfl (OpOk.step (ok_pickb (t := true) (d := true) rfl rfl rfl)) ?_
         refine uo_nil ?_
         refine keepU hK30 [1, 4, 7, 8, 10, 64, 65, 66, 85] (by dsimp) (by dsimp) ?_
         refine U.cond_true rfl ?_
         refine U.seq fun K31 hK31 => ?_
         refine U.lift ?_
         refine T.region ?_
         refine rs rfl rfl (ok_moveb (c := false) (.inr rfl) rfl) ?_
         refine ro_nil ?_
         refine keepU hK31 [2] (by dsimp) (by dsimp) ?_
         refine U.ret (hQ _ _ _ rfl ?_).1 -- ret 7
         exact by first
           | (rw [RS_last hhead hall hzs hds]; exact TEnt.fin [] (by decide) (by simp) rfl ⟨rfl, trivial⟩)
         
           | (rw [decide_eq_false (fun h => by obtain ⟨h1, h2, h3, h4, h5, h⟩ := h; omega)]; exact TEnt.fin [] (by decide) (by simp) rfl ⟨rfl, trivial⟩)
           | (rw [decide_eq_false (RS_st (by assumption) (by assumption))]; exact TEnt.fin [] (by decide) (by simp) rfl ⟨rfl, trivial⟩)
           | (rw [decide_eq_false (RS_zn hz (by assumption))]; exact TEnt.fin [] (by decide) (by simp) rfl ⟨rfl, trivial⟩)
           | (rw [decide_eq_false (RS_ds (DS_no hz (by assumption) (by assumption)))]; exact TEnt.fin [] (by decide) (by simp) rfl ⟨rfl, trivial⟩)
           | (rw [decide_eq_false hno]; exact TEnt.fin [] (by decide) (by simp) rfl ⟨rfl, trivial⟩)
        ·(try simp only [dE] at hb)
         refine uo rfl rfl (OpOk.step (ok_fieldAddr rfl ti_api_Zone rfl rfl ti_int (by decide) rfl)) ?_
         refine uo rfl rfl (OpOk.step (ok_load rfl ti_int rfl rfl)) ?_
         refine uo rfl rfl (OpOk.step (ok_binOp rfl ti_int rfl)) ?_
         refine uo_case rfl rfl (OpOk.step (ok_moveb (.inl rfl) rfl)) (fun hb => ?_) (fun hb => ?_)
         ·(try simp only [dE] at hb)
          refine uo rfl rfl (OpOk.step (ok_move (.inl rfl))) ?_
          refine uo rfl rfl (OpOk.step (ok_fieldAddr rfl ti_api_Zone rfl rfl ti_int (by decide) rfl)) ?_
          refine uo rfl rfl (OpOk.step (ok_load rfl ti_int rfl rfl)) ?_
          refine um rfl rfl (um_lookup rfl Tryz.underlying78 Tryz.underlying3 ti_bool rfl rfl rfl) ?_
          refine uo rfl rfl (OpOk.step (ok_pick rfl rfl)) ?_
          refine uo rfl rfl (OpOk.step (ok_pick rfl rfl)) ?_
          refine uo_nil ?_
          refine keepU hK30 [1, 4, 7, 8, 10, 64, 65, 66, 85] (by dsimp) (by dsimp) ?_
          refine U.cond rfl (fun hc => ?_) (fun hc => ?_) -- cond 6
          ·(try simp only [dE] at hc)
           refine U.seq fun K32 hK32 => ?_
           refine U.lift ?_
           refine T.region ?_
           refine rs rfl rfl (ok_moveb (c := false) (.inr rfl) rfl) ?_
           refine ro_nil ?_
           refine keepU hK32 [2] (by dsimp) (by dsimp) ?_
           refine U.ret (hQ _ _ _ rfl ?_).1 -- ret 8
           exact by first
             | (rw [RS_last hhead hall hzs hds]; exact TEnt.fin [] (by decide) (by simp) rfl ⟨rfl, trivial⟩)
           
             | (rw [decide_eq_false (fun h => by obtain ⟨h1, h2, h3, h4, h5, h⟩ := h; omega)]; exact TEnt.fin [] (by decide) (by simp) rfl ⟨rfl, trivial⟩)
             | (rw [decide_eq_false (RS_st (by assumption) (by assumption))]; exact TEnt.fin [] (by decide) (by simp) rfl ⟨rfl, trivial⟩)
             | (rw [decide_eq_false (RS_zn hz (by assumption))]; exact TEnt.fin [] (by decide) (by simp) rfl ⟨rfl, trivial⟩)
             | (rw [decide_eq_false (RS_ds (DS_no hz (by assumption) (by assumption)))]; exact TEnt.fin [] (by decide) (by simp) rfl ⟨rfl, trivial⟩)
             | (rw [decide_eq_false hno]; exact TEnt.fin [] (by decide) (by simp) rfl ⟨rfl, trivial⟩)
          ·(try simp only [dE] at hc)
           refine U.skip ?_
           refine keepU hK29 [1, 4, 7, 8, 10, 64, 65, 66] (by dsimp) (by dsimp) ?_
           refine U.region ?_
           refine uo rfl rfl (OpOk.step (ok_move (.inl rfl))) ?_
           refine uo rfl rfl (OpOk.step (ok_fieldAddr rfl ti_api_Zone rfl rfl ti_int (by decide) rfl)) ?_
           refine uo rfl rfl (OpOk.step (ok_load rfl ti_int rfl rfl)) ?_
           refine um rfl rfl (um_update rfl Tryz.underlying78 Tryz.underlying3 rfl rfl rfl) ?_
           refine uo_nil ?_
           refine keepU hK27 [1, 4, 7, 8, 64, 65, 66] (by dsimp) (by dsimp) ?_
           refine U.lift ?_
           refine T.region ?_
           refine rs rfl rfl (ok_add64 rfl ti_int rfl rfl (by omega) (by omega)) ?_
           refine rs rfl rfl (ok_move (.inl rfl)) ?_
           refine ro_nil ?_
           exact ⟨i + 1, ⟨by omega, all_snoc hz hzs (by assumption), by rw [take_succ_get hz]; exact DS_snoc hds (by first | exact .inl (by assumption) | exact .inr (by assumption))⟩, by omega, TEnt.fin [0, 1] (by decide) (by simp) (by simp [normH, hget, StB_ren, CB_ren]) ⟨rfl, rfl, rfl, rfl, by simp [AV.ren, Zns_ren], rfl, rfl, trivial⟩, by rw [take_succ_get hz, seenZ_snoc]⟩
         ·(try simp only [dE] at hb)
          refine uo_skip rfl rfl ?_
          refine uo_skip rfl rfl ?_
          refine uo_skip rfl rfl ?_
          refine uo_skip rfl rfl ?_
          refine uo rfl rfl (OpOk.step (ok_pickb (t := false) (d := false) rfl rfl rfl)) ?_
          refine uo rfl rfl (OpOk.step (ok_pickb (t := false) (d := false) rfl rfl rfl)) ?_
          refine uo_nil ?_
          refine keepU hK30 [1, 4, 7, 8, 10, 64, 65, 66, 85] (by dsimp) (by dsimp) ?_
          refine U.cond_false rfl ?_
          refine U.skip ?_
          refine keepU hK29 [1, 4, 7, 8, 10, 64, 65, 66] (by dsimp) (by dsimp) ?_
          refine U.region ?_
          refine uo rfl rfl (OpOk.step (ok_move (.inl rfl))) ?_
          refine uo rfl rfl (OpOk.step (ok_fieldAddr rfl ti_api_Zone rfl rfl ti_int (by decide) rfl)) ?_
          refine uo rfl rfl (OpOk.step (ok_load rfl ti_int rfl rfl)) ?_
          refine um rfl rfl (um_update rfl Tryz.underlying78 Tryz.underlying3 rfl rfl rfl) ?_
          refine uo_nil ?_
          refine keepU hK27 [1, 4, 7, 8, 64, 65, 66] (by dsimp) (by dsimp) ?_
          refine U.lift ?_
          refine T.region ?_
          refine rs rfl rfl (ok_add64 rfl ti_int rfl rfl (by omega) (by omega)) ?_
          refine rs rfl rfl (ok_move (.inl rfl)) ?_
          refine ro_nil ?_
          exact ⟨i + 1, ⟨by omega, all_snoc hz hzs (by assumption), by rw [take_succ_get hz]; exact DS_snoc hds (by first | exact .inl (by assumption) | exact .inr (by assumption))⟩, by omega, TEnt.fin [0, 1] (by decide) (by simp) (by simp [normH, hget, StB_ren, CB_ren]) ⟨rfl, rfl, rfl, rfl, by simp [AV.ren, Zns_ren], rfl, rfl, trivial⟩, by rw [take_succ_get hz, seenZ_snoc]⟩
       ·(try simp only [dE] at hc)
        have hin : i = s.zs.length := by omega
        rw [hin, List.take_length] at hzs hds
        refine U.exit ?_
        refine keepU hK23 [4] (by dsimp) (by dsimp) ?_
        refine U.seq fun K33 hK33 => ?_
        refine U.lift ?_
        refine T.region ?_
        refine rs rfl rfl (ok_move (.inl rfl)) ?_
        refine rs rfl rfl (ok_binOp rfl ti_int rfl) ?_
        refine rs rfl rfl (ok_move (.inr rfl)) ?_
        refine ro_nil ?_
        refine keepU hK33 [2] (by dsimp) (by dsimp) ?_
        refine U.ret (hQ _ _ _ rfl ?_).1 -- ret 9
        exact by first
          | (rw [RS_last hhead hall hzs hds]; exact TEnt.fin [] (by decide) (by simp) rfl ⟨rfl, trivial⟩)
        
          | (rw [decide_eq_false (fun h => by obtain ⟨h1, h2, h3, h4, h5, h⟩ := h; omega)]; exact TEnt.fin [] (by decide) (by simp) rfl ⟨rfl, trivial⟩)
          | (rw [decide_eq_false (RS_st (by assumption) (by assumption))]; exact TEnt.fin [] (by decide) (by simp) rfl ⟨rfl, trivial⟩)
          | (rw [decide_eq_false (RS_zn hz (by assumption))]; exact TEnt.fin [] (by decide) (by simp) rfl ⟨rfl, trivial⟩)
          | (rw [decide_eq_false (RS_ds (DS_no hz (by assumption) (by assumption)))]; exact TEnt.fin [] (by decide) (by simp) rfl ⟨rfl, trivial⟩)
          | (rw [decide_eq_false hno]; exact TEnt.fin [] (by decide) (by simp) rfl ⟨rfl, trivial⟩)
end Go.Proofs.YtjklgbafnfoolaaGreat.AmF
namespace Go.Proofs.YtjklgbafnfoolaaGreat.AmF
open Go Go.AM
set_option maxRecDepth 100000
set_option maxHeartbeats 2000000
set_option linter.unusedSimpArgs false
set_option linter.unusedVariables false
attribute [local simp] tkeep tget tput ev cav argsTM pickA normT putA splice AV.cells ints_length rowsA_length Prs_len Zns_len
/-- What a block holds, told in another way. -/
theorem _root_.Go.AM.TEnt.blk {k : Nat} {tm : TM} {H : Heap} (id : Nat) {b : Blk} {l' : List AV} (hb : hget H id = some b) (hl : l'.length = b.els.length) (he : EntL H b.els l') : TEnt k tm H tm (H.set id (some { b with els := l' })) := by
  intro g vs hH hk hg ht
  subst hH
  have hid := hget_lt hb
  let g' : G := { g with H := g.H.set id (some { b with els := l' }) }
  have hget' : ∀ j b', hget g'.H j = some b' → ∃ b0, hget g.H j = some b0 ∧ b'.es = b0.es ∧ b'.own = b0.own ∧ (b' = b0 ∨ (j = id ∧ b0 = b ∧ b' = { b with els := l' })) := by
    intro j b' h
    simp only [g', hget_set] at h
    by_cases hj : j = id
    · subst hj
      simp only [hid, and_self, if_true, Option.some.injEq] at h
      subst h
      exact ⟨b, hb, rfl, rfl, .inr ⟨rfl, rfl, rfl⟩⟩
    · simp only [hj, false_and, if_false] at h
      exact ⟨b', h, rfl, rfl, .inl rfl⟩
  have hren : Ren some g g' := by
    refine ⟨fun _ h => h, fun _ _ => rfl, fun i j hi hij => ?_⟩
    cases hij
    refine ⟨by simpa [g'] using hi, fun b' hb' => ?_⟩
    obtain ⟨b0, h1, h2, _, _⟩ := hget' i b' hb'
    exact ⟨b0, h1, h2, rfl, rfl, rfl⟩
  have hgo : GOk g' := by
    refine ⟨fun j b' hb' => ?_, fun j j' b' c' hb' hc' hob hoc hs hs' hφ => ?_, hg.zlt⟩
    · obtain ⟨b0, h1, h2, h3, h4⟩ := hget' j b' hb'
      have hb0 := hg.blk j b0 h1
      rcases h4 with rfl | ⟨rfl, rfl, rfl⟩
      · refine ⟨hb0.own, hb0.frz, hb0.fit, hb0.pos, fun hs => ?_⟩
        obtain ⟨c, e, lo, hi, m1, m2, m3, xs, m4, m5⟩ := hb0.mem hs
        exact ⟨c, e, lo, hi, m1, m2, m3, xs, RelL.mono hren m4, m5⟩
      · refine ⟨hb0.own, hb0.frz, ?_, hb0.pos, fun hs => ?_⟩
        · show g.bs _ + l'.length * _ ≤ _
          rw [hl]; exact hb0.fit
        · obtain ⟨c, e, lo, hi, m1, m2, m3, xs, m4, m5⟩ := hb0.mem hs
          exact ⟨c, e, lo, hi, m1, m2, m3, xs, RelL.mono hren (he g xs rfl hg m4), m5⟩
    · obtain ⟨b0, h1, _, h3, _⟩ := hget' j b' hb'
      obtain ⟨c0, h1', _, h3', _⟩ := hget' j' c' hc'
      exact hg.inj j j' b0 c0 h1 h1' (h3 ▸ hob) (h3' ▸ hoc) hs hs' hφ
  have hext : Ext g g' := by
    refine ⟨.refl _, Nat.le_refl _, fun _ _ _ => rfl, fun _ h => h, fun x hx => .inl hx, fun x hx => ?_⟩
    obtain ⟨j, b', h1, h2, h3, h4⟩ := hx
    obtain ⟨b0, e1, _, e3, _⟩ := hget' j b' h1
    exact .inl ⟨j, b0, e1, e3 ▸ h2, h3, h4⟩
  exact ⟨g', rfl, rfl, hgo, fun t => Rel.mono hren (ht t), hext, Sub.pin ⟨hren, hext⟩ hk⟩
theorem _root_.Go.AM.EntL.set {H : Heap} {x x' : AV} {l : List AV} : ∀ (i : Nat), l[i]? = some x → Ent H x x' → EntL H l (l.set i x') := by
  induction l with
  | nil => intro i h he; simp at h
  | cons y l ih =>
    intro i h he
    cases i with
    | zero => cases h; exact EntL.cons he (EntL.refl _)
    | succ i => exact EntL.cons (Ent.refl _) (ih i h he)
def NB1 (n : Int) : Blk := ⟨1, true, [.int n]⟩
theorem NB1_ren (ρ : Nat → Option Nat) (n : Int) : Blk.ren ρ (NB1 n) = NB1 n := by simp [NB1, Blk.ren, renL, AV.ren]
/-- Has some zone a slot? -/
def hasZ (zs : List Zn) (n : Int) : Bool := zs.any fun z => decide (z.slot = n)
/-- Slots that no zone has. -/
def freeZ (c : Cf) (zs : List Zn) : List Int := ((List.range (slotsC c).toNat).map fun (n : Nat) => (n : Int)).filter fun n => !hasZ zs n
theorem pos0 : pos [0] 0 = some 0 := by decide
theorem hasZ_seen (zs : List Zn) (n : Int) : hasZ zs n = true ↔ ∃ z ∈ zs, z.slot = n := by simp [hasZ]
theorem freeZ_mem {c : Cf} {zs : List Zn} {n : Int} : n ∈ freeZ c zs ↔ (0 ≤ n ∧ n < slotsC c) ∧ hasZ zs n = false := by
  unfold freeZ
  rw [List.mem_filter, List.mem_map]
  constructor
  · rintro ⟨⟨k, hk, rfl⟩, h⟩
    rw [List.mem_range] at hk
    exact ⟨by omega, by simpa using h⟩
  · rintro ⟨⟨h1, h2⟩, h⟩
    exact ⟨⟨n.toNat, by rw [List.mem_range]; omega, by omega⟩, by simpa using h⟩
/-- As far as it was looked. -/
def freeK (zs : List Zn) (i : Nat) : List Int := ((List.range i).map fun (n : Nat) => (n : Int)).filter fun n => !hasZ zs n
theorem freeK_len (zs : List Zn) (i : Nat) : (freeK zs i).length ≤ i := by
  unfold freeK
  refine Nat.le_trans (List.length_filter_le _ _) ?_
  simp
theorem freeK_snoc (zs : List Zn) (i : Nat) : freeK zs (i + 1) = freeK zs i ++ if hasZ zs i then [] else [(i : Int)] := by
  unfold freeK
  rw [List.range_succ, List.map_append, List.filter_append]
  congr 1
  by_cases h : hasZ zs i = true
  · simp [h]
  · simp [h]
theorem free1_ok (n : Int) (z : Zn) : CSpec Tryz.prog 118 [NB1 n] [.agg (ZnC z), .ref 0 0 0] [some (NB1 n)] (.b (decide (z.slot = n))) := by
 refine CSpec.body Tryz.func118 rfl rfl rfl rfl rfl fun Q hQ => ?_
 refine T.seq fun K1 hK1 => ?_
 refine T.region ?_
 refine rs rfl rfl (ok_box (n := 6) rfl rfl (by decide)) ?_
 refine rs rfl rfl (ok_moveb (c := false) (.inr rfl) rfl) ?_
 refine ro_nil ?_
 refine keepK hK1 [1, 2] (by dsimp) (by dsimp) ?_
 refine T.seq fun K2 hK2 => ?_
 refine T.region ?_
 refine rs rfl rfl (ok_fieldAddr rfl ti_api_Zone rfl rfl ti_int (by decide) rfl) ?_
 refine rs rfl rfl (ok_load rfl ti_int rfl rfl) ?_
 refine rs rfl rfl (ok_load rfl ti_int rfl rfl) ?_
 refine rs rfl rfl (ok_binOp rfl ti_int rfl) ?_
 refine rs rfl rfl (ok_move (.inr rfl)) ?_
 refine ro_nil ?_
 refine keepK hK2 [3] (by dsimp) (by dsimp) ?_
 refine T.ret (hQ _ _ _ rfl ?_).1 -- ret 1
 exact TEnt.fin [0] (by decide) (by simp) (by simp [normH, hget, NB1_ren]) ⟨rfl, trivial⟩
theorem indexZ_ok (n : Int) (l : List Zn) (f : FuncId) (q : Zn → Bool) (hf : ∀ y, CSpec Tryz.prog f [NB1 n] [.agg (ZnC y), .ref 0 0 0] [some (NB1 n)] (.b (q y))) (hl : l.length ≤ 140737488355328) : CSpec Tryz.prog 121 [NB1 n] [.fz 6 (Zns l), .fn (.func f) [] [.ref 0 0 0]] [some (NB1 n)] (.int (fIdx q l)) := by
 refine CSpec.body Tryz.func121 rfl rfl rfl rfl rfl fun Q hQ => ?_
 refine T.seq fun K1 hK1 => ?_
 refine T.region ?_
 refine rs rfl rfl (ok_move (.inr rfl)) ?_
 refine ro_nil ?_
 refine keepK hK1 [0, 1] (by dsimp) (by dsimp) ?_
 refine T.seq fun K2 hK2 => ?_
 refine T.seq fun K3 hK3 => ?_
 refine T.region ?_
 refine rs rfl rfl (ok_move (.inl rfl)) ?_
 refine rs rfl rfl (ok_len' rfl rfl ti_Lapi_Zone rfl (by first | exact ints_length _ _ | exact rowsA_length _ _ | exact Cms_len _ | exact mapLen _ | rfl)) ?_
 refine rs rfl rfl (ok_move (.inl rfl)) ?_
 refine ro_nil ?_
 refine keepK hK3 [0, 1, 7, 8] (by dsimp) (by dsimp) ?_
 refine T.block ?_
 refine T.loopI (ι := Nat) (fun i => i ≤ l.length ∧ ∀ y ∈ l.take i, q y = false) (fun i => l.length - i) (fun i => ([(0, .fz 6 (Zns l)), (1, .fn (.func f) [] [.ref 0 0 0]), (7, .int l.length), (8, .int i)], [some (NB1 n)])) 0 ⟨Nat.zero_le _, fun y hy => by simp at hy⟩ (TEnt.toH rfl ⟨rfl, rfl, by simp, rfl, trivial⟩) (fun i hi => ?_) -- loop 1
 obtain ⟨hil, hno⟩ := hi
 refine T.seq fun K4 hK4 => ?_
 refine T.region ?_
 refine rs rfl rfl (ok_binOp rfl ti_int rfl) ?_
 refine ro_nil ?_
 refine keepK hK4 [0, 1, 7, 8, 9] (by dsimp) (by dsimp) ?_
 refine T.seq fun K5 hK5 => ?_
 refine T.cond rfl (fun hc => ?_) (fun hc => ?_) -- cond 1
 ·(try simp only [dE] at hc)
  obtain ⟨y, hy⟩ : ∃ y, l[i]? = some y := ⟨_, List.getElem?_eq_getElem (by omega)⟩
  refine T.skip ?_
  refine keepK hK5 [0, 1, 7, 8] (by dsimp) (by dsimp) ?_
  refine T.seq fun K6 hK6 => ?_
  refine T.block ?_
  refine T.seq fun K7 hK7 => ?_
  refine T.region ?_
  refine rs rfl rfl (ok_move (.inl rfl)) ?_
  refine rs rfl rfl (ok_move (.inr rfl)) ?_
  refine ro_nil ?_
  refine keepK hK7 [0, 1, 5, 7, 8] (by dsimp) (by dsimp) ?_
  refine T.seq fun K8 hK8 => ?_
  refine T.region ?_
  refine rs rfl rfl (ok_move (.inl rfl)) ?_
  refine rs rfl rfl (ok_move (.inl rfl)) ?_
  refine rs rfl rfl (ok_move (.inl rfl)) ?_
  refine rs rfl rfl (by exact ok_index_map (F := ZnC) rfl ti_Lapi_Zone rfl ti_api_Zone rfl rfl rfl hy (by simp [ZnC])) ?_
  refine rs rfl rfl (ok_load rfl ti_api_Zone rfl rfl) ?_
  refine ro rfl rfl (ok_call rfl rfl rfl (((hf y).pass [0] (by decide) (by simp) (by simp [normH, hget, NB1_ren]) (by simp [renL, AV.ren, ZnC_take, ZnC_ren, pos0])).eq (x' := .b (q y)) (H'' := [some (NB1 n)]) rfl (by simp [mergeH, setIds, renH, NB1_ren]))) ?_
  refine ro_nil ?_
  refine keepK hK8 [0, 1, 5, 7, 8, 16] (by dsimp) (by dsimp) ?_
  refine T.cond rfl (fun hc => ?_) (fun hc => ?_) -- cond 2
  ·(try simp only [dE] at hc)
   rw [fIdx_hit hy hc hno] at hQ
   refine T.seq fun K9 hK9 => ?_
   refine T.region ?_
   refine rs rfl rfl (ok_move (.inl rfl)) ?_
   refine rs rfl rfl (ok_move (.inr rfl)) ?_
   refine ro_nil ?_
   refine keepK hK9 [4] (by dsimp) (by dsimp) ?_
   refine T.ret (hQ _ _ _ rfl ?_).1 -- ret 1
   exact TEnt.toH rfl ⟨rfl, trivial⟩
  ·(try simp only [dE] at hc)
   refine T.skip ?_
   refine keepK hK6 [0, 1, 7, 8] (by dsimp) (by dsimp) ?_
   refine T.region ?_
   refine rs rfl rfl (ok_add64 rfl ti_int rfl rfl (by omega) (by omega)) ?_
   refine rs rfl rfl (ok_move (.inl rfl)) ?_
   refine ro_nil ?_
   exact ⟨i + 1, ⟨by omega, take_snoc_all hy hno hc⟩, by omega, TEnt.toH rfl ⟨rfl, rfl, rfl, rfl, trivial⟩⟩
 ·(try simp only [dE] at hc)
  have hin : i = l.length := by omega
  rw [hin, List.take_length] at hno
  rw [fIdx_none hno] at hQ
  refine T.exit ?_
  refine keepK hK2 [] (by dsimp) (by dsimp) ?_
  refine T.seq fun K10 hK10 => ?_
  refine T.region ?_
  refine rs rfl rfl (ok_move (.inr rfl)) ?_
  refine ro_nil ?_
  refine keepK hK10 [4] (by dsimp) (by dsimp) ?_
  refine T.ret (hQ _ _ _ rfl ?_).1 -- ret 2
  exact TEnt.toH rfl ⟨rfl, trivial⟩
theorem containsZ_ok (n : Int) (l : List Zn) (f : FuncId) (q : Zn → Bool) (hf : ∀ y, CSpec Tryz.prog f [NB1 n] [.agg (ZnC y), .ref 0 0 0] [some (NB1 n)] (.b (q y))) (hl : l.length ≤ 140737488355328) : CSpec Tryz.prog 117 [NB1 n] [.fz 6 (Zns l), .fn (.func f) [] [.ref 0 0 0]] [some (NB1 n)] (.b (l.any q)) := by
 refine CSpec.body Tryz.func117 rfl rfl rfl rfl rfl fun Q hQ => ?_
 refine T.seq fun K1 hK1 => ?_
 refine T.region ?_
 refine rs rfl rfl (ok_moveb (c := false) (.inr rfl) rfl) ?_
 refine ro_nil ?_
 refine keepK hK1 [0, 1] (by dsimp) (by dsimp) ?_
 refine T.seq fun K2 hK2 => ?_
 refine T.region ?_
 refine rs rfl rfl (ok_move (.inl rfl)) ?_
 refine rs rfl rfl (ok_move (.inl rfl)) ?_
 refine ro rfl rfl (ok_call rfl rfl rfl (((indexZ_ok n l f q hf hl).pass [0] (by decide) (by simp) (by simp [normH, hget, NB1_ren]) (by simp [renL, AV.ren, Zns_ren, pos0])).eq (x' := .int (fIdx q l)) (H'' := [some (NB1 n)]) rfl (by simp [mergeH, setIds, renH, NB1_ren]))) ?_
 refine ro rfl rfl (OpOk.step ((ok_binOp rfl ti_int rfl).eq (x' := .b (l.any q)) (by
  have e : decide (fIdx q l ≥ 0) = l.any q := by
    rw [Bool.eq_iff_iff, decide_eq_true_iff, List.any_eq_true]
    exact fIdx_iff q l
  exact congrArg AV.b e) rfl)) ?_
 refine rs rfl rfl (ok_move (.inr rfl)) ?_
 refine ro_nil ?_
 refine keepK hK2 [4] (by dsimp) (by dsimp) ?_
 refine T.ret (hQ _ _ _ rfl ?_).1 -- ret 1
 exact TEnt.toH rfl ⟨rfl, trivial⟩
theorem free_new (s : St) (hl : s.zs.length ≤ 140737488355328) : CSpec Tryz.prog 105 [] [.agg (StC s)] [some ⟨1, true, ints .i64 (freeZ s.c s.zs)⟩] (.sl 0 0 (freeZ s.c s.zs).length) := by
 have hsb := slots_bd s.c
 obtain ⟨m, hm⟩ : ∃ m : Nat, slotsC s.c = m := ⟨(slotsC s.c).toNat, by omega⟩
 have hfz : freeZ s.c s.zs = freeK s.zs m := by unfold freeZ freeK; rw [hm]; simp
 rw [hfz]
 refine CSpec.body Tryz.func105 rfl rfl rfl rfl rfl fun Q hQ => ?_
 refine T.seq fun K1 hK1 => ?_
 refine T.region ?_
 refine rs rfl rfl (ok_box (n := 15) rfl rfl (by decide)) ?_
 refine rs rfl rfl (ok_move (.inr rfl)) ?_
 refine ro_nil ?_
 refine keepK hK1 [1] (by dsimp) (by dsimp) ?_
 refine T.seq fun K2 hK2 => ?_
 refine T.region ?_
 refine rs rfl rfl (ok_move (.inr rfl)) ?_
 refine ro_nil ?_
 refine keepK hK2 [1, 3] (by dsimp) (by dsimp) ?_
 refine T.seq fun K3 hK3 => ?_
 refine T.seq fun K4 hK4 => ?_
 refine T.region ?_
 refine rs rfl rfl (ok_fieldAddr rfl ti_api_State rfl rfl ti_api_Conf (by decide) rfl) ?_
 refine rs rfl rfl (ok_load rfl ti_api_Conf rfl rfl) ?_
 refine ro rfl rfl (ok_call rfl rfl rfl ((slots_ok s.c).plain (by show renL _ [.agg (CC s.c)] = _; simp [renL, AV.ren, CC_ren]) rfl)) ?_
 refine rs rfl rfl (ok_move (.inl rfl)) ?_
 refine ro_nil ?_
 refine keepK hK4 [1, 3, 7, 8] (by dsimp) (by dsimp) ?_
 refine T.block ?_
 refine T.loopI (ι := Nat) (fun i => i ≤ m) (fun i => m - i) (fun i => ([(1, .ref 0 0 0), (3, .sl 1 0 (freeK s.zs i).length), (7, .int m), (8, .int i)], [some (StB s), some ⟨1, true, ints .i64 (freeK s.zs i)⟩])) 0 (Nat.zero_le _) ((TEnt.empty 3 1 (by decide) (.inr rfl)).trans (TEnt.toH rfl ⟨rfl, rfl, by simp [hm], rfl, trivial⟩)) (fun i hi => ?_) -- loop 1
 have hkl := freeK_len s.zs i
 have hks := freeK_snoc s.zs i
 refine T.seq fun K5 hK5 => ?_
 refine T.region ?_
 refine rs rfl rfl (ok_binOp rfl ti_int rfl) ?_
 refine ro_nil ?_
 refine keepK hK5 [1, 3, 7, 8, 9] (by dsimp) (by dsimp) ?_
 refine T.seq fun K6 hK6 => ?_
 refine T.cond rfl (fun hc => ?_) (fun hc => ?_) -- cond 1
 ·(try simp only [dE] at hc)
  have him : i < m := by omega
  refine T.skip ?_
  refine keepK hK6 [1, 3, 7, 8] (by dsimp) (by dsimp) ?_
  refine T.seq fun K7 hK7 => ?_
  refine T.block ?_
  refine T.seq fun K8 hK8 => ?_
  refine T.region ?_
  refine rs rfl rfl (ok_move (.inl rfl)) ?_
  refine rs rfl rfl (ok_alloc rfl ti_int rfl (by decide)) ?_
  refine rs rfl rfl (ok_store rfl ti_int (by decide) rfl rfl rfl rfl rfl (by first | exact Nat.le_of_ble_eq_true rfl | simp) (by first | exact .inl ⟨rfl, rfl⟩ | exact .inr rfl)) ?_
  refine ro_nil ?_
  refine keepK hK8 [1, 3, 4, 7, 8] (by dsimp) (by dsimp) ?_
  refine T.seq fun K9 hK9 => ?_
  refine T.region ?_
  refine rs rfl rfl (ok_fieldAddr rfl ti_api_State rfl rfl ti_Lapi_Zone (by decide) rfl) ?_
  refine rs rfl rfl (ok_load rfl ti_Lapi_Zone rfl rfl) ?_
  refine rs rfl rfl (ok_makeFunc rfl) ?_
  refine ro rfl rfl (ok_call rfl rfl rfl (((containsZ_ok i s.zs _ (fun z => decide (z.slot = (i : Int))) (fun y => free1_ok i y) hl).pass [2] (by decide) (by simp) (by simp [normH, hget]; exact NB1_ren _ _) (by simp [renL, AV.ren, Zns_ren]; rfl)).eq (x' := .b (hasZ s.zs i)) (H'' := [some (StB s), some ⟨1, true, ints .i64 (freeK s.zs i)⟩, some (NB1 i)]) rfl (by simp [mergeH, setIds, renH, NB1_ren]))) ?_
  refine rs rfl rfl (ok_unOp rfl rfl) ?_
  refine ro_nil ?_
  refine keepK hK9 [1, 3, 4, 7, 8, 15] (by dsimp) (by dsimp) ?_
  refine T.cond rfl (fun hc => ?_) (fun hc => ?_) -- cond 2
  ·(try simp only [dE] at hc)
   rw [hc, if_neg (by decide)] at hks
   refine T.region ?_
   refine rs rfl rfl (ok_move (.inl rfl)) ?_
   refine rs rfl rfl (ok_load rfl ti_int rfl rfl) ?_
   refine rs rfl rfl (ok_buildSlice (n := 1) (ps := #[(0, .tmp 17)]) rfl ti_Lint rfl ti_int (by decide) rfl rfl (by decide) rfl rfl rfl) ?_
   refine rs rfl rfl (by exact ok_append_ints (k := .i64) (xs := freeK s.zs i) (ys := [(i : Int)]) rfl ti_Lint rfl ti_int rfl (by decide) rfl ti_Lint (by simp) rfl rfl rfl rfl rfl rfl rfl rfl rfl (by simp; omega)) ?_
   refine rs rfl rfl (ok_move (.inr rfl)) ?_
   refine ro_nil ?_
   refine keepK hK7 [1, 3, 7, 8] (by dsimp) (by dsimp) ?_
   refine T.region ?_
   refine rs rfl rfl (ok_add64 rfl ti_int rfl rfl (by omega) (by omega)) ?_
   refine rs rfl rfl (ok_move (.inl rfl)) ?_
   refine ro_nil ?_
   exact ⟨i + 1, by omega, by omega, by first
     | (rw [hks]; exact TEnt.fin [0, 4] (by decide) (by simp) (by simp only [normH, hget, List.map_cons, List.map_nil, List.getElem?_cons_zero, List.getElem?_cons_succ, Option.map_some, StB_ren]; simp [Blk.ren, renL_ints]) ⟨rfl, rfl, rfl, rfl, trivial⟩)
     | (rw [hks, List.append_nil]; exact TEnt.fin [0, 1] (by decide) (by simp) (by simp only [normH, hget, List.map_cons, List.map_nil, List.getElem?_cons_zero, List.getElem?_cons_succ, Option.map_some, StB_ren]; simp [Blk.ren, renL_ints]) ⟨rfl, rfl, rfl, rfl, trivial⟩)⟩
  ·(try simp only [dE] at hc)
   rw [hc, if_pos rfl] at hks
   refine T.skip ?_
   refine keepK hK7 [1, 3, 7, 8] (by dsimp) (by dsimp) ?_
   refine T.region ?_
   refine rs rfl rfl (ok_add64 rfl ti_int rfl rfl (by omega) (by omega)) ?_
   refine rs rfl rfl (ok_move (.inl rfl)) ?_
   refine ro_nil ?_
   exact ⟨i + 1, by omega, by omega, by first
     | (rw [hks]; exact TEnt.fin [0, 4] (by decide) (by simp) (by simp only [normH, hget, List.map_cons, List.map_nil, List.getElem?_cons_zero, List.getElem?_cons_succ, Option.map_some, StB_ren]; simp [Blk.ren, renL_ints]) ⟨rfl, rfl, rfl, rfl, trivial⟩)
     | (rw [hks, List.append_nil]; exact TEnt.fin [0, 1] (by decide) (by simp) (by simp only [normH, hget, List.map_cons, List.map_nil, List.getElem?_cons_zero, List.getElem?_cons_succ, Option.map_some, StB_ren]; simp [Blk.ren, renL_ints]) ⟨rfl, rfl, rfl, rfl, trivial⟩)⟩
 ·(try simp only [dE] at hc)
  have him : i = m := by omega
  subst him
  refine T.exit ?_
  refine keepK hK3 [3] (by dsimp) (by dsimp) ?_
  refine T.seq fun K10 hK10 => ?_
  refine T.region ?_
  refine rs rfl rfl (ok_move (.inl rfl)) ?_
  refine rs rfl rfl (ok_move (.inr rfl)) ?_
  refine ro_nil ?_
  refine keepK hK10 [2] (by dsimp) (by dsimp) ?_
  refine T.ret (hQ _ _ _ rfl ?_).1 -- ret 1
  exact TEnt.fin [1] (by decide) (by simp) (by simp [normH, hget, Blk.ren, renL_ints]) ⟨rfl, trivial⟩
end Go.Proofs.YtjklgbafnfoolaaGreat.AmF
namespace Go.Proofs.YtjklgbafnfoolaaGreat.AmF
open Go Go.AM
set_option maxRecDepth 100000
set_option linter.unusedSimpArgs false
set_option linter.unusedVariables false
attribute [local simp] tkeep tget tput ev cav argsTM pickA normT putA splice AV.cells ints_length rowsA_length
theorem clone_nil : CSpec Tryz.prog 80 [] [.fz 1 (ints .u8 [])] [some ⟨1, true, ints .u8 []⟩] (.sl 0 0 0) := by
 refine CSpec.body Tryz.func80 rfl rfl rfl rfl rfl fun Q hQ => ?_
 refine T.seq fun K1 hK1 => ?_
 refine T.region ?_
 refine rs rfl rfl (ok_move (.inr rfl)) ?_
 refine ro_nil ?_
 refine keepK hK1 [0] (by dsimp) (by dsimp) ?_
 refine T.seq fun K2 hK2 => ?_
 refine T.seq fun K3 hK3 => ?_
 refine T.region ?_
 refine rs rfl rfl (ok_move (.inl rfl)) ?_
 refine rs rfl rfl (ok_nil_ub rfl ti_Luint8 rfl (.inl rfl) rfl rfl) ?_
 refine ro_nil ?_
 refine keepK hK3 [0, 4] (by dsimp) (by dsimp) ?_
 refine T.cond_ub rfl ?_ ?_
 ·(try simp only [dE] at hc)
  refine T.seq fun K4 hK4 => ?_
  refine T.region ?_
  refine rs rfl rfl (ok_move (.inr rfl)) ?_
  refine ro_nil ?_
  refine keepK hK4 [2] (by dsimp) (by dsimp) ?_
  refine T.ret (hQ _ _ _ rfl ?_).1 -- ret 1
  exact ((TEnt.empty 0 1 (by decide) (.inr rfl)).trans (TEnt.fin [0] (by decide) (by simp) rfl ⟨rfl, trivial⟩))
 ·(try simp only [dE] at hc)
  refine T.skip ?_
  refine keepK hK2 [0] (by dsimp) (by dsimp) ?_
  refine T.seq fun K5 hK5 => ?_
  refine T.region ?_
  refine rs rfl rfl (ok_buildSlice (n := 0) (ps := #[]) rfl ti_Luint8 rfl ti_uint8 (by decide) rfl rfl (by decide) rfl rfl rfl) ?_
  refine rs rfl rfl (ok_move (.inl rfl)) ?_
  refine rs rfl rfl (by exact ok_append_ints (k := .u8) (xs := []) (ys := []) rfl ti_Luint8 rfl ti_uint8 rfl (by decide) rfl ti_Luint8 (by simp) rfl rfl rfl rfl rfl rfl rfl rfl rfl (by simp)) ?_
  refine rs rfl rfl (ok_move (.inr rfl)) ?_
  refine ro_nil ?_
  refine keepK hK5 [2] (by dsimp) (by dsimp) ?_
  refine T.ret (hQ _ _ _ rfl ?_).1 -- ret 2
  exact TEnt.fin [1] (by decide) (by simp) rfl ⟨rfl, trivial⟩
theorem clone_cons (l : List Int) (hne : l ≠ []) (hl : l.length ≤ 140737488355328) : CSpec Tryz.prog 80 [] [.fz 1 (ints .u8 l)] [some ⟨1, true, ints .u8 l⟩] (.sl 0 0 l.length) := by
 refine CSpec.body Tryz.func80 rfl rfl rfl rfl rfl fun Q hQ => ?_
 refine T.seq fun K1 hK1 => ?_
 refine T.region ?_
 refine rs rfl rfl (ok_move (.inr rfl)) ?_
 refine ro_nil ?_
 refine keepK hK1 [0] (by dsimp) (by dsimp) ?_
 refine T.seq fun K2 hK2 => ?_
 refine T.seq fun K3 hK3 => ?_
 refine T.region ?_
 refine rs rfl rfl (ok_move (.inl rfl)) ?_
 refine rs rfl rfl (OpOk.bool (d := false) (ok_nil_no rfl ti_Luint8 rfl (.inl rfl) rfl (by simpa [ints] using hne) rfl) (rfl)) ?_
 refine ro_nil ?_
 refine keepK hK3 [0, 4] (by dsimp) (by dsimp) ?_
 refine T.cond_false rfl ?_
 refine T.skip ?_
 refine keepK hK2 [0] (by dsimp) (by dsimp) ?_
 refine T.seq fun K4 hK4 => ?_
 refine T.region ?_
 refine rs rfl rfl (ok_buildSlice (n := 0) (ps := #[]) rfl ti_Luint8 rfl ti_uint8 (by decide) rfl rfl (by decide) rfl rfl rfl) ?_
 refine rs rfl rfl (ok_move (.inl rfl)) ?_
 refine rs rfl rfl (by exact ok_append_ints (k := .u8) (xs := []) (ys := l) rfl ti_Luint8 rfl ti_uint8 rfl (by decide) rfl ti_Luint8 (by simp) rfl rfl rfl rfl rfl rfl rfl rfl rfl (by simp; omega)) ?_
 refine rs rfl rfl (ok_move (.inr rfl)) ?_
 refine ro_nil ?_
 refine keepK hK4 [2] (by dsimp) (by dsimp) ?_
 refine T.ret (hQ _ _ _ rfl ?_).1 -- ret 1
 exact TEnt.fin [1] (by decide) (by simp) (by simp [normH, hget, Blk.ren, renL_ints]) ⟨by simp [tupA]; rfl, trivial⟩
theorem clone_new (l : List Int) (hl : l.length ≤ 140737488355328) : CSpec Tryz.prog 80 [] [.fz 1 (ints .u8 l)] [some ⟨1, true, ints .u8 l⟩] (.sl 0 0 l.length) := by
  by_cases h : l = []
  · subst h; exact clone_nil
  · exact clone_cons l h hl
theorem clone_frz (l : List Int) (hl : l.length ≤ 140737488355328) : CSpec Tryz.prog 80 [] [.fz 1 (ints .u8 l)] [] (.fz 1 (ints .u8 l)) := (clone_new l hl).frz (by simp) (renL_ints _ _ _)
end Go.Proofs.YtjklgbafnfoolaaGreat.AmF
namespace Go.Proofs.YtjklgbafnfoolaaGreat.AmF
open Go Go.AM
set_option maxRecDepth 100000
set_option maxHeartbeats 2000000
set_option linter.unusedSimpArgs false
set_option linter.unusedVariables false
attribute [local simp] tkeep tget tput ev cav argsTM pickA normT putA splice AV.cells ints_length rowsA_length Prs_len Zns_len
theorem sclone_nil : CSpec Tryz.prog 101 [] [.fz 1 (ints .i64 [])] [some ⟨1, true, ints .i64 []⟩] (.sl 0 0 0) := by
 refine CSpec.body Tryz.func101 rfl rfl rfl rfl rfl fun Q hQ => ?_
 refine T.seq fun K1 hK1 => ?_
 refine T.region ?_
 refine rs rfl rfl (ok_move (.inr rfl)) ?_
 refine ro_nil ?_
 refine keepK hK1 [0] (by dsimp) (by dsimp) ?_
 refine T.seq fun K2 hK2 => ?_
 refine T.seq fun K3 hK3 => ?_
 refine T.region ?_
 refine rs rfl rfl (ok_move (.inl rfl)) ?_
 refine rs rfl rfl (ok_nil_ub rfl ti_Lint rfl (.inl rfl) rfl rfl) ?_
 refine ro_nil ?_
 refine keepK hK3 [0, 4] (by dsimp) (by dsimp) ?_
 refine T.cond_ub rfl ?_ ?_
 ·(try simp only [dE] at hc)
  refine T.seq fun K4 hK4 => ?_
  refine T.region ?_
  refine rs rfl rfl (ok_move (.inr rfl)) ?_
  refine ro_nil ?_
  refine keepK hK4 [2] (by dsimp) (by dsimp) ?_
  refine T.ret (hQ _ _ _ rfl ?_).1 -- ret 1
  exact ((TEnt.empty 0 1 (by decide) (.inr rfl)).trans (TEnt.fin [0] (by decide) (by simp) rfl ⟨rfl, trivial⟩))
 ·(try simp only [dE] at hc)
  refine T.skip ?_
  refine keepK hK2 [0] (by dsimp) (by dsimp) ?_
  refine T.seq fun K5 hK5 => ?_
  refine T.region ?_
  refine rs rfl rfl (ok_buildSlice (n := 0) (ps := #[]) rfl ti_Lint rfl ti_int (by decide) rfl rfl (by decide) rfl rfl rfl) ?_
  refine rs rfl rfl (ok_move (.inl rfl)) ?_
  refine rs rfl rfl (by exact ok_append_ints (k := .i64) (xs := []) (ys := []) rfl ti_Lint rfl ti_int rfl (by decide) rfl ti_Lint (by simp) rfl rfl rfl rfl rfl rfl rfl rfl rfl (by simp)) ?_
  refine rs rfl rfl (ok_move (.inr rfl)) ?_
  refine ro_nil ?_
  refine keepK hK5 [2] (by dsimp) (by dsimp) ?_
  refine T.ret (hQ _ _ _ rfl ?_).1 -- ret 2
  exact TEnt.fin [1] (by decide) (by simp) rfl ⟨rfl, trivial⟩
theorem sclone_cons (l : List Int) (hne : l ≠ []) (hl : l.length ≤ 17592186044416) : CSpec Tryz.prog 101 [] [.fz 1 (ints .i64 l)] [some ⟨1, true, ints .i64 l⟩] (.sl 0 0 l.length) := by
 refine CSpec.body Tryz.func101 rfl rfl rfl rfl rfl fun Q hQ => ?_
 refine T.seq fun K1 hK1 => ?_
 refine T.region ?_
 refine rs rfl rfl (ok_move (.inr rfl)) ?_
 refine ro_nil ?_
 refine keepK hK1 [0] (by dsimp) (by dsimp) ?_
 refine T.seq fun K2 hK2 => ?_
 refine T.seq fun K3 hK3 => ?_
 refine T.region ?_
 refine rs rfl rfl (ok_move (.inl rfl)) ?_
 refine rs rfl rfl (OpOk.bool (d := false) (ok_nil_no rfl ti_Lint rfl (.inl rfl) rfl (by simpa [ints] using hne) rfl) (rfl)) ?_
 refine ro_nil ?_
 refine keepK hK3 [0, 4] (by dsimp) (by dsimp) ?_
 refine T.cond_false rfl ?_
 refine T.skip ?_
 refine keepK hK2 [0] (by dsimp) (by dsimp) ?_
 refine T.seq fun K4 hK4 => ?_
 refine T.region ?_
 refine rs rfl rfl (ok_buildSlice (n := 0) (ps := #[]) rfl ti_Lint rfl ti_int (by decide) rfl rfl (by decide) rfl rfl rfl) ?_
 refine rs rfl rfl (ok_move (.inl rfl)) ?_
 refine rs rfl rfl (by exact ok_append_ints (k := .i64) (xs := []) (ys := l) rfl ti_Lint rfl ti_int rfl (by decide) rfl ti_Lint (by simp) rfl rfl rfl rfl rfl rfl rfl rfl rfl (by show (0 + l.length) * 8 ≤ _; omega)) ?_
 refine rs rfl rfl (ok_move (.inr rfl)) ?_
 refine ro_nil ?_
 refine keepK hK4 [2] (by dsimp) (by dsimp) ?_
 refine T.ret (hQ _ _ _ rfl ?_).1 -- ret 1
 exact TEnt.fin [1] (by decide) (by simp) (by simp [normH, hget, Blk.ren, renL_ints]) ⟨by simp [tupA]; rfl, trivial⟩
theorem zclone_nil : CSpec Tryz.prog 102 [] [.fz 6 (Zns [])] [some ⟨6, true, Zns []⟩] (.sl 0 0 0) := by
 refine CSpec.body Tryz.func102 rfl rfl rfl rfl rfl fun Q hQ => ?_
 refine T.seq fun K1 hK1 => ?_
 refine T.region ?_
 refine rs rfl rfl (ok_move (.inr rfl)) ?_
 refine ro_nil ?_
 refine keepK hK1 [0] (by dsimp) (by dsimp) ?_
 refine T.seq fun K2 hK2 => ?_
 refine T.seq fun K3 hK3 => ?_
 refine T.region ?_
 refine rs rfl rfl (ok_move (.inl rfl)) ?_
 refine rs rfl rfl (ok_nil_ub rfl ti_Lapi_Zone rfl (.inl rfl) rfl rfl) ?_
 refine ro_nil ?_
 refine keepK hK3 [0, 4] (by dsimp) (by dsimp) ?_
 refine T.cond_ub rfl ?_ ?_
 ·(try simp only [dE] at hc)
  refine T.seq fun K4 hK4 => ?_
  refine T.region ?_
  refine rs rfl rfl (ok_move (.inr rfl)) ?_
  refine ro_nil ?_
  refine keepK hK4 [2] (by dsimp) (by dsimp) ?_
  refine T.ret (hQ _ _ _ rfl ?_).1 -- ret 1
  exact ((TEnt.empty 0 6 (by decide) (.inr rfl)).trans (TEnt.fin [0] (by decide) (by simp) rfl ⟨rfl, trivial⟩))
 ·(try simp only [dE] at hc)
  refine T.skip ?_
  refine keepK hK2 [0] (by dsimp) (by dsimp) ?_
  refine T.seq fun K5 hK5 => ?_
  refine T.region ?_
  refine rs rfl rfl (ok_buildSlice (n := 0) (ps := #[]) rfl ti_Lapi_Zone rfl ti_api_Zone (by decide) rfl rfl (by decide) rfl rfl rfl) ?_
  refine rs rfl rfl (ok_move (.inl rfl)) ?_
  refine rs rfl rfl (by exact ok_append_map (fun z => .agg (ZnC z)) (xs := []) (ys := []) rfl ti_Lapi_Zone rfl ti_api_Zone (by decide) (by decide) rfl ti_Lapi_Zone (by simp) rfl rfl rfl rfl rfl rfl rfl rfl rfl (by simp)) ?_
  refine rs rfl rfl (ok_move (.inr rfl)) ?_
  refine ro_nil ?_
  refine keepK hK5 [2] (by dsimp) (by dsimp) ?_
  refine T.ret (hQ _ _ _ rfl ?_).1 -- ret 2
  exact TEnt.fin [1] (by decide) (by simp) rfl ⟨rfl, trivial⟩
theorem zclone_cons (l : List Zn) (hne : l ≠ []) (hl : l.length ≤ 1000000000) : CSpec Tryz.prog 102 [] [.fz 6 (Zns l)] [some ⟨6, true, Zns l⟩] (.sl 0 0 l.length) := by
 refine CSpec.body Tryz.func102 rfl rfl rfl rfl rfl fun Q hQ => ?_
 refine T.seq fun K1 hK1 => ?_
 refine T.region ?_
 refine rs rfl rfl (ok_move (.inr rfl)) ?_
 refine ro_nil ?_
 refine keepK hK1 [0] (by dsimp) (by dsimp) ?_
 refine T.seq fun K2 hK2 => ?_
 refine T.seq fun K3 hK3 => ?_
 refine T.region ?_
 refine rs rfl rfl (ok_move (.inl rfl)) ?_
 refine rs rfl rfl (OpOk.bool (d := false) (ok_nil_no rfl ti_Lapi_Zone rfl (.inl rfl) rfl (by simpa [Zns] using hne) rfl) (rfl)) ?_
 refine ro_nil ?_
 refine keepK hK3 [0, 4] (by dsimp) (by dsimp) ?_
 refine T.cond_false rfl ?_
 refine T.skip ?_
 refine keepK hK2 [0] (by dsimp) (by dsimp) ?_
 refine T.seq fun K4 hK4 => ?_
 refine T.region ?_
 refine rs rfl rfl (ok_buildSlice (n := 0) (ps := #[]) rfl ti_Lapi_Zone rfl ti_api_Zone (by decide) rfl rfl (by decide) rfl rfl rfl) ?_
 refine rs rfl rfl (ok_move (.inl rfl)) ?_
 refine rs rfl rfl (by exact ok_append_map (fun z => .agg (ZnC z)) (xs := []) (ys := l) rfl ti_Lapi_Zone rfl ti_api_Zone (by decide) (by decide) rfl ti_Lapi_Zone (by simp) rfl rfl rfl rfl rfl rfl rfl rfl rfl (by show (0 + l.length) * 64 ≤ _; omega)) ?_
 refine rs rfl rfl (ok_move (.inr rfl)) ?_
 refine ro_nil ?_
 refine keepK hK4 [2] (by dsimp) (by dsimp) ?_
 refine T.ret (hQ _ _ _ rfl ?_).1 -- ret 1
 exact TEnt.fin [1] (by decide) (by simp) (by simp [normH, hget, Blk.ren]; exact Zns_ren _ _) ⟨by simp [tupA]; rfl, trivial⟩
theorem pclone_nil : CSpec Tryz.prog 103 [] [.fz 2 (Prs [])] [some ⟨2, true, Prs []⟩] (.sl 0 0 0) := by
 refine CSpec.body Tryz.func103 rfl rfl rfl rfl rfl fun Q hQ => ?_
 refine T.seq fun K1 hK1 => ?_
 refine T.region ?_
 refine rs rfl rfl (ok_move (.inr rfl)) ?_
 refine ro_nil ?_
 refine keepK hK1 [0] (by dsimp) (by dsimp) ?_
 refine T.seq fun K2 hK2 => ?_
 refine T.seq fun K3 hK3 => ?_
 refine T.region ?_
 refine rs rfl rfl (ok_move (.inl rfl)) ?_
 refine rs rfl rfl (ok_nil_ub rfl ti_Lapi_Par rfl (.inl rfl) rfl rfl) ?_
 refine ro_nil ?_
 refine keepK hK3 [0, 4] (by dsimp) (by dsimp) ?_
 refine T.cond_ub rfl ?_ ?_
 ·(try simp only [dE] at hc)
  refine T.seq fun K4 hK4 => ?_
  refine T.region ?_
  refine rs rfl rfl (ok_move (.inr rfl)) ?_
  refine ro_nil ?_
  refine keepK hK4 [2] (by dsimp) (by dsimp) ?_
  refine T.ret (hQ _ _ _ rfl ?_).1 -- ret 1
  exact ((TEnt.empty 0 2 (by decide) (.inr rfl)).trans (TEnt.fin [0] (by decide) (by simp) rfl ⟨rfl, trivial⟩))
 ·(try simp only [dE] at hc)
  refine T.skip ?_
  refine keepK hK2 [0] (by dsimp) (by dsimp) ?_
  refine T.seq fun K5 hK5 => ?_
  refine T.region ?_
  refine rs rfl rfl (ok_buildSlice (n := 0) (ps := #[]) rfl ti_Lapi_Par rfl ti_api_Par (by decide) rfl rfl (by decide) rfl rfl rfl) ?_
  refine rs rfl rfl (ok_move (.inl rfl)) ?_
  refine rs rfl rfl (by exact ok_append_map (fun p => .agg (PrC p)) (xs := []) (ys := []) rfl ti_Lapi_Par rfl ti_api_Par (by decide) (by decide) rfl ti_Lapi_Par (by simp) rfl rfl rfl rfl rfl rfl rfl rfl rfl (by simp)) ?_
  refine rs rfl rfl (ok_move (.inr rfl)) ?_
  refine ro_nil ?_
  refine keepK hK5 [2] (by dsimp) (by dsimp) ?_
  refine T.ret (hQ _ _ _ rfl ?_).1 -- ret 2
  exact TEnt.fin [1] (by decide) (by simp) rfl ⟨rfl, trivial⟩
theorem pclone_cons (l : List Pr) (hne : l ≠ []) (hl : l.length ≤ 1000000000) : CSpec Tryz.prog 103 [] [.fz 2 (Prs l)] [some ⟨2, true, Prs l⟩] (.sl 0 0 l.length) := by
 refine CSpec.body Tryz.func103 rfl rfl rfl rfl rfl fun Q hQ => ?_
 refine T.seq fun K1 hK1 => ?_
 refine T.region ?_
 refine rs rfl rfl (ok_move (.inr rfl)) ?_
 refine ro_nil ?_
 refine keepK hK1 [0] (by dsimp) (by dsimp) ?_
 refine T.seq fun K2 hK2 => ?_
 refine T.seq fun K3 hK3 => ?_
 refine T.region ?_
 refine rs rfl rfl (ok_move (.inl rfl)) ?_
 refine rs rfl rfl (OpOk.bool (d := false) (ok_nil_no rfl ti_Lapi_Par rfl (.inl rfl) rfl (by simpa [Prs] using hne) rfl) (rfl)) ?_
 refine ro_nil ?_
 refine keepK hK3 [0, 4] (by dsimp) (by dsimp) ?_
 refine T.cond_false rfl ?_
 refine T.skip ?_
 refine keepK hK2 [0] (by dsimp) (by dsimp) ?_
 refine T.seq fun K4 hK4 => ?_
 refine T.region ?_
 refine rs rfl rfl (ok_buildSlice (n := 0) (ps := #[]) rfl ti_Lapi_Par rfl ti_api_Par (by decide) rfl rfl (by decide) rfl rfl rfl) ?_
 refine rs rfl rfl (ok_move (.inl rfl)) ?_
 refine rs rfl rfl (by exact ok_append_map (fun p => .agg (PrC p)) (xs := []) (ys := l) rfl ti_Lapi_Par rfl ti_api_Par (by decide) (by decide) rfl ti_Lapi_Par (by simp) rfl rfl rfl rfl rfl rfl rfl rfl rfl (by show (0 + l.length) * 32 ≤ _; omega)) ?_
 refine rs rfl rfl (ok_move (.inr rfl)) ?_
 refine ro_nil ?_
 refine keepK hK4 [2] (by dsimp) (by dsimp) ?_
 refine T.ret (hQ _ _ _ rfl ?_).1 -- ret 1
 exact TEnt.fin [1] (by decide) (by simp) (by simp [normH, hget, Blk.ren]; exact Prs_ren _ _) ⟨by simp [tupA]; rfl, trivial⟩
theorem sclone_new (l : List Int) (hl : l.length ≤ 17592186044416) : CSpec Tryz.prog 101 [] [.fz 1 (ints .i64 l)] [some ⟨1, true, ints .i64 l⟩] (.sl 0 0 l.length) := by
  by_cases h : l = []
  · subst h; exact sclone_nil
  · exact sclone_cons l h hl
theorem zclone_new (l : List Zn) (hl : l.length ≤ 1000000000) : CSpec Tryz.prog 102 [] [.fz 6 (Zns l)] [some ⟨6, true, Zns l⟩] (.sl 0 0 l.length) := by
  by_cases h : l = []
  · subst h; exact zclone_nil
  · exact zclone_cons l h hl
theorem pclone_new (l : List Pr) (hl : l.length ≤ 1000000000) : CSpec Tryz.prog 103 [] [.fz 2 (Prs l)] [some ⟨2, true, Prs l⟩] (.sl 0 0 l.length) := by
  by_cases h : l = []
  · subst h; exact pclone_nil
  · exact pclone_cons l h hl
end Go.Proofs.YtjklgbafnfoolaaGreat.AmF
