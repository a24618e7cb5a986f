/- Walks over the abstract machine: states of the log: may one be? -/
import Derived.Test.YtlegolcbjjjofaaAfState1
namespace Go.Proofs.Ytlegolcbjjjofaa.AmF
open Go Go.AM
set_option maxRecDepth 100000
set_option maxHeartbeats 2000000
set_option linter.unusedSimpArgs false
set_option linter.unusedVariables false
attribute [local simp] tkeep tget tput ev cav argsTM pickA normT putA splice AV.cells ints_length rowsA_length Prs_len Zns_len
/-- A parity that may be. -/
def PG (c : Cf) (p : Pr) : Prop := (1 ≤ p.w ∧ p.w ≤ sizeC c) ∧ (p.b.length : Int) = c.unit * c.blk
instance (c : Cf) (p : Pr) : Decidable (PG c p) := by unfold PG; infer_instance
/-- A zone that may be. -/
def RZ (c : Cf) (rb : Bool) (z : Zn) : Prop := (0 ≤ z.gen ∧ z.gen ≤ 1099511627776) ∧ (-1 ≤ z.slot ∧ z.slot < slotsC c) ∧ (0 ≤ z.w ∧ z.w ≤ sizeC c) ∧ (0 < z.w → z.full = true ∧ z.slot ≠ -1) ∧ (z.whole = true → z.slot ≠ -1 ∧ rb = true) ∧ z.pars.length ≤ 2 ∧ (0 < z.pars.length → z.slot ≠ -1) ∧ ∀ p ∈ z.pars, PG c p
instance (c : Cf) (rb : Bool) (z : Zn) : Decidable (RZ c rb z) := by unfold RZ; infer_instance
theorem slots_bd (c : Cf) : 0 ≤ slotsC c ∧ slotsC c ≤ 2097152 := by
  unfold slotsC
  split
  · rename_i h
    have := (saneC_iff c).1 h
    omega
  · omega
def SzB (c : Cf) : Blk := ⟨1, true, [.int (sizeC c)]⟩
theorem src2 : ∀ j, j < 2 → [0, 1][j]? = some j := by decide
theorem pos01 : pos [0, 1] 0 = some 0 ∧ pos [0, 1] 1 = some 1 := by decide
theorem PrC_take (p : Pr) : List.take 2 (PrC p) = PrC p := rfl
theorem ZnC_take (z : Zn) : List.take 6 (ZnC z) = ZnC z := rfl
theorem StC_take (s : St) : List.take 15 (StC s) = StC s := rfl
theorem SzB_ren (ρ : Nat → Option Nat) (c : Cf) : Blk.ren ρ (SzB c) = SzB c := by simp [SzB, Blk.ren, renL, AV.ren]
theorem rz1_ok (s : St) (p : Pr) (hc : chkC s.c = 0) : CSpec Try.prog 127 [SzB s.c, StB s] [.agg (PrC p), .ref 0 0 0, .ref 1 0 0] [some (SzB s.c), some (StB s)] (.b (decide (¬ PG s.c p))) := by
 refine CSpec.body Try.func127 rfl rfl rfl rfl rfl fun Q hQ => ?_
 refine T.seq fun K1 hK1 => ?_
 refine T.region ?_ -- region 0
 refine ro rfl rfl (OpOk.step (ok_box (n := 2) rfl rfl (by decide))) ?_
 refine ro rfl rfl (OpOk.step (ok_moveb (c := false) (.inr rfl) rfl)) ?_
 refine ro_nil ?_
 refine keepK hK1 [1, 2, 3] (by dsimp) (by dsimp) ?_
 refine T.seq fun K2 hK2 => ?_
 refine T.drawH mixed [] ?_ -- region 1
 refine any_take 0 rfl (by first | rfl | decide +kernel) rfl (HeldL.refl _) (fun H' hH => OpOk.step (ok_fieldAddr rfl ti_api_Par rfl rfl ti_int (by decide) rfl)) ?_
 refine any_take 1 rfl (by first | rfl | decide +kernel) rfl (HeldL.refl _) (fun H' hH => OpOk.step (ok_load rfl ti_int (locA_held hH rfl) rfl)) ?_
 refine any_take 2 rfl (by first | rfl | decide +kernel) rfl (HeldL.refl _) (fun H' hH => OpOk.step (ok_load rfl ti_int (locA_held hH rfl) rfl)) ?_
 refine any_one 3 rfl (by first | rfl | decide +kernel) rfl rfl (ok_call rfl rfl rfl ((sin_ok p.w 1 (sizeC s.c)).plain rfl rfl)) (.inr (by first | (simp [HeldL]; done) | (simp only [HeldL, List.map_cons, List.map_nil, List.cons_append, List.nil_append, List.set_cons_zero, List.set_cons_succ]; (repeat' first | trivial | rfl | constructor)))) ?_
 refine any_take 4 rfl (by first | rfl | decide +kernel) rfl (by first | exact HeldL.refl _ | exact HeldL.append _ _ | simp [HeldL]) (fun H' hH => OpOk.step (ok_unOp rfl rfl)) ?_
 refine any_take_case 5 rfl (by first | rfl | decide +kernel) rfl (by first | exact HeldL.refl _ | exact HeldL.append _ _ | simp [HeldL]) (fun H' hH => OpOk.step (ok_moveb (.inl rfl) rfl)) (fun hb => ?_) (fun hb => ?_)
 ·(try simp only [dE] at hb)
  refine any_skip 6 rfl (by first | rfl | decide +kernel) rfl (by first | exact HeldL.refl _ | exact HeldL.append _ _ | simp [HeldL]) ?_
  refine any_skip 7 rfl (by first | rfl | decide +kernel) rfl (by first | exact HeldL.refl _ | exact HeldL.append _ _ | simp [HeldL]) ?_
  refine any_skip 8 rfl (by first | rfl | decide +kernel) rfl (by first | exact HeldL.refl _ | exact HeldL.append _ _ | simp [HeldL]) ?_
  refine any_skip 9 rfl (by first | rfl | decide +kernel) rfl (by first | exact HeldL.refl _ | exact HeldL.append _ _ | simp [HeldL]) ?_
  refine any_one_skip 10 rfl (by first | rfl | decide +kernel) rfl rfl (.inr (by first | exact HeldL.refl _ | exact HeldL.append _ _ | simp [HeldL])) ?_
  refine any_skip 11 rfl (by first | rfl | decide +kernel) rfl (by first | exact HeldL.refl _ | exact HeldL.append _ _ | simp [HeldL]) ?_
  refine any_take 12 rfl (by first | rfl | decide +kernel) rfl (by first | exact HeldL.refl _ | exact HeldL.append _ _ | simp [HeldL]) (fun H' hH => OpOk.step (ok_pickb (t := true) (d := true) rfl rfl rfl)) ?_
  refine any_take 13 rfl (by first | rfl | decide +kernel) rfl (by first | exact HeldL.refl _ | exact HeldL.append _ _ | simp [HeldL]) (fun H' hH => OpOk.step (ok_moveb (c := true) (.inr rfl) rfl)) ?_
  refine any_done rfl ?_
  refine keepK hK2 [4] (by dsimp) (by dsimp) ?_
  refine T.ret (hQ _ _ _ rfl ?_).1 -- ret 1
  exact by (rw [decide_eq_true (by unfold PG; omega)]; exact TEnt.fin [0, 1] (by decide) src2 (by simp [normH, hget, SzB_ren, StB_ren]) ⟨rfl, trivial⟩)
 ·(try simp only [dE] at hb)
  refine any_take 6 rfl (by first | rfl | decide +kernel) rfl (by first | exact HeldL.refl _ | exact HeldL.append _ _ | simp [HeldL]) (fun H' hH => OpOk.step (ok_fieldAddr rfl ti_api_Par rfl rfl ti_Luint8 (by decide) rfl)) ?_
  refine any_take 7 rfl (by first | rfl | decide +kernel) rfl (by first | exact HeldL.refl _ | exact HeldL.append _ _ | simp [HeldL]) (fun H' hH => OpOk.step (ok_load rfl ti_Luint8 (locA_held hH rfl) rfl)) ?_
  refine any_take 8 rfl (by first | rfl | decide +kernel) rfl (by first | exact HeldL.refl _ | exact HeldL.append _ _ | simp [HeldL]) (fun H' hH => OpOk.step (ok_len' rfl rfl ti_Luint8 rfl (by first | exact ints_length _ _ | exact rowsA_length _ _ | exact Cms_len _ | exact mapLen _ | rfl))) ?_
  refine any_take 9 rfl (by first | rfl | decide +kernel) rfl (by first | exact HeldL.refl _ | exact HeldL.append _ _ | simp [HeldL]) (fun H' hH => OpOk.step (ok_load rfl ti_api_State (locA_held hH rfl) rfl)) ?_
  refine any_one 10 rfl (by first | rfl | decide +kernel) rfl rfl (ok_call rfl rfl rfl ((sunit_ok s hc).plain (by simp [renL, AV.ren, StC_take, StC_ren]) rfl)) (.inr (by first | (simp [HeldL]; done) | (simp only [HeldL, List.map_cons, List.map_nil, List.cons_append, List.nil_append, List.set_cons_zero, List.set_cons_succ]; (repeat' first | trivial | rfl | constructor)))) ?_
  refine any_take 11 rfl (by first | rfl | decide +kernel) rfl (by first | exact HeldL.refl _ | exact HeldL.append _ _ | simp [HeldL]) (fun H' hH => OpOk.step (ok_binOp rfl ti_int rfl)) ?_
  refine any_take 12 rfl (by first | rfl | decide +kernel) rfl (by first | exact HeldL.refl _ | exact HeldL.append _ _ | simp [HeldL]) (fun H' hH => OpOk.step (ok_pick rfl rfl)) ?_
  refine any_take 13 rfl (by first | rfl | decide +kernel) rfl (by first | exact HeldL.refl _ | exact HeldL.append _ _ | simp [HeldL]) (fun H' hH => OpOk.step (ok_move (.inr rfl))) ?_
  refine any_done rfl ?_
  refine keepK hK2 [4] (by dsimp) (by dsimp) ?_
  refine T.ret (hQ _ _ _ rfl ?_).1 -- ret 2
  have e : decide (¬ PG s.c p) = ((p.b.length : Int) != s.c.unit * s.c.blk) := (by rw [Bool.eq_iff_iff, decide_eq_true_iff, bne_iff_ne]; unfold PG; omega)
  rw [e]; exact TEnt.fin [0, 1] (by decide) src2 (by simp [normH, hget, SzB_ren, StB_ren]) ⟨rfl, trivial⟩
theorem indexP_ok (s : St) (l : List Pr) (f : FuncId) (q : Pr → Bool) (hf : ∀ y, CSpec Try.prog f [SzB s.c, StB s] [.agg (PrC y), .ref 0 0 0, .ref 1 0 0] [some (SzB s.c), some (StB s)] (.b (q y))) (hl : l.length ≤ 140737488355328) : CSpec Try.prog 136 [SzB s.c, StB s] [.fz 2 (Prs l), .fn (.func f) [] [.ref 0 0 0, .ref 1 0 0]] [some (SzB s.c), some (StB s)] (.int (fIdx q l)) := by
 refine CSpec.body Try.func136 rfl rfl rfl rfl rfl fun Q hQ => ?_
 refine T.seq fun K1 hK1 => ?_
 refine T.region ?_ -- region 0
 refine ro rfl rfl (OpOk.step (ok_move (.inr rfl))) ?_
 refine ro_nil ?_
 refine keepK hK1 [0, 1] (by dsimp) (by dsimp) ?_
 refine T.seq fun K2 hK2 => ?_
 refine T.seq fun K3 hK3 => ?_
 refine T.region ?_ -- region 1
 refine ro rfl rfl (OpOk.step (ok_move (.inl rfl))) ?_
 refine ro rfl rfl (OpOk.step (ok_len' rfl rfl ti_Lapi_Par rfl (by first | exact ints_length _ _ | exact rowsA_length _ _ | exact Cms_len _ | exact mapLen _ | rfl))) ?_
 refine ro rfl rfl (OpOk.step (ok_move (.inl rfl))) ?_
 refine ro_nil ?_
 refine keepK hK3 [0, 1, 7, 8] (by dsimp) (by dsimp) ?_
 refine T.block ?_
 refine T.loopI (ι := Nat) (fun i => i ≤ l.length ∧ ∀ y ∈ l.take i, q y = false) (fun i => l.length - i) (fun i => ([(0, .fz 2 (Prs l)), (1, .fn (.func f) [] [.ref 0 0 0, .ref 1 0 0]), (7, .int l.length), (8, .int i)], [some (SzB s.c), some (StB s)])) 0 ⟨Nat.zero_le _, fun y hy => by simp at hy⟩ (TEnt.toH rfl ⟨rfl, rfl, by simp, rfl, trivial⟩) (fun i hi => ?_) -- loop 1
 obtain ⟨hil, hno⟩ := hi
 refine T.seq fun K4 hK4 => ?_
 refine T.region ?_ -- region 2
 refine ro rfl rfl (OpOk.step (ok_binOp rfl ti_int rfl)) ?_
 refine ro_nil ?_
 refine keepK hK4 [0, 1, 7, 8, 9] (by dsimp) (by dsimp) ?_
 refine T.seq fun K5 hK5 => ?_
 refine T.cond rfl (fun hc => ?_) (fun hc => ?_) -- cond 1
 ·(try simp only [dE] at hc)
  obtain ⟨y, hy⟩ : ∃ y, l[i]? = some y := ⟨_, List.getElem?_eq_getElem (by omega)⟩
  refine T.skip ?_
  refine keepK hK5 [0, 1, 7, 8] (by dsimp) (by dsimp) ?_
  refine T.seq fun K6 hK6 => ?_
  refine T.block ?_
  refine T.seq fun K7 hK7 => ?_
  refine T.region ?_ -- region 3
  refine ro rfl rfl (OpOk.step (ok_move (.inl rfl))) ?_
  refine ro rfl rfl (OpOk.step (ok_move (.inr rfl))) ?_
  refine ro_nil ?_
  refine keepK hK7 [0, 1, 5, 7, 8] (by dsimp) (by dsimp) ?_
  refine T.seq fun K8 hK8 => ?_
  refine T.region ?_ -- region 4
  refine ro rfl rfl (OpOk.step (ok_move (.inl rfl))) ?_
  refine ro rfl rfl (OpOk.step (ok_move (.inl rfl))) ?_
  refine ro rfl rfl (OpOk.step (ok_move (.inl rfl))) ?_
  refine ro rfl rfl (OpOk.step (by exact ok_index_map (F := PrC) rfl ti_Lapi_Par rfl ti_api_Par rfl rfl rfl hy (by simp [PrC]))) ?_
  refine ro rfl rfl (OpOk.step (ok_load rfl ti_api_Par rfl rfl)) ?_
  refine ro rfl rfl (ok_call rfl rfl rfl (((hf y).pass [0, 1] (by decide) (by simp) (by simp [normH, hget, SzB_ren, StB_ren]) (by simp [renL, AV.ren, PrC_take, PrC_ren, pos01.1, pos01.2])).eq (x' := .b (q y)) (H'' := [some (SzB s.c), some (StB s)]) rfl (by simp [mergeH, setIds, renH, SzB_ren, StB_ren]))) ?_
  refine ro_nil ?_
  refine keepK hK8 [0, 1, 5, 7, 8, 16] (by dsimp) (by dsimp) ?_
  refine T.cond rfl (fun hc => ?_) (fun hc => ?_) -- cond 2
  ·(try simp only [dE] at hc)
   rw [fIdx_hit hy hc hno] at hQ
   refine T.seq fun K9 hK9 => ?_
   refine T.region ?_ -- region 5
   refine ro rfl rfl (OpOk.step (ok_move (.inl rfl))) ?_
   refine ro rfl rfl (OpOk.step (ok_move (.inr rfl))) ?_
   refine ro_nil ?_
   refine keepK hK9 [4] (by dsimp) (by dsimp) ?_
   refine T.ret (hQ _ _ _ rfl ?_).1 -- ret 1
   exact TEnt.toH rfl ⟨rfl, trivial⟩
  ·(try simp only [dE] at hc)
   refine T.skip ?_
   refine keepK hK6 [0, 1, 7, 8] (by dsimp) (by dsimp) ?_
   refine T.region ?_ -- region 6
   refine ro rfl rfl (OpOk.step (ok_add64 rfl ti_int rfl rfl (by omega) (by omega))) ?_
   refine ro rfl rfl (OpOk.step (ok_move (.inl rfl))) ?_
   refine ro_nil ?_
   exact ⟨i + 1, ⟨by omega, take_snoc_all hy hno hc⟩, by omega, TEnt.toH rfl ⟨rfl, rfl, rfl, rfl, trivial⟩⟩
 ·(try simp only [dE] at hc)
  have hin : i = l.length := by omega
  rw [hin, List.take_length] at hno
  rw [fIdx_none hno] at hQ
  refine T.exit ?_
  refine keepK hK2 [] (by dsimp) (by dsimp) ?_
  refine T.seq fun K10 hK10 => ?_
  refine T.region ?_ -- region 7
  refine ro rfl rfl (OpOk.step (ok_move (.inr rfl))) ?_
  refine ro_nil ?_
  refine keepK hK10 [4] (by dsimp) (by dsimp) ?_
  refine T.ret (hQ _ _ _ rfl ?_).1 -- ret 2
  exact TEnt.toH rfl ⟨rfl, trivial⟩
theorem containsP_ok (s : St) (l : List Pr) (f : FuncId) (q : Pr → Bool) (hf : ∀ y, CSpec Try.prog f [SzB s.c, StB s] [.agg (PrC y), .ref 0 0 0, .ref 1 0 0] [some (SzB s.c), some (StB s)] (.b (q y))) (hl : l.length ≤ 140737488355328) : CSpec Try.prog 128 [SzB s.c, StB s] [.fz 2 (Prs l), .fn (.func f) [] [.ref 0 0 0, .ref 1 0 0]] [some (SzB s.c), some (StB s)] (.b (l.any q)) := by
 refine CSpec.body Try.func128 rfl rfl rfl rfl rfl fun Q hQ => ?_
 refine T.seq fun K1 hK1 => ?_
 refine T.region ?_ -- region 0
 refine ro rfl rfl (OpOk.step (ok_moveb (c := false) (.inr rfl) rfl)) ?_
 refine ro_nil ?_
 refine keepK hK1 [0, 1] (by dsimp) (by dsimp) ?_
 refine T.seq fun K2 hK2 => ?_
 refine T.region ?_ -- region 1
 refine ro rfl rfl (OpOk.step (ok_move (.inl rfl))) ?_
 refine ro rfl rfl (OpOk.step (ok_move (.inl rfl))) ?_
 refine ro rfl rfl (ok_call rfl rfl rfl (((indexP_ok s l f q hf hl).pass [0, 1] (by decide) (by simp) (by simp [normH, hget, SzB_ren, StB_ren]) (by simp [renL, AV.ren, Prs_ren, pos01.1, pos01.2])).eq (x' := .int (fIdx q l)) (H'' := [some (SzB s.c), some (StB s)]) rfl (by simp [mergeH, setIds, renH, SzB_ren, StB_ren]))) ?_
 refine ro rfl rfl (OpOk.step ((ok_binOp rfl ti_int rfl).eq (x' := .b (l.any q)) (by
  have e : decide (fIdx q l ≥ 0) = l.any q := by
    rw [Bool.eq_iff_iff, decide_eq_true_iff, List.any_eq_true]
    exact fIdx_iff q l
  exact congrArg AV.b e) rfl)) ?_
 refine ro rfl rfl (OpOk.step (ok_move (.inr rfl))) ?_
 refine ro_nil ?_
 refine keepK hK2 [4] (by dsimp) (by dsimp) ?_
 refine T.ret (hQ _ _ _ rfl ?_).1 -- ret 1
 exact TEnt.toH rfl ⟨rfl, trivial⟩
theorem pos20 : pos [2, 0] 2 = some 0 ∧ pos [2, 0] 0 = some 1 := by decide
theorem RZ_last {c : Cf} {rb : Bool} {z : Zn} (h : (0 ≤ z.gen ∧ z.gen ≤ 1099511627776) ∧ (-1 ≤ z.slot ∧ z.slot < slotsC c) ∧ (0 ≤ z.w ∧ z.w ≤ sizeC c) ∧ (0 < z.w → z.full = true ∧ z.slot ≠ -1) ∧ (z.whole = true → z.slot ≠ -1 ∧ rb = true) ∧ z.pars.length ≤ 2 ∧ (0 < z.pars.length → z.slot ≠ -1)) : decide (RZ c rb z) = !(z.pars.any fun y => decide (¬ PG c y)) := by
  obtain ⟨h1, h2, h3, h4, h5, h6, h7⟩ := h
  rw [Bool.eq_iff_iff, decide_eq_true_iff, Bool.not_eq_true', ← Bool.not_eq_true, List.any_eq_true]
  constructor
  · rintro ⟨_, _, _, _, _, _, _, h⟩ ⟨p, hp, h'⟩
    exact (decide_eq_true_iff.1 h') (h p hp)
  · intro h
    refine ⟨h1, h2, h3, h4, h5, h6, h7, fun p hp => ?_⟩
    exact Decidable.byContradiction fun hn => h ⟨p, hp, decide_eq_true hn⟩
theorem rzone_ok (s : St) (z : Zn) (rb : Bool) (hck : chkC s.c = 0) (hl : z.pars.length ≤ 140737488355328) : CSpec Try.prog 99 [] [.agg (StC s), .agg (ZnC z), .b rb] [] (.b (decide (RZ s.c rb z))) := by
 have hsb := slots_bd s.c
 have hzb := (size_bd s.c).2.2.2.2
 refine CSpec.body Try.func99 rfl rfl rfl rfl rfl fun Q hQ => ?_
 refine T.seq fun K1 hK1 => ?_
 refine T.region ?_ -- region 0
 refine ro rfl rfl (OpOk.step (ok_box (n := 15) rfl rfl (by decide))) ?_
 refine ro rfl rfl (OpOk.step (ok_box (n := 6) rfl rfl (by decide))) ?_
 refine ro rfl rfl (OpOk.step (ok_moveb (c := false) (.inr rfl) rfl)) ?_
 refine ro_nil ?_
 refine keepK hK1 [2, 3, 4] (by dsimp) (by dsimp) ?_
 refine T.seq fun K2 hK2 => ?_
 refine T.region ?_ -- region 1
 refine ro rfl rfl (OpOk.step (ok_fieldAddr rfl ti_api_State rfl rfl ti_api_Conf (by decide) rfl)) ?_
 refine ro rfl rfl (OpOk.step (ok_load rfl ti_api_Conf rfl rfl)) ?_
 refine ro rfl rfl (ok_call rfl rfl rfl ((size_ok s.c).plain (by show renL _ [.agg (CC s.c)] = _; simp [renL, AV.ren, CC_ren]) rfl)) ?_
 refine ro rfl rfl (OpOk.step (ok_alloc rfl ti_int rfl (by decide))) ?_
 refine ro rfl rfl (OpOk.step (ok_store rfl ti_int (by decide) rfl rfl rfl rfl rfl (by first | exact Nat.le_of_ble_eq_true rfl | simp) (by first | exact .inl ⟨rfl, rfl⟩ | exact .inr rfl))) ?_
 refine ro_nil ?_
 refine keepK hK2 [2, 3, 4, 7] (by dsimp) (by dsimp) ?_
 refine T.seq fun K3 hK3 => ?_
 refine T.block ?_
 refine T.seq fun K4 hK4 => ?_
 refine T.drawH mixed [] ?_ -- region 2
 refine any_take 0 rfl (by first | rfl | decide +kernel) rfl (HeldL.refl _) (fun H' hH => OpOk.step (ok_fieldAddr rfl ti_api_Zone rfl rfl ti_int (by decide) rfl)) ?_
 refine any_take 1 rfl (by first | rfl | decide +kernel) rfl (HeldL.refl _) (fun H' hH => OpOk.step (ok_load rfl ti_int (locA_held hH rfl) rfl)) ?_
 refine any_one 2 rfl (by first | rfl | decide +kernel) rfl rfl (ok_call rfl rfl rfl ((sin_ok z.gen 0 1099511627776).plain rfl rfl)) (.inr (by first | (simp [HeldL]; done) | (simp only [HeldL, List.map_cons, List.map_nil, List.cons_append, List.nil_append, List.set_cons_zero, List.set_cons_succ]; (repeat' first | trivial | rfl | constructor)))) ?_
 refine any_take 3 rfl (by first | rfl | decide +kernel) rfl (by first | exact HeldL.refl _ | exact HeldL.append _ _ | simp [HeldL]) (fun H' hH => OpOk.step (ok_unOp rfl rfl)) ?_
 refine any_take_case 4 rfl (by first | rfl | decide +kernel) rfl (by first | exact HeldL.refl _ | exact HeldL.append _ _ | simp [HeldL]) (fun H' hH => OpOk.step (ok_moveb (.inl rfl) rfl)) (fun hb => ?_) (fun hb => ?_)
 ·(try simp only [dE] at hb)
  refine any_skip 5 rfl (by first | rfl | decide +kernel) rfl (by first | exact HeldL.refl _ | exact HeldL.append _ _ | simp [HeldL]) ?_
  refine any_skip 6 rfl (by first | rfl | decide +kernel) rfl (by first | exact HeldL.refl _ | exact HeldL.append _ _ | simp [HeldL]) ?_
  refine any_skip 7 rfl (by first | rfl | decide +kernel) rfl (by first | exact HeldL.refl _ | exact HeldL.append _ _ | simp [HeldL]) ?_
  refine any_skip 8 rfl (by first | rfl | decide +kernel) rfl (by first | exact HeldL.refl _ | exact HeldL.append _ _ | simp [HeldL]) ?_
  refine any_one_skip 9 rfl (by first | rfl | decide +kernel) rfl rfl (.inr (by first | exact HeldL.refl _ | exact HeldL.append _ _ | simp [HeldL])) ?_
  refine any_skip 10 rfl (by first | rfl | decide +kernel) rfl (by first | exact HeldL.refl _ | exact HeldL.append _ _ | simp [HeldL]) ?_
  refine any_one_skip 11 rfl (by first | rfl | decide +kernel) rfl rfl (.inr (by first | exact HeldL.refl _ | exact HeldL.append _ _ | simp [HeldL])) ?_
  refine any_skip 12 rfl (by first | rfl | decide +kernel) rfl (by first | exact HeldL.refl _ | exact HeldL.append _ _ | simp [HeldL]) ?_
  refine any_take 13 rfl (by first | rfl | decide +kernel) rfl (by first | exact HeldL.refl _ | exact HeldL.append _ _ | simp [HeldL]) (fun H' hH => OpOk.step (ok_pickb (t := true) (d := true) rfl rfl rfl)) ?_
  refine any_take 14 rfl (by first | rfl | decide +kernel) rfl (by first | exact HeldL.refl _ | exact HeldL.append _ _ | simp [HeldL]) (fun H' hH => OpOk.step (ok_moveb (c := true) (.inl rfl) rfl)) ?_
  refine any_skip 15 rfl (by first | rfl | decide +kernel) rfl (by first | exact HeldL.refl _ | exact HeldL.append _ _ | simp [HeldL]) ?_
  refine any_skip 16 rfl (by first | rfl | decide +kernel) rfl (by first | exact HeldL.refl _ | exact HeldL.append _ _ | simp [HeldL]) ?_
  refine any_skip 17 rfl (by first | rfl | decide +kernel) rfl (by first | exact HeldL.refl _ | exact HeldL.append _ _ | simp [HeldL]) ?_
  refine any_one_skip 18 rfl (by first | rfl | decide +kernel) rfl rfl (.inr (by first | exact HeldL.refl _ | exact HeldL.append _ _ | simp [HeldL])) ?_
  refine any_skip 19 rfl (by first | rfl | decide +kernel) rfl (by first | exact HeldL.refl _ | exact HeldL.append _ _ | simp [HeldL]) ?_
  refine any_take 20 rfl (by first | rfl | decide +kernel) rfl (by first | exact HeldL.refl _ | exact HeldL.append _ _ | simp [HeldL]) (fun H' hH => OpOk.step (ok_pickb (t := true) (d := true) rfl rfl rfl)) ?_
  refine any_take 21 rfl (by first | rfl | decide +kernel) rfl (by first | exact HeldL.refl _ | exact HeldL.append _ _ | simp [HeldL]) (fun H' hH => OpOk.step (ok_moveb (c := true) (.inr rfl) rfl)) ?_
  refine any_done rfl ?_
  refine keepK hK4 [2, 3, 4, 7, 12] (by dsimp) (by dsimp) ?_
  refine T.cond_true rfl ?_
  refine T.seq fun K5 hK5 => ?_
  refine T.region ?_ -- region 3
  refine ro rfl rfl (OpOk.step (ok_moveb (c := false) (.inr rfl) rfl)) ?_
  refine ro_nil ?_
  refine keepK hK5 [6] (by dsimp) (by dsimp) ?_
  refine T.ret (hQ _ _ _ rfl ?_).1 -- ret 1
  exact by (rw [decide_eq_false (fun h => by obtain ⟨⟨h1, h2⟩, ⟨h3, h4⟩, ⟨h5, h6⟩, h7, h8, h9, h10, h11⟩ := h; omega)]; exact TEnt.fin [] (by decide) (by simp) rfl ⟨rfl, trivial⟩)
 ·(try simp only [dE] at hb)
  refine any_take 5 rfl (by first | rfl | decide +kernel) rfl (by first | exact HeldL.refl _ | exact HeldL.append _ _ | simp [HeldL]) (fun H' hH => OpOk.step (ok_fieldAddr rfl ti_api_Zone rfl rfl ti_int (by decide) rfl)) ?_
  refine any_take 6 rfl (by first | rfl | decide +kernel) rfl (by first | exact HeldL.refl _ | exact HeldL.append _ _ | simp [HeldL]) (fun H' hH => OpOk.step (ok_load rfl ti_int (locA_held hH rfl) rfl)) ?_
  refine any_take 7 rfl (by first | rfl | decide +kernel) rfl (by first | exact HeldL.refl _ | exact HeldL.append _ _ | simp [HeldL]) (fun H' hH => OpOk.step (ok_fieldAddr rfl ti_api_State rfl rfl ti_api_Conf (by decide) rfl)) ?_
  refine any_take 8 rfl (by first | rfl | decide +kernel) rfl (by first | exact HeldL.refl _ | exact HeldL.append _ _ | simp [HeldL]) (fun H' hH => OpOk.step (ok_load rfl ti_api_Conf (locA_held hH rfl) rfl)) ?_
  refine any_one 9 rfl (by first | rfl | decide +kernel) rfl rfl (ok_call rfl rfl rfl ((slots_ok s.c).plain (by show renL _ [.agg (CC s.c)] = _; simp [renL, AV.ren, CC_ren]) rfl)) (.inr (by first | (simp [HeldL]; done) | (simp only [HeldL, List.map_cons, List.map_nil, List.cons_append, List.nil_append, List.set_cons_zero, List.set_cons_succ]; (repeat' first | trivial | rfl | constructor)))) ?_
  refine any_take 10 rfl (by first | rfl | decide +kernel) rfl (by first | exact HeldL.refl _ | exact HeldL.append _ _ | simp [HeldL]) (fun H' hH => OpOk.step (ok_sub64 rfl ti_int rfl rfl (by omega) (by omega))) ?_
  refine any_one 11 rfl (by first | rfl | decide +kernel) rfl rfl (ok_call rfl rfl rfl ((sin_ok z.slot (-1) (slotsC s.c - 1)).plain rfl rfl)) (.inr (by first | (simp [HeldL]; done) | (simp only [HeldL, List.map_cons, List.map_nil, List.cons_append, List.nil_append, List.set_cons_zero, List.set_cons_succ]; (repeat' first | trivial | rfl | constructor)))) ?_
  refine any_take 12 rfl (by first | rfl | decide +kernel) rfl (by first | exact HeldL.refl _ | exact HeldL.append _ _ | simp [HeldL]) (fun H' hH => OpOk.step (ok_unOp rfl rfl)) ?_
  refine any_take 13 rfl (by first | rfl | decide +kernel) rfl (by first | exact HeldL.refl _ | exact HeldL.append _ _ | simp [HeldL]) (fun H' hH => OpOk.step (ok_pick rfl rfl)) ?_
  refine any_take_case 14 rfl (by first | rfl | decide +kernel) rfl (by first | exact HeldL.refl _ | exact HeldL.append _ _ | simp [HeldL]) (fun H' hH => OpOk.step (ok_moveb (.inl rfl) rfl)) (fun hb => ?_) (fun hb => ?_)
  ·(try simp only [dE] at hb)
   refine any_skip 15 rfl (by first | rfl | decide +kernel) rfl (by first | exact HeldL.refl _ | exact HeldL.append _ _ | simp [HeldL]) ?_
   refine any_skip 16 rfl (by first | rfl | decide +kernel) rfl (by first | exact HeldL.refl _ | exact HeldL.append _ _ | simp [HeldL]) ?_
   refine any_skip 17 rfl (by first | rfl | decide +kernel) rfl (by first | exact HeldL.refl _ | exact HeldL.append _ _ | simp [HeldL]) ?_
   refine any_one_skip 18 rfl (by first | rfl | decide +kernel) rfl rfl (.inr (by first | exact HeldL.refl _ | exact HeldL.append _ _ | simp [HeldL])) ?_
   refine any_skip 19 rfl (by first | rfl | decide +kernel) rfl (by first | exact HeldL.refl _ | exact HeldL.append _ _ | simp [HeldL]) ?_
   refine any_take 20 rfl (by first | rfl | decide +kernel) rfl (by first | exact HeldL.refl _ | exact HeldL.append _ _ | simp [HeldL]) (fun H' hH => OpOk.step (ok_pickb (t := true) (d := true) rfl rfl rfl)) ?_
   refine any_take 21 rfl (by first | rfl | decide +kernel) rfl (by first | exact HeldL.refl _ | exact HeldL.append _ _ | simp [HeldL]) (fun H' hH => OpOk.step (ok_moveb (c := true) (.inr rfl) rfl)) ?_
   refine any_done rfl ?_
   refine keepK hK4 [2, 3, 4, 7, 12] (by dsimp) (by dsimp) ?_
   refine T.cond_true rfl ?_
   refine T.seq fun K6 hK6 => ?_
   refine T.region ?_ -- region 3
   refine ro rfl rfl (OpOk.step (ok_moveb (c := false) (.inr rfl) rfl)) ?_
   refine ro_nil ?_
   refine keepK hK6 [6] (by dsimp) (by dsimp) ?_
   refine T.ret (hQ _ _ _ rfl ?_).1 -- ret 2
   exact by (rw [decide_eq_false (fun h => by obtain ⟨⟨h1, h2⟩, ⟨h3, h4⟩, ⟨h5, h6⟩, h7, h8, h9, h10, h11⟩ := h; omega)]; exact TEnt.fin [] (by decide) (by simp) rfl ⟨rfl, trivial⟩)
  ·(try simp only [dE] at hb)
   refine any_take 15 rfl (by first | rfl | decide +kernel) rfl (by first | exact HeldL.refl _ | exact HeldL.append _ _ | simp [HeldL]) (fun H' hH => OpOk.step (ok_fieldAddr rfl ti_api_Zone rfl rfl ti_int (by decide) rfl)) ?_
   refine any_take 16 rfl (by first | rfl | decide +kernel) rfl (by first | exact HeldL.refl _ | exact HeldL.append _ _ | simp [HeldL]) (fun H' hH => OpOk.step (ok_load rfl ti_int (locA_held hH rfl) rfl)) ?_
   refine any_take 17 rfl (by first | rfl | decide +kernel) rfl (by first | exact HeldL.refl _ | exact HeldL.append _ _ | simp [HeldL]) (fun H' hH => OpOk.step (ok_load rfl ti_int (locA_held hH rfl) rfl)) ?_
   refine any_one 18 rfl (by first | rfl | decide +kernel) rfl rfl (ok_call rfl rfl rfl ((sin_ok z.w 0 (sizeC s.c)).plain rfl rfl)) (.inr (by first | (simp [HeldL]; done) | (simp only [HeldL, List.map_cons, List.map_nil, List.cons_append, List.nil_append, List.set_cons_zero, List.set_cons_succ]; (repeat' first | trivial | rfl | constructor)))) ?_
   refine any_take 19 rfl (by first | rfl | decide +kernel) rfl (by first | exact HeldL.refl _ | exact HeldL.append _ _ | simp [HeldL]) (fun H' hH => OpOk.step (ok_unOp rfl rfl)) ?_
   refine any_take 20 rfl (by first | rfl | decide +kernel) rfl (by first | exact HeldL.refl _ | exact HeldL.append _ _ | simp [HeldL]) (fun H' hH => OpOk.step (ok_pick rfl rfl)) ?_
   refine any_take 21 rfl (by first | rfl | decide +kernel) rfl (by first | exact HeldL.refl _ | exact HeldL.append _ _ | simp [HeldL]) (fun H' hH => OpOk.step (ok_move (.inr rfl))) ?_
   refine any_done rfl ?_
   refine keepK hK4 [2, 3, 4, 7, 12] (by dsimp) (by dsimp) ?_
   refine T.cond rfl (fun hc => ?_) (fun hc => ?_) -- cond 1
   ·(try simp only [dE] at hc)
    refine T.seq fun K7 hK7 => ?_
    refine T.region ?_ -- region 3
    refine ro rfl rfl (OpOk.step (ok_moveb (c := false) (.inr rfl) rfl)) ?_
    refine ro_nil ?_
    refine keepK hK7 [6] (by dsimp) (by dsimp) ?_
    refine T.ret (hQ _ _ _ rfl ?_).1 -- ret 3
    exact by (rw [decide_eq_false (fun h => by obtain ⟨⟨h1, h2⟩, ⟨h3, h4⟩, ⟨h5, h6⟩, h7, h8, h9, h10, h11⟩ := h; omega)]; exact TEnt.fin [] (by decide) (by simp) rfl ⟨rfl, trivial⟩)
   ·(try simp only [dE] at hc)
    refine T.seq fun K8 hK8 => ?_
    refine T.region ?_ -- region 4
    refine ro rfl rfl (OpOk.step (ok_fieldAddr rfl ti_api_Zone rfl rfl ti_int (by decide) rfl)) ?_
    refine ro rfl rfl (OpOk.step (ok_load rfl ti_int rfl rfl)) ?_
    refine ro rfl rfl (OpOk.step (ok_binOp rfl ti_int rfl)) ?_
    refine ro_case rfl rfl (OpOk.step (ok_moveb (.inl rfl) rfl)) (fun hb => ?_) (fun hb => ?_)
    ·(try simp only [dE] at hb)
     refine ro rfl rfl (OpOk.step (ok_fieldAddr rfl ti_api_Zone rfl rfl ti_bool (by decide) rfl)) ?_
     refine ro rfl rfl (OpOk.step (ok_load rfl ti_bool rfl rfl)) ?_
     refine ro rfl rfl (OpOk.step (ok_unOp rfl rfl)) ?_
     refine ro_case rfl rfl (OpOk.step (ok_moveb (.inl rfl) rfl)) (fun hb => ?_) (fun hb => ?_)
     ·(try simp only [dE] at hb)
      refine ro_skip rfl rfl ?_
      refine ro_skip rfl rfl ?_
      refine ro_skip rfl rfl ?_
      refine ro rfl rfl (OpOk.step (ok_pickb (t := true) (d := true) rfl rfl rfl)) ?_
      refine ro rfl rfl (OpOk.step (ok_pickb (t := true) (d := true) rfl rfl rfl)) ?_
      refine ro rfl rfl (OpOk.step (ok_moveb (c := true) (.inr rfl) rfl)) ?_
      refine ro_nil ?_
      refine keepK hK8 [2, 3, 4, 7, 34] (by dsimp) (by dsimp) ?_
      refine T.cond_true rfl ?_
      refine T.seq fun K9 hK9 => ?_
      refine T.region ?_ -- region 5
      refine ro rfl rfl (OpOk.step (ok_moveb (c := false) (.inr rfl) rfl)) ?_
      refine ro_nil ?_
      refine keepK hK9 [6] (by dsimp) (by dsimp) ?_
      refine T.ret (hQ _ _ _ rfl ?_).1 -- ret 4
      exact by (rw [decide_eq_false (fun h => by obtain ⟨⟨h1, h2⟩, ⟨h3, h4⟩, ⟨h5, h6⟩, h7, h8, h9, h10, h11⟩ := h; simp_all <;> omega)]; exact TEnt.fin [] (by decide) (by simp) rfl ⟨rfl, trivial⟩)
     ·(try simp only [dE] at hb)
      refine ro rfl rfl (OpOk.step (ok_fieldAddr rfl ti_api_Zone rfl rfl ti_int (by decide) rfl)) ?_
      refine ro rfl rfl (OpOk.step (ok_load rfl ti_int rfl rfl)) ?_
      refine ro rfl rfl (OpOk.step (ok_binOp rfl ti_int rfl)) ?_
      refine ro rfl rfl (OpOk.step (ok_pick rfl rfl)) ?_
      refine ro rfl rfl (OpOk.step (ok_pick rfl rfl)) ?_
      refine ro rfl rfl (OpOk.step (ok_move (.inr rfl))) ?_
      refine ro_nil ?_
      refine keepK hK8 [2, 3, 4, 7, 34] (by dsimp) (by dsimp) ?_
      refine T.cond rfl (fun hc => ?_) (fun hc => ?_) -- cond 2
      ·(try simp only [dE] at hc)
       refine T.seq fun K10 hK10 => ?_
       refine T.region ?_ -- region 5
       refine ro rfl rfl (OpOk.step (ok_moveb (c := false) (.inr rfl) rfl)) ?_
       refine ro_nil ?_
       refine keepK hK10 [6] (by dsimp) (by dsimp) ?_
       refine T.ret (hQ _ _ _ rfl ?_).1 -- ret 5
       exact by (rw [decide_eq_false (fun h => by obtain ⟨⟨h1, h2⟩, ⟨h3, h4⟩, ⟨h5, h6⟩, h7, h8, h9, h10, h11⟩ := h; omega)]; exact TEnt.fin [] (by decide) (by simp) rfl ⟨rfl, trivial⟩)
      ·(try simp only [dE] at hc)
       refine T.seq fun K11 hK11 => ?_
       refine T.region ?_ -- region 6
       refine ro rfl rfl (OpOk.step (ok_fieldAddr rfl ti_api_Zone rfl rfl ti_bool (by decide) rfl)) ?_
       refine ro rfl rfl (OpOk.step (ok_load rfl ti_bool rfl rfl)) ?_
       refine ro_case rfl rfl (OpOk.step (ok_moveb (.inl rfl) rfl)) (fun hb => ?_) (fun hb => ?_)
       ·(try simp only [dE] at hb)
        refine ro rfl rfl (OpOk.step (ok_fieldAddr rfl ti_api_Zone rfl rfl ti_int (by decide) rfl)) ?_
        refine ro rfl rfl (OpOk.step (ok_load rfl ti_int rfl rfl)) ?_
        refine ro rfl rfl (OpOk.step (ok_binOp rfl ti_int rfl)) ?_
        refine ro_case rfl rfl (OpOk.step (ok_moveb (.inl rfl) rfl)) (fun hb => ?_) (fun hb => ?_)
        ·(try simp only [dE] at hb)
         refine ro_skip rfl rfl ?_
         refine ro_skip rfl rfl ?_
         refine ro rfl rfl (OpOk.step (ok_pickb (t := true) (d := true) rfl rfl rfl)) ?_
         refine ro rfl rfl (OpOk.step (ok_pickb (t := true) (d := true) rfl rfl rfl)) ?_
         refine ro rfl rfl (OpOk.step (ok_moveb (c := true) (.inr rfl) rfl)) ?_
         refine ro_nil ?_
         refine keepK hK11 [3, 4, 7, 48] (by dsimp) (by dsimp) ?_
         refine T.cond_true rfl ?_
         refine T.seq fun K12 hK12 => ?_
         refine T.region ?_ -- region 7
         refine ro rfl rfl (OpOk.step (ok_moveb (c := false) (.inr rfl) rfl)) ?_
         refine ro_nil ?_
         refine keepK hK12 [6] (by dsimp) (by dsimp) ?_
         refine T.ret (hQ _ _ _ rfl ?_).1 -- ret 6
         exact by (rw [decide_eq_false (fun h => by obtain ⟨⟨h1, h2⟩, ⟨h3, h4⟩, ⟨h5, h6⟩, h7, h8, h9, h10, h11⟩ := h; omega)]; exact TEnt.fin [] (by decide) (by simp) rfl ⟨rfl, trivial⟩)
        ·(try simp only [dE] at hb)
         refine ro rfl rfl (OpOk.step (ok_move (.inl rfl))) ?_
         refine ro rfl rfl (OpOk.step (ok_unOp rfl rfl)) ?_
         refine ro rfl rfl (OpOk.step (ok_pick rfl rfl)) ?_
         refine ro rfl rfl (OpOk.step (ok_pick rfl rfl)) ?_
         refine ro rfl rfl (OpOk.step (ok_move (.inr rfl))) ?_
         refine ro_nil ?_
         refine keepK hK11 [3, 4, 7, 48] (by dsimp) (by dsimp) ?_
         refine T.cond rfl (fun hc => ?_) (fun hc => ?_) -- cond 3
         ·(try simp only [dE] at hc)
          refine T.seq fun K13 hK13 => ?_
          refine T.region ?_ -- region 7
          refine ro rfl rfl (OpOk.step (ok_moveb (c := false) (.inr rfl) rfl)) ?_
          refine ro_nil ?_
          refine keepK hK13 [6] (by dsimp) (by dsimp) ?_
          refine T.ret (hQ _ _ _ rfl ?_).1 -- ret 7
          exact by (rw [decide_eq_false (fun h => by obtain ⟨⟨h1, h2⟩, ⟨h3, h4⟩, ⟨h5, h6⟩, h7, h8, h9, h10, h11⟩ := h; simp_all <;> omega)]; exact TEnt.fin [] (by decide) (by simp) rfl ⟨rfl, trivial⟩)
         ·(try simp only [dE] at hc)
          refine T.seq fun K14 hK14 => ?_
          refine T.region ?_ -- region 8
          refine ro rfl rfl (OpOk.step (ok_fieldAddr rfl ti_api_Zone rfl rfl ti_Lapi_Par (by decide) rfl)) ?_
          refine ro rfl rfl (OpOk.step (ok_load rfl ti_Lapi_Par rfl rfl)) ?_
          refine ro rfl rfl (OpOk.step (ok_len' rfl rfl ti_Lapi_Par rfl (by first | exact ints_length _ _ | exact rowsA_length _ _ | exact Cms_len _ | exact mapLen _ | rfl))) ?_
          refine ro rfl rfl (OpOk.step (ok_binOp rfl ti_int rfl)) ?_
          refine ro_case rfl rfl (OpOk.step (ok_moveb (.inl rfl) rfl)) (fun hb => ?_) (fun hb => ?_)
          ·(try simp only [dE] at hb)
           refine ro_skip rfl rfl ?_
           refine ro_skip rfl rfl ?_
           refine ro_skip rfl rfl ?_
           refine ro_skip rfl rfl ?_
           refine ro_skip rfl rfl ?_
           refine ro_skip rfl rfl ?_
           refine ro_skip rfl rfl ?_
           refine ro_skip rfl rfl ?_
           refine ro_skip rfl rfl ?_
           refine ro rfl rfl (OpOk.step (ok_pickb (t := true) (d := true) rfl rfl rfl)) ?_
           refine ro rfl rfl (OpOk.step (ok_moveb (c := true) (.inr rfl) rfl)) ?_
           refine ro_nil ?_
           refine keepK hK14 [3, 4, 7, 60] (by dsimp) (by dsimp) ?_
           refine T.cond_true rfl ?_
           refine T.seq fun K15 hK15 => ?_
           refine T.region ?_ -- region 9
           refine ro rfl rfl (OpOk.step (ok_moveb (c := false) (.inr rfl) rfl)) ?_
           refine ro_nil ?_
           refine keepK hK15 [6] (by dsimp) (by dsimp) ?_
           refine T.ret (hQ _ _ _ rfl ?_).1 -- ret 8
           exact by (rw [decide_eq_false (fun h => by obtain ⟨⟨h1, h2⟩, ⟨h3, h4⟩, ⟨h5, h6⟩, h7, h8, h9, h10, h11⟩ := h; simp_all <;> omega)]; exact TEnt.fin [] (by decide) (by simp) rfl ⟨rfl, trivial⟩)
          ·(try simp only [dE] at hb)
           refine ro rfl rfl (OpOk.step (ok_fieldAddr rfl ti_api_Zone rfl rfl ti_Lapi_Par (by decide) rfl)) ?_
           refine ro rfl rfl (OpOk.step (ok_load rfl ti_Lapi_Par rfl rfl)) ?_
           refine ro rfl rfl (OpOk.step (ok_len' rfl rfl ti_Lapi_Par rfl (by first | exact ints_length _ _ | exact rowsA_length _ _ | exact Cms_len _ | exact mapLen _ | rfl))) ?_
           refine ro rfl rfl (OpOk.step (ok_binOp rfl ti_int rfl)) ?_
           refine ro_case rfl rfl (OpOk.step (ok_moveb (.inl rfl) rfl)) (fun hb => ?_) (fun hb => ?_)
           ·(try simp only [dE] at hb)
            refine ro rfl rfl (OpOk.step (ok_fieldAddr rfl ti_api_Zone rfl rfl ti_int (by decide) rfl)) ?_
            refine ro rfl rfl (OpOk.step (ok_load rfl ti_int rfl rfl)) ?_
            refine ro rfl rfl (OpOk.step (ok_binOp rfl ti_int rfl)) ?_
            refine ro rfl rfl (OpOk.step (ok_pick rfl rfl)) ?_
            refine ro rfl rfl (OpOk.step (ok_pick rfl rfl)) ?_
            refine ro rfl rfl (OpOk.step (ok_move (.inr rfl))) ?_
            refine ro_nil ?_
            refine keepK hK14 [3, 4, 7, 60] (by dsimp) (by dsimp) ?_
            refine T.cond rfl (fun hc => ?_) (fun hc => ?_) -- cond 4
            ·(try simp only [dE] at hc)
             refine T.seq fun K16 hK16 => ?_
             refine T.region ?_ -- region 9
             refine ro rfl rfl (OpOk.step (ok_moveb (c := false) (.inr rfl) rfl)) ?_
             refine ro_nil ?_
             refine keepK hK16 [6] (by dsimp) (by dsimp) ?_
             refine T.ret (hQ _ _ _ rfl ?_).1 -- ret 9
             exact by (rw [decide_eq_false (fun h => by obtain ⟨⟨h1, h2⟩, ⟨h3, h4⟩, ⟨h5, h6⟩, h7, h8, h9, h10, h11⟩ := h; omega)]; exact TEnt.fin [] (by decide) (by simp) rfl ⟨rfl, trivial⟩)
            ·(try simp only [dE] at hc)
             refine T.skip ?_
             refine keepK hK3 [3, 4, 7] (by dsimp) (by dsimp) ?_
             refine T.seq fun K17 hK17 => ?_
             refine T.region ?_ -- region 10
             refine ro rfl rfl (OpOk.step (ok_makeFunc rfl)) ?_
             refine ro rfl rfl (OpOk.step (ok_move (.inr rfl))) ?_
             refine ro_nil ?_
             refine keepK hK17 [4, 8] (by dsimp) (by dsimp) ?_
             refine T.seq fun K18 hK18 => ?_
             refine T.region ?_ -- region 11
             refine ro rfl rfl (OpOk.step (ok_fieldAddr rfl ti_api_Zone rfl rfl ti_Lapi_Par (by decide) rfl)) ?_
             refine ro rfl rfl (OpOk.step (ok_load rfl ti_Lapi_Par rfl rfl)) ?_
             refine ro rfl rfl (OpOk.step (ok_move (.inl rfl))) ?_
             refine ro rfl rfl (ok_call rfl rfl rfl (((containsP_ok s z.pars _ _ (fun y => rz1_ok s y hck) hl).pass [2, 0] (by decide) (by simp) (by simp [normH, hget]; exact ⟨SzB_ren _ _, StB_ren _ _⟩) (by simp [renL, AV.ren, Prs_ren, pos20.1, pos20.2])).eq (x' := .b (z.pars.any fun y => decide (¬ PG s.c y))) (H'' := [some (StB s), some (ZnB z), some (SzB s.c)]) rfl (by simp [mergeH, setIds, renH, SzB_ren, StB_ren]; rfl))) ?_
             refine ro rfl rfl (OpOk.step (ok_unOp rfl rfl)) ?_
             refine ro rfl rfl (OpOk.step (ok_move (.inr rfl))) ?_
             refine ro_nil ?_
             refine keepK hK18 [6] (by dsimp) (by dsimp) ?_
             refine T.ret (hQ _ _ _ rfl ?_).1 -- ret 10
             exact by (rw [RZ_last (by refine ⟨⟨?_, ?_⟩, ⟨?_, ?_⟩, ⟨?_, ?_⟩, fun _ => ⟨?_, ?_⟩, fun _ => ⟨?_, ?_⟩, ?_, fun _ => ?_⟩ <;> first | assumption | omega | (simp_all <;> omega))]; exact TEnt.fin [] (by decide) (by simp) rfl ⟨rfl, trivial⟩)
           ·(try simp only [dE] at hb)
            refine ro_skip rfl rfl ?_
            refine ro_skip rfl rfl ?_
            refine ro_skip rfl rfl ?_
            refine ro rfl rfl (OpOk.step (ok_pickb (t := false) (d := false) rfl rfl rfl)) ?_
            refine ro rfl rfl (OpOk.step (ok_pickb (t := false) (d := false) rfl rfl rfl)) ?_
            refine ro rfl rfl (OpOk.step (ok_moveb (c := false) (.inr rfl) rfl)) ?_
            refine ro_nil ?_
            refine keepK hK14 [3, 4, 7, 60] (by dsimp) (by dsimp) ?_
            refine T.cond_false rfl ?_
            refine T.skip ?_
            refine keepK hK3 [3, 4, 7] (by dsimp) (by dsimp) ?_
            refine T.seq fun K19 hK19 => ?_
            refine T.region ?_ -- region 10
            refine ro rfl rfl (OpOk.step (ok_makeFunc rfl)) ?_
            refine ro rfl rfl (OpOk.step (ok_move (.inr rfl))) ?_
            refine ro_nil ?_
            refine keepK hK19 [4, 8] (by dsimp) (by dsimp) ?_
            refine T.seq fun K20 hK20 => ?_
            refine T.region ?_ -- region 11
            refine ro rfl rfl (OpOk.step (ok_fieldAddr rfl ti_api_Zone rfl rfl ti_Lapi_Par (by decide) rfl)) ?_
            refine ro rfl rfl (OpOk.step (ok_load rfl ti_Lapi_Par rfl rfl)) ?_
            refine ro rfl rfl (OpOk.step (ok_move (.inl rfl))) ?_
            refine ro rfl rfl (ok_call rfl rfl rfl (((containsP_ok s z.pars _ _ (fun y => rz1_ok s y hck) hl).pass [2, 0] (by decide) (by simp) (by simp [normH, hget]; exact ⟨SzB_ren _ _, StB_ren _ _⟩) (by simp [renL, AV.ren, Prs_ren, pos20.1, pos20.2])).eq (x' := .b (z.pars.any fun y => decide (¬ PG s.c y))) (H'' := [some (StB s), some (ZnB z), some (SzB s.c)]) rfl (by simp [mergeH, setIds, renH, SzB_ren, StB_ren]; rfl))) ?_
            refine ro rfl rfl (OpOk.step (ok_unOp rfl rfl)) ?_
            refine ro rfl rfl (OpOk.step (ok_move (.inr rfl))) ?_
            refine ro_nil ?_
            refine keepK hK20 [6] (by dsimp) (by dsimp) ?_
            refine T.ret (hQ _ _ _ rfl ?_).1 -- ret 11
            exact by (rw [RZ_last (by refine ⟨⟨?_, ?_⟩, ⟨?_, ?_⟩, ⟨?_, ?_⟩, fun _ => ⟨?_, ?_⟩, fun _ => ⟨?_, ?_⟩, ?_, fun _ => ?_⟩ <;> first | assumption | omega | (simp_all <;> omega))]; exact TEnt.fin [] (by decide) (by simp) rfl ⟨rfl, trivial⟩)
       ·(try simp only [dE] at hb)
        refine ro_skip rfl rfl ?_
        refine ro_skip rfl rfl ?_
        refine ro_skip rfl rfl ?_
        refine ro_skip rfl rfl ?_
        refine ro_skip rfl rfl ?_
        refine ro_skip rfl rfl ?_
        refine ro_skip rfl rfl ?_
        refine ro rfl rfl (OpOk.step (ok_pickb (t := false) (d := false) rfl rfl rfl)) ?_
        refine ro rfl rfl (OpOk.step (ok_moveb (c := false) (.inr rfl) rfl)) ?_
        refine ro_nil ?_
        refine keepK hK11 [3, 4, 7, 48] (by dsimp) (by dsimp) ?_
        refine T.cond_false rfl ?_
        refine T.seq fun K21 hK21 => ?_
        refine T.region ?_ -- region 8
        refine ro rfl rfl (OpOk.step (ok_fieldAddr rfl ti_api_Zone rfl rfl ti_Lapi_Par (by decide) rfl)) ?_
        refine ro rfl rfl (OpOk.step (ok_load rfl ti_Lapi_Par rfl rfl)) ?_
        refine ro rfl rfl (OpOk.step (ok_len' rfl rfl ti_Lapi_Par rfl (by first | exact ints_length _ _ | exact rowsA_length _ _ | exact Cms_len _ | exact mapLen _ | rfl))) ?_
        refine ro rfl rfl (OpOk.step (ok_binOp rfl ti_int rfl)) ?_
        refine ro_case rfl rfl (OpOk.step (ok_moveb (.inl rfl) rfl)) (fun hb => ?_) (fun hb => ?_)
        ·(try simp only [dE] at hb)
         refine ro_skip rfl rfl ?_
         refine ro_skip rfl rfl ?_
         refine ro_skip rfl rfl ?_
         refine ro_skip rfl rfl ?_
         refine ro_skip rfl rfl ?_
         refine ro_skip rfl rfl ?_
         refine ro_skip rfl rfl ?_
         refine ro_skip rfl rfl ?_
         refine ro_skip rfl rfl ?_
         refine ro rfl rfl (OpOk.step (ok_pickb (t := true) (d := true) rfl rfl rfl)) ?_
         refine ro rfl rfl (OpOk.step (ok_moveb (c := true) (.inr rfl) rfl)) ?_
         refine ro_nil ?_
         refine keepK hK21 [3, 4, 7, 60] (by dsimp) (by dsimp) ?_
         refine T.cond_true rfl ?_
         refine T.seq fun K22 hK22 => ?_
         refine T.region ?_ -- region 9
         refine ro rfl rfl (OpOk.step (ok_moveb (c := false) (.inr rfl) rfl)) ?_
         refine ro_nil ?_
         refine keepK hK22 [6] (by dsimp) (by dsimp) ?_
         refine T.ret (hQ _ _ _ rfl ?_).1 -- ret 12
         exact by (rw [decide_eq_false (fun h => by obtain ⟨⟨h1, h2⟩, ⟨h3, h4⟩, ⟨h5, h6⟩, h7, h8, h9, h10, h11⟩ := h; simp_all <;> omega)]; exact TEnt.fin [] (by decide) (by simp) rfl ⟨rfl, trivial⟩)
        ·(try simp only [dE] at hb)
         refine ro rfl rfl (OpOk.step (ok_fieldAddr rfl ti_api_Zone rfl rfl ti_Lapi_Par (by decide) rfl)) ?_
         refine ro rfl rfl (OpOk.step (ok_load rfl ti_Lapi_Par rfl rfl)) ?_
         refine ro rfl rfl (OpOk.step (ok_len' rfl rfl ti_Lapi_Par rfl (by first | exact ints_length _ _ | exact rowsA_length _ _ | exact Cms_len _ | exact mapLen _ | rfl))) ?_
         refine ro rfl rfl (OpOk.step (ok_binOp rfl ti_int rfl)) ?_
         refine ro_case rfl rfl (OpOk.step (ok_moveb (.inl rfl) rfl)) (fun hb => ?_) (fun hb => ?_)
         ·(try simp only [dE] at hb)
          refine ro rfl rfl (OpOk.step (ok_fieldAddr rfl ti_api_Zone rfl rfl ti_int (by decide) rfl)) ?_
          refine ro rfl rfl (OpOk.step (ok_load rfl ti_int rfl rfl)) ?_
          refine ro rfl rfl (OpOk.step (ok_binOp rfl ti_int rfl)) ?_
          refine ro rfl rfl (OpOk.step (ok_pick rfl rfl)) ?_
          refine ro rfl rfl (OpOk.step (ok_pick rfl rfl)) ?_
          refine ro rfl rfl (OpOk.step (ok_move (.inr rfl))) ?_
          refine ro_nil ?_
          refine keepK hK21 [3, 4, 7, 60] (by dsimp) (by dsimp) ?_
          refine T.cond rfl (fun hc => ?_) (fun hc => ?_) -- cond 5
          ·(try simp only [dE] at hc)
           refine T.seq fun K23 hK23 => ?_
           refine T.region ?_ -- region 9
           refine ro rfl rfl (OpOk.step (ok_moveb (c := false) (.inr rfl) rfl)) ?_
           refine ro_nil ?_
           refine keepK hK23 [6] (by dsimp) (by dsimp) ?_
           refine T.ret (hQ _ _ _ rfl ?_).1 -- ret 13
           exact by (rw [decide_eq_false (fun h => by obtain ⟨⟨h1, h2⟩, ⟨h3, h4⟩, ⟨h5, h6⟩, h7, h8, h9, h10, h11⟩ := h; omega)]; exact TEnt.fin [] (by decide) (by simp) rfl ⟨rfl, trivial⟩)
          ·(try simp only [dE] at hc)
           refine T.skip ?_
           refine keepK hK3 [3, 4, 7] (by dsimp) (by dsimp) ?_
           refine T.seq fun K24 hK24 => ?_
           refine T.region ?_ -- region 10
           refine ro rfl rfl (OpOk.step (ok_makeFunc rfl)) ?_
           refine ro rfl rfl (OpOk.step (ok_move (.inr rfl))) ?_
           refine ro_nil ?_
           refine keepK hK24 [4, 8] (by dsimp) (by dsimp) ?_
           refine T.seq fun K25 hK25 => ?_
           refine T.region ?_ -- region 11
           refine ro rfl rfl (OpOk.step (ok_fieldAddr rfl ti_api_Zone rfl rfl ti_Lapi_Par (by decide) rfl)) ?_
           refine ro rfl rfl (OpOk.step (ok_load rfl ti_Lapi_Par rfl rfl)) ?_
           refine ro rfl rfl (OpOk.step (ok_move (.inl rfl))) ?_
           refine ro rfl rfl (ok_call rfl rfl rfl (((containsP_ok s z.pars _ _ (fun y => rz1_ok s y hck) hl).pass [2, 0] (by decide) (by simp) (by simp [normH, hget]; exact ⟨SzB_ren _ _, StB_ren _ _⟩) (by simp [renL, AV.ren, Prs_ren, pos20.1, pos20.2])).eq (x' := .b (z.pars.any fun y => decide (¬ PG s.c y))) (H'' := [some (StB s), some (ZnB z), some (SzB s.c)]) rfl (by simp [mergeH, setIds, renH, SzB_ren, StB_ren]; rfl))) ?_
           refine ro rfl rfl (OpOk.step (ok_unOp rfl rfl)) ?_
           refine ro rfl rfl (OpOk.step (ok_move (.inr rfl))) ?_
           refine ro_nil ?_
           refine keepK hK25 [6] (by dsimp) (by dsimp) ?_
           refine T.ret (hQ _ _ _ rfl ?_).1 -- ret 14
           exact by (rw [RZ_last (by refine ⟨⟨?_, ?_⟩, ⟨?_, ?_⟩, ⟨?_, ?_⟩, fun _ => ⟨?_, ?_⟩, fun _ => ⟨?_, ?_⟩, ?_, fun _ => ?_⟩ <;> first | assumption | omega | (simp_all <;> omega))]; exact TEnt.fin [] (by decide) (by simp) rfl ⟨rfl, trivial⟩)
         ·(try simp only [dE] at hb)
          refine ro_skip rfl rfl ?_
          refine ro_skip rfl rfl ?_
          refine ro_skip rfl rfl ?_
          refine ro rfl rfl (OpOk.step (ok_pickb (t := false) (d := false) rfl rfl rfl)) ?_
          refine ro rfl rfl (OpOk.step (ok_pickb (t := false) (d := false) rfl rfl rfl)) ?_
          refine ro rfl rfl (OpOk.step (ok_moveb (c := false) (.inr rfl) rfl)) ?_
          refine ro_nil ?_
          refine keepK hK21 [3, 4, 7, 60] (by dsimp) (by dsimp) ?_
          refine T.cond_false rfl ?_
          refine T.skip ?_
          refine keepK hK3 [3, 4, 7] (by dsimp) (by dsimp) ?_
          refine T.seq fun K26 hK26 => ?_
          refine T.region ?_ -- region 10
          refine ro rfl rfl (OpOk.step (ok_makeFunc rfl)) ?_
          refine ro rfl rfl (OpOk.step (ok_move (.inr rfl))) ?_
          refine ro_nil ?_
          refine keepK hK26 [4, 8] (by dsimp) (by dsimp) ?_
          refine T.seq fun K27 hK27 => ?_
          refine T.region ?_ -- region 11
          refine ro rfl rfl (OpOk.step (ok_fieldAddr rfl ti_api_Zone rfl rfl ti_Lapi_Par (by decide) rfl)) ?_
          refine ro rfl rfl (OpOk.step (ok_load rfl ti_Lapi_Par rfl rfl)) ?_
          refine ro rfl rfl (OpOk.step (ok_move (.inl rfl))) ?_
          refine ro rfl rfl (ok_call rfl rfl rfl (((containsP_ok s z.pars _ _ (fun y => rz1_ok s y hck) hl).pass [2, 0] (by decide) (by simp) (by simp [normH, hget]; exact ⟨SzB_ren _ _, StB_ren _ _⟩) (by simp [renL, AV.ren, Prs_ren, pos20.1, pos20.2])).eq (x' := .b (z.pars.any fun y => decide (¬ PG s.c y))) (H'' := [some (StB s), some (ZnB z), some (SzB s.c)]) rfl (by simp [mergeH, setIds, renH, SzB_ren, StB_ren]; rfl))) ?_
          refine ro rfl rfl (OpOk.step (ok_unOp rfl rfl)) ?_
          refine ro rfl rfl (OpOk.step (ok_move (.inr rfl))) ?_
          refine ro_nil ?_
          refine keepK hK27 [6] (by dsimp) (by dsimp) ?_
          refine T.ret (hQ _ _ _ rfl ?_).1 -- ret 15
          exact by (rw [RZ_last (by refine ⟨⟨?_, ?_⟩, ⟨?_, ?_⟩, ⟨?_, ?_⟩, fun _ => ⟨?_, ?_⟩, fun _ => ⟨?_, ?_⟩, ?_, fun _ => ?_⟩ <;> first | assumption | omega | (simp_all <;> omega))]; exact TEnt.fin [] (by decide) (by simp) rfl ⟨rfl, trivial⟩)
    ·(try simp only [dE] at hb)
     refine ro_skip rfl rfl ?_
     refine ro_skip rfl rfl ?_
     refine ro_skip rfl rfl ?_
     refine ro_skip rfl rfl ?_
     refine ro_skip rfl rfl ?_
     refine ro_skip rfl rfl ?_
     refine ro_skip rfl rfl ?_
     refine ro_skip rfl rfl ?_
     refine ro rfl rfl (OpOk.step (ok_pickb (t := false) (d := false) rfl rfl rfl)) ?_
     refine ro rfl rfl (OpOk.step (ok_moveb (c := false) (.inr rfl) rfl)) ?_
     refine ro_nil ?_
     refine keepK hK8 [2, 3, 4, 7, 34] (by dsimp) (by dsimp) ?_
     refine T.cond_false rfl ?_
     refine T.seq fun K28 hK28 => ?_
     refine T.region ?_ -- region 6
     refine ro rfl rfl (OpOk.step (ok_fieldAddr rfl ti_api_Zone rfl rfl ti_bool (by decide) rfl)) ?_
     refine ro rfl rfl (OpOk.step (ok_load rfl ti_bool rfl rfl)) ?_
     refine ro_case rfl rfl (OpOk.step (ok_moveb (.inl rfl) rfl)) (fun hb => ?_) (fun hb => ?_)
     ·(try simp only [dE] at hb)
      refine ro rfl rfl (OpOk.step (ok_fieldAddr rfl ti_api_Zone rfl rfl ti_int (by decide) rfl)) ?_
      refine ro rfl rfl (OpOk.step (ok_load rfl ti_int rfl rfl)) ?_
      refine ro rfl rfl (OpOk.step (ok_binOp rfl ti_int rfl)) ?_
      refine ro_case rfl rfl (OpOk.step (ok_moveb (.inl rfl) rfl)) (fun hb => ?_) (fun hb => ?_)
      ·(try simp only [dE] at hb)
       refine ro_skip rfl rfl ?_
       refine ro_skip rfl rfl ?_
       refine ro rfl rfl (OpOk.step (ok_pickb (t := true) (d := true) rfl rfl rfl)) ?_
       refine ro rfl rfl (OpOk.step (ok_pickb (t := true) (d := true) rfl rfl rfl)) ?_
       refine ro rfl rfl (OpOk.step (ok_moveb (c := true) (.inr rfl) rfl)) ?_
       refine ro_nil ?_
       refine keepK hK28 [3, 4, 7, 48] (by dsimp) (by dsimp) ?_
       refine T.cond_true rfl ?_
       refine T.seq fun K29 hK29 => ?_
       refine T.region ?_ -- region 7
       refine ro rfl rfl (OpOk.step (ok_moveb (c := false) (.inr rfl) rfl)) ?_
       refine ro_nil ?_
       refine keepK hK29 [6] (by dsimp) (by dsimp) ?_
       refine T.ret (hQ _ _ _ rfl ?_).1 -- ret 16
       exact by (rw [decide_eq_false (fun h => by obtain ⟨⟨h1, h2⟩, ⟨h3, h4⟩, ⟨h5, h6⟩, h7, h8, h9, h10, h11⟩ := h; simp_all <;> omega)]; exact TEnt.fin [] (by decide) (by simp) rfl ⟨rfl, trivial⟩)
      ·(try simp only [dE] at hb)
       refine ro rfl rfl (OpOk.step (ok_move (.inl rfl))) ?_
       refine ro rfl rfl (OpOk.step (ok_unOp rfl rfl)) ?_
       refine ro rfl rfl (OpOk.step (ok_pick rfl rfl)) ?_
       refine ro rfl rfl (OpOk.step (ok_pick rfl rfl)) ?_
       refine ro rfl rfl (OpOk.step (ok_move (.inr rfl))) ?_
       refine ro_nil ?_
       refine keepK hK28 [3, 4, 7, 48] (by dsimp) (by dsimp) ?_
       refine T.cond rfl (fun hc => ?_) (fun hc => ?_) -- cond 6
       ·(try simp only [dE] at hc)
        refine T.seq fun K30 hK30 => ?_
        refine T.region ?_ -- region 7
        refine ro rfl rfl (OpOk.step (ok_moveb (c := false) (.inr rfl) rfl)) ?_
        refine ro_nil ?_
        refine keepK hK30 [6] (by dsimp) (by dsimp) ?_
        refine T.ret (hQ _ _ _ rfl ?_).1 -- ret 17
        exact by (rw [decide_eq_false (fun h => by obtain ⟨⟨h1, h2⟩, ⟨h3, h4⟩, ⟨h5, h6⟩, h7, h8, h9, h10, h11⟩ := h; simp_all <;> omega)]; exact TEnt.fin [] (by decide) (by simp) rfl ⟨rfl, trivial⟩)
       ·(try simp only [dE] at hc)
        refine T.seq fun K31 hK31 => ?_
        refine T.region ?_ -- region 8
        refine ro rfl rfl (OpOk.step (ok_fieldAddr rfl ti_api_Zone rfl rfl ti_Lapi_Par (by decide) rfl)) ?_
        refine ro rfl rfl (OpOk.step (ok_load rfl ti_Lapi_Par rfl rfl)) ?_
        refine ro rfl rfl (OpOk.step (ok_len' rfl rfl ti_Lapi_Par rfl (by first | exact ints_length _ _ | exact rowsA_length _ _ | exact Cms_len _ | exact mapLen _ | rfl))) ?_
        refine ro rfl rfl (OpOk.step (ok_binOp rfl ti_int rfl)) ?_
        refine ro_case rfl rfl (OpOk.step (ok_moveb (.inl rfl) rfl)) (fun hb => ?_) (fun hb => ?_)
        ·(try simp only [dE] at hb)
         refine ro_skip rfl rfl ?_
         refine ro_skip rfl rfl ?_
         refine ro_skip rfl rfl ?_
         refine ro_skip rfl rfl ?_
         refine ro_skip rfl rfl ?_
         refine ro_skip rfl rfl ?_
         refine ro_skip rfl rfl ?_
         refine ro_skip rfl rfl ?_
         refine ro_skip rfl rfl ?_
         refine ro rfl rfl (OpOk.step (ok_pickb (t := true) (d := true) rfl rfl rfl)) ?_
         refine ro rfl rfl (OpOk.step (ok_moveb (c := true) (.inr rfl) rfl)) ?_
         refine ro_nil ?_
         refine keepK hK31 [3, 4, 7, 60] (by dsimp) (by dsimp) ?_
         refine T.cond_true rfl ?_
         refine T.seq fun K32 hK32 => ?_
         refine T.region ?_ -- region 9
         refine ro rfl rfl (OpOk.step (ok_moveb (c := false) (.inr rfl) rfl)) ?_
         refine ro_nil ?_
         refine keepK hK32 [6] (by dsimp) (by dsimp) ?_
         refine T.ret (hQ _ _ _ rfl ?_).1 -- ret 18
         exact by (rw [decide_eq_false (fun h => by obtain ⟨⟨h1, h2⟩, ⟨h3, h4⟩, ⟨h5, h6⟩, h7, h8, h9, h10, h11⟩ := h; simp_all <;> omega)]; exact TEnt.fin [] (by decide) (by simp) rfl ⟨rfl, trivial⟩)
        ·(try simp only [dE] at hb)
         refine ro rfl rfl (OpOk.step (ok_fieldAddr rfl ti_api_Zone rfl rfl ti_Lapi_Par (by decide) rfl)) ?_
         refine ro rfl rfl (OpOk.step (ok_load rfl ti_Lapi_Par rfl rfl)) ?_
         refine ro rfl rfl (OpOk.step (ok_len' rfl rfl ti_Lapi_Par rfl (by first | exact ints_length _ _ | exact rowsA_length _ _ | exact Cms_len _ | exact mapLen _ | rfl))) ?_
         refine ro rfl rfl (OpOk.step (ok_binOp rfl ti_int rfl)) ?_
         refine ro_case rfl rfl (OpOk.step (ok_moveb (.inl rfl) rfl)) (fun hb => ?_) (fun hb => ?_)
         ·(try simp only [dE] at hb)
          refine ro rfl rfl (OpOk.step (ok_fieldAddr rfl ti_api_Zone rfl rfl ti_int (by decide) rfl)) ?_
          refine ro rfl rfl (OpOk.step (ok_load rfl ti_int rfl rfl)) ?_
          refine ro rfl rfl (OpOk.step (ok_binOp rfl ti_int rfl)) ?_
          refine ro rfl rfl (OpOk.step (ok_pick rfl rfl)) ?_
          refine ro rfl rfl (OpOk.step (ok_pick rfl rfl)) ?_
          refine ro rfl rfl (OpOk.step (ok_move (.inr rfl))) ?_
          refine ro_nil ?_
          refine keepK hK31 [3, 4, 7, 60] (by dsimp) (by dsimp) ?_
          refine T.cond rfl (fun hc => ?_) (fun hc => ?_) -- cond 7
          ·(try simp only [dE] at hc)
           refine T.seq fun K33 hK33 => ?_
           refine T.region ?_ -- region 9
           refine ro rfl rfl (OpOk.step (ok_moveb (c := false) (.inr rfl) rfl)) ?_
           refine ro_nil ?_
           refine keepK hK33 [6] (by dsimp) (by dsimp) ?_
           refine T.ret (hQ _ _ _ rfl ?_).1 -- ret 19
           exact by (rw [decide_eq_false (fun h => by obtain ⟨⟨h1, h2⟩, ⟨h3, h4⟩, ⟨h5, h6⟩, h7, h8, h9, h10, h11⟩ := h; omega)]; exact TEnt.fin [] (by decide) (by simp) rfl ⟨rfl, trivial⟩)
          ·(try simp only [dE] at hc)
           refine T.skip ?_
           refine keepK hK3 [3, 4, 7] (by dsimp) (by dsimp) ?_
           refine T.seq fun K34 hK34 => ?_
           refine T.region ?_ -- region 10
           refine ro rfl rfl (OpOk.step (ok_makeFunc rfl)) ?_
           refine ro rfl rfl (OpOk.step (ok_move (.inr rfl))) ?_
           refine ro_nil ?_
           refine keepK hK34 [4, 8] (by dsimp) (by dsimp) ?_
           refine T.seq fun K35 hK35 => ?_
           refine T.region ?_ -- region 11
           refine ro rfl rfl (OpOk.step (ok_fieldAddr rfl ti_api_Zone rfl rfl ti_Lapi_Par (by decide) rfl)) ?_
           refine ro rfl rfl (OpOk.step (ok_load rfl ti_Lapi_Par rfl rfl)) ?_
           refine ro rfl rfl (OpOk.step (ok_move (.inl rfl))) ?_
           refine ro rfl rfl (ok_call rfl rfl rfl (((containsP_ok s z.pars _ _ (fun y => rz1_ok s y hck) hl).pass [2, 0] (by decide) (by simp) (by simp [normH, hget]; exact ⟨SzB_ren _ _, StB_ren _ _⟩) (by simp [renL, AV.ren, Prs_ren, pos20.1, pos20.2])).eq (x' := .b (z.pars.any fun y => decide (¬ PG s.c y))) (H'' := [some (StB s), some (ZnB z), some (SzB s.c)]) rfl (by simp [mergeH, setIds, renH, SzB_ren, StB_ren]; rfl))) ?_
           refine ro rfl rfl (OpOk.step (ok_unOp rfl rfl)) ?_
           refine ro rfl rfl (OpOk.step (ok_move (.inr rfl))) ?_
           refine ro_nil ?_
           refine keepK hK35 [6] (by dsimp) (by dsimp) ?_
           refine T.ret (hQ _ _ _ rfl ?_).1 -- ret 20
           exact by (rw [RZ_last (by refine ⟨⟨?_, ?_⟩, ⟨?_, ?_⟩, ⟨?_, ?_⟩, fun _ => ⟨?_, ?_⟩, fun _ => ⟨?_, ?_⟩, ?_, fun _ => ?_⟩ <;> first | assumption | omega | (simp_all <;> omega))]; exact TEnt.fin [] (by decide) (by simp) rfl ⟨rfl, trivial⟩)
         ·(try simp only [dE] at hb)
          refine ro_skip rfl rfl ?_
          refine ro_skip rfl rfl ?_
          refine ro_skip rfl rfl ?_
          refine ro rfl rfl (OpOk.step (ok_pickb (t := false) (d := false) rfl rfl rfl)) ?_
          refine ro rfl rfl (OpOk.step (ok_pickb (t := false) (d := false) rfl rfl rfl)) ?_
          refine ro rfl rfl (OpOk.step (ok_moveb (c := false) (.inr rfl) rfl)) ?_
          refine ro_nil ?_
          refine keepK hK31 [3, 4, 7, 60] (by dsimp) (by dsimp) ?_
          refine T.cond_false rfl ?_
          refine T.skip ?_
          refine keepK hK3 [3, 4, 7] (by dsimp) (by dsimp) ?_
          refine T.seq fun K36 hK36 => ?_
          refine T.region ?_ -- region 10
          refine ro rfl rfl (OpOk.step (ok_makeFunc rfl)) ?_
          refine ro rfl rfl (OpOk.step (ok_move (.inr rfl))) ?_
          refine ro_nil ?_
          refine keepK hK36 [4, 8] (by dsimp) (by dsimp) ?_
          refine T.seq fun K37 hK37 => ?_
          refine T.region ?_ -- region 11
          refine ro rfl rfl (OpOk.step (ok_fieldAddr rfl ti_api_Zone rfl rfl ti_Lapi_Par (by decide) rfl)) ?_
          refine ro rfl rfl (OpOk.step (ok_load rfl ti_Lapi_Par rfl rfl)) ?_
          refine ro rfl rfl (OpOk.step (ok_move (.inl rfl))) ?_
          refine ro rfl rfl (ok_call rfl rfl rfl (((containsP_ok s z.pars _ _ (fun y => rz1_ok s y hck) hl).pass [2, 0] (by decide) (by simp) (by simp [normH, hget]; exact ⟨SzB_ren _ _, StB_ren _ _⟩) (by simp [renL, AV.ren, Prs_ren, pos20.1, pos20.2])).eq (x' := .b (z.pars.any fun y => decide (¬ PG s.c y))) (H'' := [some (StB s), some (ZnB z), some (SzB s.c)]) rfl (by simp [mergeH, setIds, renH, SzB_ren, StB_ren]; rfl))) ?_
          refine ro rfl rfl (OpOk.step (ok_unOp rfl rfl)) ?_
          refine ro rfl rfl (OpOk.step (ok_move (.inr rfl))) ?_
          refine ro_nil ?_
          refine keepK hK37 [6] (by dsimp) (by dsimp) ?_
          refine T.ret (hQ _ _ _ rfl ?_).1 -- ret 21
          exact by (rw [RZ_last (by refine ⟨⟨?_, ?_⟩, ⟨?_, ?_⟩, ⟨?_, ?_⟩, fun _ => ⟨?_, ?_⟩, fun _ => ⟨?_, ?_⟩, ?_, fun _ => ?_⟩ <;> first | assumption | omega | (simp_all <;> omega))]; exact TEnt.fin [] (by decide) (by simp) rfl ⟨rfl, trivial⟩)
     ·(try simp only [dE] at hb)
      refine ro_skip rfl rfl ?_
      refine ro_skip rfl rfl ?_
      refine ro_skip rfl rfl ?_
      refine ro_skip rfl rfl ?_
      refine ro_skip rfl rfl ?_
      refine ro_skip rfl rfl ?_
      refine ro_skip rfl rfl ?_
      refine ro rfl rfl (OpOk.step (ok_pickb (t := false) (d := false) rfl rfl rfl)) ?_
      refine ro rfl rfl (OpOk.step (ok_moveb (c := false) (.inr rfl) rfl)) ?_
      refine ro_nil ?_
      refine keepK hK28 [3, 4, 7, 48] (by dsimp) (by dsimp) ?_
      refine T.cond_false rfl ?_
      refine T.seq fun K38 hK38 => ?_
      refine T.region ?_ -- region 8
      refine ro rfl rfl (OpOk.step (ok_fieldAddr rfl ti_api_Zone rfl rfl ti_Lapi_Par (by decide) rfl)) ?_
      refine ro rfl rfl (OpOk.step (ok_load rfl ti_Lapi_Par rfl rfl)) ?_
      refine ro rfl rfl (OpOk.step (ok_len' rfl rfl ti_Lapi_Par rfl (by first | exact ints_length _ _ | exact rowsA_length _ _ | exact Cms_len _ | exact mapLen _ | rfl))) ?_
      refine ro rfl rfl (OpOk.step (ok_binOp rfl ti_int rfl)) ?_
      refine ro_case rfl rfl (OpOk.step (ok_moveb (.inl rfl) rfl)) (fun hb => ?_) (fun hb => ?_)
      ·(try simp only [dE] at hb)
       refine ro_skip rfl rfl ?_
       refine ro_skip rfl rfl ?_
       refine ro_skip rfl rfl ?_
       refine ro_skip rfl rfl ?_
       refine ro_skip rfl rfl ?_
       refine ro_skip rfl rfl ?_
       refine ro_skip rfl rfl ?_
       refine ro_skip rfl rfl ?_
       refine ro_skip rfl rfl ?_
       refine ro rfl rfl (OpOk.step (ok_pickb (t := true) (d := true) rfl rfl rfl)) ?_
       refine ro rfl rfl (OpOk.step (ok_moveb (c := true) (.inr rfl) rfl)) ?_
       refine ro_nil ?_
       refine keepK hK38 [3, 4, 7, 60] (by dsimp) (by dsimp) ?_
       refine T.cond_true rfl ?_
       refine T.seq fun K39 hK39 => ?_
       refine T.region ?_ -- region 9
       refine ro rfl rfl (OpOk.step (ok_moveb (c := false) (.inr rfl) rfl)) ?_
       refine ro_nil ?_
       refine keepK hK39 [6] (by dsimp) (by dsimp) ?_
       refine T.ret (hQ _ _ _ rfl ?_).1 -- ret 22
       exact by (rw [decide_eq_false (fun h => by obtain ⟨⟨h1, h2⟩, ⟨h3, h4⟩, ⟨h5, h6⟩, h7, h8, h9, h10, h11⟩ := h; simp_all <;> omega)]; exact TEnt.fin [] (by decide) (by simp) rfl ⟨rfl, trivial⟩)
      ·(try simp only [dE] at hb)
       refine ro rfl rfl (OpOk.step (ok_fieldAddr rfl ti_api_Zone rfl rfl ti_Lapi_Par (by decide) rfl)) ?_
       refine ro rfl rfl (OpOk.step (ok_load rfl ti_Lapi_Par rfl rfl)) ?_
       refine ro rfl rfl (OpOk.step (ok_len' rfl rfl ti_Lapi_Par rfl (by first | exact ints_length _ _ | exact rowsA_length _ _ | exact Cms_len _ | exact mapLen _ | rfl))) ?_
       refine ro rfl rfl (OpOk.step (ok_binOp rfl ti_int rfl)) ?_
       refine ro_case rfl rfl (OpOk.step (ok_moveb (.inl rfl) rfl)) (fun hb => ?_) (fun hb => ?_)
       ·(try simp only [dE] at hb)
        refine ro rfl rfl (OpOk.step (ok_fieldAddr rfl ti_api_Zone rfl rfl ti_int (by decide) rfl)) ?_
        refine ro rfl rfl (OpOk.step (ok_load rfl ti_int rfl rfl)) ?_
        refine ro rfl rfl (OpOk.step (ok_binOp rfl ti_int rfl)) ?_
        refine ro rfl rfl (OpOk.step (ok_pick rfl rfl)) ?_
        refine ro rfl rfl (OpOk.step (ok_pick rfl rfl)) ?_
        refine ro rfl rfl (OpOk.step (ok_move (.inr rfl))) ?_
        refine ro_nil ?_
        refine keepK hK38 [3, 4, 7, 60] (by dsimp) (by dsimp) ?_
        refine T.cond rfl (fun hc => ?_) (fun hc => ?_) -- cond 8
        ·(try simp only [dE] at hc)
         refine T.seq fun K40 hK40 => ?_
         refine T.region ?_ -- region 9
         refine ro rfl rfl (OpOk.step (ok_moveb (c := false) (.inr rfl) rfl)) ?_
         refine ro_nil ?_
         refine keepK hK40 [6] (by dsimp) (by dsimp) ?_
         refine T.ret (hQ _ _ _ rfl ?_).1 -- ret 23
         exact by (rw [decide_eq_false (fun h => by obtain ⟨⟨h1, h2⟩, ⟨h3, h4⟩, ⟨h5, h6⟩, h7, h8, h9, h10, h11⟩ := h; simp_all <;> omega)]; exact TEnt.fin [] (by decide) (by simp) rfl ⟨rfl, trivial⟩)
        ·(try simp only [dE] at hc)
         refine T.skip ?_
         refine keepK hK3 [3, 4, 7] (by dsimp) (by dsimp) ?_
         refine T.seq fun K41 hK41 => ?_
         refine T.region ?_ -- region 10
         refine ro rfl rfl (OpOk.step (ok_makeFunc rfl)) ?_
         refine ro rfl rfl (OpOk.step (ok_move (.inr rfl))) ?_
         refine ro_nil ?_
         refine keepK hK41 [4, 8] (by dsimp) (by dsimp) ?_
         refine T.seq fun K42 hK42 => ?_
         refine T.region ?_ -- region 11
         refine ro rfl rfl (OpOk.step (ok_fieldAddr rfl ti_api_Zone rfl rfl ti_Lapi_Par (by decide) rfl)) ?_
         refine ro rfl rfl (OpOk.step (ok_load rfl ti_Lapi_Par rfl rfl)) ?_
         refine ro rfl rfl (OpOk.step (ok_move (.inl rfl))) ?_
         refine ro rfl rfl (ok_call rfl rfl rfl (((containsP_ok s z.pars _ _ (fun y => rz1_ok s y hck) hl).pass [2, 0] (by decide) (by simp) (by simp [normH, hget]; exact ⟨SzB_ren _ _, StB_ren _ _⟩) (by simp [renL, AV.ren, Prs_ren, pos20.1, pos20.2])).eq (x' := .b (z.pars.any fun y => decide (¬ PG s.c y))) (H'' := [some (StB s), some (ZnB z), some (SzB s.c)]) rfl (by simp [mergeH, setIds, renH, SzB_ren, StB_ren]; rfl))) ?_
         refine ro rfl rfl (OpOk.step (ok_unOp rfl rfl)) ?_
         refine ro rfl rfl (OpOk.step (ok_move (.inr rfl))) ?_
         refine ro_nil ?_
         refine keepK hK42 [6] (by dsimp) (by dsimp) ?_
         refine T.ret (hQ _ _ _ rfl ?_).1 -- ret 24
         exact by (rw [RZ_last (by refine ⟨⟨?_, ?_⟩, ⟨?_, ?_⟩, ⟨?_, ?_⟩, fun _ => ⟨?_, ?_⟩, fun _ => ⟨?_, ?_⟩, ?_, fun _ => ?_⟩ <;> first | assumption | omega | (simp_all <;> omega))]; exact TEnt.fin [] (by decide) (by simp) rfl ⟨rfl, trivial⟩)
       ·(try simp only [dE] at hb)
        refine ro_skip rfl rfl ?_
        refine ro_skip rfl rfl ?_
        refine ro_skip rfl rfl ?_
        refine ro rfl rfl (OpOk.step (ok_pickb (t := false) (d := false) rfl rfl rfl)) ?_
        refine ro rfl rfl (OpOk.step (ok_pickb (t := false) (d := false) rfl rfl rfl)) ?_
        refine ro rfl rfl (OpOk.step (ok_moveb (c := false) (.inr rfl) rfl)) ?_
        refine ro_nil ?_
        refine keepK hK38 [3, 4, 7, 60] (by dsimp) (by dsimp) ?_
        refine T.cond_false rfl ?_
        refine T.skip ?_
        refine keepK hK3 [3, 4, 7] (by dsimp) (by dsimp) ?_
        refine T.seq fun K43 hK43 => ?_
        refine T.region ?_ -- region 10
        refine ro rfl rfl (OpOk.step (ok_makeFunc rfl)) ?_
        refine ro rfl rfl (OpOk.step (ok_move (.inr rfl))) ?_
        refine ro_nil ?_
        refine keepK hK43 [4, 8] (by dsimp) (by dsimp) ?_
        refine T.seq fun K44 hK44 => ?_
        refine T.region ?_ -- region 11
        refine ro rfl rfl (OpOk.step (ok_fieldAddr rfl ti_api_Zone rfl rfl ti_Lapi_Par (by decide) rfl)) ?_
        refine ro rfl rfl (OpOk.step (ok_load rfl ti_Lapi_Par rfl rfl)) ?_
        refine ro rfl rfl (OpOk.step (ok_move (.inl rfl))) ?_
        refine ro rfl rfl (ok_call rfl rfl rfl (((containsP_ok s z.pars _ _ (fun y => rz1_ok s y hck) hl).pass [2, 0] (by decide) (by simp) (by simp [normH, hget]; exact ⟨SzB_ren _ _, StB_ren _ _⟩) (by simp [renL, AV.ren, Prs_ren, pos20.1, pos20.2])).eq (x' := .b (z.pars.any fun y => decide (¬ PG s.c y))) (H'' := [some (StB s), some (ZnB z), some (SzB s.c)]) rfl (by simp [mergeH, setIds, renH, SzB_ren, StB_ren]; rfl))) ?_
        refine ro rfl rfl (OpOk.step (ok_unOp rfl rfl)) ?_
        refine ro rfl rfl (OpOk.step (ok_move (.inr rfl))) ?_
        refine ro_nil ?_
        refine keepK hK44 [6] (by dsimp) (by dsimp) ?_
        refine T.ret (hQ _ _ _ rfl ?_).1 -- ret 25
        exact by (rw [RZ_last (by refine ⟨⟨?_, ?_⟩, ⟨?_, ?_⟩, ⟨?_, ?_⟩, fun _ => ⟨?_, ?_⟩, fun _ => ⟨?_, ?_⟩, ?_, fun _ => ?_⟩ <;> first | assumption | omega | (simp_all <;> omega))]; exact TEnt.fin [] (by decide) (by simp) rfl ⟨rfl, trivial⟩)
end Go.Proofs.Ytlegolcbjjjofaa.AmF
