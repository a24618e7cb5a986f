/- Walks over the abstract machine: states of the log: the first state of any settings, and as the document has it. -/
import Derived.Test.YtlegolcbjjjofaaAfState20
namespace Go.Proofs.Ytlegolcbjjjofaa.AmF
open Go Go.AM
set_option maxRecDepth 100000
set_option maxHeartbeats 4000000
set_option linter.unusedSimpArgs false
set_option linter.unusedVariables false
attribute [local simp] tkeep tget tput ev cav argsTM pickA normT putA splice AV.cells ints_length rowsA_length Prs_len Zns_len
theorem snew_bad (c : Cf) (hck : chkC c ≠ 0) : CSpec Try.prog 31 [] [.agg (CC c)] [] (.tup [.agg (StC St0), .int (chkC c)]) := by
 refine CSpec.body Try.func31 rfl rfl rfl rfl rfl fun Q hQ => ?_
 refine T.seq fun K1 hK1 => ?_
 refine T.region ?_ -- region 0
 refine ro rfl rfl (OpOk.step (ok_box (n := 11) rfl rfl (by decide))) ?_
 refine ro rfl rfl (OpOk.step (ok_alloc rfl ti_api_State rfl (by decide))) ?_
 refine ro rfl rfl (OpOk.step (ok_move (.inr rfl))) ?_
 refine ro_nil ?_
 refine keepK hK1 [1, 2] (by dsimp) (by dsimp) ?_
 refine T.seq fun K2 hK2 => ?_
 refine T.seq fun K3 hK3 => ?_
 refine T.region ?_ -- region 1
 refine ro rfl rfl (OpOk.step (ok_load rfl ti_api_Conf rfl rfl)) ?_
 refine ro rfl rfl (ok_call rfl rfl rfl ((check_ok c).plain (by show renL _ [.agg (CC c)] = _; simp [renL, AV.ren, CC_ren]) rfl)) ?_
 refine ro rfl rfl (OpOk.step (ok_move (.inr rfl))) ?_
 refine ro_nil ?_
 refine keepK hK3 [1, 2, 4] (by dsimp) (by dsimp) ?_
 refine T.seq fun K4 hK4 => ?_
 refine T.region ?_ -- region 2
 refine ro rfl rfl (OpOk.step (ok_move (.inl rfl))) ?_
 refine ro rfl rfl (OpOk.step (OpOk.bool (d := true) (ok_binOp rfl ti_api_Errno rfl) ((by simp [hck])))) ?_
 refine ro_nil ?_
 refine keepK hK4 [1, 2, 4, 9] (by dsimp) (by dsimp) ?_
 refine T.cond_true rfl ?_
 refine T.seq fun K5 hK5 => ?_
 refine T.region ?_ -- region 3
 refine ro rfl rfl (OpOk.step (ok_build rfl ti_api_State rfl)) ?_
 refine ro rfl rfl (OpOk.step (ok_move (.inl rfl))) ?_
 refine ro rfl rfl (OpOk.step (ok_store rfl ti_api_State (by decide) rfl rfl rfl rfl rfl (by first | exact Nat.le_of_ble_eq_true rfl | simp) (by first | exact .inl ⟨rfl, rfl⟩ | exact .inr rfl))) ?_
 refine ro rfl rfl (OpOk.step (ok_move (.inr rfl))) ?_
 refine ro_nil ?_
 refine keepK hK5 [2, 3] (by dsimp) (by dsimp) ?_
 refine T.ret (hQ _ _ _ rfl ?_).1 -- ret 1
 exact ap_no (e := chkC c) rfl rfl
/-- The first state, and the error. -/
def newR (c : Cf) : St × Int := if chkC c = 0 then (newS c, 0) else (St0, chkC c)
theorem newR_ok {c : Cf} (h : chkC c = 0) : newR c = (newS c, 0) := if_pos h
theorem newR_bad {c : Cf} (h : chkC c ≠ 0) : newR c = (St0, chkC c) := if_neg h
theorem newR_err (c : Cf) : (newR c).2 = chkC c := by
  unfold newR; split
  · rename_i h; exact h.symm
  · rfl
theorem snewR_ok (c : Cf) : CSpec Try.prog 31 [] [.agg (CC c)] [] (.tup [.agg (StC (newR c).1), .int (newR c).2]) := by
  by_cases h : chkC c = 0
  · rw [newR_ok h]; exact snew_ok c h
  · rw [newR_bad h]; exact snew_bad c h
theorem newR_same (c : Cf) : seB (newR c).1 St0 = !decide (chkC c = 0) := by
  by_cases h : chkC c = 0
  · rw [newR_ok h, seB_false, decide_eq_true h]; rfl
    rintro ⟨⟨_, h2, _⟩, _⟩
    have h2 : (1 : Int) = 0 := h2
    omega
  · rw [newR_bad h, seB_true (SE_refl _), decide_eq_false h]; rfl
theorem newR_few (c : Cf) : ((newR c).1.st.length ≤ 1000000 ∧ (newR c).1.zs.length ≤ 1000000) ∧ ∀ z ∈ (newR c).1.zs, z.pars.length ≤ 1000000 := by
  by_cases h : chkC c = 0
  · rw [newR_ok h]
    have hf := RS_few (RS_new h)
    exact ⟨⟨by show (newS c).st.length ≤ 1000000; have := hf.1; omega, by show (newS c).zs.length ≤ 1000000; have := hf.2.1; omega⟩, fun z hz => by have := hf.2.2.1 z hz; omega⟩
  · rw [newR_bad h]
    exact ⟨⟨by simp [St0], by simp [St0]⟩, fun z hz => by simp [St0] at hz⟩
def SBg (c : Cf) (m n : Nat) (a b : Nat) : Blk := SB (newS c) (.sl a 0 m) (.sl b 0 n)
theorem SBg_ren {ρ : Nat → Option Nat} {c : Cf} {m n a a' b b' : Nat} (ha : ρ a = some a') (hb : ρ b = some b') : some (Blk.ren ρ (SBg c m n a b)) = some (SBg c m n a' b') := SB_ren ha hb
theorem rn_ok {k : Nat} {tm : TM} {H : Heap} {n m : Nat} (s : St) (hk : k = 0) (h : tget tm 0 = .agg (StS s (.sl 2 0 n) (.sl 3 0 m))) (hn : n = s.st.length) (hm : m = s.zs.length) (ha : hget H 2 = some ⟨1, true, ints .i64 s.st⟩) (hb : hget H 3 = some ⟨6, true, Zns s.zs⟩) : TEnt k tm H [(0, .agg (StC s))] [] := by
  subst hk
  have h3 := hget_lt ha
  have h4 := hget_lt hb
  refine (TEnt.freeze 2 ha).trans ((TEnt.freeze 3 (b := ⟨6, true, Zns s.zs⟩) (by rw [hget_set, if_neg (by omega)]; exact hb)).trans ((TEnt.put1 0 (x' := .agg (StC s)) (by
    rw [h]
    refine Ent.st' s hn hm ?_ ?_
    · rw [hget_set, if_neg (by omega), hget_set, if_pos ⟨rfl, h3⟩]
    · rw [hget_set, if_pos ⟨rfl, by simpa using h4⟩])).trans (TEnt.fin [] (by decide) (by simp) rfl ⟨by simp [AV.ren, renL, StC_ren], trivial⟩)))
theorem rnew11_ok (c : Cf) (hck : chkC c = 0) : CSpec Try.prog 34 [] [.agg (CC c)] [] (.agg (StC (newS c))) := by
 have hk := chkC_ok hck
 obtain ⟨m, hm⟩ : ∃ m : Nat, c.mem = m := ⟨c.mem.toNat, by have := hk.2.1; omega⟩
 obtain ⟨n, hn⟩ : ∃ n : Nat, c.zon = n := ⟨c.zon.toNat, by unfold okC at hk; omega⟩
 have hmb : m ≤ 16 := by have := hk.2.1; omega
 have hnb : n ≤ 64 := by unfold okC at hk; omega
 have hzs : (newS c).zs = List.replicate n z0 := by show List.replicate c.zon.toNat z0 = _; rw [hn]; rfl
 have hst : (newS c).st = List.replicate m 0 := by show List.replicate c.mem.toNat 0 = _; rw [hm]; rfl
 refine CSpec.body Try.func34 rfl rfl rfl rfl rfl fun Q hQ => ?_
 refine T.seq fun K1 hK1 => ?_
 refine T.region ?_ -- region 0
 refine ro rfl rfl (OpOk.step (ok_box (n := 11) rfl rfl (by decide))) ?_
 refine ro rfl rfl (OpOk.step (ok_alloc rfl ti_api_State rfl (by decide))) ?_
 refine ro_nil ?_
 refine keepK hK1 [1, 2] (by dsimp) (by dsimp) ?_
 refine T.seq fun K2 hK2 => ?_
 refine T.region ?_ -- region 1
 refine ro rfl rfl (OpOk.step (ok_load rfl ti_api_Conf rfl rfl)) ?_
 refine ro rfl rfl (OpOk.step (((ok_build rfl ti_api_State rfl).eq (x' := .agg (StS (newS c) (.v (.slice none 0 0)) (.v (.slice none 0 0)))) rfl rfl).tent ((emptyAt11 0 13 1 (by decide) rfl rfl).trans ((emptyAt11 0 14 6 (by decide) rfl rfl).trans (TEnt.to ⟨rfl, trivial⟩))))) ?_
 refine ro rfl rfl (OpOk.step (ok_alloc rfl ti_api_State rfl (by decide))) ?_
 refine ro rfl rfl (OpOk.step (ok_store rfl ti_api_State (by decide) rfl rfl rfl rfl rfl (by first | exact Nat.le_of_ble_eq_true rfl | simp) (by first | exact .inl ⟨rfl, rfl⟩ | exact .inr rfl))) ?_
 refine ro_nil ?_
 refine keepK hK2 [1, 2, 3] (by dsimp) (by dsimp) ?_
 refine T.seq fun K3 hK3 => ?_
 refine T.seq fun K4 hK4 => ?_
 refine T.region ?_ -- region 2
 refine ro rfl rfl (OpOk.step (ok_move (.inr rfl))) ?_
 refine ro_nil ?_
 refine keepK hK4 [1, 2, 3, 4] (by dsimp) (by dsimp) ?_
 refine T.block ?_
 refine T.loopI (ι := Nat) (fun i => i ≤ m) (fun i => m - i) (fun i => ([(1, .ref 0 0 0), (2, .ref 1 0 0), (3, .ref 4 0 0), (4, .int i)], [some (CB c), some Z15, some ⟨1, true, ints .i64 (List.replicate i 0)⟩, some ⟨6, true, Zns (List.replicate 0 z0)⟩, some (SBg c i 0 2 3)])) 0 (Nat.zero_le _) (TEnt.toH rfl ⟨rfl, rfl, rfl, rfl, trivial⟩) (fun i hi => ?_) -- loop 1
 refine T.seq fun K5 hK5 => ?_
 refine T.seq fun K6 hK6 => ?_
 refine T.region ?_ -- region 3
 refine ro rfl rfl (OpOk.step (ok_move (.inl rfl))) ?_
 refine ro rfl rfl (OpOk.step (ok_fieldAddr rfl ti_api_Conf rfl rfl ti_int (by decide) rfl)) ?_
 refine ro rfl rfl (OpOk.step ((ok_load rfl ti_int rfl rfl).eq (x' := .int m) (by show AV.int c.mem = _; rw [hm]) rfl)) ?_
 refine ro rfl rfl (OpOk.step (ok_binOp rfl ti_int rfl)) ?_
 refine ro_nil ?_
 refine keepK hK6 [1, 2, 3, 4, 11] (by dsimp) (by dsimp) ?_
 refine T.cond rfl (fun hc => ?_) (fun hc => ?_) -- cond 1
 ·(try simp only [dE] at hc)
  refine T.skip ?_
  refine keepK hK5 [1, 2, 3, 4] (by dsimp) (by dsimp) ?_
  refine T.seq fun K7 hK7 => ?_
  refine T.block ?_
  refine T.region ?_ -- region 5
  refine ro rfl rfl (OpOk.step (ok_fieldAddr rfl ti_api_State rfl rfl ti_Lint (by decide) rfl)) ?_
  refine ro rfl rfl (OpOk.step (ok_load rfl ti_Lint rfl rfl)) ?_
  refine ro rfl rfl (OpOk.step (ok_buildSlice (n := 1) (ps := #[(0, .const (.int .i64 (0)))]) rfl ti_Lint rfl ti_int (by decide) rfl rfl (by decide) rfl rfl rfl)) ?_
  refine ro rfl rfl (OpOk.step (by exact ok_append_ints (k := .i64) (xs := List.replicate i 0) (ys := [0]) rfl ti_Lint rfl ti_int rfl (by decide) rfl ti_Lint (by simp) rfl rfl rfl rfl rfl rfl rfl rfl (by simp) (by simp; omega))) ?_
  refine ro rfl rfl (OpOk.step (ok_fieldAddr rfl ti_api_State rfl rfl ti_Lint (by decide) rfl)) ?_
  refine ro rfl rfl (OpOk.step (ok_store rfl ti_Lint (by decide) rfl rfl rfl rfl rfl (by first | exact Nat.le_of_ble_eq_true rfl | simp) (by first | exact .inl ⟨rfl, rfl⟩ | exact .inr rfl))) ?_
  refine ro_nil ?_
  refine keepK hK7 [1, 2, 3, 4] (by dsimp) (by dsimp) ?_
  refine T.region ?_ -- region 4
  refine ro rfl rfl (OpOk.step (ok_move (.inl rfl))) ?_
  refine ro rfl rfl (OpOk.step (ok_add64 rfl ti_int rfl rfl (by omega) (by omega))) ?_
  refine ro rfl rfl (OpOk.step (ok_move (.inr rfl))) ?_
  refine ro_nil ?_
  exact ⟨i + 1, by omega, by omega, TEnt.fin [0, 1, 6, 3, 4] (by decide) (by simp) (heap5 (congrArg some (CB_ren _ _)) rfl (by show some (Blk.ren _ ⟨1, true, ints .i64 (List.replicate i 0 ++ [0])⟩) = _; rw [← List.replicate_succ']; exact ib_ren _ _) (znb_ren _ _) (by show some (Blk.ren _ (SBg c ((List.replicate i (0 : Int) ++ [0]).length) 0 6 3)) = _; rw [List.length_append, List.length_replicate]; exact SBg_ren (by decide) (by decide))) ⟨rfl, rfl, rfl, rfl, trivial⟩⟩
 ·(try simp only [dE] at hc)
  have him : i = m := by omega
  subst him
  obtain ⟨M, hM⟩ : ∃ M, M = i := ⟨_, rfl⟩
  subst hM
  refine T.exit ?_
  refine keepK hK3 [1, 2, 3] (by dsimp) (by dsimp) ?_
  refine T.seq fun K8 hK8 => ?_
  refine T.seq fun K9 hK9 => ?_
  refine T.region ?_ -- region 6
  refine ro rfl rfl (OpOk.step (ok_move (.inr rfl))) ?_
  refine ro_nil ?_
  refine keepK hK9 [1, 2, 3, 5] (by dsimp) (by dsimp) ?_
  refine T.block ?_
  refine T.loopI (ι := Nat) (fun k => k ≤ n) (fun k => n - k) (fun k => ([(1, .ref 0 0 0), (2, .ref 1 0 0), (3, .ref 4 0 0), (5, .int k)], [some (CB c), some Z15, some ⟨1, true, ints .i64 (List.replicate M 0)⟩, some ⟨6, true, Zns (List.replicate k z0)⟩, some (SBg c M k 2 3)])) 0 (Nat.zero_le _) (TEnt.toH rfl ⟨rfl, rfl, rfl, rfl, trivial⟩) (fun i hi => ?_) -- loop 2
  refine T.seq fun K10 hK10 => ?_
  refine T.seq fun K11 hK11 => ?_
  refine T.region ?_ -- region 7
  refine ro rfl rfl (OpOk.step (ok_move (.inl rfl))) ?_
  refine ro rfl rfl (OpOk.step (ok_fieldAddr rfl ti_api_Conf rfl rfl ti_int (by decide) rfl)) ?_
  refine ro rfl rfl (OpOk.step ((ok_load rfl ti_int rfl rfl).eq (x' := .int n) (by show AV.int c.zon = _; rw [hn]) rfl)) ?_
  refine ro rfl rfl (OpOk.step (ok_binOp rfl ti_int rfl)) ?_
  refine ro_nil ?_
  refine keepK hK11 [1, 2, 3, 5, 22] (by dsimp) (by dsimp) ?_
  refine T.cond rfl (fun hc => ?_) (fun hc => ?_) -- cond 2
  ·(try simp only [dE] at hc)
   refine T.skip ?_
   refine keepK hK10 [1, 2, 3, 5] (by dsimp) (by dsimp) ?_
   refine T.seq fun K12 hK12 => ?_
   refine T.block ?_
   refine T.region ?_ -- region 9
   refine ro rfl rfl (OpOk.step (ok_fieldAddr rfl ti_api_State rfl rfl ti_Lapi_Zone (by decide) rfl)) ?_
   refine ro rfl rfl (OpOk.step (ok_load rfl ti_Lapi_Zone rfl rfl)) ?_
   refine ro rfl rfl (OpOk.step (((ok_build rfl ti_api_Zone rfl).eq (x' := .agg (ZnS z0 (.v (.slice none 0 0)))) rfl rfl).tent ((TEnt.put1 0 (x' := .agg (ZnC z0)) (Ent.agg (EntL.cons (Ent.refl _) (EntL.cons (Ent.refl _) (EntL.cons (Ent.refl _) (EntL.cons (Ent.refl _) (EntL.cons (Ent.refl _) (EntL.cons (Ent.nil 2) EntL.nil)))))))).trans (TEnt.to ⟨rfl, trivial⟩)))) ?_
   refine ro rfl rfl (OpOk.step (ok_buildSlice (n := 1) (ps := #[(0, .tmp 27)]) rfl ti_Lapi_Zone rfl ti_api_Zone (by decide) rfl rfl (by decide) rfl rfl rfl)) ?_
   refine ro rfl rfl (OpOk.step (by exact ok_append_map (fun z => .agg (ZnC z)) (xs := List.replicate i z0) (ys := [z0]) rfl ti_Lapi_Zone rfl ti_api_Zone (by decide) (by decide) rfl ti_Lapi_Zone (by simp) rfl rfl rfl rfl rfl rfl rfl rfl (by simp) (by simp; omega))) ?_
   refine ro rfl rfl (OpOk.step (ok_fieldAddr rfl ti_api_State rfl rfl ti_Lapi_Zone (by decide) rfl)) ?_
   refine ro rfl rfl (OpOk.step (ok_store rfl ti_Lapi_Zone (by decide) rfl rfl rfl rfl rfl (by first | exact Nat.le_of_ble_eq_true rfl | simp) (by first | exact .inl ⟨rfl, rfl⟩ | exact .inr rfl))) ?_
   refine ro_nil ?_
   refine keepK hK12 [1, 2, 3, 5] (by dsimp) (by dsimp) ?_
   refine T.region ?_ -- region 8
   refine ro rfl rfl (OpOk.step (ok_move (.inl rfl))) ?_
   refine ro rfl rfl (OpOk.step (ok_add64 rfl ti_int rfl rfl (by omega) (by omega))) ?_
   refine ro rfl rfl (OpOk.step (ok_move (.inr rfl))) ?_
   refine ro_nil ?_
   exact ⟨i + 1, by omega, by omega, TEnt.fin [0, 1, 2, 6, 4] (by decide) (by simp) (heap5 (congrArg some (CB_ren _ _)) rfl (ib_ren _ _) (by show some (Blk.ren _ ⟨6, true, Zns (List.replicate i z0 ++ [z0])⟩) = _; rw [← List.replicate_succ']; exact znb_ren _ _) (by show some (Blk.ren _ (SBg c _ ((List.replicate i z0 ++ [z0]).length) 2 6)) = _; rw [List.length_append, List.length_replicate]; exact SBg_ren (by decide) (by decide))) ⟨rfl, rfl, rfl, rfl, trivial⟩⟩
  ·(try simp only [dE] at hc)
   have hin : i = n := by omega
   subst hin
   refine T.exit ?_
   refine keepK hK8 [2, 3] (by dsimp) (by dsimp) ?_
   refine T.seq fun K13 hK13 => ?_
   refine T.region ?_ -- region 10
   refine ro rfl rfl (OpOk.step (ok_load rfl ti_api_State rfl rfl)) ?_
   refine ro rfl rfl (OpOk.step (ok_store rfl ti_api_State (by decide) rfl rfl rfl rfl rfl (by first | exact Nat.le_of_ble_eq_true rfl | simp) (by first | exact .inl ⟨rfl, rfl⟩ | exact .inr rfl))) ?_
   refine ro_nil ?_
   refine keepK hK13 [2] (by dsimp) (by dsimp) ?_
   refine T.ret (hQ _ _ _ rfl ?_).1 -- ret 1
   exact rn_ok (newS c) rfl rfl (by rw [hst]; simp) (by rw [hzs]; simp) (by rw [hst]; rfl) (by rw [hzs]; rfl)
end Go.Proofs.Ytlegolcbjjjofaa.AmF
