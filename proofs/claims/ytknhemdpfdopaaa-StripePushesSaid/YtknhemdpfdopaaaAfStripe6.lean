/- Walks over the abstract machine: the laws StripeOvers and StripeLacks. -/
import Derived.Test.YtknhemdpfdopaaaAfStripe5
namespace Go.Proofs.Ytknhemdpfdopaaa.AmF
open Go Go.AM
set_option maxRecDepth 100000
set_option linter.unusedSimpArgs false
set_option linter.unusedVariables false
attribute [local simp] tkeep tget tput ev cav argsTM pickA normT putA splice AV.cells ints_length rowsA_length fit_len zipx_len upd_len cs_len ovr_len fitL_len
def zp (a b : List Int) (i : Nat) : List Int := (List.range i).map fun j => X (a.getD j 0) (b.getD j 0)
theorem zp_len (a b : List Int) (i : Nat) : (zp a b i).length = i := by simp [zp]
theorem zp_succ (a b : List Int) (i : Nat) : zp a b i ++ [X (a.getD i 0) (b.getD i 0)] = zp a b (i + 1) := by simp [zp, List.range_succ]
attribute [local simp] zp_len
theorem rinto_new (a b : List Int) (la : a.length ≤ 1000000000) (lb : b.length ≤ 1000000000) : CSpec Try.prog 88 [] [.fz 1 (ints .u8 a), .fz 1 (ints .u8 b)] [some ⟨1, true, ints .u8 (zipx a b)⟩] (.sl 0 0 (zipx a b).length) := by
  refine CSpec.body Try.func88 rfl rfl rfl rfl rfl fun Q hQ => ?_
  refine T.seq fun K1 hK1 => ?_
  refine T.region ?_ -- region 0
  refine ro rfl rfl (OpOk.step (ok_move (.inr rfl))) ?_
  refine ro_nil ?_
  refine keepK hK1 [0, 1] (by dsimp) (by dsimp) ?_
  refine T.seq fun K2 hK2 => ?_
  refine T.region ?_ -- region 1
  refine ro rfl rfl (OpOk.step (ok_move (.inr rfl))) ?_
  refine ro_nil ?_
  refine keepK hK2 [0, 1, 5] (by dsimp) (by dsimp) ?_
  refine T.seq fun K3 hK3 => ?_
  refine T.seq fun K4 hK4 => ?_
  refine T.region ?_ -- region 2
  refine ro rfl rfl (OpOk.step (ok_move (.inr rfl))) ?_
  refine ro_nil ?_
  refine keepK hK4 [0, 1, 5, 6] (by dsimp) (by dsimp) ?_
  refine T.block ?_
  refine T.loopI (ι := Nat) (fun i => i ≤ max a.length b.length) (fun i => max a.length b.length - i) (fun i => ([(0, .fz 1 (ints .u8 a)), (1, .fz 1 (ints .u8 b)), (5, .sl 0 0 (zp a b i).length), (6, .int i)], [some ⟨1, true, ints .u8 (zp a b i)⟩])) 0 (Nat.zero_le _) ((TEnt.empty 5 1 (by decide) (.inr rfl)).trans (TEnt.toH rfl ⟨rfl, rfl, rfl, rfl, trivial⟩)) (fun i hi => ?_) -- loop 1
  refine T.seq fun K5 hK5 => ?_
  refine T.seq fun K6 hK6 => ?_
  refine T.region ?_ -- region 3
  refine ro rfl rfl (OpOk.step (ok_move (.inl rfl))) ?_
  refine ro rfl rfl (OpOk.step (ok_move (.inl rfl))) ?_
  refine ro rfl rfl (OpOk.step (ok_len' rfl rfl ti_Luint8 rfl (by first | exact ints_length _ _ | exact rowsA_length _ _ | exact Cms_len _ | exact mapLen _ | rfl))) ?_
  refine ro rfl rfl (OpOk.step (ok_binOp rfl ti_int rfl)) ?_
  refine ro_case rfl rfl (OpOk.step (ok_moveb (.inl rfl) rfl)) (fun hb => ?_) (fun hb => ?_)
  · (try simp only [decide_eq_true_eq, decide_eq_false_iff_not, beq_iff_eq, beq_eq_false_iff_ne, bne_iff_ne, bne_eq_false_iff_eq, ne_eq, Bool.not_eq_true', Bool.not_eq_false'] at hb)
    refine ro_skip rfl rfl ?_
    refine ro_skip rfl rfl ?_
    refine ro_skip rfl rfl ?_
    refine ro_skip rfl rfl ?_
    refine ro rfl rfl (OpOk.step (ok_pickb (t := true) (d := true) rfl rfl rfl)) ?_
    refine ro_nil ?_
    refine keepK hK6 [0, 1, 5, 6, 16] (by dsimp) (by dsimp) ?_
    refine T.cond_true rfl ?_
    refine T.skip ?_
    refine keepK hK5 [0, 1, 5, 6] (by dsimp) (by dsimp) ?_
    refine T.seq fun K7 hK7 => ?_
    refine T.block ?_
    refine T.region ?_ -- region 5
    refine ro rfl rfl (OpOk.step (ok_move (.inl rfl))) ?_
    refine ro rfl rfl (OpOk.step (ok_move (.inl rfl))) ?_
    refine ro rfl rfl (OpOk.step (ok_move (.inl rfl))) ?_
    refine ro rfl rfl (ok_call rfl rfl rfl ((at_ok a i).plain (by simp [renL, AV.ren, renL_ints]) rfl)) ?_
    refine ro rfl rfl (OpOk.step (ok_move (.inl rfl))) ?_
    refine ro rfl rfl (OpOk.step (ok_move (.inl rfl))) ?_
    refine ro rfl rfl (ok_call rfl rfl rfl ((at_ok b i).plain (by simp [renL, AV.ren, renL_ints]) rfl)) ?_
    refine ro rfl rfl (OpOk.step ((ok_bits .xor rfl ti_uint8 rfl rfl (.inr (.inr rfl))).eq (x' := .v (.int .u8 (X (a.getD i 0) (b.getD i 0)))) rfl rfl)) ?_
    refine ro rfl rfl (OpOk.step (ok_buildSlice (n := 1) (ps := #[(0, .tmp 26)]) rfl ti_Luint8 rfl ti_uint8 (by decide) rfl rfl (by decide) rfl rfl rfl)) ?_
    refine ro rfl rfl (OpOk.step ((ok_append_ints (k := .u8) (xs := zp a b i) (ys := [X (a.getD i 0) (b.getD i 0)]) rfl ti_Luint8 rfl ti_uint8 rfl (by decide) rfl ti_Luint8 (by simp) rfl rfl rfl rfl rfl rfl rfl rfl rfl (by show (_ + 1) * 1 ≤ _; simp; omega)).eq (x' := .sl 2 0 (zp a b (i + 1)).length) (H'' := [none, some ⟨1, true, ints .u8 [X (a.getD i 0) (b.getD i 0)]⟩, some ⟨1, true, ints .u8 (zp a b (i + 1))⟩]) (by rw [← zp_succ]; rfl) (by rw [← zp_succ]; rfl))) ?_
    refine ro rfl rfl (OpOk.step (ok_move (.inr rfl))) ?_
    refine ro_nil ?_
    refine keepK hK7 [0, 1, 5, 6] (by dsimp) (by dsimp) ?_
    refine T.region ?_ -- region 4
    refine ro rfl rfl (OpOk.step (ok_move (.inl rfl))) ?_
    refine ro rfl rfl (OpOk.step (ok_add64 rfl ti_int rfl rfl (by omega) (by omega))) ?_
    refine ro rfl rfl (OpOk.step (ok_move (.inr rfl))) ?_
    refine ro_nil ?_
    exact ⟨i + 1, by omega, by omega, TEnt.fin [2] (by decide) (by simp) (by simp [normH, hget, IB_ren]) ⟨by simp [AV.ren, renL_ints], by simp [AV.ren, renL_ints], rfl, rfl, trivial⟩⟩
  · (try simp only [decide_eq_true_eq, decide_eq_false_iff_not, beq_iff_eq, beq_eq_false_iff_ne, bne_iff_ne, bne_eq_false_iff_eq, ne_eq, Bool.not_eq_true', Bool.not_eq_false'] at hb)
    refine ro rfl rfl (OpOk.step (ok_move (.inl rfl))) ?_
    refine ro rfl rfl (OpOk.step (ok_move (.inl rfl))) ?_
    refine ro rfl rfl (OpOk.step (ok_len' rfl rfl ti_Luint8 rfl (by first | exact ints_length _ _ | exact rowsA_length _ _ | exact Cms_len _ | exact mapLen _ | rfl))) ?_
    refine ro rfl rfl (OpOk.step (ok_binOp rfl ti_int rfl)) ?_
    refine ro rfl rfl (OpOk.step (ok_pick rfl rfl)) ?_
    refine ro_nil ?_
    refine keepK hK6 [0, 1, 5, 6, 16] (by dsimp) (by dsimp) ?_
    refine T.cond rfl (fun hc => ?_) (fun hc => ?_) -- cond 1
    · (try simp only [decide_eq_true_eq, decide_eq_false_iff_not, beq_iff_eq, beq_eq_false_iff_ne, bne_iff_ne, bne_eq_false_iff_eq, ne_eq, Bool.not_eq_true', Bool.not_eq_false'] at hc)
      refine T.skip ?_
      refine keepK hK5 [0, 1, 5, 6] (by dsimp) (by dsimp) ?_
      refine T.seq fun K8 hK8 => ?_
      refine T.block ?_
      refine T.region ?_ -- region 5
      refine ro rfl rfl (OpOk.step (ok_move (.inl rfl))) ?_
      refine ro rfl rfl (OpOk.step (ok_move (.inl rfl))) ?_
      refine ro rfl rfl (OpOk.step (ok_move (.inl rfl))) ?_
      refine ro rfl rfl (ok_call rfl rfl rfl ((at_ok a i).plain (by simp [renL, AV.ren, renL_ints]) rfl)) ?_
      refine ro rfl rfl (OpOk.step (ok_move (.inl rfl))) ?_
      refine ro rfl rfl (OpOk.step (ok_move (.inl rfl))) ?_
      refine ro rfl rfl (ok_call rfl rfl rfl ((at_ok b i).plain (by simp [renL, AV.ren, renL_ints]) rfl)) ?_
      refine ro rfl rfl (OpOk.step ((ok_bits .xor rfl ti_uint8 rfl rfl (.inr (.inr rfl))).eq (x' := .v (.int .u8 (X (a.getD i 0) (b.getD i 0)))) rfl rfl)) ?_
      refine ro rfl rfl (OpOk.step (ok_buildSlice (n := 1) (ps := #[(0, .tmp 26)]) rfl ti_Luint8 rfl ti_uint8 (by decide) rfl rfl (by decide) rfl rfl rfl)) ?_
      refine ro rfl rfl (OpOk.step ((ok_append_ints (k := .u8) (xs := zp a b i) (ys := [X (a.getD i 0) (b.getD i 0)]) rfl ti_Luint8 rfl ti_uint8 rfl (by decide) rfl ti_Luint8 (by simp) rfl rfl rfl rfl rfl rfl rfl rfl rfl (by show (_ + 1) * 1 ≤ _; simp; omega)).eq (x' := .sl 2 0 (zp a b (i + 1)).length) (H'' := [none, some ⟨1, true, ints .u8 [X (a.getD i 0) (b.getD i 0)]⟩, some ⟨1, true, ints .u8 (zp a b (i + 1))⟩]) (by rw [← zp_succ]; rfl) (by rw [← zp_succ]; rfl))) ?_
      refine ro rfl rfl (OpOk.step (ok_move (.inr rfl))) ?_
      refine ro_nil ?_
      refine keepK hK8 [0, 1, 5, 6] (by dsimp) (by dsimp) ?_
      refine T.region ?_ -- region 4
      refine ro rfl rfl (OpOk.step (ok_move (.inl rfl))) ?_
      refine ro rfl rfl (OpOk.step (ok_add64 rfl ti_int rfl rfl (by omega) (by omega))) ?_
      refine ro rfl rfl (OpOk.step (ok_move (.inr rfl))) ?_
      refine ro_nil ?_
      exact ⟨i + 1, by omega, by omega, TEnt.fin [2] (by decide) (by simp) (by simp [normH, hget, IB_ren]) ⟨by simp [AV.ren, renL_ints], by simp [AV.ren, renL_ints], rfl, rfl, trivial⟩⟩
    · (try simp only [decide_eq_true_eq, decide_eq_false_iff_not, beq_iff_eq, beq_eq_false_iff_ne, bne_iff_ne, bne_eq_false_iff_eq, ne_eq, Bool.not_eq_true', Bool.not_eq_false'] at hc)
      have hin : i = max a.length b.length := by omega
      subst hin
      refine T.exit ?_
      refine keepK hK3 [5] (by dsimp) (by dsimp) ?_
      refine T.seq fun K9 hK9 => ?_
      refine T.region ?_ -- region 6
      refine ro rfl rfl (OpOk.step (ok_move (.inl rfl))) ?_
      refine ro rfl rfl (OpOk.step (ok_move (.inr rfl))) ?_
      refine ro_nil ?_
      refine keepK hK9 [4] (by dsimp) (by dsimp) ?_
      refine T.ret (hQ _ _ _ rfl ?_).1 -- ret 1
      exact TEnt.toH rfl ⟨rfl, trivial⟩
theorem rinto_frz (a b : List Int) (la : a.length ≤ 1000000000) (lb : b.length ≤ 1000000000) : CSpec Try.prog 88 [] [.fz 1 (ints .u8 a), .fz 1 (ints .u8 b)] [] (.fz 1 (ints .u8 (zipx a b))) := (rinto_new a b la lb).frz' rfl
theorem rof_ok (ls : List (List Int)) (hn : ls.length ≤ 140737488355328) (hl : ∀ l ∈ ls, l.length ≤ 1000000000) : CSpec Try.prog 47 [] [.fz 1 (rowsA .u8 ls)] [] (.fz 1 (ints .u8 (par ls))) := by
  refine CSpec.body Try.func47 rfl rfl rfl rfl rfl fun Q hQ => ?_
  refine T.seq fun K1 hK1 => ?_
  refine T.region ?_ -- region 0
  refine ro rfl rfl (OpOk.step (ok_move (.inr rfl))) ?_
  refine ro_nil ?_
  refine keepK hK1 [0] (by dsimp) (by dsimp) ?_
  refine T.seq fun K2 hK2 => ?_
  refine T.region ?_ -- region 1
  refine ro rfl rfl (OpOk.step (ok_move (.inr rfl))) ?_
  refine ro_nil ?_
  refine keepK hK2 [0, 3] (by dsimp) (by dsimp) ?_
  refine T.seq fun K3 hK3 => ?_
  refine T.seq fun K4 hK4 => ?_
  refine T.region ?_ -- region 2
  refine ro rfl rfl (OpOk.step (ok_move (.inr rfl))) ?_
  refine ro_nil ?_
  refine keepK hK4 [0, 3, 4] (by dsimp) (by dsimp) ?_
  refine T.block ?_
  refine T.loopI (ι := Nat) (fun i => i ≤ ls.length) (fun i => ls.length - i) (fun i => ([(0, .fz 1 (rowsA .u8 ls)), (3, .fz 1 (ints .u8 (par (ls.take i)))), (4, .int i)], [])) 0 (Nat.zero_le _) ((TEnt.put1 3 (Ent.nil 1)).trans (TEnt.toH rfl ⟨rfl, rfl, rfl, trivial⟩)) (fun i hi => ?_) -- loop 1
  refine T.seq fun K5 hK5 => ?_
  refine T.seq fun K6 hK6 => ?_
  refine T.region ?_ -- region 3
  refine ro rfl rfl (OpOk.step (ok_move (.inl rfl))) ?_
  refine ro rfl rfl (OpOk.step (ok_move (.inl rfl))) ?_
  refine ro rfl rfl (OpOk.step (ok_len' rfl rfl ti_LLuint8 rfl (by first | exact ints_length _ _ | exact rowsA_length _ _ | exact Cms_len _ | exact mapLen _ | rfl))) ?_
  refine ro rfl rfl (OpOk.step (ok_binOp rfl ti_int rfl)) ?_
  refine ro_nil ?_
  refine keepK hK6 [0, 3, 4, 8] (by dsimp) (by dsimp) ?_
  refine T.cond rfl (fun hc => ?_) (fun hc => ?_) -- cond 1
  · (try simp only [decide_eq_true_eq, decide_eq_false_iff_not, beq_iff_eq, beq_eq_false_iff_ne, bne_iff_ne, bne_eq_false_iff_eq, ne_eq, Bool.not_eq_true', Bool.not_eq_false'] at hc)
    obtain ⟨l, hli⟩ : ∃ l, ls[i]? = some l := ⟨_, List.getElem?_eq_getElem (by omega)⟩
    have hpl : (par (ls.take i)).length ≤ 1000000000 := par_le fun x hx => hl x (List.mem_of_mem_take hx)
    have hps := par_succ hli
    refine T.skip ?_
    refine keepK hK5 [0, 3, 4] (by dsimp) (by dsimp) ?_
    refine T.seq fun K7 hK7 => ?_
    refine T.block ?_
    refine T.region ?_ -- region 5
    refine ro rfl rfl (OpOk.step (ok_move (.inl rfl))) ?_
    refine ro rfl rfl (OpOk.step (ok_move (.inl rfl))) ?_
    refine ro rfl rfl (OpOk.step (ok_move (.inl rfl))) ?_
    refine ro rfl rfl (OpOk.step (by exact ok_index_fz rfl ti_LLuint8 rfl ti_Luint8 rfl rfl rfl (by omega) (rowsA_get_of (by simpa using hli)) rfl)) ?_
    refine ro rfl rfl (OpOk.step (ok_load rfl ti_Luint8 rfl rfl)) ?_
    refine ro rfl rfl (ok_call rfl rfl rfl (((rinto_frz (par (ls.take i)) l hpl (hl l (List.mem_of_getElem? hli))).plain (by simp [renL, AV.ren, renL_ints]) (by simp [AV.ren, renL_ints])).eq (x' := .fz 1 (ints .u8 (par (ls.take (i + 1))))) (by rw [hps]) rfl)) ?_
    refine ro rfl rfl (OpOk.step (ok_move (.inr rfl))) ?_
    refine ro_nil ?_
    refine keepK hK7 [0, 3, 4] (by dsimp) (by dsimp) ?_
    refine T.region ?_ -- region 4
    refine ro rfl rfl (OpOk.step (ok_move (.inl rfl))) ?_
    refine ro rfl rfl (OpOk.step (ok_add64 rfl ti_int rfl rfl (by omega) (by omega))) ?_
    refine ro rfl rfl (OpOk.step (ok_move (.inr rfl))) ?_
    refine ro_nil ?_
    exact ⟨i + 1, by omega, by omega, TEnt.toH rfl ⟨rfl, rfl, rfl, trivial⟩⟩
  · (try simp only [decide_eq_true_eq, decide_eq_false_iff_not, beq_iff_eq, beq_eq_false_iff_ne, bne_iff_ne, bne_eq_false_iff_eq, ne_eq, Bool.not_eq_true', Bool.not_eq_false'] at hc)
    have hin : i = ls.length := by omega
    subst hin
    rw [List.take_length]
    refine T.exit ?_
    refine keepK hK3 [3] (by dsimp) (by dsimp) ?_
    refine T.seq fun K8 hK8 => ?_
    refine T.region ?_ -- region 6
    refine ro rfl rfl (OpOk.step (ok_move (.inl rfl))) ?_
    refine ro rfl rfl (OpOk.step (ok_move (.inr rfl))) ?_
    refine ro_nil ?_
    refine keepK hK8 [2] (by dsimp) (by dsimp) ?_
    refine T.ret (hQ _ _ _ rfl ?_).1 -- ret 1
    exact TEnt.toH rfl ⟨rfl, trivial⟩
/-- What New hands back, part by part. -/
theorem newA_parts (c : Cf) (w : Int) (ls : List (List Int)) : ∃ c' w' ls', newA c w ls = .tup [.agg (BufC c' w' ls'), .int (rightE c w ls)] ∧ (rightE c w ls = 0 → c' = c ∧ w' = w ∧ ls' = ls ∧ chkC c = 0) ∧ (rightE c w ls ≠ 0 → w' = 0 ∧ ls' = []) := by
  by_cases h : rightE c w ls = 0
  · refine ⟨c, w, ls, by unfold newA; rw [if_pos h], fun _ => ⟨rfl, rfl, rfl, ?_⟩, fun h' => absurd h h'⟩
    unfold rightE at h
    split at h
    · rename_i hc; exact absurd h hc
    · rename_i hc; exact Decidable.not_not.1 hc
  · exact ⟨c00, 0, [], by unfold newA; rw [if_neg h], fun h' => absurd h' h, fun _ => ⟨rfl, rfl⟩⟩
theorem parC_nil (c : Cf) : parC c [] = [] := if_neg fun h => h.2 rfl
theorem FewL.lens {ls : List (List Int)} (h : FewL ls) : ∀ l ∈ ls, l.length ≤ 8000 := fun l hl => Nat.le_trans (tsum_get hl) h.2
set_option maxHeartbeats 2000000 in
theorem stripeOvers_ok (c : Cf) (w : Int) (ls : List (List Int)) (hB : BB ls) (hn : ls.length ≤ 140737488355328) (hl : ∀ l ∈ ls, l.length ≤ 140737488355328) : CSpec Try.prog 9 [] [.agg (CC c), .int w, .fz 1 (rowsA .u8 ls)] [] (.b true) := by
  refine CSpec.body Try.func9 rfl rfl rfl rfl rfl fun Q hQ => ?_
  refine T.seq fun K1 hK1 => ?_
  refine T.region ?_ -- region 0
  refine ro rfl rfl (OpOk.step (ok_box (n := 11) rfl rfl (by decide))) ?_
  refine ro rfl rfl (OpOk.step (ok_moveb (c := false) (.inr rfl) rfl)) ?_
  refine ro_nil ?_
  refine keepK hK1 [1, 2, 3] (by dsimp) (by dsimp) ?_
  refine T.seq fun K2 hK2 => ?_
  refine T.seq fun K3 hK3 => ?_
  refine T.region ?_ -- region 1
  refine ro rfl rfl (OpOk.step (ok_move (.inl rfl))) ?_
  refine ro rfl rfl (ok_call rfl rfl rfl ((much15_ok ls hn hl).plain (by simp [renL, AV.ren, renL_rowsA]) rfl)) ?_
  refine ro_case rfl rfl (OpOk.step (ok_moveb (.inl rfl) rfl)) (fun hb => ?_) (fun hb => ?_)
  · (try simp only [decide_eq_true_eq, decide_eq_false_iff_not, beq_iff_eq, beq_eq_false_iff_ne, bne_iff_ne, bne_eq_false_iff_eq, ne_eq, Bool.not_eq_true', Bool.not_eq_false'] at hb)
    refine ro_skip rfl rfl ?_
    refine ro_skip rfl rfl ?_
    refine ro_skip rfl rfl ?_
    refine ro_skip rfl rfl ?_
    refine ro_skip rfl rfl ?_
    refine ro_skip rfl rfl ?_
    refine ro_skip rfl rfl ?_
    refine ro_skip rfl rfl ?_
    refine ro rfl rfl (OpOk.step (ok_pickb (t := true) (d := true) rfl rfl rfl)) ?_
    refine ro_nil ?_
    refine keepK hK3 [1, 2, 3, 21] (by dsimp) (by dsimp) ?_
    refine T.cond_true rfl ?_
    refine T.seq fun K4 hK4 => ?_
    refine T.region ?_ -- region 2
    refine ro rfl rfl (ok_call rfl rfl rfl (live15_ok.plain rfl rfl)) ?_
    refine ro rfl rfl (OpOk.step (ok_move (.inr rfl))) ?_
    refine ro_nil ?_
    refine keepK hK4 [6] (by dsimp) (by dsimp) ?_
    refine T.ret (hQ _ _ _ rfl ?_).1 -- ret 1
    exact TEnt.fin [] (by decide) (by simp) rfl ⟨rfl, trivial⟩
  · (try simp only [decide_eq_true_eq, decide_eq_false_iff_not, beq_iff_eq, beq_eq_false_iff_ne, bne_iff_ne, bne_eq_false_iff_eq, ne_eq, Bool.not_eq_true', Bool.not_eq_false'] at hb)
    refine ro rfl rfl (OpOk.step (ok_load rfl ti_api_Conf rfl rfl)) ?_
    refine ro rfl rfl (ok_call rfl rfl rfl ((rcheck_ok c).plain (by simp [renL, AV.ren, CC_take', CC_ren]) rfl)) ?_
    refine ro rfl rfl (OpOk.step (ok_binOp rfl ti_int rfl)) ?_
    refine ro_case rfl rfl (OpOk.step (ok_moveb (.inl rfl) rfl)) (fun hb => ?_) (fun hb => ?_)
    · (try simp only [decide_eq_true_eq, decide_eq_false_iff_not, beq_iff_eq, beq_eq_false_iff_ne, bne_iff_ne, bne_eq_false_iff_eq, ne_eq, Bool.not_eq_true', Bool.not_eq_false'] at hb)
      refine ro rfl rfl (OpOk.step (ok_load rfl ti_api_Conf rfl rfl)) ?_
      refine ro rfl rfl (ok_call rfl rfl rfl ((small_ok c).plain (by simp [renL, AV.ren, CC_take', CC_ren]) rfl)) ?_
      refine ro rfl rfl (OpOk.step (ok_unOp rfl rfl)) ?_
      refine ro rfl rfl (OpOk.step (ok_pick rfl rfl)) ?_
      refine ro rfl rfl (OpOk.step (ok_pick rfl rfl)) ?_
      refine ro_nil ?_
      refine keepK hK3 [1, 2, 3, 21] (by dsimp) (by dsimp) ?_
      refine T.cond rfl (fun hc => ?_) (fun hc => ?_) -- cond 1
      · (try simp only [decide_eq_true_eq, decide_eq_false_iff_not, beq_iff_eq, beq_eq_false_iff_ne, bne_iff_ne, bne_eq_false_iff_eq, ne_eq, Bool.not_eq_true', Bool.not_eq_false'] at hc)
        refine T.seq fun K5 hK5 => ?_
        refine T.region ?_ -- region 2
        refine ro rfl rfl (ok_call rfl rfl rfl (live15_ok.plain rfl rfl)) ?_
        refine ro rfl rfl (OpOk.step (ok_move (.inr rfl))) ?_
        refine ro_nil ?_
        refine keepK hK5 [6] (by dsimp) (by dsimp) ?_
        refine T.ret (hQ _ _ _ rfl ?_).1 -- ret 2
        exact TEnt.fin [] (by decide) (by simp) rfl ⟨rfl, trivial⟩
      · (try simp only [decide_eq_true_eq, decide_eq_false_iff_not, beq_iff_eq, beq_eq_false_iff_ne, bne_iff_ne, bne_eq_false_iff_eq, ne_eq, Bool.not_eq_true', Bool.not_eq_false'] at hc)
        refine T.skip ?_
        refine keepK hK2 [1, 2, 3] (by dsimp) (by dsimp) ?_
        refine T.seq fun K6 hK6 => ?_
        have hfew : FewL ls := by simp_all
        have hl8 := hfew.lens
        have hl50 := hfew.1
        obtain ⟨c', w', ls', hA, hA0, hA1⟩ := newA_parts c w ls
        have hls' : ls'.length ≤ 50 ∧ BB ls' ∧ ∀ l ∈ ls', l.length ≤ 140737488355328 := by
          by_cases h : rightE c w ls = 0
          · obtain ⟨_, _, rfl, _⟩ := hA0 h; exact ⟨hl50, hB, hl⟩
          · obtain ⟨_, rfl⟩ := hA1 h; exact ⟨by simp, fun l hl => by simp at hl, by simp⟩
        generalize hF : rightE c w ls = F at hA hA0 hA1
        generalize hO : overC c ls = O
        refine T.region ?_ -- region 3
        refine ro rfl rfl (OpOk.step (ok_load rfl ti_api_Conf rfl rfl)) ?_
        refine ro rfl rfl (OpOk.step (ok_move (.inl rfl))) ?_
        refine ro rfl rfl (OpOk.step (ok_move (.inl rfl))) ?_
        refine ro rfl rfl (ok_call rfl rfl rfl (((bnew_ok c w ls (by omega) hl).plain (by simp [renL, AV.ren, CC_take', CC_ren, renL_rowsA]) (newA_ren _ _ _ _)).eq (x' := .tup [.agg (BufC c' w' ls'), .int F]) hA rfl)) ?_
        refine ro rfl rfl (OpOk.step (ok_move (.inl rfl))) ?_
        refine ro rfl rfl (OpOk.step (ok_extract rfl rfl rfl)) ?_
        refine ro rfl rfl (OpOk.step (ok_extract rfl rfl rfl)) ?_
        refine ro rfl rfl (OpOk.step (ok_alloc rfl ti_stripe_Buf rfl (by decide))) ?_
        refine ro rfl rfl (OpOk.step ((ok_store rfl ti_stripe_Buf (by decide) rfl rfl rfl rfl rfl (Nat.le_of_ble_eq_true rfl) (.inl ⟨rfl, rfl⟩)).eq (x' := .any) (H'' := [some (CB c), some (BufB c' w' ls')]) rfl rfl)) ?_
        refine ro rfl rfl (OpOk.step (ok_move (.inr rfl))) ?_
        refine ro_nil ?_
        refine keepK hK6 [1, 2, 3, 7, 8] (by dsimp) (by dsimp) ?_
        refine T.seq fun K7 hK7 => ?_
        refine T.region ?_ -- region 4
        refine ro rfl rfl (OpOk.step (ok_load rfl ti_api_Conf rfl rfl)) ?_
        refine ro rfl rfl (OpOk.step (ok_move (.inl rfl))) ?_
        refine ro rfl rfl (OpOk.step (ok_move (.inl rfl))) ?_
        refine ro rfl rfl (ok_call rfl rfl rfl (((rright_ok c w ls hn).plain (by simp [renL, AV.ren, CC_take', CC_ren, renL_rowsA]) rfl).eq (x' := .int F) (by rw [hF]) rfl)) ?_
        refine ro rfl rfl (OpOk.step (ok_move (.inr rfl))) ?_
        refine ro_nil ?_
        refine keepK hK7 [1, 2, 3, 7, 8, 9] (by dsimp) (by dsimp) ?_
        refine T.seq fun K8 hK8 => ?_
        refine T.seq fun K9 hK9 => ?_
        refine T.drawH mixed [] ?_ -- region 5
        refine any_take 0 rfl (by first | rfl | decide +kernel) rfl (HeldL.refl _) (fun H' hH => OpOk.step (ok_load rfl ti_api_Conf (locA_held hH rfl) rfl)) ?_
        refine any_take 1 rfl (by first | rfl | decide +kernel) rfl (HeldL.refl _) (fun H' hH => OpOk.step (ok_move (.inl rfl))) ?_
        refine any_take 4 rfl (by first | rfl | decide +kernel) rfl (HeldL.refl _) (fun H' hH => OpOk.step (ok_load rfl ti_api_Conf (locA_held hH rfl) rfl)) ?_
        refine any_take 5 rfl (by first | rfl | decide +kernel) rfl (HeldL.refl _) (fun H' hH => OpOk.step (ok_move (.inl rfl))) ?_
        refine any_one 2 rfl (by first | rfl | decide +kernel) rfl rfl (ok_call rfl rfl rfl (((over_frz c ls hB (by omega) hl).plain (by simp [renL, AV.ren, CC_take', CC_ren, renL_rowsA]) (by simp [AV.ren, renL_ints])).eq (x' := .fz 1 (ints .u8 O)) (by rw [hO]) rfl)) (.inr (by first | (simp [HeldL]; done) | (simp only [HeldL, List.map_cons, List.map_nil, List.cons_append, List.nil_append, List.set_cons_zero, List.set_cons_succ]; (repeat' first | trivial | rfl | constructor)))) ?_
        refine any_take 3 rfl (by first | rfl | decide +kernel) rfl (by first | exact HeldL.refl _ | exact HeldL.append _ _ | simp [HeldL]) (fun H' hH => OpOk.step (ok_conv_str rfl ti_Luint8 ti_string rfl ti_uint8 rfl rfl (rowA_held hH rfl) rfl (bytesOf_ints _))) ?_
        refine any_one 6 rfl (by first | rfl | decide +kernel) rfl rfl (ok_call rfl rfl rfl (((rover_frz c ls hB (by omega) hl).plain (by simp [renL, AV.ren, CC_take', CC_ren, renL_rowsA]) (by simp [AV.ren, renL_ints])).eq (x' := .fz 1 (ints .u8 O)) (by rw [hO]) rfl)) (.inr (by first | (simp [HeldL]; done) | (simp only [HeldL, List.map_cons, List.map_nil, List.cons_append, List.nil_append, List.set_cons_zero, List.set_cons_succ]; (repeat' first | trivial | rfl | constructor)))) ?_
        refine any_take 7 rfl (by first | rfl | decide +kernel) rfl (by first | exact HeldL.refl _ | exact HeldL.append _ _ | simp [HeldL]) (fun H' hH => OpOk.step (ok_conv_str rfl ti_Luint8 ti_string rfl ti_uint8 rfl rfl (rowA_held hH rfl) rfl (bytesOf_ints _))) ?_
        refine any_take 8 rfl (by first | rfl | decide +kernel) rfl (by first | exact HeldL.refl _ | exact HeldL.append _ _ | simp [HeldL]) (fun H' hH => OpOk.step ((ok_binOp rfl ti_string rfl).eq (x' := .b (!strEq O O)) rfl rfl)) ?_
        refine any_take 9 rfl (by first | rfl | decide +kernel) rfl (by first | exact HeldL.refl _ | exact HeldL.append _ _ | simp [HeldL]) (fun H' hH => OpOk.step (OpOk.bool (d := false) (ok_moveb (.inl rfl) rfl) (by rw [strEq_refl]; rfl))) ?_
        refine any_take 10 rfl (by first | rfl | decide +kernel) rfl (by first | exact HeldL.refl _ | exact HeldL.append _ _ | simp [HeldL]) (fun H' hH => OpOk.step (ok_move (.inl rfl))) ?_
        refine any_take 12 rfl (by first | rfl | decide +kernel) rfl (by first | exact HeldL.refl _ | exact HeldL.append _ _ | simp [HeldL]) (fun H' hH => OpOk.step (ok_move (.inl rfl))) ?_
        refine any_one 11 rfl (by first | rfl | decide +kernel) rfl rfl (ok_call rfl rfl rfl ((code15_ok F).plain rfl rfl)) (.inr (by first | (simp [HeldL]; done) | (simp only [HeldL, List.map_cons, List.map_nil, List.cons_append, List.nil_append, List.set_cons_zero, List.set_cons_succ]; (repeat' first | trivial | rfl | constructor)))) ?_
        refine any_take 13 rfl (by first | rfl | decide +kernel) rfl (by first | exact HeldL.refl _ | exact HeldL.append _ _ | simp [HeldL]) (fun H' hH => OpOk.step (OpOk.bool (d := false) (ok_binOp rfl ti_int rfl) (by simp))) ?_
        refine any_take 14 rfl (by first | rfl | decide +kernel) rfl (by first | exact HeldL.refl _ | exact HeldL.append _ _ | simp [HeldL]) (fun H' hH => OpOk.step (OpOk.bool (d := false) (ok_pickb rfl rfl rfl) (rfl))) ?_
        refine any_done rfl ?_
        refine keepK hK9 [1, 2, 3, 7, 9, 48] (by dsimp) (by dsimp) ?_
        refine T.cond_false rfl ?_
        refine T.skip ?_
        refine keepK hK8 [1, 2, 3, 7, 9] (by dsimp) (by dsimp) ?_
        refine T.seq fun K10 hK10 => ?_
        refine T.seq fun K11 hK11 => ?_
        refine T.region ?_ -- region 7
        refine ro rfl rfl (OpOk.step (ok_move (.inl rfl))) ?_
        refine ro rfl rfl (OpOk.step (ok_binOp rfl ti_int rfl)) ?_
        refine ro_nil ?_
        refine keepK hK11 [1, 2, 3, 7, 50] (by dsimp) (by dsimp) ?_
        refine T.cond rfl (fun hc => ?_) (fun hc => ?_) -- cond 2
        · (try simp only [decide_eq_true_eq, decide_eq_false_iff_not, beq_iff_eq, beq_eq_false_iff_ne, bne_iff_ne, bne_eq_false_iff_eq, ne_eq, Bool.not_eq_true', Bool.not_eq_false'] at hc)
          obtain ⟨e1, e2⟩ := hA1 hc
          rw [e1, e2]
          refine T.seq fun K12 hK12 => ?_
          refine T.region ?_ -- region 8
          refine ro rfl rfl (OpOk.step ((ok_load rfl ti_stripe_Buf rfl rfl).eq (x' := .agg (BufC c' 0 [])) rfl rfl)) ?_
          refine ro rfl rfl (ok_call rfl rfl rfl ((at15_ok c' 0 []).plain (by show renL _ [.agg (BufC c' 0 [])] = _; simp [renL, AV.ren, BufC_ren]) rfl)) ?_
          refine ro rfl rfl (OpOk.step (ok_binOp rfl ti_int rfl)) ?_
          refine ro rfl rfl (OpOk.step (OpOk.bool (d := true) (ok_moveb (.inl rfl) rfl) (rfl))) ?_
          refine ro rfl rfl (OpOk.step ((ok_load rfl ti_stripe_Buf rfl rfl).eq (x' := .agg (BufC c' 0 [])) rfl rfl)) ?_
          refine ro rfl rfl (ok_call rfl rfl rfl (((par_ok c' 0 [] (fun l hl => by simp at hl) (by decide) (by simp)).plain (by show renL _ [.agg (BufC c' 0 [])] = _; simp [renL, AV.ren, BufC_ren]) (by simp [AV.ren, renL_ints])).eq (x' := .fz 1 (ints .u8 [])) (by rw [parC_nil]) rfl)) ?_
          refine ro rfl rfl (OpOk.step (ok_len' rfl rfl ti_Luint8 rfl (by first | exact ints_length _ _ | exact rowsA_length _ _ | exact Cms_len _ | exact mapLen _ | rfl))) ?_
          refine ro rfl rfl (OpOk.step (ok_binOp rfl ti_int rfl)) ?_
          refine ro rfl rfl (OpOk.step (ok_pick rfl rfl)) ?_
          refine ro rfl rfl (OpOk.step (OpOk.bool (d := true) (ok_moveb (.inl rfl) rfl) (rfl))) ?_
          refine ro rfl rfl (ok_call rfl rfl rfl (live15_ok.plain rfl rfl)) ?_
          refine ro rfl rfl (OpOk.step (ok_pick rfl rfl)) ?_
          refine ro rfl rfl (OpOk.step (ok_move (.inr rfl))) ?_
          refine ro_nil ?_
          refine keepK hK12 [6] (by dsimp) (by dsimp) ?_
          refine T.ret (hQ _ _ _ rfl ?_).1 -- ret 3
          exact TEnt.fin [] (by decide) (by simp) rfl ⟨rfl, trivial⟩
        · (try simp only [decide_eq_true_eq, decide_eq_false_iff_not, beq_iff_eq, beq_eq_false_iff_ne, bne_iff_ne, bne_eq_false_iff_eq, ne_eq, Bool.not_eq_true', Bool.not_eq_false'] at hc)
          have hF0 : F = 0 := by omega
          obtain ⟨e1, e2, e3, hchk⟩ := hA0 hF0
          rw [e1, e2, e3]
          refine T.skip ?_
          refine keepK hK10 [1, 2, 3, 7] (by dsimp) (by dsimp) ?_
          refine T.seq fun K13 hK13 => ?_
          refine T.drawH mixed [] ?_ -- region 9
          refine any_take 0 rfl (by first | rfl | decide +kernel) rfl (HeldL.refl _) (fun H' hH => OpOk.step ((ok_load rfl ti_stripe_Buf (locA_held hH rfl) rfl).eq (x' := .agg (BufC c w ls)) rfl rfl)) ?_
          refine any_take 2 rfl (by first | rfl | decide +kernel) rfl (HeldL.refl _) (fun H' hH => OpOk.step (ok_move (.inl rfl))) ?_
          refine any_one 1 rfl (by first | rfl | decide +kernel) rfl rfl (ok_call rfl rfl rfl ((at15_ok c w ls).plain (by show renL _ [.agg (BufC c w ls)] = _; simp [renL, AV.ren, BufC_ren]) rfl)) (.inr (by first | (simp [HeldL]; done) | (simp only [HeldL, List.map_cons, List.map_nil, List.cons_append, List.nil_append, List.set_cons_zero, List.set_cons_succ]; (repeat' first | trivial | rfl | constructor)))) ?_
          refine any_take 3 rfl (by first | rfl | decide +kernel) rfl (by first | exact HeldL.refl _ | exact HeldL.append _ _ | simp [HeldL]) (fun H' hH => OpOk.step (ok_binOp rfl ti_int rfl)) ?_
          refine any_take 4 rfl (by first | rfl | decide +kernel) rfl (by first | exact HeldL.refl _ | exact HeldL.append _ _ | simp [HeldL]) (fun H' hH => OpOk.step (OpOk.bool (d := true) (ok_moveb (.inl rfl) rfl) (by simp))) ?_
          refine any_take 5 rfl (by first | rfl | decide +kernel) rfl (by first | exact HeldL.refl _ | exact HeldL.append _ _ | simp [HeldL]) (fun H' hH => OpOk.step (ok_move (.inl rfl))) ?_
          refine any_take 6 rfl (by first | rfl | decide +kernel) rfl (by first | exact HeldL.refl _ | exact HeldL.append _ _ | simp [HeldL]) (fun H' hH => OpOk.step (ok_len' rfl rfl ti_LLuint8 rfl (by first | exact ints_length _ _ | exact rowsA_length _ _ | exact Cms_len _ | exact mapLen _ | rfl))) ?_
          refine any_take 7 rfl (by first | rfl | decide +kernel) rfl (by first | exact HeldL.refl _ | exact HeldL.append _ _ | simp [HeldL]) (fun H' hH => OpOk.step (ok_binOp rfl ti_int rfl)) ?_
          refine any_take_case 8 rfl (by first | rfl | decide +kernel) rfl (by first | exact HeldL.refl _ | exact HeldL.append _ _ | simp [HeldL]) (fun H' hH => OpOk.step (ok_moveb (.inl rfl) rfl)) (fun hb => ?_) (fun hb => ?_)
          · (try simp only [decide_eq_true_eq, decide_eq_false_iff_not, beq_iff_eq, beq_eq_false_iff_ne, bne_iff_ne, bne_eq_false_iff_eq, ne_eq, Bool.not_eq_true', Bool.not_eq_false'] at hb)
            refine any_skip 9 rfl (by first | rfl | decide +kernel) rfl (by first | exact HeldL.refl _ | exact HeldL.append _ _ | simp [HeldL]) ?_
            refine any_skip 12 rfl (by first | rfl | decide +kernel) rfl (by first | exact HeldL.refl _ | exact HeldL.append _ _ | simp [HeldL]) ?_
            refine any_skip 13 rfl (by first | rfl | decide +kernel) rfl (by first | exact HeldL.refl _ | exact HeldL.append _ _ | simp [HeldL]) ?_
            refine any_one_skip 10 rfl (by first | rfl | decide +kernel) rfl rfl (.inr (by first | exact HeldL.refl _ | exact HeldL.append _ _ | simp [HeldL])) ?_
            refine any_skip 11 rfl (by first | rfl | decide +kernel) rfl (by first | exact HeldL.refl _ | exact HeldL.append _ _ | simp [HeldL]) ?_
            refine any_one_skip 14 rfl (by first | rfl | decide +kernel) rfl rfl (.inr (by first | exact HeldL.refl _ | exact HeldL.append _ _ | simp [HeldL])) ?_
            refine any_skip 15 rfl (by first | rfl | decide +kernel) rfl (by first | exact HeldL.refl _ | exact HeldL.append _ _ | simp [HeldL]) ?_
            refine any_skip 16 rfl (by first | rfl | decide +kernel) rfl (by first | exact HeldL.refl _ | exact HeldL.append _ _ | simp [HeldL]) ?_
            refine any_take 17 rfl (by first | rfl | decide +kernel) rfl (by first | exact HeldL.refl _ | exact HeldL.append _ _ | simp [HeldL]) (fun H' hH => OpOk.step (ok_pickb (t := true) (d := true) rfl rfl rfl)) ?_
            refine any_take 18 rfl (by first | rfl | decide +kernel) rfl (by first | exact HeldL.refl _ | exact HeldL.append _ _ | simp [HeldL]) (fun H' hH => OpOk.step (ok_pickb (t := true) (d := true) rfl rfl rfl)) ?_
            refine any_take 19 rfl (by first | rfl | decide +kernel) rfl (by first | exact HeldL.refl _ | exact HeldL.append _ _ | simp [HeldL]) (fun H' hH => OpOk.step (OpOk.bool (d := true) (ok_moveb (.inl rfl) rfl) (by first | rfl | (rw [strEq_refl])))) ?_
            refine any_one 20 rfl (by first | rfl | decide +kernel) rfl rfl (ok_call rfl rfl rfl (live15_ok.plain rfl rfl)) (.inr (by first | (simp [HeldL]; done) | (simp only [HeldL, List.map_cons, List.map_nil, List.cons_append, List.nil_append, List.set_cons_zero, List.set_cons_succ]; (repeat' first | trivial | rfl | constructor)))) ?_
            refine any_take 21 rfl (by first | rfl | decide +kernel) rfl (by first | exact HeldL.refl _ | exact HeldL.append _ _ | simp [HeldL]) (fun H' hH => OpOk.step (ok_pick rfl rfl)) ?_
            refine any_take 22 rfl (by first | rfl | decide +kernel) rfl (by first | exact HeldL.refl _ | exact HeldL.append _ _ | simp [HeldL]) (fun H' hH => OpOk.step (ok_move (.inr rfl))) ?_
            refine any_done rfl ?_
            refine keepK hK13 [6] (by dsimp) (by dsimp) ?_
            refine T.ret (hQ _ _ _ rfl ?_).1 -- ret 4
            exact TEnt.fin [] (by decide) (by simp) rfl ⟨rfl, trivial⟩
          · (try simp only [decide_eq_true_eq, decide_eq_false_iff_not, beq_iff_eq, beq_eq_false_iff_ne, bne_iff_ne, bne_eq_false_iff_eq, ne_eq, Bool.not_eq_true', Bool.not_eq_false'] at hb)
            have hne : ls ≠ [] := by intro h; subst h; simp at hb
            have hpe : parC c ls = O := by rw [← hO]; exact if_pos ⟨hchk, hne⟩
            refine any_take 9 rfl (by first | rfl | decide +kernel) rfl (by first | exact HeldL.refl _ | exact HeldL.append _ _ | simp [HeldL]) (fun H' hH => OpOk.step ((ok_load rfl ti_stripe_Buf (locA_held hH rfl) rfl).eq (x' := .agg (BufC c w ls)) rfl rfl)) ?_
            refine any_take 12 rfl (by first | rfl | decide +kernel) rfl (by first | exact HeldL.refl _ | exact HeldL.append _ _ | simp [HeldL]) (fun H' hH => OpOk.step (ok_load rfl ti_api_Conf (locA_held hH rfl) rfl)) ?_
            refine any_take 13 rfl (by first | rfl | decide +kernel) rfl (by first | exact HeldL.refl _ | exact HeldL.append _ _ | simp [HeldL]) (fun H' hH => OpOk.step (ok_move (.inl rfl))) ?_
            refine any_one 10 rfl (by first | rfl | decide +kernel) rfl rfl (ok_call rfl rfl rfl (((par_ok c w ls hB (by omega) hl).plain (by show renL _ [.agg (BufC c w ls)] = _; simp [renL, AV.ren, BufC_ren]) (by simp [AV.ren, renL_ints])).eq (x' := .fz 1 (ints .u8 O)) (by rw [hpe]) rfl)) (.inr (by first | (simp [HeldL]; done) | (simp only [HeldL, List.map_cons, List.map_nil, List.cons_append, List.nil_append, List.set_cons_zero, List.set_cons_succ]; (repeat' first | trivial | rfl | constructor)))) ?_
            refine any_take 11 rfl (by first | rfl | decide +kernel) rfl (by first | exact HeldL.refl _ | exact HeldL.append _ _ | simp [HeldL]) (fun H' hH => OpOk.step (ok_conv_str rfl ti_Luint8 ti_string rfl ti_uint8 rfl rfl (rowA_held hH rfl) rfl (bytesOf_ints _))) ?_
            refine any_one 14 rfl (by first | rfl | decide +kernel) rfl rfl (ok_call rfl rfl rfl (((rover_frz c ls hB (by omega) hl).plain (by simp [renL, AV.ren, CC_take', CC_ren, renL_rowsA]) (by simp [AV.ren, renL_ints])).eq (x' := .fz 1 (ints .u8 O)) (by rw [hO]) rfl)) (.inr (by first | (simp [HeldL]; done) | (simp only [HeldL, List.map_cons, List.map_nil, List.cons_append, List.nil_append, List.set_cons_zero, List.set_cons_succ]; (repeat' first | trivial | rfl | constructor)))) ?_
            refine any_take 15 rfl (by first | rfl | decide +kernel) rfl (by first | exact HeldL.refl _ | exact HeldL.append _ _ | simp [HeldL]) (fun H' hH => OpOk.step (ok_conv_str rfl ti_Luint8 ti_string rfl ti_uint8 rfl rfl (rowA_held hH rfl) rfl (bytesOf_ints _))) ?_
            refine any_take 16 rfl (by first | rfl | decide +kernel) rfl (by first | exact HeldL.refl _ | exact HeldL.append _ _ | simp [HeldL]) (fun H' hH => OpOk.step ((ok_binOp rfl ti_string rfl).eq (x' := .b (strEq O O)) rfl rfl)) ?_
            refine any_take 17 rfl (by first | rfl | decide +kernel) rfl (by first | exact HeldL.refl _ | exact HeldL.append _ _ | simp [HeldL]) (fun H' hH => OpOk.step (ok_pick rfl rfl)) ?_
            refine any_take 18 rfl (by first | rfl | decide +kernel) rfl (by first | exact HeldL.refl _ | exact HeldL.append _ _ | simp [HeldL]) (fun H' hH => OpOk.step (ok_pick rfl rfl)) ?_
            refine any_take 19 rfl (by first | rfl | decide +kernel) rfl (by first | exact HeldL.refl _ | exact HeldL.append _ _ | simp [HeldL]) (fun H' hH => OpOk.step (OpOk.bool (d := true) (ok_moveb (.inl rfl) rfl) (by first | rfl | (rw [strEq_refl])))) ?_
            refine any_one 20 rfl (by first | rfl | decide +kernel) rfl rfl (ok_call rfl rfl rfl (live15_ok.plain rfl rfl)) (.inr (by first | (simp [HeldL]; done) | (simp only [HeldL, List.map_cons, List.map_nil, List.cons_append, List.nil_append, List.set_cons_zero, List.set_cons_succ]; (repeat' first | trivial | rfl | constructor)))) ?_
            refine any_take 21 rfl (by first | rfl | decide +kernel) rfl (by first | exact HeldL.refl _ | exact HeldL.append _ _ | simp [HeldL]) (fun H' hH => OpOk.step (ok_pick rfl rfl)) ?_
            refine any_take 22 rfl (by first | rfl | decide +kernel) rfl (by first | exact HeldL.refl _ | exact HeldL.append _ _ | simp [HeldL]) (fun H' hH => OpOk.step (ok_move (.inr rfl))) ?_
            refine any_done rfl ?_
            refine keepK hK13 [6] (by dsimp) (by dsimp) ?_
            refine T.ret (hQ _ _ _ rfl ?_).1 -- ret 5
            exact TEnt.fin [] (by decide) (by simp) rfl ⟨rfl, trivial⟩
    · (try simp only [decide_eq_true_eq, decide_eq_false_iff_not, beq_iff_eq, beq_eq_false_iff_ne, bne_iff_ne, bne_eq_false_iff_eq, ne_eq, Bool.not_eq_true', Bool.not_eq_false'] at hb)
      refine ro_skip rfl rfl ?_
      refine ro_skip rfl rfl ?_
      refine ro_skip rfl rfl ?_
      refine ro rfl rfl (OpOk.step (ok_pickb (t := false) (d := false) rfl rfl rfl)) ?_
      refine ro rfl rfl (OpOk.step (ok_pickb (t := false) (d := false) rfl rfl rfl)) ?_
      refine ro_nil ?_
      refine keepK hK3 [1, 2, 3, 21] (by dsimp) (by dsimp) ?_
      refine T.cond_false rfl ?_
      refine T.skip ?_
      refine keepK hK2 [1, 2, 3] (by dsimp) (by dsimp) ?_
      refine T.seq fun K14 hK14 => ?_
      have hfew : FewL ls := by simp_all
      have hl8 := hfew.lens
      have hl50 := hfew.1
      obtain ⟨c', w', ls', hA, hA0, hA1⟩ := newA_parts c w ls
      have hls' : ls'.length ≤ 50 ∧ BB ls' ∧ ∀ l ∈ ls', l.length ≤ 140737488355328 := by
        by_cases h : rightE c w ls = 0
        · obtain ⟨_, _, rfl, _⟩ := hA0 h; exact ⟨hl50, hB, hl⟩
        · obtain ⟨_, rfl⟩ := hA1 h; exact ⟨by simp, fun l hl => by simp at hl, by simp⟩
      generalize hF : rightE c w ls = F at hA hA0 hA1
      generalize hO : overC c ls = O
      refine T.region ?_ -- region 3
      refine ro rfl rfl (OpOk.step (ok_load rfl ti_api_Conf rfl rfl)) ?_
      refine ro rfl rfl (OpOk.step (ok_move (.inl rfl))) ?_
      refine ro rfl rfl (OpOk.step (ok_move (.inl rfl))) ?_
      refine ro rfl rfl (ok_call rfl rfl rfl (((bnew_ok c w ls (by omega) hl).plain (by simp [renL, AV.ren, CC_take', CC_ren, renL_rowsA]) (newA_ren _ _ _ _)).eq (x' := .tup [.agg (BufC c' w' ls'), .int F]) hA rfl)) ?_
      refine ro rfl rfl (OpOk.step (ok_move (.inl rfl))) ?_
      refine ro rfl rfl (OpOk.step (ok_extract rfl rfl rfl)) ?_
      refine ro rfl rfl (OpOk.step (ok_extract rfl rfl rfl)) ?_
      refine ro rfl rfl (OpOk.step (ok_alloc rfl ti_stripe_Buf rfl (by decide))) ?_
      refine ro rfl rfl (OpOk.step ((ok_store rfl ti_stripe_Buf (by decide) rfl rfl rfl rfl rfl (Nat.le_of_ble_eq_true rfl) (.inl ⟨rfl, rfl⟩)).eq (x' := .any) (H'' := [some (CB c), some (BufB c' w' ls')]) rfl rfl)) ?_
      refine ro rfl rfl (OpOk.step (ok_move (.inr rfl))) ?_
      refine ro_nil ?_
      refine keepK hK14 [1, 2, 3, 7, 8] (by dsimp) (by dsimp) ?_
      refine T.seq fun K15 hK15 => ?_
      refine T.region ?_ -- region 4
      refine ro rfl rfl (OpOk.step (ok_load rfl ti_api_Conf rfl rfl)) ?_
      refine ro rfl rfl (OpOk.step (ok_move (.inl rfl))) ?_
      refine ro rfl rfl (OpOk.step (ok_move (.inl rfl))) ?_
      refine ro rfl rfl (ok_call rfl rfl rfl (((rright_ok c w ls hn).plain (by simp [renL, AV.ren, CC_take', CC_ren, renL_rowsA]) rfl).eq (x' := .int F) (by rw [hF]) rfl)) ?_
      refine ro rfl rfl (OpOk.step (ok_move (.inr rfl))) ?_
      refine ro_nil ?_
      refine keepK hK15 [1, 2, 3, 7, 8, 9] (by dsimp) (by dsimp) ?_
      refine T.seq fun K16 hK16 => ?_
      refine T.seq fun K17 hK17 => ?_
      refine T.drawH mixed [] ?_ -- region 5
      refine any_take 0 rfl (by first | rfl | decide +kernel) rfl (HeldL.refl _) (fun H' hH => OpOk.step (ok_load rfl ti_api_Conf (locA_held hH rfl) rfl)) ?_
      refine any_take 1 rfl (by first | rfl | decide +kernel) rfl (HeldL.refl _) (fun H' hH => OpOk.step (ok_move (.inl rfl))) ?_
      refine any_take 4 rfl (by first | rfl | decide +kernel) rfl (HeldL.refl _) (fun H' hH => OpOk.step (ok_load rfl ti_api_Conf (locA_held hH rfl) rfl)) ?_
      refine any_take 5 rfl (by first | rfl | decide +kernel) rfl (HeldL.refl _) (fun H' hH => OpOk.step (ok_move (.inl rfl))) ?_
      refine any_one 2 rfl (by first | rfl | decide +kernel) rfl rfl (ok_call rfl rfl rfl (((over_frz c ls hB (by omega) hl).plain (by simp [renL, AV.ren, CC_take', CC_ren, renL_rowsA]) (by simp [AV.ren, renL_ints])).eq (x' := .fz 1 (ints .u8 O)) (by rw [hO]) rfl)) (.inr (by first | (simp [HeldL]; done) | (simp only [HeldL, List.map_cons, List.map_nil, List.cons_append, List.nil_append, List.set_cons_zero, List.set_cons_succ]; (repeat' first | trivial | rfl | constructor)))) ?_
      refine any_take 3 rfl (by first | rfl | decide +kernel) rfl (by first | exact HeldL.refl _ | exact HeldL.append _ _ | simp [HeldL]) (fun H' hH => OpOk.step (ok_conv_str rfl ti_Luint8 ti_string rfl ti_uint8 rfl rfl (rowA_held hH rfl) rfl (bytesOf_ints _))) ?_
      refine any_one 6 rfl (by first | rfl | decide +kernel) rfl rfl (ok_call rfl rfl rfl (((rover_frz c ls hB (by omega) hl).plain (by simp [renL, AV.ren, CC_take', CC_ren, renL_rowsA]) (by simp [AV.ren, renL_ints])).eq (x' := .fz 1 (ints .u8 O)) (by rw [hO]) rfl)) (.inr (by first | (simp [HeldL]; done) | (simp only [HeldL, List.map_cons, List.map_nil, List.cons_append, List.nil_append, List.set_cons_zero, List.set_cons_succ]; (repeat' first | trivial | rfl | constructor)))) ?_
      refine any_take 7 rfl (by first | rfl | decide +kernel) rfl (by first | exact HeldL.refl _ | exact HeldL.append _ _ | simp [HeldL]) (fun H' hH => OpOk.step (ok_conv_str rfl ti_Luint8 ti_string rfl ti_uint8 rfl rfl (rowA_held hH rfl) rfl (bytesOf_ints _))) ?_
      refine any_take 8 rfl (by first | rfl | decide +kernel) rfl (by first | exact HeldL.refl _ | exact HeldL.append _ _ | simp [HeldL]) (fun H' hH => OpOk.step ((ok_binOp rfl ti_string rfl).eq (x' := .b (!strEq O O)) rfl rfl)) ?_
      refine any_take 9 rfl (by first | rfl | decide +kernel) rfl (by first | exact HeldL.refl _ | exact HeldL.append _ _ | simp [HeldL]) (fun H' hH => OpOk.step (OpOk.bool (d := false) (ok_moveb (.inl rfl) rfl) (by rw [strEq_refl]; rfl))) ?_
      refine any_take 10 rfl (by first | rfl | decide +kernel) rfl (by first | exact HeldL.refl _ | exact HeldL.append _ _ | simp [HeldL]) (fun H' hH => OpOk.step (ok_move (.inl rfl))) ?_
      refine any_take 12 rfl (by first | rfl | decide +kernel) rfl (by first | exact HeldL.refl _ | exact HeldL.append _ _ | simp [HeldL]) (fun H' hH => OpOk.step (ok_move (.inl rfl))) ?_
      refine any_one 11 rfl (by first | rfl | decide +kernel) rfl rfl (ok_call rfl rfl rfl ((code15_ok F).plain rfl rfl)) (.inr (by first | (simp [HeldL]; done) | (simp only [HeldL, List.map_cons, List.map_nil, List.cons_append, List.nil_append, List.set_cons_zero, List.set_cons_succ]; (repeat' first | trivial | rfl | constructor)))) ?_
      refine any_take 13 rfl (by first | rfl | decide +kernel) rfl (by first | exact HeldL.refl _ | exact HeldL.append _ _ | simp [HeldL]) (fun H' hH => OpOk.step (OpOk.bool (d := false) (ok_binOp rfl ti_int rfl) (by simp))) ?_
      refine any_take 14 rfl (by first | rfl | decide +kernel) rfl (by first | exact HeldL.refl _ | exact HeldL.append _ _ | simp [HeldL]) (fun H' hH => OpOk.step (OpOk.bool (d := false) (ok_pickb rfl rfl rfl) (rfl))) ?_
      refine any_done rfl ?_
      refine keepK hK17 [1, 2, 3, 7, 9, 48] (by dsimp) (by dsimp) ?_
      refine T.cond_false rfl ?_
      refine T.skip ?_
      refine keepK hK16 [1, 2, 3, 7, 9] (by dsimp) (by dsimp) ?_
      refine T.seq fun K18 hK18 => ?_
      refine T.seq fun K19 hK19 => ?_
      refine T.region ?_ -- region 7
      refine ro rfl rfl (OpOk.step (ok_move (.inl rfl))) ?_
      refine ro rfl rfl (OpOk.step (ok_binOp rfl ti_int rfl)) ?_
      refine ro_nil ?_
      refine keepK hK19 [1, 2, 3, 7, 50] (by dsimp) (by dsimp) ?_
      refine T.cond rfl (fun hc => ?_) (fun hc => ?_) -- cond 3
      · (try simp only [decide_eq_true_eq, decide_eq_false_iff_not, beq_iff_eq, beq_eq_false_iff_ne, bne_iff_ne, bne_eq_false_iff_eq, ne_eq, Bool.not_eq_true', Bool.not_eq_false'] at hc)
        obtain ⟨e1, e2⟩ := hA1 hc
        rw [e1, e2]
        refine T.seq fun K20 hK20 => ?_
        refine T.region ?_ -- region 8
        refine ro rfl rfl (OpOk.step ((ok_load rfl ti_stripe_Buf rfl rfl).eq (x' := .agg (BufC c' 0 [])) rfl rfl)) ?_
        refine ro rfl rfl (ok_call rfl rfl rfl ((at15_ok c' 0 []).plain (by show renL _ [.agg (BufC c' 0 [])] = _; simp [renL, AV.ren, BufC_ren]) rfl)) ?_
        refine ro rfl rfl (OpOk.step (ok_binOp rfl ti_int rfl)) ?_
        refine ro rfl rfl (OpOk.step (OpOk.bool (d := true) (ok_moveb (.inl rfl) rfl) (rfl))) ?_
        refine ro rfl rfl (OpOk.step ((ok_load rfl ti_stripe_Buf rfl rfl).eq (x' := .agg (BufC c' 0 [])) rfl rfl)) ?_
        refine ro rfl rfl (ok_call rfl rfl rfl (((par_ok c' 0 [] (fun l hl => by simp at hl) (by decide) (by simp)).plain (by show renL _ [.agg (BufC c' 0 [])] = _; simp [renL, AV.ren, BufC_ren]) (by simp [AV.ren, renL_ints])).eq (x' := .fz 1 (ints .u8 [])) (by rw [parC_nil]) rfl)) ?_
        refine ro rfl rfl (OpOk.step (ok_len' rfl rfl ti_Luint8 rfl (by first | exact ints_length _ _ | exact rowsA_length _ _ | exact Cms_len _ | exact mapLen _ | rfl))) ?_
        refine ro rfl rfl (OpOk.step (ok_binOp rfl ti_int rfl)) ?_
        refine ro rfl rfl (OpOk.step (ok_pick rfl rfl)) ?_
        refine ro rfl rfl (OpOk.step (OpOk.bool (d := true) (ok_moveb (.inl rfl) rfl) (rfl))) ?_
        refine ro rfl rfl (ok_call rfl rfl rfl (live15_ok.plain rfl rfl)) ?_
        refine ro rfl rfl (OpOk.step (ok_pick rfl rfl)) ?_
        refine ro rfl rfl (OpOk.step (ok_move (.inr rfl))) ?_
        refine ro_nil ?_
        refine keepK hK20 [6] (by dsimp) (by dsimp) ?_
        refine T.ret (hQ _ _ _ rfl ?_).1 -- ret 6
        exact TEnt.fin [] (by decide) (by simp) rfl ⟨rfl, trivial⟩
      · (try simp only [decide_eq_true_eq, decide_eq_false_iff_not, beq_iff_eq, beq_eq_false_iff_ne, bne_iff_ne, bne_eq_false_iff_eq, ne_eq, Bool.not_eq_true', Bool.not_eq_false'] at hc)
        have hF0 : F = 0 := by omega
        obtain ⟨e1, e2, e3, hchk⟩ := hA0 hF0
        rw [e1, e2, e3]
        refine T.skip ?_
        refine keepK hK18 [1, 2, 3, 7] (by dsimp) (by dsimp) ?_
        refine T.seq fun K21 hK21 => ?_
        refine T.drawH mixed [] ?_ -- region 9
        refine any_take 0 rfl (by first | rfl | decide +kernel) rfl (HeldL.refl _) (fun H' hH => OpOk.step ((ok_load rfl ti_stripe_Buf (locA_held hH rfl) rfl).eq (x' := .agg (BufC c w ls)) rfl rfl)) ?_
        refine any_take 2 rfl (by first | rfl | decide +kernel) rfl (HeldL.refl _) (fun H' hH => OpOk.step (ok_move (.inl rfl))) ?_
        refine any_one 1 rfl (by first | rfl | decide +kernel) rfl rfl (ok_call rfl rfl rfl ((at15_ok c w ls).plain (by show renL _ [.agg (BufC c w ls)] = _; simp [renL, AV.ren, BufC_ren]) rfl)) (.inr (by first | (simp [HeldL]; done) | (simp only [HeldL, List.map_cons, List.map_nil, List.cons_append, List.nil_append, List.set_cons_zero, List.set_cons_succ]; (repeat' first | trivial | rfl | constructor)))) ?_
        refine any_take 3 rfl (by first | rfl | decide +kernel) rfl (by first | exact HeldL.refl _ | exact HeldL.append _ _ | simp [HeldL]) (fun H' hH => OpOk.step (ok_binOp rfl ti_int rfl)) ?_
        refine any_take 4 rfl (by first | rfl | decide +kernel) rfl (by first | exact HeldL.refl _ | exact HeldL.append _ _ | simp [HeldL]) (fun H' hH => OpOk.step (OpOk.bool (d := true) (ok_moveb (.inl rfl) rfl) (by simp))) ?_
        refine any_take 5 rfl (by first | rfl | decide +kernel) rfl (by first | exact HeldL.refl _ | exact HeldL.append _ _ | simp [HeldL]) (fun H' hH => OpOk.step (ok_move (.inl rfl))) ?_
        refine any_take 6 rfl (by first | rfl | decide +kernel) rfl (by first | exact HeldL.refl _ | exact HeldL.append _ _ | simp [HeldL]) (fun H' hH => OpOk.step (ok_len' rfl rfl ti_LLuint8 rfl (by first | exact ints_length _ _ | exact rowsA_length _ _ | exact Cms_len _ | exact mapLen _ | rfl))) ?_
        refine any_take 7 rfl (by first | rfl | decide +kernel) rfl (by first | exact HeldL.refl _ | exact HeldL.append _ _ | simp [HeldL]) (fun H' hH => OpOk.step (ok_binOp rfl ti_int rfl)) ?_
        refine any_take_case 8 rfl (by first | rfl | decide +kernel) rfl (by first | exact HeldL.refl _ | exact HeldL.append _ _ | simp [HeldL]) (fun H' hH => OpOk.step (ok_moveb (.inl rfl) rfl)) (fun hb => ?_) (fun hb => ?_)
        · (try simp only [decide_eq_true_eq, decide_eq_false_iff_not, beq_iff_eq, beq_eq_false_iff_ne, bne_iff_ne, bne_eq_false_iff_eq, ne_eq, Bool.not_eq_true', Bool.not_eq_false'] at hb)
          refine any_skip 9 rfl (by first | rfl | decide +kernel) rfl (by first | exact HeldL.refl _ | exact HeldL.append _ _ | simp [HeldL]) ?_
          refine any_skip 12 rfl (by first | rfl | decide +kernel) rfl (by first | exact HeldL.refl _ | exact HeldL.append _ _ | simp [HeldL]) ?_
          refine any_skip 13 rfl (by first | rfl | decide +kernel) rfl (by first | exact HeldL.refl _ | exact HeldL.append _ _ | simp [HeldL]) ?_
          refine any_one_skip 10 rfl (by first | rfl | decide +kernel) rfl rfl (.inr (by first | exact HeldL.refl _ | exact HeldL.append _ _ | simp [HeldL])) ?_
          refine any_skip 11 rfl (by first | rfl | decide +kernel) rfl (by first | exact HeldL.refl _ | exact HeldL.append _ _ | simp [HeldL]) ?_
          refine any_one_skip 14 rfl (by first | rfl | decide +kernel) rfl rfl (.inr (by first | exact HeldL.refl _ | exact HeldL.append _ _ | simp [HeldL])) ?_
          refine any_skip 15 rfl (by first | rfl | decide +kernel) rfl (by first | exact HeldL.refl _ | exact HeldL.append _ _ | simp [HeldL]) ?_
          refine any_skip 16 rfl (by first | rfl | decide +kernel) rfl (by first | exact HeldL.refl _ | exact HeldL.append _ _ | simp [HeldL]) ?_
          refine any_take 17 rfl (by first | rfl | decide +kernel) rfl (by first | exact HeldL.refl _ | exact HeldL.append _ _ | simp [HeldL]) (fun H' hH => OpOk.step (ok_pickb (t := true) (d := true) rfl rfl rfl)) ?_
          refine any_take 18 rfl (by first | rfl | decide +kernel) rfl (by first | exact HeldL.refl _ | exact HeldL.append _ _ | simp [HeldL]) (fun H' hH => OpOk.step (ok_pickb (t := true) (d := true) rfl rfl rfl)) ?_
          refine any_take 19 rfl (by first | rfl | decide +kernel) rfl (by first | exact HeldL.refl _ | exact HeldL.append _ _ | simp [HeldL]) (fun H' hH => OpOk.step (OpOk.bool (d := true) (ok_moveb (.inl rfl) rfl) (by first | rfl | (rw [strEq_refl])))) ?_
          refine any_one 20 rfl (by first | rfl | decide +kernel) rfl rfl (ok_call rfl rfl rfl (live15_ok.plain rfl rfl)) (.inr (by first | (simp [HeldL]; done) | (simp only [HeldL, List.map_cons, List.map_nil, List.cons_append, List.nil_append, List.set_cons_zero, List.set_cons_succ]; (repeat' first | trivial | rfl | constructor)))) ?_
          refine any_take 21 rfl (by first | rfl | decide +kernel) rfl (by first | exact HeldL.refl _ | exact HeldL.append _ _ | simp [HeldL]) (fun H' hH => OpOk.step (ok_pick rfl rfl)) ?_
          refine any_take 22 rfl (by first | rfl | decide +kernel) rfl (by first | exact HeldL.refl _ | exact HeldL.append _ _ | simp [HeldL]) (fun H' hH => OpOk.step (ok_move (.inr rfl))) ?_
          refine any_done rfl ?_
          refine keepK hK21 [6] (by dsimp) (by dsimp) ?_
          refine T.ret (hQ _ _ _ rfl ?_).1 -- ret 7
          exact TEnt.fin [] (by decide) (by simp) rfl ⟨rfl, trivial⟩
        · (try simp only [decide_eq_true_eq, decide_eq_false_iff_not, beq_iff_eq, beq_eq_false_iff_ne, bne_iff_ne, bne_eq_false_iff_eq, ne_eq, Bool.not_eq_true', Bool.not_eq_false'] at hb)
          have hne : ls ≠ [] := by intro h; subst h; simp at hb
          have hpe : parC c ls = O := by rw [← hO]; exact if_pos ⟨hchk, hne⟩
          refine any_take 9 rfl (by first | rfl | decide +kernel) rfl (by first | exact HeldL.refl _ | exact HeldL.append _ _ | simp [HeldL]) (fun H' hH => OpOk.step ((ok_load rfl ti_stripe_Buf (locA_held hH rfl) rfl).eq (x' := .agg (BufC c w ls)) rfl rfl)) ?_
          refine any_take 12 rfl (by first | rfl | decide +kernel) rfl (by first | exact HeldL.refl _ | exact HeldL.append _ _ | simp [HeldL]) (fun H' hH => OpOk.step (ok_load rfl ti_api_Conf (locA_held hH rfl) rfl)) ?_
          refine any_take 13 rfl (by first | rfl | decide +kernel) rfl (by first | exact HeldL.refl _ | exact HeldL.append _ _ | simp [HeldL]) (fun H' hH => OpOk.step (ok_move (.inl rfl))) ?_
          refine any_one 10 rfl (by first | rfl | decide +kernel) rfl rfl (ok_call rfl rfl rfl (((par_ok c w ls hB (by omega) hl).plain (by show renL _ [.agg (BufC c w ls)] = _; simp [renL, AV.ren, BufC_ren]) (by simp [AV.ren, renL_ints])).eq (x' := .fz 1 (ints .u8 O)) (by rw [hpe]) rfl)) (.inr (by first | (simp [HeldL]; done) | (simp only [HeldL, List.map_cons, List.map_nil, List.cons_append, List.nil_append, List.set_cons_zero, List.set_cons_succ]; (repeat' first | trivial | rfl | constructor)))) ?_
          refine any_take 11 rfl (by first | rfl | decide +kernel) rfl (by first | exact HeldL.refl _ | exact HeldL.append _ _ | simp [HeldL]) (fun H' hH => OpOk.step (ok_conv_str rfl ti_Luint8 ti_string rfl ti_uint8 rfl rfl (rowA_held hH rfl) rfl (bytesOf_ints _))) ?_
          refine any_one 14 rfl (by first | rfl | decide +kernel) rfl rfl (ok_call rfl rfl rfl (((rover_frz c ls hB (by omega) hl).plain (by simp [renL, AV.ren, CC_take', CC_ren, renL_rowsA]) (by simp [AV.ren, renL_ints])).eq (x' := .fz 1 (ints .u8 O)) (by rw [hO]) rfl)) (.inr (by first | (simp [HeldL]; done) | (simp only [HeldL, List.map_cons, List.map_nil, List.cons_append, List.nil_append, List.set_cons_zero, List.set_cons_succ]; (repeat' first | trivial | rfl | constructor)))) ?_
          refine any_take 15 rfl (by first | rfl | decide +kernel) rfl (by first | exact HeldL.refl _ | exact HeldL.append _ _ | simp [HeldL]) (fun H' hH => OpOk.step (ok_conv_str rfl ti_Luint8 ti_string rfl ti_uint8 rfl rfl (rowA_held hH rfl) rfl (bytesOf_ints _))) ?_
          refine any_take 16 rfl (by first | rfl | decide +kernel) rfl (by first | exact HeldL.refl _ | exact HeldL.append _ _ | simp [HeldL]) (fun H' hH => OpOk.step ((ok_binOp rfl ti_string rfl).eq (x' := .b (strEq O O)) rfl rfl)) ?_
          refine any_take 17 rfl (by first | rfl | decide +kernel) rfl (by first | exact HeldL.refl _ | exact HeldL.append _ _ | simp [HeldL]) (fun H' hH => OpOk.step (ok_pick rfl rfl)) ?_
          refine any_take 18 rfl (by first | rfl | decide +kernel) rfl (by first | exact HeldL.refl _ | exact HeldL.append _ _ | simp [HeldL]) (fun H' hH => OpOk.step (ok_pick rfl rfl)) ?_
          refine any_take 19 rfl (by first | rfl | decide +kernel) rfl (by first | exact HeldL.refl _ | exact HeldL.append _ _ | simp [HeldL]) (fun H' hH => OpOk.step (OpOk.bool (d := true) (ok_moveb (.inl rfl) rfl) (by first | rfl | (rw [strEq_refl])))) ?_
          refine any_one 20 rfl (by first | rfl | decide +kernel) rfl rfl (ok_call rfl rfl rfl (live15_ok.plain rfl rfl)) (.inr (by first | (simp [HeldL]; done) | (simp only [HeldL, List.map_cons, List.map_nil, List.cons_append, List.nil_append, List.set_cons_zero, List.set_cons_succ]; (repeat' first | trivial | rfl | constructor)))) ?_
          refine any_take 21 rfl (by first | rfl | decide +kernel) rfl (by first | exact HeldL.refl _ | exact HeldL.append _ _ | simp [HeldL]) (fun H' hH => OpOk.step (ok_pick rfl rfl)) ?_
          refine any_take 22 rfl (by first | rfl | decide +kernel) rfl (by first | exact HeldL.refl _ | exact HeldL.append _ _ | simp [HeldL]) (fun H' hH => OpOk.step (ok_move (.inr rfl))) ?_
          refine any_done rfl ?_
          refine keepK hK21 [6] (by dsimp) (by dsimp) ?_
          refine T.ret (hQ _ _ _ rfl ?_).1 -- ret 8
          exact TEnt.fin [] (by decide) (by simp) rfl ⟨rfl, trivial⟩
end Go.Proofs.Ytknhemdpfdopaaa.AmF
