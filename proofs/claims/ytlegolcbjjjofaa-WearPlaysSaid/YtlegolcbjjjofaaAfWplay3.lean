/- The law WearPlays. -/
import Derived.Test.YtlegolcbjjjofaaAfWplay2
import Derived.Test.YtlegolcbjjjofaaAfConfeq
import Derived.Test.YtlegolcbjjjofaaAm19
namespace Go.Proofs.Ytlegolcbjjjofaa.AmF
open Go Go.AM
set_option maxRecDepth 100000
set_option maxHeartbeats 4000000
set_option linter.unusedSimpArgs false
set_option linter.unusedVariables false
attribute [local simp] tkeep tget tput ev cav argsTM pickA normT putA splice AV.cells ints_length rowsA_length Prs_len Zns_len tbl_len
/-- More than is asked. -/
def bigW (c : Cf) (l : List Rc) : Bool := decide (l.length > 40 ∨ chkC c = 0 ∧ ¬ smallC c)
theorem bigW_mid {c : Cf} {l : List Rc} (h1 : ¬ l.length > 40) (h2 : chkC c = 0) : bigW c l = !decide (smallC c) := by
  unfold bigW
  by_cases h : smallC c <;> simp [h, h1, h2]
theorem wearPlays_ok (c : Cf) (l : List Rc) (hl : l.length ≤ 140737488355328) (hb : ∀ x ∈ l, x.body.length ≤ 140737488355328) (hg : ∀ x ∈ l, -9223372036854775808 ≤ x.gen ∧ x.gen ≤ 9223372036854775807) : CSpec Try.prog 9 [] [.agg (CC c), .fz 10 (Rcl l)] [] (.b true) := by
 refine CSpec.body Try.func9 rfl rfl rfl rfl rfl fun Q hQ => ?_
 refine T.seq fun K1 hK1 => ?_
 refine T.region ?_ -- region 0
 refine ro rfl rfl (OpOk.step (ok_box (n := 11) rfl rfl (by decide))) ?_
 refine ro rfl rfl (OpOk.step (ok_moveb (c := false) (.inr rfl) rfl)) ?_
 refine ro_nil ?_
 refine keepK hK1 [1, 2] (by dsimp) (by dsimp) ?_
 refine T.seq fun K2 hK2 => ?_
 refine T.seq fun K3 hK3 => ?_
 refine T.join hK3 [(1, .fz 10 (Rcl l)), (2, .ref 0 0 0), (19, .b (bigW c l))] [some (CB c)] (fun hJ4 => ?_) ?_
 ·
  refine T.region ?_ -- region 1
  refine ro rfl rfl (OpOk.step (ok_move (.inl rfl))) ?_
  refine ro rfl rfl (OpOk.step (ok_len' rfl rfl ti_Lapi_Rec rfl (by first | exact ints_length _ _ | exact rowsA_length _ _ | exact Cms_len _ | exact mapLen _ | rfl))) ?_
  refine ro rfl rfl (OpOk.step (ok_binOp rfl ti_int rfl)) ?_
  refine ro_case rfl rfl (OpOk.step (ok_moveb (.inl rfl) rfl)) (fun hb => ?_) (fun hb => ?_)
  ·(try simp only [dE] at hb)
   simp only [Rcl_len] at hb
   have hw : bigW c l = true := decide_eq_true (.inl (by omega))
   refine ro_skip rfl rfl ?_
   refine ro_skip rfl rfl ?_
   refine ro_skip rfl rfl ?_
   refine ro_skip rfl rfl ?_
   refine ro_skip rfl rfl ?_
   refine ro_skip rfl rfl ?_
   refine ro_skip rfl rfl ?_
   refine ro_skip rfl rfl ?_
   refine ro rfl rfl (OpOk.step (ok_pickb (t := true) (d := true) rfl rfl rfl)) ?_
   refine ro_nil ?_
   exact hJ4 _ _ (TEnt.toH rfl ⟨rfl, rfl, by rw [hw]; rfl, trivial⟩)
  ·(try simp only [dE] at hb)
   simp only [Rcl_len] at hb
   have hb0 : ¬ l.length > 40 := by omega
   refine ro rfl rfl (OpOk.step (ok_load rfl ti_api_Conf rfl rfl)) ?_
   refine ro rfl rfl (ok_call rfl rfl rfl ((rcheck_ok c).plain (by show renL _ [.agg (CC c)] = _; simp [renL, AV.ren, CC_ren]) rfl)) ?_
   refine ro rfl rfl (OpOk.step (ok_binOp rfl ti_int rfl)) ?_
   refine ro_case rfl rfl (OpOk.step (ok_moveb (.inl rfl) rfl)) (fun hb => ?_) (fun hb => ?_)
   ·(try simp only [dE] at hb)
    have hw := bigW_mid hb0 hb
    refine ro rfl rfl (OpOk.step (ok_load rfl ti_api_Conf rfl rfl)) ?_
    refine ro rfl rfl (ok_call rfl rfl rfl ((small_ok c).plain (by show renL _ [.agg (CC c)] = _; simp [renL, AV.ren, CC_ren]) rfl)) ?_
    refine ro rfl rfl (OpOk.step (ok_unOp rfl rfl)) ?_
    refine ro rfl rfl (OpOk.step (ok_pick rfl rfl)) ?_
    refine ro rfl rfl (OpOk.step (ok_pick rfl rfl)) ?_
    refine ro_nil ?_
    exact hJ4 _ _ (TEnt.toH rfl ⟨rfl, rfl, by rw [hw]; rfl, trivial⟩)
   ·(try simp only [dE] at hb)
    have hw : bigW c l = false := decide_eq_false (fun h => h.elim hb0 (fun h => hb h.1))
    refine ro_skip rfl rfl ?_
    refine ro_skip rfl rfl ?_
    refine ro_skip rfl rfl ?_
    refine ro rfl rfl (OpOk.step (ok_pickb (t := false) (d := false) rfl rfl rfl)) ?_
    refine ro rfl rfl (OpOk.step (ok_pickb (t := false) (d := false) rfl rfl rfl)) ?_
    refine ro_nil ?_
    exact hJ4 _ _ (TEnt.toH rfl ⟨rfl, rfl, by rw [hw]; rfl, trivial⟩)
 refine T.cond rfl (fun hc => ?_) (fun hc => ?_) -- cond 1
 ·(try simp only [dE] at hc)
  refine T.seq fun K5 hK5 => ?_
  refine T.region ?_ -- region 2
  refine ro rfl rfl (ok_call rfl rfl rfl (live40_ok.plain rfl rfl)) ?_
  refine ro rfl rfl (OpOk.step (ok_move (.inr rfl))) ?_
  refine ro_nil ?_
  refine keepK hK5 [4] (by dsimp) (by dsimp) ?_
  refine T.ret (hQ _ _ _ rfl ?_).1 -- ret 1
  exact TEnt.fin [] (by decide) (by simp) rfl ⟨rfl, trivial⟩
 ·(try simp only [dE] at hc)
  have hl40 : l.length ≤ 40 := by
    have h := of_decide_eq_false hc
    omega
  refine T.skip ?_
  refine keepK hK2 [1, 2] (by dsimp) (by dsimp) ?_
  refine T.seq fun K6 hK6 => ?_
  refine T.seq fun K7 hK7 => ?_
  refine T.region ?_ -- region 3
  refine ro rfl rfl (OpOk.step (ok_move (.inr rfl))) ?_
  refine ro_nil ?_
  refine keepK hK7 [1, 2, 5] (by dsimp) (by dsimp) ?_
  refine T.block ?_
  refine T.loopI (ι := Nat) (fun i => i ≤ l.length ∧ ∀ x ∈ l.take i, x.body.length ≤ 500) (fun i => l.length - i) (fun i => ([(1, .fz 10 (Rcl l)), (2, .ref 0 0 0), (5, .int i)], [some (CB c)])) 0 ⟨Nat.zero_le _, fun x hx => by simp at hx⟩ (TEnt.toH rfl ⟨rfl, rfl, rfl, trivial⟩) (fun i hi => ?_) -- loop 1
  obtain ⟨hil, hbi⟩ := hi
  refine T.seq fun K8 hK8 => ?_
  refine T.seq fun K9 hK9 => ?_
  refine T.region ?_ -- region 4
  refine ro rfl rfl (OpOk.step (ok_move (.inl rfl))) ?_
  refine ro rfl rfl (OpOk.step (ok_move (.inl rfl))) ?_
  refine ro rfl rfl (OpOk.step (ok_len' rfl rfl ti_Lapi_Rec rfl (by first | exact ints_length _ _ | exact rowsA_length _ _ | exact Cms_len _ | exact mapLen _ | rfl))) ?_
  refine ro rfl rfl (OpOk.step (ok_binOp rfl ti_int rfl)) ?_
  refine ro_nil ?_
  refine keepK hK9 [1, 2, 5, 24] (by dsimp) (by dsimp) ?_
  refine T.cond rfl (fun hc => ?_) (fun hc => ?_) -- cond 2
  ·(try simp only [dE] at hc)
   rw [Rcl_len] at hc
   obtain ⟨x, hx⟩ : ∃ x, l[i]? = some x := ⟨_, List.getElem?_eq_getElem (by omega)⟩
   refine T.skip ?_
   refine keepK hK8 [1, 2, 5] (by dsimp) (by dsimp) ?_
   refine T.seq fun K10 hK10 => ?_
   refine T.block ?_
   refine T.seq fun K11 hK11 => ?_
   refine T.region ?_ -- region 6
   refine ro rfl rfl (OpOk.step (ok_move (.inl rfl))) ?_
   refine ro rfl rfl (OpOk.step (ok_move (.inl rfl))) ?_
   refine ro rfl rfl (OpOk.step (by exact ok_index_map (F := RcC) rfl ti_Lapi_Rec rfl ti_api_Rec rfl rfl rfl hx (by simp [RcC]))) ?_
   refine ro rfl rfl (OpOk.step (ok_fieldAddr rfl ti_api_Rec rfl rfl ti_Luint8 (by decide) rfl)) ?_
   refine ro rfl rfl (OpOk.step (ok_load rfl ti_Luint8 rfl rfl)) ?_
   refine ro rfl rfl (OpOk.step (ok_len' rfl rfl ti_Luint8 rfl (by first | exact ints_length _ _ | exact rowsA_length _ _ | exact Cms_len _ | exact mapLen _ | rfl))) ?_
   refine ro rfl rfl (OpOk.step (ok_binOp rfl ti_int rfl)) ?_
   refine ro_nil ?_
   refine keepK hK11 [1, 2, 5, 33] (by dsimp) (by dsimp) ?_
   refine T.cond rfl (fun hc => ?_) (fun hc => ?_) -- cond 3
   ·(try simp only [dE] at hc)
    refine T.seq fun K12 hK12 => ?_
    refine T.region ?_ -- region 7
    refine ro rfl rfl (ok_call rfl rfl rfl (live40_ok.plain rfl rfl)) ?_
    refine ro rfl rfl (OpOk.step (ok_move (.inr rfl))) ?_
    refine ro_nil ?_
    refine keepK hK12 [4] (by dsimp) (by dsimp) ?_
    refine T.ret (hQ _ _ _ rfl ?_).1 -- ret 2
    exact TEnt.fin [] (by decide) (by simp) rfl ⟨rfl, trivial⟩
   ·(try simp only [dE] at hc)
    try simp only [ints_length] at hc
    refine T.skip ?_
    refine keepK hK10 [1, 2, 5] (by dsimp) (by dsimp) ?_
    refine T.region ?_ -- region 5
    refine ro rfl rfl (OpOk.step (ok_move (.inl rfl))) ?_
    refine ro rfl rfl (OpOk.step (ok_add64 rfl ti_int rfl rfl (by omega) (by omega))) ?_
    refine ro rfl rfl (OpOk.step (ok_move (.inr rfl))) ?_
    refine ro_nil ?_
    exact ⟨i + 1, ⟨by omega, all_snoc hx hbi (by omega)⟩, by omega, TEnt.toH rfl ⟨rfl, rfl, rfl, trivial⟩⟩
  ·(try simp only [dE] at hc)
   rw [Rcl_len] at hc
   have hin : i = l.length := by omega
   rw [hin, List.take_length] at hbi
   refine T.exit ?_
   refine keepK hK6 [1, 2] (by dsimp) (by dsimp) ?_
   refine T.seq fun K13 hK13 => ?_
   refine T.region ?_ -- region 8
   refine ro rfl rfl (OpOk.step (ok_load rfl ti_api_Conf rfl rfl)) ?_
   refine ro rfl rfl (OpOk.step (ok_move (.inl rfl))) ?_
   refine ro rfl rfl (ok_call rfl rfl rfl ((wplay_ok c l (by omega) hb).plain (by show renL _ [.agg (CC c), .fz 10 (Rcl l)] = _; simp [renL, AV.ren, CC_ren, Rcl_ren]) (by simp [AV.ren, renL_ints]))) ?_
   refine ro rfl rfl (OpOk.step (ok_alloc rfl ti_wear_Table rfl (by decide))) ?_
   refine ro rfl rfl (OpOk.step (by exact ok_store (x := .tmp 37) rfl ti_wear_Table (by decide) rfl rfl rfl (el := cav (.agg (Array.replicate 64 (.int .i64 0)))) rfl (fits_ints (tbl_len _)) (by simp [TBl]) (.inl ⟨rfl, rfl⟩))) ?_
   refine ro_nil ?_
   refine keepK hK13 [1, 2, 6] (by dsimp) (by dsimp) ?_
   refine T.seq fun K14 hK14 => ?_
   refine T.seq fun K15 hK15 => ?_
   refine T.region ?_ -- region 9
   refine ro rfl rfl (OpOk.step (ok_load rfl ti_api_Conf rfl rfl)) ?_
   refine ro rfl rfl (ok_call rfl rfl rfl ((rcheck_ok c).plain (by show renL _ [.agg (CC c)] = _; simp [renL, AV.ren, CC_ren]) rfl)) ?_
   refine ro rfl rfl (OpOk.step (ok_binOp rfl ti_int rfl)) ?_
   refine ro_nil ?_
   refine keepK hK15 [1, 2, 6, 40] (by dsimp) (by dsimp) ?_
   refine T.cond rfl (fun hc => ?_) (fun hc => ?_) -- cond 4
   ·(try simp only [dE] at hc)
    refine T.seq fun K16 hK16 => ?_
    refine T.region ?_ -- region 10
    refine ro rfl rfl (OpOk.step ((ok_load rfl ti_wear_Table (locA_arr rfl rfl rfl (tbl_ne _)) rfl).eq (x' := .agg (ints .i64 (tbl fun _ => 0))) (by rw [playR_bad hc]; simp [List.take_of_length_le]) rfl)) ?_
    refine ro rfl rfl (ok_call rfl rfl rfl (((sum_ok (fun _ => 0) (fun _ => Nat.zero_le _)).plain (by simp [renL, AV.ren, renL_ints]) rfl).eq (x' := .int 0) (by rw [sum_zero]; rfl) rfl)) ?_
    refine ro rfl rfl (OpOk.step (ok_binOp rfl ti_int rfl)) ?_
    refine ro rfl rfl (OpOk.step (OpOk.bool (d := true) (ok_moveb (.inl rfl) rfl) (rfl))) ?_
    refine ro rfl rfl (ok_call rfl rfl rfl (live40_ok.plain rfl rfl)) ?_
    refine ro rfl rfl (OpOk.step (ok_pick rfl rfl)) ?_
    refine ro rfl rfl (OpOk.step (ok_move (.inr rfl))) ?_
    refine ro_nil ?_
    refine keepK hK16 [4] (by dsimp) (by dsimp) ?_
    refine T.ret (hQ _ _ _ rfl ?_).1 -- ret 3
    exact TEnt.fin [] (by decide) (by simp) rfl ⟨rfl, trivial⟩
   ·(try simp only [dE] at hc)
    have hp := playR_ok (l := l) hc
    have hbx : ∀ x ∈ l, x.body.length ≤ 1000000 := fun x hx => by have := hbi x hx; omega
    refine T.skip ?_
    refine keepK hK14 [1, 2, 6] (by dsimp) (by dsimp) ?_
    refine T.seq fun K17 hK17 => ?_
    refine T.draw mixed (SH [] (HeldL ([some (CB c), some (TBl (playR c l))]))) ?_ -- region 11
    refine any_take 0 rfl (by first | rfl | decide +kernel) rfl (by first | (simp [HeldL]; done) | (simp only [HeldL, List.map_cons, List.map_nil, List.cons_append, List.nil_append, List.set_cons_zero, List.set_cons_succ]; (repeat' first | trivial | rfl | constructor))) (fun H' hH => OpOk.step ((ok_load rfl ti_wear_Table (locA_held hH (locA_arr rfl rfl rfl (tbl_ne _))) rfl).eq (x' := .agg (ints .i64 (tbl (playR c l)))) (by simp [List.take_of_length_le]) rfl)) ?_
    refine any_take 1 rfl (by first | rfl | decide +kernel) rfl (by first | (simp [HeldL]; done) | (simp only [HeldL, List.map_cons, List.map_nil, List.cons_append, List.nil_append, List.set_cons_zero, List.set_cons_succ]; (repeat' first | trivial | rfl | constructor))) (fun H' hH => OpOk.step (ok_load rfl ti_api_Conf (locA_held hH rfl) rfl)) ?_
    refine any_take 2 rfl (by first | rfl | decide +kernel) rfl (by first | (simp [HeldL]; done) | (simp only [HeldL, List.map_cons, List.map_nil, List.cons_append, List.nil_append, List.set_cons_zero, List.set_cons_succ]; (repeat' first | trivial | rfl | constructor))) (fun H' hH => OpOk.step (ok_move (.inl rfl))) ?_
    refine any_one 3 rfl (by first | rfl | decide +kernel) rfl rfl (ok_call rfl rfl rfl ((rplay40_ok c l hc (by omega) hbx hg).plain (by show renL _ [.agg (CC c), .fz 10 (Rcl l)] = _; simp [renL, AV.ren, CC_ren, Rcl_ren]) (by simp [AV.ren, renL_ints]))) (.inr (by first | (simp [HeldL]; done) | (simp only [HeldL, List.map_cons, List.map_nil, List.cons_append, List.nil_append, List.set_cons_zero, List.set_cons_succ]; (repeat' first | trivial | rfl | constructor)))) ?_
    refine any_take 4 rfl (by first | rfl | decide +kernel) rfl (by first | (simp [HeldL]; done) | (simp only [HeldL, List.map_cons, List.map_nil, List.cons_append, List.nil_append, List.set_cons_zero, List.set_cons_succ]; (repeat' first | trivial | rfl | constructor))) (fun H' hH => OpOk.step ((ok_eqA rfl ti_A64int rfl ti_int rfl rfl (by kernel_rfl) (.inl rfl) (l := tbl (playR c l)) (m := tbl (playV (newS c) l l.length)) rfl rfl (tbl_len _) (tbl_len _)).eq (x' := .b true) (by rw [hp]; simp) rfl)) ?_
    refine any_take 5 rfl (by first | rfl | decide +kernel) rfl (by first | (simp [HeldL]; done) | (simp only [HeldL, List.map_cons, List.map_nil, List.cons_append, List.nil_append, List.set_cons_zero, List.set_cons_succ]; (repeat' first | trivial | rfl | constructor))) (fun H' hH => OpOk.step (OpOk.bool (d := true) (ok_moveb (.inl rfl) rfl) (rfl))) ?_
    refine any_one 6 rfl (by first | rfl | decide +kernel) rfl rfl (ok_call rfl rfl rfl (live40_ok.plain rfl rfl)) (.inr (by first | (simp [HeldL]; done) | (simp only [HeldL, List.map_cons, List.map_nil, List.cons_append, List.nil_append, List.set_cons_zero, List.set_cons_succ]; (repeat' first | trivial | rfl | constructor)))) ?_
    refine any_take 7 rfl (by first | rfl | decide +kernel) rfl (by first | (simp [HeldL]; done) | (simp only [HeldL, List.map_cons, List.map_nil, List.cons_append, List.nil_append, List.set_cons_zero, List.set_cons_succ]; (repeat' first | trivial | rfl | constructor))) (fun H' hH => OpOk.step (ok_pick rfl rfl)) ?_
    refine any_take 8 rfl (by first | rfl | decide +kernel) rfl (by first | (simp [HeldL]; done) | (simp only [HeldL, List.map_cons, List.map_nil, List.cons_append, List.nil_append, List.set_cons_zero, List.set_cons_succ]; (repeat' first | trivial | rfl | constructor))) (fun H' hH => OpOk.step (ok_move (.inr rfl))) ?_
    refine any_done rfl ?_
    refine keepK hK17 [4] (by dsimp) (by dsimp) ?_
    refine T.ret (hQ _ _ _ rfl ?_).1 -- ret 4
    exact TEnt.fin [] (by decide) (by simp) rfl ⟨rfl, trivial⟩
theorem wearPlays_row (a : Cf11) (l : List Rc10) (hl : l.length ≤ 140737488355328) (hs : ∀ x ∈ l, (Lit.int .i64 x.2.2.2.2.1).wf = true ∧ x.2.2.2.2.2.2.2.2.2.length ≤ 140737488355328) : CSpec Try.prog 9 [] [.agg (CC (cfOf a)), .fz 10 (l.map fun x => .agg (RcC (rcOf x)))] [] (.b true) := by
  have e : (l.map fun x => AV.agg (RcC (rcOf x))) = Rcl (l.map rcOf) := by simp [Rcl]
  rw [e]
  refine wearPlays_ok (cfOf a) (l.map rcOf) (by simpa using hl) ?_ ?_
  · intro x hx
    obtain ⟨y, hy, rfl⟩ := List.mem_map.1 hx
    exact (hs y hy).2
  · intro x hx
    obtain ⟨y, hy, rfl⟩ := List.mem_map.1 hx
    exact wf_i64 (hs y hy).1
end Go.Proofs.Ytlegolcbjjjofaa.AmF
