/- Logs of records: a checkpoint alone. -/
import Derived.Test.YtjklgbafnfoolaaGScanAny9
import Derived.ChangeKeysEq
import Derived.Scope
namespace Go.Proofs.Ytjklgbafnfoolaa.AmF
open Go Go.AM
set_option maxRecDepth 100000
set_option linter.unusedSimpArgs false
set_option linter.unusedVariables false
theorem PR_ck {s : St} {m : Int} (hrs : RS s) (hm : 0 ≤ m ∧ m < s.c.mem) (hl : (encSt s).length ≤ 1048576) : PR (ckR s m) := by
  obtain ⟨r1, r2, r3, _⟩ := hrs
  have hk := (chkC_ok r1).2.1
  unfold PR ckR
  dsimp only
  refine ⟨by omega, by omega, by omega, by omega, by omega, by omega, by omega, by omega, by omega, hl⟩
theorem chkP_ck {s : St} {m : Int} (hrs : RS s) : chkP (ckR s m) s.c m = (s, true) := by
  unfold chkP
  rw [if_neg (by simp [ckR])]
  show ((getS (encSt s)).1, decide ((getS (encSt s)).2 = 0 ∧ (getS (encSt s)).1.c = s.c ∧ (getS (encSt s)).1.ep = s.ep ∧ (getS (encSt s)).1.sq = s.sq)) = _
  rw [getS_put hrs]
  simp
theorem getR_none {k : Int} (hk : 1 ≤ k ∧ k ≤ 4096) : getR [] k = (rc0, 0, 14) := getR_2 hk (by decide)
/-- A checkpoint alone is read as its state. -/
theorem logS_first {s : St} {m : Int} (hrs : RS s) (hm : 0 ≤ m ∧ m < s.c.mem) (hl : (encSt s).length ≤ 1048576) : logS (firstB s m) s.c m = ((s, 0, ((firstB s m).length : Int) / s.c.blk), 0) ∧ ((firstB s m).length : Int) / s.c.blk * s.c.blk = (firstB s m).length := by
  have hck := hrs.1
  have hk := (chkC_ok hck).2.2.2.1
  have hkk : 1 ≤ s.c.blk ∧ s.c.blk ≤ 4096 := hk
  have e : firstB s m = putR (ckR s m) s.c.blk := if_pos ⟨hrs, hm⟩
  obtain ⟨g1, g2⟩ := getR_put (more := []) (PR_ck hrs hm hl) hkk
  rw [List.append_nil] at g1
  rw [e]
  refine ⟨?_, g2⟩
  rw [logS_4 hck g1 (chkP_ck hrs)]
  have hd : (putR (ckR s m) s.c.blk).drop (((putR (ckR s m) s.c.blk).length : Int) / s.c.blk * s.c.blk).toNat = [] := List.drop_eq_nil_of_le (by rw [g2]; omega)
  have h14 := getR_none hkk
  rw [← hd] at h14
  rw [folN_1 h14 (by decide)]
def cf12 : Cf := ⟨1, 3, 1, 64, 16, 1, 1, 3, 1, 1, 5⟩
theorem cf12_ok : chkC cf12 = 0 := by decide +kernel
theorem enc12 : (encSt (newS cf12)).length ≤ 1000000 := by decide +kernel
theorem enc12' : (encSt (newS cf12)).length ≤ 1048576 := Nat.le_trans enc12 (by decide)
theorem first12 : logS (firstB (newS cf12) 2) cf12 2 = ((newS cf12, 0, ((firstB (newS cf12) 2).length : Int) / 64), 0) ∧ ((firstB (newS cf12) 2).length : Int) / 64 * 64 = (firstB (newS cf12) 2).length := logS_first (RS_new cf12_ok) (by decide) enc12'
theorem first12_pos : 0 < (firstB (newS cf12) 2).length := by
  have e : firstB (newS cf12) 2 = putR (ckR (newS cf12) 2) 64 := if_pos ⟨RS_new cf12_ok, by decide⟩
  have h := (getR_in (l := firstB (newS cf12) 2) (k := 64))
  obtain ⟨g1, g2⟩ := getR_put (more := []) (k := 64) (PR_ck (RS_new cf12_ok) (m := 2) (by decide) enc12') (by decide)
  rw [List.append_nil] at g1
  rcases Nat.eq_zero_or_pos (firstB (newS cf12) 2).length with h0 | h0
  · have h1 : putR (ckR (newS cf12) 2) 64 = [] := by rw [← e]; exact List.eq_nil_of_length_eq_zero h0
    rw [h1, getR_none (by decide)] at g1
    have := congrArg (fun q => q.2.2) g1
    exact absurd this (by decide)
  · exact h0
theorem putR_bytes {x : Rc} {k : Int} (h : Bytes x.body) : Bytes (putR x k) := by
  unfold putR
  split
  · refine ((((enc_bytes _ _).append (enc_bytes _ _)).append (payR_bytes h)).append ?_)
    intro y hy
    rw [List.eq_of_mem_replicate hy]
    decide
  · exact Bytes.nil
theorem first12_bytes : Bytes (firstB (newS cf12) 2) := by
  have e : firstB (newS cf12) 2 = putR (ckR (newS cf12) 2) 64 := if_pos ⟨RS_new cf12_ok, by decide⟩
  rw [e]
  exact putR_bytes (encSt_bytes fun z hz p hp => by rw [show z = z0 from List.eq_of_mem_replicate hz] at hp; simp [z0] at hp)
theorem first12_len : (firstB (newS cf12) 2).length ≤ 2000000 := by
  have e : firstB (newS cf12) 2 = putR (ckR (newS cf12) 2) 64 := if_pos ⟨RS_new cf12_ok, by decide⟩
  rw [e]
  exact putR_len _ _
theorem log12_nil : logS [] cf12 2 = ((St0, 0, 0), 14) := logS_2 cf12_ok (getR_none (by decide)) (by decide)
end Go.Proofs.Ytjklgbafnfoolaa.AmF
namespace Go.AM
open Go
set_option linter.unusedSimpArgs false
set_option linter.unusedVariables false
section
variable {P : Program} {tm : TM} {H : Heap}
end
end Go.AM
namespace Go.AM
open Go
variable {D : List Deferred} {P : Program} {n k : Nat} {tm : TM} {H : Heap} {Q : Post}
def noG (Q : Post) : Post
  | .goto _ => fun _ _ => False
  | e => Q e
theorem T.scope {c : Code} (h : T D P n k c tm H (noG Q)) : T D P n k (.scope c) tm H Q := by
  intro g a hH hk hg ht
  refine wp_scope_straight (wp_mono (h g a hH hk hg ht) fun e a' w' he => ?_)
  obtain ⟨tm', g', h1, h2, h3, h4, h5, h6⟩ := he
  cases e with
  | goto l => exact h2.elim
  | _ => exact ⟨tm', g', h1, h2, h3, h4, h5, h6⟩
end Go.AM
namespace Go.Proofs.Ytjklgbafnfoolaa.AmF
open Go Go.AM
set_option maxRecDepth 100000
set_option maxHeartbeats 4000000
set_option linter.unusedSimpArgs false
set_option linter.unusedVariables false
attribute [local simp] tkeep tget tput ev cav argsTM pickA normT putA splice AV.cells ints_length rowsA_length Prs_len Zns_len
theorem schange_ok (s : St) (x : Rc) (j : Nat) (z : Zn) (hz : s.zs[j]? = some z) (hck : chkC s.c = 0) (hzg : 0 ≤ z.gen ∧ z.gen ≤ 1099511627776) (hn : s.st.length ≤ 1000000000) (hm : s.zs.length ≤ 1000000000) (hp : z.pars.length ≤ 1000000) (hb : x.body.length ≤ 140737488355328) : CSpec Try.prog 39 [⟨1, true, ints .i64 s.st⟩, ZR s.zs j (ZnS z (.sl 2 0 z.pars.length)), ⟨2, true, Prs z.pars⟩] [.agg (StS s (.sl 0 0 s.st.length) (.sl 1 0 s.zs.length)), .ref 1 j 0, .agg (RcC x)] [some ⟨1, true, ints .i64 s.st⟩, some ⟨6, true, Zns (s.zs.set j ((stepZ s.c s.zs (decide (2 ∈ s.st)) z x).getD z))⟩, none] (.b (stepZ s.c s.zs (decide (2 ∈ s.st)) z x).isSome) := by
 have hj : j < s.zs.length := (List.getElem?_eq_some_iff.1 hz).1
 have hsz := (size_bd s.c).2.2.2.2
 have hfl : (freeZ s.c s.zs).length ≤ 140737488355328 := freeZ_len _ _
 refine CSpec.body Try.func39 rfl rfl rfl rfl rfl fun Q hQ => ?_
 refine T.seq fun K1 hK1 => ?_
 refine T.region ?_
 refine rs rfl rfl (ok_box (n := 15) rfl rfl (by decide)) ?_
 refine rs rfl rfl (ok_box (n := 10) rfl rfl (by decide)) ?_
 refine rs rfl rfl (ok_moveb (c := false) (.inr rfl) rfl) ?_
 refine ro_nil ?_
 refine keepK hK1 [1, 3, 5] (by dsimp) (by dsimp) ?_
 refine T.seq fun K2 hK2 => ?_
 refine T.region ?_
 refine rs rfl rfl (ok_fieldAddr rfl ti_api_State rfl rfl ti_Lint (by decide) rfl) ?_
 refine rs rfl rfl (ok_load rfl ti_Lint rfl rfl) ?_
 refine ro rfl rfl (ok_call rfl rfl rfl ((contains_ok s.st 2 (by omega)).lendV (EntL.cons (Ent.lent 0 1 (ints .i64 s.st) rfl (by simp)) (EntL.refl _)) (by simp [renL, AV.ren, renL_ints]))) ?_
 refine rs rfl rfl (ok_move (.inr rfl)) ?_
 refine ro_nil ?_
 refine keepK hK2 [1, 3, 5, 7] (by dsimp) (by dsimp) ?_
 refine T.seq fun K3 hK3 => ?_
 refine T.region ?_
 refine rs rfl rfl (ok_fieldAddr rfl ti_api_State rfl rfl ti_api_Conf (by decide) rfl) ?_
 refine rs rfl rfl (ok_load rfl ti_api_Conf rfl rfl) ?_
 refine ro rfl rfl (ok_call rfl rfl rfl ((size_ok s.c).plain (by show renL _ [.agg (CC s.c)] = _; simp [renL, AV.ren, CC_ren]) rfl)) ?_
 refine rs rfl rfl (ok_move (.inr rfl)) ?_
 refine ro_nil ?_
 refine keepK hK3 [1, 3, 5, 7, 8] (by dsimp) (by dsimp) ?_
 refine T.seq fun K4 hK4 => ?_
 refine T.seq fun K5 hK5 => ?_
 refine T.region ?_
 refine rs rfl rfl (ok_fieldAddr rfl ti_api_Rec rfl rfl ti_int (by decide) rfl) ?_
 refine rs rfl rfl (ok_load rfl ti_int rfl rfl) ?_
 refine ro_nil ?_
 refine keepK hK5 [1, 3, 5, 7, 8, 16] (by dsimp) (by dsimp) ?_
 refine T.block ?_
 refine T.seq fun K6 hK6 => ?_
 refine T.block ?_
 refine T.block ?_
 refine T.seq fun K7 hK7 => ?_
 refine T.block ?_
 refine T.seq fun K8 hK8 => ?_
 refine T.block ?_
 refine T.seq fun K9 hK9 => ?_
 refine T.block ?_
 refine T.seq fun K10 hK10 => ?_
 refine T.block ?_
 refine T.seq fun K11 hK11 => ?_
 refine T.block ?_
 refine T.seq fun K12 hK12 => ?_
 refine T.seq fun K13 hK13 => ?_
 refine T.seq fun K14 hK14 => ?_
 refine T.region ?_
 refine rs rfl rfl (ok_binOp rfl ti_int rfl) ?_
 refine rs rfl rfl (ok_move (.inr rfl)) ?_
 refine ro_nil ?_
 refine keepK hK14 [1, 3, 5, 7, 8, 16, 17] (by dsimp) (by dsimp) ?_
 refine T.cond rfl (fun hc => ?_) (fun hc => ?_) -- cond 1
 ·(try simp only [dE] at hc)
  refine T.exit ?_
  refine keepK hK11 [1, 3, 5, 7] (by dsimp) (by dsimp) ?_
  refine T.seq fun K15 hK15 => ?_
  refine T.seq fun K16 hK16 => ?_
  refine T.seq fun K17 hK17 => ?_
  refine T.drawH mixed [] ?_
  refine any_take 0 rfl (by first | rfl | decide +kernel) rfl (HeldL.refl _) (fun H' hH => OpOk.step (ok_move (.inl rfl))) ?_
  refine any_take 1 rfl (by first | rfl | decide +kernel) rfl (HeldL.refl _) (fun H' hH => OpOk.step (ok_nilCheck rfl rfl)) ?_
  refine any_take 2 rfl (by first | rfl | decide +kernel) rfl (HeldL.refl _) (fun H' hH => OpOk.step (ok_fieldAddr rfl ti_api_Zone rfl rfl ti_int (by decide) rfl)) ?_
  refine any_take 3 rfl (by first | rfl | decide +kernel) rfl (HeldL.refl _) (fun H' hH => OpOk.step (by exact ok_load rfl ti_int (cl := ZnS z (.sl 2 0 z.pars.length)) (f := 1) (locA_held hH (ZR_loc hj rfl)) rfl)) ?_
  refine any_take 4 rfl (by first | rfl | decide +kernel) rfl (HeldL.refl _) (fun H' hH => OpOk.step (ok_binOp rfl ti_int rfl)) ?_
  refine any_take_case 5 rfl (by first | rfl | decide +kernel) rfl (HeldL.refl _) (fun H' hH => OpOk.step (ok_moveb (.inl rfl) rfl)) (fun hb => ?_) (fun hb => ?_)
  ·(try simp only [dE] at hb)
   refine any_skip 6 rfl (by first | rfl | decide +kernel) rfl (HeldL.refl _) ?_
   refine any_skip 7 rfl (by first | rfl | decide +kernel) rfl (HeldL.refl _) ?_
   refine any_skip 8 rfl (by first | rfl | decide +kernel) rfl (HeldL.refl _) ?_
   refine any_skip 9 rfl (by first | rfl | decide +kernel) rfl (HeldL.refl _) ?_
   refine any_take 10 rfl (by first | rfl | decide +kernel) rfl (HeldL.refl _) (fun H' hH => OpOk.step (ok_pickb (t := true) (d := true) rfl rfl rfl)) ?_
   refine any_take 11 rfl (by first | rfl | decide +kernel) rfl (HeldL.refl _) (fun H' hH => OpOk.step (ok_moveb (c := true) (.inl rfl) rfl)) ?_
   refine any_skip 12 rfl (by first | rfl | decide +kernel) rfl (HeldL.refl _) ?_
   refine any_skip 13 rfl (by first | rfl | decide +kernel) rfl (HeldL.refl _) ?_
   refine any_skip 14 rfl (by first | rfl | decide +kernel) rfl (HeldL.refl _) ?_
   refine any_skip 15 rfl (by first | rfl | decide +kernel) rfl (HeldL.refl _) ?_
   refine any_skip 16 rfl (by first | rfl | decide +kernel) rfl (HeldL.refl _) ?_
   refine any_skip 17 rfl (by first | rfl | decide +kernel) rfl (HeldL.refl _) ?_
   refine any_skip 18 rfl (by first | rfl | decide +kernel) rfl (HeldL.refl _) ?_
   refine any_take 19 rfl (by first | rfl | decide +kernel) rfl (HeldL.refl _) (fun H' hH => OpOk.step (ok_pickb (t := true) (d := true) rfl rfl rfl)) ?_
   refine any_take 20 rfl (by first | rfl | decide +kernel) rfl (HeldL.refl _) (fun H' hH => OpOk.step (ok_moveb (c := true) (.inl rfl) rfl)) ?_
   refine any_skip 21 rfl (by first | rfl | decide +kernel) rfl (HeldL.refl _) ?_
   refine any_skip 23 rfl (by first | rfl | decide +kernel) rfl (HeldL.refl _) ?_
   refine any_skip 24 rfl (by first | rfl | decide +kernel) rfl (HeldL.refl _) ?_
   refine any_one_skip 22 rfl (by first | rfl | decide +kernel) rfl rfl (.inr (HeldL.refl _)) ?_
   refine any_one_skip 25 rfl (by first | rfl | decide +kernel) rfl rfl (.inr (by first | exact HeldL.refl _ | exact HeldL.append _ _ | simp [HeldL])) ?_
   refine any_skip 26 rfl (by first | rfl | decide +kernel) rfl (by first | exact HeldL.refl _ | exact HeldL.append _ _ | simp [HeldL]) ?_
   refine any_take 27 rfl (by first | rfl | decide +kernel) rfl (by first | exact HeldL.refl _ | exact HeldL.append _ _ | simp [HeldL]) (fun H' hH => OpOk.step (ok_pickb (t := true) (d := true) rfl rfl rfl)) ?_
   refine any_done rfl ?_
   refine keepK hK17 [1, 5, 7, 56] (by dsimp) (by dsimp) ?_
   refine T.cond_true rfl ?_
   refine T.seq fun K18 hK18 => ?_
   refine T.region ?_
   refine rs rfl rfl (ok_moveb (c := false) (.inr rfl) rfl) ?_
   refine ro_nil ?_
   refine keepK hK18 [6] (by dsimp) (by dsimp) ?_
   refine T.ret (hQ _ _ _ rfl ?_).1 -- ret 1
   exact by (rw [stepZ_1 (by assumption), if_neg (by unfold Z1; intro h; obtain ⟨h1, h2, h3, h4⟩ := h; first | omega | (simp_all; done))]; exact ch_end (z' := z) (p := 2) (l := z.pars) hj rfl rfl rfl (by decide) (Ent.sl0 (b := ⟨2, false, Prs z.pars⟩) rfl rfl (by simp)) ⟨rfl, trivial⟩)
  ·(try simp only [dE] at hb)
   refine any_take 6 rfl (by first | rfl | decide +kernel) rfl (HeldL.refl _) (fun H' hH => OpOk.step (ok_move (.inl rfl))) ?_
   refine any_take 7 rfl (by first | rfl | decide +kernel) rfl (HeldL.refl _) (fun H' hH => OpOk.step (ok_nilCheck rfl rfl)) ?_
   refine any_take 8 rfl (by first | rfl | decide +kernel) rfl (HeldL.refl _) (fun H' hH => OpOk.step (ok_fieldAddr rfl ti_api_Zone rfl rfl ti_bool (by decide) rfl)) ?_
   refine any_take 9 rfl (by first | rfl | decide +kernel) rfl (HeldL.refl _) (fun H' hH => OpOk.step (by exact ok_load rfl ti_bool (cl := ZnS z (.sl 2 0 z.pars.length)) (f := 2) (locA_held hH (ZR_loc hj rfl)) rfl)) ?_
   refine any_take 10 rfl (by first | rfl | decide +kernel) rfl (HeldL.refl _) (fun H' hH => OpOk.step (ok_pick rfl rfl)) ?_
   refine any_take_case 11 rfl (by first | rfl | decide +kernel) rfl (HeldL.refl _) (fun H' hH => OpOk.step (ok_moveb (.inl rfl) rfl)) (fun hb => ?_) (fun hb => ?_)
   ·(try simp only [dE] at hb)
    refine any_skip 12 rfl (by first | rfl | decide +kernel) rfl (HeldL.refl _) ?_
    refine any_skip 13 rfl (by first | rfl | decide +kernel) rfl (HeldL.refl _) ?_
    refine any_skip 14 rfl (by first | rfl | decide +kernel) rfl (HeldL.refl _) ?_
    refine any_skip 15 rfl (by first | rfl | decide +kernel) rfl (HeldL.refl _) ?_
    refine any_skip 16 rfl (by first | rfl | decide +kernel) rfl (HeldL.refl _) ?_
    refine any_skip 17 rfl (by first | rfl | decide +kernel) rfl (HeldL.refl _) ?_
    refine any_skip 18 rfl (by first | rfl | decide +kernel) rfl (HeldL.refl _) ?_
    refine any_take 19 rfl (by first | rfl | decide +kernel) rfl (HeldL.refl _) (fun H' hH => OpOk.step (ok_pickb (t := true) (d := true) rfl rfl rfl)) ?_
    refine any_take 20 rfl (by first | rfl | decide +kernel) rfl (HeldL.refl _) (fun H' hH => OpOk.step (ok_moveb (c := true) (.inl rfl) rfl)) ?_
    refine any_skip 21 rfl (by first | rfl | decide +kernel) rfl (HeldL.refl _) ?_
    refine any_skip 23 rfl (by first | rfl | decide +kernel) rfl (HeldL.refl _) ?_
    refine any_skip 24 rfl (by first | rfl | decide +kernel) rfl (HeldL.refl _) ?_
    refine any_one_skip 22 rfl (by first | rfl | decide +kernel) rfl rfl (.inr (HeldL.refl _)) ?_
    refine any_one_skip 25 rfl (by first | rfl | decide +kernel) rfl rfl (.inr (by first | exact HeldL.refl _ | exact HeldL.append _ _ | simp [HeldL])) ?_
    refine any_skip 26 rfl (by first | rfl | decide +kernel) rfl (by first | exact HeldL.refl _ | exact HeldL.append _ _ | simp [HeldL]) ?_
    refine any_take 27 rfl (by first | rfl | decide +kernel) rfl (by first | exact HeldL.refl _ | exact HeldL.append _ _ | simp [HeldL]) (fun H' hH => OpOk.step (ok_pickb (t := true) (d := true) rfl rfl rfl)) ?_
    refine any_done rfl ?_
    refine keepK hK17 [1, 5, 7, 56] (by dsimp) (by dsimp) ?_
    refine T.cond_true rfl ?_
    refine T.seq fun K19 hK19 => ?_
    refine T.region ?_
    refine rs rfl rfl (ok_moveb (c := false) (.inr rfl) rfl) ?_
    refine ro_nil ?_
    refine keepK hK19 [6] (by dsimp) (by dsimp) ?_
    refine T.ret (hQ _ _ _ rfl ?_).1 -- ret 2
    exact by (rw [stepZ_1 (by assumption), if_neg (by unfold Z1; intro h; obtain ⟨h1, h2, h3, h4⟩ := h; first | omega | (simp_all; done))]; exact ch_end (z' := z) (p := 2) (l := z.pars) hj rfl rfl rfl (by decide) (Ent.sl0 (b := ⟨2, false, Prs z.pars⟩) rfl rfl (by simp)) ⟨rfl, trivial⟩)
   ·(try simp only [dE] at hb)
    refine any_take 12 rfl (by first | rfl | decide +kernel) rfl (HeldL.refl _) (fun H' hH => OpOk.step (ok_move (.inl rfl))) ?_
    refine any_take 13 rfl (by first | rfl | decide +kernel) rfl (HeldL.refl _) (fun H' hH => OpOk.step (ok_nilCheck rfl rfl)) ?_
    refine any_take 14 rfl (by first | rfl | decide +kernel) rfl (HeldL.refl _) (fun H' hH => OpOk.step (ok_fieldAddr rfl ti_api_Zone rfl rfl ti_int (by decide) rfl)) ?_
    refine any_take 15 rfl (by first | rfl | decide +kernel) rfl (HeldL.refl _) (fun H' hH => OpOk.step (by exact ok_load rfl ti_int (cl := ZnS z (.sl 2 0 z.pars.length)) (f := 0) (locA_held hH (ZR_loc hj rfl)) rfl)) ?_
    refine any_take 16 rfl (by first | rfl | decide +kernel) rfl (HeldL.refl _) (fun H' hH => OpOk.step (ok_fieldAddr rfl ti_api_Rec rfl rfl ti_int (by decide) rfl)) ?_
    refine any_take 17 rfl (by first | rfl | decide +kernel) rfl (HeldL.refl _) (fun H' hH => OpOk.step (ok_load rfl ti_int (locA_held hH rfl) rfl)) ?_
    refine any_take 18 rfl (by first | rfl | decide +kernel) rfl (HeldL.refl _) (fun H' hH => OpOk.step (ok_binOp rfl ti_int rfl)) ?_
    refine any_take 19 rfl (by first | rfl | decide +kernel) rfl (HeldL.refl _) (fun H' hH => OpOk.step (ok_pick rfl rfl)) ?_
    refine any_take_case 20 rfl (by first | rfl | decide +kernel) rfl (HeldL.refl _) (fun H' hH => OpOk.step (ok_moveb (.inl rfl) rfl)) (fun hb => ?_) (fun hb => ?_)
    ·(try simp only [dE] at hb)
     refine any_skip 21 rfl (by first | rfl | decide +kernel) rfl (HeldL.refl _) ?_
     refine any_skip 23 rfl (by first | rfl | decide +kernel) rfl (HeldL.refl _) ?_
     refine any_skip 24 rfl (by first | rfl | decide +kernel) rfl (HeldL.refl _) ?_
     refine any_one_skip 22 rfl (by first | rfl | decide +kernel) rfl rfl (.inr (HeldL.refl _)) ?_
     refine any_one_skip 25 rfl (by first | rfl | decide +kernel) rfl rfl (.inr (by first | exact HeldL.refl _ | exact HeldL.append _ _ | simp [HeldL])) ?_
     refine any_skip 26 rfl (by first | rfl | decide +kernel) rfl (by first | exact HeldL.refl _ | exact HeldL.append _ _ | simp [HeldL]) ?_
     refine any_take 27 rfl (by first | rfl | decide +kernel) rfl (by first | exact HeldL.refl _ | exact HeldL.append _ _ | simp [HeldL]) (fun H' hH => OpOk.step (ok_pickb (t := true) (d := true) rfl rfl rfl)) ?_
     refine any_done rfl ?_
     refine keepK hK17 [1, 5, 7, 56] (by dsimp) (by dsimp) ?_
     refine T.cond_true rfl ?_
     refine T.seq fun K20 hK20 => ?_
     refine T.region ?_
     refine rs rfl rfl (ok_moveb (c := false) (.inr rfl) rfl) ?_
     refine ro_nil ?_
     refine keepK hK20 [6] (by dsimp) (by dsimp) ?_
     refine T.ret (hQ _ _ _ rfl ?_).1 -- ret 3
     exact by (rw [stepZ_1 (by assumption), if_neg (by unfold Z1; intro h; obtain ⟨h1, h2, h3, h4⟩ := h; first | omega | (simp_all; done))]; exact ch_end (z' := z) (p := 2) (l := z.pars) hj rfl rfl rfl (by decide) (Ent.sl0 (b := ⟨2, false, Prs z.pars⟩) rfl rfl (by simp)) ⟨rfl, trivial⟩)
    ·(try simp only [dE] at hb)
     refine any_take 21 rfl (by first | rfl | decide +kernel) rfl (HeldL.refl _) (fun H' hH => OpOk.step (ok_load rfl ti_api_State (locA_held hH rfl) rfl)) ?_
     refine any_take 23 rfl (by first | rfl | decide +kernel) rfl (HeldL.refl _) (fun H' hH => OpOk.step (ok_fieldAddr rfl ti_api_Rec rfl rfl ti_int (by decide) rfl)) ?_
     refine any_take 24 rfl (by first | rfl | decide +kernel) rfl (HeldL.refl _) (fun H' hH => OpOk.step (ok_load rfl ti_int (locA_held hH rfl) rfl)) ?_
     refine any_one 22 rfl (by first | rfl | decide +kernel) rfl rfl (ok_call rfl rfl rfl ((free_new s (by omega)).lendR (R := [⟨1, true, ints .i64 (freeZ s.c s.zs)⟩]) (R' := [⟨1, true, ints .i64 (freeZ s.c s.zs)⟩]) (x' := .sl 5 0 (freeZ s.c s.zs).length) (EntL.cons (Ent.stz s hz rfl rfl rfl) EntL.nil) (by simp [renL, AV.ren, StC_ren]) (by simp [Blk.ren, renL_ints]) rfl rfl (by simp [nofzL_ints]))) (.inr (by first | (simp [HeldL]; done) | (simp only [dH]; (repeat' first | trivial | rfl | constructor)))) ?_
     refine any_one 25 rfl (by first | rfl | decide +kernel) rfl rfl (ok_call rfl rfl rfl ((contains_ok (freeZ s.c s.zs) x.slot hfl).lendV (EntL.cons (Ent.lent 5 1 (ints .i64 (freeZ s.c s.zs)) rfl (by simp)) (EntL.refl _)) (by simp [renL, AV.ren, renL_ints]))) (.inr (by first | (simp [HeldL]; done) | (simp only [dH]; (repeat' first | trivial | rfl | constructor)))) ?_
     refine any_take 26 rfl (by first | rfl | decide +kernel) rfl (by first | exact HeldL.refl _ | exact HeldL.append _ _ | simp [HeldL]) (fun H' hH => OpOk.step (ok_unOp rfl rfl)) ?_
     refine any_take 27 rfl (by first | rfl | decide +kernel) rfl (by first | exact HeldL.refl _ | exact HeldL.append _ _ | simp [HeldL]) (fun H' hH => OpOk.step (ok_pick rfl rfl)) ?_
     refine any_done rfl ?_
     refine keepK hK17 [1, 5, 7, 56] (by dsimp) (by dsimp) ?_
     refine T.cond rfl (fun hc => ?_) (fun hc => ?_) -- cond 2
     ·(try simp only [dE] at hc)
      refine T.seq fun K21 hK21 => ?_
      refine T.region ?_
      refine rs rfl rfl (ok_moveb (c := false) (.inr rfl) rfl) ?_
      refine ro_nil ?_
      refine keepK hK21 [6] (by dsimp) (by dsimp) ?_
      refine T.ret (hQ _ _ _ rfl ?_).1 -- ret 4
      exact by (rw [stepZ_1 (by assumption), if_neg (by unfold Z1; intro h; obtain ⟨h1, h2, h3, h4⟩ := h; first | omega | (simp_all; done))]; exact ch_end (z' := z) (p := 2) (l := z.pars) hj rfl rfl rfl (by decide) (Ent.sl0 (b := ⟨2, false, Prs z.pars⟩) rfl rfl (by simp)) ⟨rfl, trivial⟩)
     ·(try simp only [dE] at hc)
      refine T.skip ?_
      refine keepK hK16 [1, 5, 7] (by dsimp) (by dsimp) ?_
      refine T.region ?_
      refine rs rfl rfl (ok_move (.inl rfl)) ?_
      refine rs rfl rfl (ok_move (.inl rfl)) ?_
      refine rs rfl rfl (ok_fieldAddr rfl ti_api_Rec rfl rfl ti_int (by decide) rfl) ?_
      refine rs rfl rfl (ok_load rfl ti_int rfl rfl) ?_
      refine rs rfl rfl (ok_move (.inl rfl)) ?_
      refine rs rfl rfl (ok_nilCheck rfl rfl) ?_
      refine rs rfl rfl (ok_fieldAddr rfl ti_api_Zone rfl rfl ti_int (by decide) rfl) ?_
      refine rs rfl rfl ((ok_store rfl ti_int (by decide) (id := 1) (j := j) (f := 1) rfl rfl rfl (ZR_get hj) rfl (by show 1 + 1 ≤ 6; decide) (.inr rfl)).eq (x' := .any) (H'' := [some ⟨1, true, ints .i64 s.st⟩, some (ZR s.zs j (ZnS { z with slot := x.slot } (.sl 2 0 z.pars.length))), some ⟨2, true, Prs z.pars⟩, some (SB s (.sl 0 0 s.st.length) (.sl 1 0 s.zs.length)), some (RcB x), some ⟨1, true, ints .i64 (freeZ s.c s.zs)⟩]) rfl (by show [_, some (⟨6, true, (ZR s.zs j (ZnS z (.sl 2 0 z.pars.length))).els.set j (.agg (ZnS { z with slot := x.slot } (.sl 2 0 z.pars.length)))⟩ : Blk), _, _, _, _] = _; rw [ZR_set] <;> rfl)) ?_
      refine rs rfl rfl (ok_nilCheck rfl rfl) ?_
      refine rs rfl rfl (ok_fieldAddr rfl ti_api_Zone rfl rfl ti_bool (by decide) rfl) ?_
      refine rs rfl rfl ((ok_store rfl ti_bool (by decide) (id := 1) (j := j) (f := 4) rfl rfl rfl (ZR_get hj) rfl (by show 4 + 1 ≤ 6; decide) (.inr rfl)).eq (x' := .any) (H'' := [some ⟨1, true, ints .i64 s.st⟩, some (ZR s.zs j (ZnS { z with slot := x.slot, whole := decide (2 ∈ s.st) } (.sl 2 0 z.pars.length))), some ⟨2, true, Prs z.pars⟩, some (SB s (.sl 0 0 s.st.length) (.sl 1 0 s.zs.length)), some (RcB x), some ⟨1, true, ints .i64 (freeZ s.c s.zs)⟩]) rfl (by show [_, some (⟨6, true, (ZR s.zs j (ZnS { z with slot := x.slot } (.sl 2 0 z.pars.length))).els.set j (.agg (ZnS { z with slot := x.slot, whole := decide (2 ∈ s.st) } (.sl 2 0 z.pars.length)))⟩ : Blk), _, _, _, _] = _; rw [ZR_set] <;> rfl)) ?_
      refine ro_nil ?_
      refine keepK hK15 [] (by dsimp) (by dsimp) ?_
      refine T.exit ?_
      refine keepK hK4 [] (by dsimp) (by dsimp) ?_
      refine T.seq fun K22 hK22 => ?_
      refine T.region ?_
      refine rs rfl rfl (ok_moveb (c := true) (.inr rfl) rfl) ?_
      refine ro_nil ?_
      refine keepK hK22 [6] (by dsimp) (by dsimp) ?_
      refine T.ret (hQ _ _ _ rfl ?_).1 -- ret 5
      exact by (rw [stepZ_1 (by assumption), if_pos (by unfold Z1; refine ⟨?_, ?_, ?_, ?_⟩ <;> first | assumption | omega | (simp_all; done))]; exact ch_end (z' := { z with slot := x.slot, whole := decide (2 ∈ s.st) }) (p := 2) (l := z.pars) hj rfl rfl rfl (by decide) (Ent.sl0 (b := ⟨2, false, Prs z.pars⟩) rfl rfl (by simp)) ⟨rfl, trivial⟩)
 ·(try simp only [dE] at hc)
  refine T.skip ?_
  refine keepK hK13 [1, 3, 5, 7, 8, 16] (by dsimp) (by dsimp) ?_
  refine T.seq fun K23 hK23 => ?_
  refine T.seq fun K24 hK24 => ?_
  refine T.region ?_
  refine rs rfl rfl (ok_binOp rfl ti_int rfl) ?_
  refine rs rfl rfl (ok_move (.inr rfl)) ?_
  refine ro_nil ?_
  refine keepK hK24 [1, 3, 5, 7, 8, 16, 19] (by dsimp) (by dsimp) ?_
  refine T.cond rfl (fun hc => ?_) (fun hc => ?_) -- cond 3
  ·(try simp only [dE] at hc)
   refine T.exit ?_
   refine keepK hK10 [1, 5] (by dsimp) (by dsimp) ?_
   refine T.seq fun K25 hK25 => ?_
   refine T.seq fun K26 hK26 => ?_
   refine T.seq fun K27 hK27 => ?_
   refine T.drawH mixed [] ?_
   refine any_take 0 rfl (by first | rfl | decide +kernel) rfl (HeldL.refl _) (fun H' hH => OpOk.step (ok_fieldAddr rfl ti_api_Rec rfl rfl ti_int (by decide) rfl)) ?_
   refine any_take 1 rfl (by first | rfl | decide +kernel) rfl (HeldL.refl _) (fun H' hH => OpOk.step (ok_load rfl ti_int (locA_held hH rfl) rfl)) ?_
   refine any_take 2 rfl (by first | rfl | decide +kernel) rfl (HeldL.refl _) (fun H' hH => OpOk.step (ok_move (.inl rfl))) ?_
   refine any_take 3 rfl (by first | rfl | decide +kernel) rfl (HeldL.refl _) (fun H' hH => OpOk.step (ok_nilCheck rfl rfl)) ?_
   refine any_take 4 rfl (by first | rfl | decide +kernel) rfl (HeldL.refl _) (fun H' hH => OpOk.step (ok_fieldAddr rfl ti_api_Zone rfl rfl ti_int (by decide) rfl)) ?_
   refine any_take 5 rfl (by first | rfl | decide +kernel) rfl (HeldL.refl _) (fun H' hH => OpOk.step (by exact ok_load rfl ti_int (cl := ZnS z (.sl 2 0 z.pars.length)) (f := 0) (locA_held hH (ZR_loc hj rfl)) rfl)) ?_
   refine any_take 6 rfl (by first | rfl | decide +kernel) rfl (HeldL.refl _) (fun H' hH => OpOk.step (ok_add64 rfl ti_int rfl rfl (by omega) (by omega))) ?_
   refine any_take 7 rfl (by first | rfl | decide +kernel) rfl (HeldL.refl _) (fun H' hH => OpOk.step (ok_binOp rfl ti_int rfl)) ?_
   refine any_take_case 8 rfl (by first | rfl | decide +kernel) rfl (HeldL.refl _) (fun H' hH => OpOk.step (ok_moveb (.inl rfl) rfl)) (fun hb => ?_) (fun hb => ?_)
   ·(try simp only [dE] at hb)
    refine any_skip 9 rfl (by first | rfl | decide +kernel) rfl (HeldL.refl _) ?_
    refine any_skip 10 rfl (by first | rfl | decide +kernel) rfl (HeldL.refl _) ?_
    refine any_skip 11 rfl (by first | rfl | decide +kernel) rfl (HeldL.refl _) ?_
    refine any_take 12 rfl (by first | rfl | decide +kernel) rfl (HeldL.refl _) (fun H' hH => OpOk.step (ok_pickb (t := true) (d := true) rfl rfl rfl)) ?_
    refine any_done rfl ?_
    refine keepK hK27 [1, 5, 78] (by dsimp) (by dsimp) ?_
    refine T.cond_true rfl ?_
    refine T.seq fun K28 hK28 => ?_
    refine T.region ?_
    refine rs rfl rfl (ok_moveb (c := false) (.inr rfl) rfl) ?_
    refine ro_nil ?_
    refine keepK hK28 [6] (by dsimp) (by dsimp) ?_
    refine T.ret (hQ _ _ _ rfl ?_).1 -- ret 6
    exact by (rw [stepZ_2 (by assumption), if_neg (by unfold Z2; intro h; obtain ⟨h1, h2⟩ := h; first | omega | (simp_all; done))]; exact ch_end (z' := z) (p := 2) (l := z.pars) hj rfl rfl rfl (by decide) (Ent.sl0 (b := ⟨2, false, Prs z.pars⟩) rfl rfl (by simp)) ⟨rfl, trivial⟩)
   ·(try simp only [dE] at hb)
    refine any_take 9 rfl (by first | rfl | decide +kernel) rfl (HeldL.refl _) (fun H' hH => OpOk.step (ok_fieldAddr rfl ti_api_Rec rfl rfl ti_int (by decide) rfl)) ?_
    refine any_take 10 rfl (by first | rfl | decide +kernel) rfl (HeldL.refl _) (fun H' hH => OpOk.step (ok_load rfl ti_int (locA_held hH rfl) rfl)) ?_
    refine any_take 11 rfl (by first | rfl | decide +kernel) rfl (HeldL.refl _) (fun H' hH => OpOk.step (ok_binOp rfl ti_int rfl)) ?_
    refine any_take 12 rfl (by first | rfl | decide +kernel) rfl (HeldL.refl _) (fun H' hH => OpOk.step (ok_pick rfl rfl)) ?_
    refine any_done rfl ?_
    refine keepK hK27 [1, 5, 78] (by dsimp) (by dsimp) ?_
    refine T.cond rfl (fun hc => ?_) (fun hc => ?_) -- cond 4
    ·(try simp only [dE] at hc)
     refine T.seq fun K29 hK29 => ?_
     refine T.region ?_
     refine rs rfl rfl (ok_moveb (c := false) (.inr rfl) rfl) ?_
     refine ro_nil ?_
     refine keepK hK29 [6] (by dsimp) (by dsimp) ?_
     refine T.ret (hQ _ _ _ rfl ?_).1 -- ret 7
     exact by (rw [stepZ_2 (by assumption), if_neg (by unfold Z2; intro h; obtain ⟨h1, h2⟩ := h; first | omega | (simp_all; done))]; exact ch_end (z' := z) (p := 2) (l := z.pars) hj rfl rfl rfl (by decide) (Ent.sl0 (b := ⟨2, false, Prs z.pars⟩) rfl rfl (by simp)) ⟨rfl, trivial⟩)
    ·(try simp only [dE] at hc)
     refine T.skip ?_
     refine keepK hK26 [1, 5] (by dsimp) (by dsimp) ?_
     refine T.region ?_
     refine rs rfl rfl (ok_move (.inl rfl)) ?_
     refine rs rfl rfl (ok_fieldAddr rfl ti_api_Rec rfl rfl ti_int (by decide) rfl) ?_
     refine rs rfl rfl (ok_load rfl ti_int rfl rfl) ?_
     refine rs rfl rfl (ok_build rfl ti_api_Zone rfl) ?_
     refine rs rfl rfl (ok_nilCheck rfl rfl) ?_
     refine rs rfl rfl ((ok_store rfl ti_api_Zone (by decide) (id := 1) (j := j) (f := 0) rfl rfl rfl (ZR_get hj) rfl (by show 0 + 6 ≤ 6; decide) (.inl ⟨rfl, rfl⟩)).eq (x' := .any) (H'' := [some ⟨1, true, ints .i64 s.st⟩, some (ZR s.zs j (ZnS ⟨x.gen, -1, false, 0, false, []⟩ (.v (.slice none 0 0)))), some ⟨2, true, Prs z.pars⟩, some (SB s (.sl 0 0 s.st.length) (.sl 1 0 s.zs.length)), some (RcB x)]) rfl (by show [_, some (⟨6, true, (ZR s.zs j (ZnS z (.sl 2 0 z.pars.length))).els.set j (.agg (ZnS ⟨x.gen, -1, false, 0, false, []⟩ (.v (.slice none 0 0))))⟩ : Blk), _, _, _] = _; rw [ZR_set] <;> rfl)) ?_
     refine ro_nil ?_
     refine keepK hK25 [] (by dsimp) (by dsimp) ?_
     refine T.exit ?_
     refine keepK hK4 [] (by dsimp) (by dsimp) ?_
     refine T.seq fun K30 hK30 => ?_
     refine T.region ?_
     refine rs rfl rfl (ok_moveb (c := true) (.inr rfl) rfl) ?_
     refine ro_nil ?_
     refine keepK hK30 [6] (by dsimp) (by dsimp) ?_
     refine T.ret (hQ _ _ _ rfl ?_).1 -- ret 8
     exact by (rw [stepZ_2 (by assumption), if_pos (by unfold Z2; refine ⟨?_, ?_⟩ <;> first | assumption | omega | (simp_all; done))]; exact ch_end (z' := ⟨x.gen, -1, false, 0, false, []⟩) (p := 2) (l := z.pars) hj rfl rfl rfl (by decide) (Ent.nil 2) ⟨rfl, trivial⟩)
  ·(try simp only [dE] at hc)
   refine T.skip ?_
   refine keepK hK23 [1, 3, 5, 7, 8, 16] (by dsimp) (by dsimp) ?_
   refine T.seq fun K31 hK31 => ?_
   refine T.seq fun K32 hK32 => ?_
   refine T.region ?_
   refine rs rfl rfl (ok_binOp rfl ti_int rfl) ?_
   refine rs rfl rfl (ok_move (.inr rfl)) ?_
   refine ro_nil ?_
   refine keepK hK32 [1, 3, 5, 7, 8, 16, 21] (by dsimp) (by dsimp) ?_
   refine T.cond rfl (fun hc => ?_) (fun hc => ?_) -- cond 5
   ·(try simp only [dE] at hc)
    refine T.exit ?_
    refine keepK hK9 [1, 5, 8] (by dsimp) (by dsimp) ?_
    refine T.seq fun K33 hK33 => ?_
    refine T.seq fun K34 hK34 => ?_
    refine T.seq fun K35 hK35 => ?_
    refine T.region ?_
    refine rs rfl rfl (ok_move (.inl rfl)) ?_
    refine rs rfl rfl (ok_nilCheck rfl rfl) ?_
    refine rs rfl rfl (ok_fieldAddr rfl ti_api_Zone rfl rfl ti_bool (by decide) rfl) ?_
    refine rs rfl rfl (by exact ok_load rfl ti_bool (cl := ZnS z (.sl 2 0 z.pars.length)) (f := 2) (ZR_loc hj rfl) rfl) ?_
    refine ro_case rfl rfl (OpOk.step (ok_moveb (.inl rfl) rfl)) (fun hb => ?_) (fun hb => ?_)
    ·(try simp only [dE] at hb)
     refine ro_skip rfl rfl ?_
     refine ro_skip rfl rfl ?_
     refine ro_skip rfl rfl ?_
     refine ro_skip rfl rfl ?_
     refine ro_skip rfl rfl ?_
     refine rs rfl rfl (ok_pickb (t := true) (d := true) rfl rfl rfl) ?_
     refine rs rfl rfl (ok_moveb (c := true) (.inl rfl) rfl) ?_
     refine ro_skip rfl rfl ?_
     refine ro_skip rfl rfl ?_
     refine ro_skip rfl rfl ?_
     refine ro_skip rfl rfl ?_
     refine ro_skip rfl rfl ?_
     refine ro_skip rfl rfl ?_
     refine ro_skip rfl rfl ?_
     refine ro_skip rfl rfl ?_
     refine ro_skip rfl rfl ?_
     refine ro_skip rfl rfl ?_
     refine rs rfl rfl (ok_pickb (t := true) (d := true) rfl rfl rfl) ?_
     refine ro_nil ?_
     refine keepK hK35 [1, 5, 106] (by dsimp) (by dsimp) ?_
     refine T.cond_true rfl ?_
     refine T.seq fun K36 hK36 => ?_
     refine T.region ?_
     refine rs rfl rfl (ok_moveb (c := false) (.inr rfl) rfl) ?_
     refine ro_nil ?_
     refine keepK hK36 [6] (by dsimp) (by dsimp) ?_
     refine T.ret (hQ _ _ _ rfl ?_).1 -- ret 9
     exact by (rw [stepZ_3 (by assumption), if_neg (by unfold Z3; intro h; obtain ⟨h1, h2, h3⟩ := h; first | omega | (simp_all; done))]; exact ch_end (z' := z) (p := 2) (l := z.pars) hj rfl rfl rfl (by decide) (Ent.sl0 (b := ⟨2, false, Prs z.pars⟩) rfl rfl (by simp)) ⟨rfl, trivial⟩)
    ·(try simp only [dE] at hb)
     refine rs rfl rfl (ok_fieldAddr rfl ti_api_Rec rfl rfl ti_int (by decide) rfl) ?_
     refine rs rfl rfl (ok_load rfl ti_int rfl rfl) ?_
     refine rs rfl rfl (ok_move (.inl rfl)) ?_
     refine ro rfl rfl (ok_call rfl rfl rfl ((sin_ok x.w 0 (sizeC s.c)).plain rfl rfl)) ?_
     refine rs rfl rfl (ok_unOp rfl rfl) ?_
     refine rs rfl rfl (ok_pick rfl rfl) ?_
     refine ro_case rfl rfl (OpOk.step (ok_moveb (.inl rfl) rfl)) (fun hb => ?_) (fun hb => ?_)
     ·(try simp only [dE] at hb)
      refine ro_skip rfl rfl ?_
      refine ro_skip rfl rfl ?_
      refine ro_skip rfl rfl ?_
      refine ro_skip rfl rfl ?_
      refine ro_skip rfl rfl ?_
      refine ro_skip rfl rfl ?_
      refine ro_skip rfl rfl ?_
      refine ro_skip rfl rfl ?_
      refine ro_skip rfl rfl ?_
      refine ro_skip rfl rfl ?_
      refine rs rfl rfl (ok_pickb (t := true) (d := true) rfl rfl rfl) ?_
      refine ro_nil ?_
      refine keepK hK35 [1, 5, 106] (by dsimp) (by dsimp) ?_
      refine T.cond_true rfl ?_
      refine T.seq fun K37 hK37 => ?_
      refine T.region ?_
      refine rs rfl rfl (ok_moveb (c := false) (.inr rfl) rfl) ?_
      refine ro_nil ?_
      refine keepK hK37 [6] (by dsimp) (by dsimp) ?_
      refine T.ret (hQ _ _ _ rfl ?_).1 -- ret 10
      exact by (rw [stepZ_3 (by assumption), if_neg (by unfold Z3; intro h; obtain ⟨h1, h2, h3⟩ := h; first | omega | (simp_all; done))]; exact ch_end (z' := z) (p := 2) (l := z.pars) hj rfl rfl rfl (by decide) (Ent.sl0 (b := ⟨2, false, Prs z.pars⟩) rfl rfl (by simp)) ⟨rfl, trivial⟩)
     ·(try simp only [dE] at hb)
      refine rs rfl rfl (ok_move (.inl rfl)) ?_
      refine rs rfl rfl (ok_nilCheck rfl rfl) ?_
      refine rs rfl rfl (ok_fieldAddr rfl ti_api_Zone rfl rfl ti_int (by decide) rfl) ?_
      refine rs rfl rfl (by exact ok_load rfl ti_int (cl := ZnS z (.sl 2 0 z.pars.length)) (f := 1) (ZR_loc hj rfl) rfl) ?_
      refine rs rfl rfl (ok_binOp rfl ti_int rfl) ?_
      refine ro_case rfl rfl (OpOk.step (ok_moveb (.inl rfl) rfl)) (fun hb => ?_) (fun hb => ?_)
      ·(try simp only [dE] at hb)
       refine rs rfl rfl (ok_fieldAddr rfl ti_api_Rec rfl rfl ti_int (by decide) rfl) ?_
       refine rs rfl rfl (ok_load rfl ti_int rfl rfl) ?_
       refine rs rfl rfl (ok_binOp rfl ti_int rfl) ?_
       refine rs rfl rfl (ok_pick rfl rfl) ?_
       refine rs rfl rfl (ok_pick rfl rfl) ?_
       refine ro_nil ?_
       refine keepK hK35 [1, 5, 106] (by dsimp) (by dsimp) ?_
       refine T.cond rfl (fun hc => ?_) (fun hc => ?_) -- cond 6
       ·(try simp only [dE] at hc)
        refine T.seq fun K38 hK38 => ?_
        refine T.region ?_
        refine rs rfl rfl (ok_moveb (c := false) (.inr rfl) rfl) ?_
        refine ro_nil ?_
        refine keepK hK38 [6] (by dsimp) (by dsimp) ?_
        refine T.ret (hQ _ _ _ rfl ?_).1 -- ret 11
        exact by (rw [stepZ_3 (by assumption), if_neg (by unfold Z3; intro h; obtain ⟨h1, h2, h3⟩ := h; first | omega | (simp_all; done))]; exact ch_end (z' := z) (p := 2) (l := z.pars) hj rfl rfl rfl (by decide) (Ent.sl0 (b := ⟨2, false, Prs z.pars⟩) rfl rfl (by simp)) ⟨rfl, trivial⟩)
       ·(try simp only [dE] at hc)
        refine T.skip ?_
        refine keepK hK34 [1, 5] (by dsimp) (by dsimp) ?_
        refine T.draw mixed (SH [] (HeldL ([none, none, none, none, some (RcB x)]))) ?_
        refine any_take 0 rfl (by first | rfl | decide +kernel) rfl (by first | (simp [HeldL]; done) | (simp only [dH]; (repeat' first | trivial | rfl | constructor))) (fun H' hH => OpOk.step (ok_move (.inl rfl))) ?_
        refine any_take 1 rfl (by first | rfl | decide +kernel) rfl (by first | (simp [HeldL]; done) | (simp only [dH]; (repeat' first | trivial | rfl | constructor))) (fun H' hH => OpOk.step (ok_move (.inl rfl))) ?_
        refine any_take 2 rfl (by first | rfl | decide +kernel) rfl (by first | (simp [HeldL]; done) | (simp only [dH]; (repeat' first | trivial | rfl | constructor))) (fun H' hH => OpOk.step (ok_fieldAddr rfl ti_api_Rec rfl rfl ti_int (by decide) rfl)) ?_
        refine any_take 3 rfl (by first | rfl | decide +kernel) rfl (by first | (simp [HeldL]; done) | (simp only [dH]; (repeat' first | trivial | rfl | constructor))) (fun H' hH => OpOk.step (ok_load rfl ti_int (locA_held hH rfl) rfl)) ?_
        refine any_take 4 rfl (by first | rfl | decide +kernel) rfl (by first | (simp [HeldL]; done) | (simp only [dH]; (repeat' first | trivial | rfl | constructor))) (fun H' hH => OpOk.step (ok_nilCheck rfl rfl)) ?_
        refine any_take 5 rfl (by first | rfl | decide +kernel) rfl (by first | (simp [HeldL]; done) | (simp only [dH]; (repeat' first | trivial | rfl | constructor))) (fun H' hH => OpOk.step (ok_fieldAddr rfl ti_api_Zone rfl rfl ti_bool (by decide) rfl)) ?_
        refine any_one 6 rfl (by first | rfl | decide +kernel) rfl rfl (OpOk.step ((ok_store rfl ti_bool (by decide) (id := 1) (j := j) (f := 2) rfl rfl rfl (ZR_get hj) rfl (by show 2 + 1 ≤ 6; decide) (.inr rfl)).eq (x' := .any) (H'' := [some ⟨1, true, ints .i64 s.st⟩, some (ZR s.zs j (ZnS { z with full := true } (.sl 2 0 z.pars.length))), some ⟨2, true, Prs z.pars⟩, some (SB s (.sl 0 0 s.st.length) (.sl 1 0 s.zs.length)), some (RcB x)]) rfl (by show [_, some (⟨6, true, (ZR s.zs j (ZnS z (.sl 2 0 z.pars.length))).els.set j (.agg (ZnS { z with full := true } (.sl 2 0 z.pars.length)))⟩ : Blk), _, _, _] = _; rw [ZR_set] <;> rfl))) (.inr (by first | (simp [HeldL]; done) | (simp only [dH]; (repeat' first | trivial | rfl | constructor)))) ?_
        refine any_take 7 rfl (by first | rfl | decide +kernel) rfl (by first | (simp [HeldL]; done) | (simp only [dH]; (repeat' first | trivial | rfl | constructor))) (fun H' hH => OpOk.step (ok_nilCheck rfl rfl)) ?_
        refine any_take 8 rfl (by first | rfl | decide +kernel) rfl (by first | (simp [HeldL]; done) | (simp only [dH]; (repeat' first | trivial | rfl | constructor))) (fun H' hH => OpOk.step (ok_fieldAddr rfl ti_api_Zone rfl rfl ti_int (by decide) rfl)) ?_
        refine any_one 9 rfl (by first | rfl | decide +kernel) rfl rfl (OpOk.step ((ok_store rfl ti_int (by decide) (id := 1) (j := j) (f := 3) rfl rfl rfl (ZR_get hj) rfl (by show 3 + 1 ≤ 6; decide) (.inr rfl)).eq (x' := .any) (H'' := [some ⟨1, true, ints .i64 s.st⟩, some (ZR s.zs j (ZnS { z with full := true, w := x.w } (.sl 2 0 z.pars.length))), some ⟨2, true, Prs z.pars⟩, some (SB s (.sl 0 0 s.st.length) (.sl 1 0 s.zs.length)), some (RcB x)]) rfl (by show [_, some (⟨6, true, (ZR s.zs j (ZnS { z with full := true } (.sl 2 0 z.pars.length))).els.set j (.agg (ZnS { z with full := true, w := x.w } (.sl 2 0 z.pars.length)))⟩ : Blk), _, _, _] = _; rw [ZR_set] <;> rfl))) (.inr (by first | (simp [HeldL]; done) | (simp only [dH]; (repeat' first | trivial | rfl | constructor)))) ?_
        refine any_done rfl ?_
        refine keepK hK33 [] (by dsimp) (by dsimp) ?_
        refine T.exit ?_
        refine keepK hK4 [] (by dsimp) (by dsimp) ?_
        refine T.seq fun K39 hK39 => ?_
        refine T.region ?_
        refine rs rfl rfl (ok_moveb (c := true) (.inr rfl) rfl) ?_
        refine ro_nil ?_
        refine keepK hK39 [6] (by dsimp) (by dsimp) ?_
        refine T.ret (hQ _ _ _ rfl ?_).1 -- ret 12
        exact by (rw [stepZ_3 (by assumption), if_pos (by unfold Z3; refine ⟨?_, ?_, fun _ => ?_⟩ <;> first | assumption | omega | (simp_all; done))]; exact ch_end (z' := { z with full := true, w := x.w }) (p := 2) (l := z.pars) hj rfl rfl rfl (by decide) (Ent.sl0 (b := ⟨2, false, Prs z.pars⟩) rfl rfl (by simp)) ⟨rfl, trivial⟩)
      ·(try simp only [dE] at hb)
       refine ro_skip rfl rfl ?_
       refine ro_skip rfl rfl ?_
       refine ro_skip rfl rfl ?_
       refine rs rfl rfl (ok_pickb (t := false) (d := false) rfl rfl rfl) ?_
       refine rs rfl rfl (ok_pickb (t := false) (d := false) rfl rfl rfl) ?_
       refine ro_nil ?_
       refine keepK hK35 [1, 5, 106] (by dsimp) (by dsimp) ?_
       refine T.cond_false rfl ?_
       refine T.skip ?_
       refine keepK hK34 [1, 5] (by dsimp) (by dsimp) ?_
       refine T.draw mixed (SH [] (HeldL ([none, none, none, none, some (RcB x)]))) ?_
       refine any_take 0 rfl (by first | rfl | decide +kernel) rfl (by first | (simp [HeldL]; done) | (simp only [dH]; (repeat' first | trivial | rfl | constructor))) (fun H' hH => OpOk.step (ok_move (.inl rfl))) ?_
       refine any_take 1 rfl (by first | rfl | decide +kernel) rfl (by first | (simp [HeldL]; done) | (simp only [dH]; (repeat' first | trivial | rfl | constructor))) (fun H' hH => OpOk.step (ok_move (.inl rfl))) ?_
       refine any_take 2 rfl (by first | rfl | decide +kernel) rfl (by first | (simp [HeldL]; done) | (simp only [dH]; (repeat' first | trivial | rfl | constructor))) (fun H' hH => OpOk.step (ok_fieldAddr rfl ti_api_Rec rfl rfl ti_int (by decide) rfl)) ?_
       refine any_take 3 rfl (by first | rfl | decide +kernel) rfl (by first | (simp [HeldL]; done) | (simp only [dH]; (repeat' first | trivial | rfl | constructor))) (fun H' hH => OpOk.step (ok_load rfl ti_int (locA_held hH rfl) rfl)) ?_
       refine any_take 4 rfl (by first | rfl | decide +kernel) rfl (by first | (simp [HeldL]; done) | (simp only [dH]; (repeat' first | trivial | rfl | constructor))) (fun H' hH => OpOk.step (ok_nilCheck rfl rfl)) ?_
       refine any_take 5 rfl (by first | rfl | decide +kernel) rfl (by first | (simp [HeldL]; done) | (simp only [dH]; (repeat' first | trivial | rfl | constructor))) (fun H' hH => OpOk.step (ok_fieldAddr rfl ti_api_Zone rfl rfl ti_bool (by decide) rfl)) ?_
       refine any_one 6 rfl (by first | rfl | decide +kernel) rfl rfl (OpOk.step ((ok_store rfl ti_bool (by decide) (id := 1) (j := j) (f := 2) rfl rfl rfl (ZR_get hj) rfl (by show 2 + 1 ≤ 6; decide) (.inr rfl)).eq (x' := .any) (H'' := [some ⟨1, true, ints .i64 s.st⟩, some (ZR s.zs j (ZnS { z with full := true } (.sl 2 0 z.pars.length))), some ⟨2, true, Prs z.pars⟩, some (SB s (.sl 0 0 s.st.length) (.sl 1 0 s.zs.length)), some (RcB x)]) rfl (by show [_, some (⟨6, true, (ZR s.zs j (ZnS z (.sl 2 0 z.pars.length))).els.set j (.agg (ZnS { z with full := true } (.sl 2 0 z.pars.length)))⟩ : Blk), _, _, _] = _; rw [ZR_set] <;> rfl))) (.inr (by first | (simp [HeldL]; done) | (simp only [dH]; (repeat' first | trivial | rfl | constructor)))) ?_
       refine any_take 7 rfl (by first | rfl | decide +kernel) rfl (by first | (simp [HeldL]; done) | (simp only [dH]; (repeat' first | trivial | rfl | constructor))) (fun H' hH => OpOk.step (ok_nilCheck rfl rfl)) ?_
       refine any_take 8 rfl (by first | rfl | decide +kernel) rfl (by first | (simp [HeldL]; done) | (simp only [dH]; (repeat' first | trivial | rfl | constructor))) (fun H' hH => OpOk.step (ok_fieldAddr rfl ti_api_Zone rfl rfl ti_int (by decide) rfl)) ?_
       refine any_one 9 rfl (by first | rfl | decide +kernel) rfl rfl (OpOk.step ((ok_store rfl ti_int (by decide) (id := 1) (j := j) (f := 3) rfl rfl rfl (ZR_get hj) rfl (by show 3 + 1 ≤ 6; decide) (.inr rfl)).eq (x' := .any) (H'' := [some ⟨1, true, ints .i64 s.st⟩, some (ZR s.zs j (ZnS { z with full := true, w := x.w } (.sl 2 0 z.pars.length))), some ⟨2, true, Prs z.pars⟩, some (SB s (.sl 0 0 s.st.length) (.sl 1 0 s.zs.length)), some (RcB x)]) rfl (by show [_, some (⟨6, true, (ZR s.zs j (ZnS { z with full := true } (.sl 2 0 z.pars.length))).els.set j (.agg (ZnS { z with full := true, w := x.w } (.sl 2 0 z.pars.length)))⟩ : Blk), _, _, _] = _; rw [ZR_set] <;> rfl))) (.inr (by first | (simp [HeldL]; done) | (simp only [dH]; (repeat' first | trivial | rfl | constructor)))) ?_
       refine any_done rfl ?_
       refine keepK hK33 [] (by dsimp) (by dsimp) ?_
       refine T.exit ?_
       refine keepK hK4 [] (by dsimp) (by dsimp) ?_
       refine T.seq fun K40 hK40 => ?_
       refine T.region ?_
       refine rs rfl rfl (ok_moveb (c := true) (.inr rfl) rfl) ?_
       refine ro_nil ?_
       refine keepK hK40 [6] (by dsimp) (by dsimp) ?_
       refine T.ret (hQ _ _ _ rfl ?_).1 -- ret 13
       exact by (rw [stepZ_3 (by assumption), if_pos (by unfold Z3; refine ⟨?_, ?_, fun _ => ?_⟩ <;> first | assumption | omega | (simp_all; done))]; exact ch_end (z' := { z with full := true, w := x.w }) (p := 2) (l := z.pars) hj rfl rfl rfl (by decide) (Ent.sl0 (b := ⟨2, false, Prs z.pars⟩) rfl rfl (by simp)) ⟨rfl, trivial⟩)
   ·(try simp only [dE] at hc)
    refine T.skip ?_
    refine keepK hK31 [1, 3, 5, 7, 8, 16] (by dsimp) (by dsimp) ?_
    refine T.seq fun K41 hK41 => ?_
    refine T.seq fun K42 hK42 => ?_
    refine T.region ?_
    refine rs rfl rfl (ok_binOp rfl ti_int rfl) ?_
    refine rs rfl rfl (ok_move (.inr rfl)) ?_
    refine ro_nil ?_
    refine keepK hK42 [1, 3, 5, 7, 8, 16, 23] (by dsimp) (by dsimp) ?_
    refine T.cond rfl (fun hc => ?_) (fun hc => ?_) -- cond 7
    ·(try simp only [dE] at hc)
     refine T.exit ?_
     refine keepK hK8 [1, 3, 5, 8] (by dsimp) (by dsimp) ?_
     refine T.seq fun K43 hK43 => ?_
     refine T.seq fun K44 hK44 => ?_
     refine T.seq fun K45 hK45 => ?_
     refine T.drawH mixed [] ?_
     refine any_take 0 rfl (by first | rfl | decide +kernel) rfl (HeldL.refl _) (fun H' hH => OpOk.step (ok_move (.inl rfl))) ?_
     refine any_take 1 rfl (by first | rfl | decide +kernel) rfl (HeldL.refl _) (fun H' hH => OpOk.step (ok_nilCheck rfl rfl)) ?_
     refine any_take 2 rfl (by first | rfl | decide +kernel) rfl (HeldL.refl _) (fun H' hH => OpOk.step (ok_fieldAddr rfl ti_api_Zone rfl rfl ti_int (by decide) rfl)) ?_
     refine any_take 3 rfl (by first | rfl | decide +kernel) rfl (HeldL.refl _) (fun H' hH => OpOk.step (by exact ok_load rfl ti_int (cl := ZnS z (.sl 2 0 z.pars.length)) (f := 1) (locA_held hH (ZR_loc hj rfl)) rfl)) ?_
     refine any_take 4 rfl (by first | rfl | decide +kernel) rfl (HeldL.refl _) (fun H' hH => OpOk.step (ok_binOp rfl ti_int rfl)) ?_
     refine any_take_case 5 rfl (by first | rfl | decide +kernel) rfl (HeldL.refl _) (fun H' hH => OpOk.step (ok_moveb (.inl rfl) rfl)) (fun hb => ?_) (fun hb => ?_)
     ·(try simp only [dE] at hb)
      refine any_skip 6 rfl (by first | rfl | decide +kernel) rfl (HeldL.refl _) ?_
      refine any_skip 7 rfl (by first | rfl | decide +kernel) rfl (HeldL.refl _) ?_
      refine any_skip 8 rfl (by first | rfl | decide +kernel) rfl (HeldL.refl _) ?_
      refine any_skip 9 rfl (by first | rfl | decide +kernel) rfl (HeldL.refl _) ?_
      refine any_take 10 rfl (by first | rfl | decide +kernel) rfl (HeldL.refl _) (fun H' hH => OpOk.step (ok_pickb (t := true) (d := true) rfl rfl rfl)) ?_
      refine any_take 11 rfl (by first | rfl | decide +kernel) rfl (HeldL.refl _) (fun H' hH => OpOk.step (ok_moveb (c := true) (.inl rfl) rfl)) ?_
      refine any_skip 12 rfl (by first | rfl | decide +kernel) rfl (HeldL.refl _) ?_
      refine any_skip 13 rfl (by first | rfl | decide +kernel) rfl (HeldL.refl _) ?_
      refine any_skip 14 rfl (by first | rfl | decide +kernel) rfl (HeldL.refl _) ?_
      refine any_skip 15 rfl (by first | rfl | decide +kernel) rfl (HeldL.refl _) ?_
      refine any_skip 16 rfl (by first | rfl | decide +kernel) rfl (HeldL.refl _) ?_
      refine any_skip 17 rfl (by first | rfl | decide +kernel) rfl (HeldL.refl _) ?_
      refine any_skip 18 rfl (by first | rfl | decide +kernel) rfl (HeldL.refl _) ?_
      refine any_take 19 rfl (by first | rfl | decide +kernel) rfl (HeldL.refl _) (fun H' hH => OpOk.step (ok_pickb (t := true) (d := true) rfl rfl rfl)) ?_
      refine any_take 20 rfl (by first | rfl | decide +kernel) rfl (HeldL.refl _) (fun H' hH => OpOk.step (ok_moveb (c := true) (.inl rfl) rfl)) ?_
      refine any_skip 21 rfl (by first | rfl | decide +kernel) rfl (HeldL.refl _) ?_
      refine any_skip 22 rfl (by first | rfl | decide +kernel) rfl (HeldL.refl _) ?_
      refine any_skip 23 rfl (by first | rfl | decide +kernel) rfl (HeldL.refl _) ?_
      refine any_one_skip 24 rfl (by first | rfl | decide +kernel) rfl rfl (.inr (HeldL.refl _)) ?_
      refine any_skip 25 rfl (by first | rfl | decide +kernel) rfl (by first | exact HeldL.refl _ | exact HeldL.append _ _ | simp [HeldL]) ?_
      refine any_take 26 rfl (by first | rfl | decide +kernel) rfl (by first | exact HeldL.refl _ | exact HeldL.append _ _ | simp [HeldL]) (fun H' hH => OpOk.step (ok_pickb (t := true) (d := true) rfl rfl rfl)) ?_
      refine any_take 27 rfl (by first | rfl | decide +kernel) rfl (by first | exact HeldL.refl _ | exact HeldL.append _ _ | simp [HeldL]) (fun H' hH => OpOk.step (ok_moveb (c := true) (.inl rfl) rfl)) ?_
      refine any_skip 28 rfl (by first | rfl | decide +kernel) rfl (by first | exact HeldL.refl _ | exact HeldL.append _ _ | simp [HeldL]) ?_
      refine any_skip 29 rfl (by first | rfl | decide +kernel) rfl (by first | exact HeldL.refl _ | exact HeldL.append _ _ | simp [HeldL]) ?_
      refine any_skip 30 rfl (by first | rfl | decide +kernel) rfl (by first | exact HeldL.refl _ | exact HeldL.append _ _ | simp [HeldL]) ?_
      refine any_skip 31 rfl (by first | rfl | decide +kernel) rfl (by first | exact HeldL.refl _ | exact HeldL.append _ _ | simp [HeldL]) ?_
      refine any_one_skip 32 rfl (by first | rfl | decide +kernel) rfl rfl (.inr (by first | exact HeldL.refl _ | exact HeldL.append _ _ | simp [HeldL])) ?_
      refine any_skip 33 rfl (by first | rfl | decide +kernel) rfl (by first | exact HeldL.refl _ | exact HeldL.append _ _ | simp [HeldL]) ?_
      refine any_take 34 rfl (by first | rfl | decide +kernel) rfl (by first | exact HeldL.refl _ | exact HeldL.append _ _ | simp [HeldL]) (fun H' hH => OpOk.step (ok_pickb (t := true) (d := true) rfl rfl rfl)) ?_
      refine any_done rfl ?_
      refine keepK hK45 [1, 5, 149] (by dsimp) (by dsimp) ?_
      refine T.cond_true rfl ?_
      refine T.seq fun K46 hK46 => ?_
      refine T.region ?_
      refine rs rfl rfl (ok_moveb (c := false) (.inr rfl) rfl) ?_
      refine ro_nil ?_
      refine keepK hK46 [6] (by dsimp) (by dsimp) ?_
      refine T.ret (hQ _ _ _ rfl ?_).1 -- ret 14
      exact by (rw [stepZ_4 (by assumption), if_neg (by unfold Z4; intro h; obtain ⟨h1, h2, h3, h4, h5⟩ := h; first | omega | (simp_all; done))]; exact ch_end (z' := z) (p := 2) (l := z.pars) hj rfl rfl rfl (by decide) (Ent.sl0 (b := ⟨2, false, Prs z.pars⟩) rfl rfl (by simp)) ⟨rfl, trivial⟩)
     ·(try simp only [dE] at hb)
      refine any_take 6 rfl (by first | rfl | decide +kernel) rfl (HeldL.refl _) (fun H' hH => OpOk.step (ok_move (.inl rfl))) ?_
      refine any_take 7 rfl (by first | rfl | decide +kernel) rfl (HeldL.refl _) (fun H' hH => OpOk.step (ok_nilCheck rfl rfl)) ?_
      refine any_take 8 rfl (by first | rfl | decide +kernel) rfl (HeldL.refl _) (fun H' hH => OpOk.step (ok_fieldAddr rfl ti_api_Zone rfl rfl ti_bool (by decide) rfl)) ?_
      refine any_take 9 rfl (by first | rfl | decide +kernel) rfl (HeldL.refl _) (fun H' hH => OpOk.step (by exact ok_load rfl ti_bool (cl := ZnS z (.sl 2 0 z.pars.length)) (f := 2) (locA_held hH (ZR_loc hj rfl)) rfl)) ?_
      refine any_take 10 rfl (by first | rfl | decide +kernel) rfl (HeldL.refl _) (fun H' hH => OpOk.step (ok_pick rfl rfl)) ?_
      refine any_take_case 11 rfl (by first | rfl | decide +kernel) rfl (HeldL.refl _) (fun H' hH => OpOk.step (ok_moveb (.inl rfl) rfl)) (fun hb => ?_) (fun hb => ?_)
      ·(try simp only [dE] at hb)
       refine any_skip 12 rfl (by first | rfl | decide +kernel) rfl (HeldL.refl _) ?_
       refine any_skip 13 rfl (by first | rfl | decide +kernel) rfl (HeldL.refl _) ?_
       refine any_skip 14 rfl (by first | rfl | decide +kernel) rfl (HeldL.refl _) ?_
       refine any_skip 15 rfl (by first | rfl | decide +kernel) rfl (HeldL.refl _) ?_
       refine any_skip 16 rfl (by first | rfl | decide +kernel) rfl (HeldL.refl _) ?_
       refine any_skip 17 rfl (by first | rfl | decide +kernel) rfl (HeldL.refl _) ?_
       refine any_skip 18 rfl (by first | rfl | decide +kernel) rfl (HeldL.refl _) ?_
       refine any_take 19 rfl (by first | rfl | decide +kernel) rfl (HeldL.refl _) (fun H' hH => OpOk.step (ok_pickb (t := true) (d := true) rfl rfl rfl)) ?_
       refine any_take 20 rfl (by first | rfl | decide +kernel) rfl (HeldL.refl _) (fun H' hH => OpOk.step (ok_moveb (c := true) (.inl rfl) rfl)) ?_
       refine any_skip 21 rfl (by first | rfl | decide +kernel) rfl (HeldL.refl _) ?_
       refine any_skip 22 rfl (by first | rfl | decide +kernel) rfl (HeldL.refl _) ?_
       refine any_skip 23 rfl (by first | rfl | decide +kernel) rfl (HeldL.refl _) ?_
       refine any_one_skip 24 rfl (by first | rfl | decide +kernel) rfl rfl (.inr (HeldL.refl _)) ?_
       refine any_skip 25 rfl (by first | rfl | decide +kernel) rfl (by first | exact HeldL.refl _ | exact HeldL.append _ _ | simp [HeldL]) ?_
       refine any_take 26 rfl (by first | rfl | decide +kernel) rfl (by first | exact HeldL.refl _ | exact HeldL.append _ _ | simp [HeldL]) (fun H' hH => OpOk.step (ok_pickb (t := true) (d := true) rfl rfl rfl)) ?_
       refine any_take 27 rfl (by first | rfl | decide +kernel) rfl (by first | exact HeldL.refl _ | exact HeldL.append _ _ | simp [HeldL]) (fun H' hH => OpOk.step (ok_moveb (c := true) (.inl rfl) rfl)) ?_
       refine any_skip 28 rfl (by first | rfl | decide +kernel) rfl (by first | exact HeldL.refl _ | exact HeldL.append _ _ | simp [HeldL]) ?_
       refine any_skip 29 rfl (by first | rfl | decide +kernel) rfl (by first | exact HeldL.refl _ | exact HeldL.append _ _ | simp [HeldL]) ?_
       refine any_skip 30 rfl (by first | rfl | decide +kernel) rfl (by first | exact HeldL.refl _ | exact HeldL.append _ _ | simp [HeldL]) ?_
       refine any_skip 31 rfl (by first | rfl | decide +kernel) rfl (by first | exact HeldL.refl _ | exact HeldL.append _ _ | simp [HeldL]) ?_
       refine any_one_skip 32 rfl (by first | rfl | decide +kernel) rfl rfl (.inr (by first | exact HeldL.refl _ | exact HeldL.append _ _ | simp [HeldL])) ?_
       refine any_skip 33 rfl (by first | rfl | decide +kernel) rfl (by first | exact HeldL.refl _ | exact HeldL.append _ _ | simp [HeldL]) ?_
       refine any_take 34 rfl (by first | rfl | decide +kernel) rfl (by first | exact HeldL.refl _ | exact HeldL.append _ _ | simp [HeldL]) (fun H' hH => OpOk.step (ok_pickb (t := true) (d := true) rfl rfl rfl)) ?_
       refine any_done rfl ?_
       refine keepK hK45 [1, 5, 149] (by dsimp) (by dsimp) ?_
       refine T.cond_true rfl ?_
       refine T.seq fun K47 hK47 => ?_
       refine T.region ?_
       refine rs rfl rfl (ok_moveb (c := false) (.inr rfl) rfl) ?_
       refine ro_nil ?_
       refine keepK hK47 [6] (by dsimp) (by dsimp) ?_
       refine T.ret (hQ _ _ _ rfl ?_).1 -- ret 15
       exact by (rw [stepZ_4 (by assumption), if_neg (by unfold Z4; intro h; obtain ⟨h1, h2, h3, h4, h5⟩ := h; first | omega | (simp_all; done))]; exact ch_end (z' := z) (p := 2) (l := z.pars) hj rfl rfl rfl (by decide) (Ent.sl0 (b := ⟨2, false, Prs z.pars⟩) rfl rfl (by simp)) ⟨rfl, trivial⟩)
      ·(try simp only [dE] at hb)
       refine any_take 12 rfl (by first | rfl | decide +kernel) rfl (HeldL.refl _) (fun H' hH => OpOk.step (ok_move (.inl rfl))) ?_
       refine any_take 13 rfl (by first | rfl | decide +kernel) rfl (HeldL.refl _) (fun H' hH => OpOk.step (ok_nilCheck rfl rfl)) ?_
       refine any_take 14 rfl (by first | rfl | decide +kernel) rfl (HeldL.refl _) (fun H' hH => OpOk.step (ok_fieldAddr rfl ti_api_Zone rfl rfl ti_int (by decide) rfl)) ?_
       refine any_take 15 rfl (by first | rfl | decide +kernel) rfl (HeldL.refl _) (fun H' hH => OpOk.step (by exact ok_load rfl ti_int (cl := ZnS z (.sl 2 0 z.pars.length)) (f := 0) (locA_held hH (ZR_loc hj rfl)) rfl)) ?_
       refine any_take 16 rfl (by first | rfl | decide +kernel) rfl (HeldL.refl _) (fun H' hH => OpOk.step (ok_fieldAddr rfl ti_api_Rec rfl rfl ti_int (by decide) rfl)) ?_
       refine any_take 17 rfl (by first | rfl | decide +kernel) rfl (HeldL.refl _) (fun H' hH => OpOk.step (ok_load rfl ti_int (locA_held hH rfl) rfl)) ?_
       refine any_take 18 rfl (by first | rfl | decide +kernel) rfl (HeldL.refl _) (fun H' hH => OpOk.step (ok_binOp rfl ti_int rfl)) ?_
       refine any_take 19 rfl (by first | rfl | decide +kernel) rfl (HeldL.refl _) (fun H' hH => OpOk.step (ok_pick rfl rfl)) ?_
       refine any_take_case 20 rfl (by first | rfl | decide +kernel) rfl (HeldL.refl _) (fun H' hH => OpOk.step (ok_moveb (.inl rfl) rfl)) (fun hb => ?_) (fun hb => ?_)
       ·(try simp only [dE] at hb)
        refine any_skip 21 rfl (by first | rfl | decide +kernel) rfl (HeldL.refl _) ?_
        refine any_skip 22 rfl (by first | rfl | decide +kernel) rfl (HeldL.refl _) ?_
        refine any_skip 23 rfl (by first | rfl | decide +kernel) rfl (HeldL.refl _) ?_
        refine any_one_skip 24 rfl (by first | rfl | decide +kernel) rfl rfl (.inr (HeldL.refl _)) ?_
        refine any_skip 25 rfl (by first | rfl | decide +kernel) rfl (by first | exact HeldL.refl _ | exact HeldL.append _ _ | simp [HeldL]) ?_
        refine any_take 26 rfl (by first | rfl | decide +kernel) rfl (by first | exact HeldL.refl _ | exact HeldL.append _ _ | simp [HeldL]) (fun H' hH => OpOk.step (ok_pickb (t := true) (d := true) rfl rfl rfl)) ?_
        refine any_take 27 rfl (by first | rfl | decide +kernel) rfl (by first | exact HeldL.refl _ | exact HeldL.append _ _ | simp [HeldL]) (fun H' hH => OpOk.step (ok_moveb (c := true) (.inl rfl) rfl)) ?_
        refine any_skip 28 rfl (by first | rfl | decide +kernel) rfl (by first | exact HeldL.refl _ | exact HeldL.append _ _ | simp [HeldL]) ?_
        refine any_skip 29 rfl (by first | rfl | decide +kernel) rfl (by first | exact HeldL.refl _ | exact HeldL.append _ _ | simp [HeldL]) ?_
        refine any_skip 30 rfl (by first | rfl | decide +kernel) rfl (by first | exact HeldL.refl _ | exact HeldL.append _ _ | simp [HeldL]) ?_
        refine any_skip 31 rfl (by first | rfl | decide +kernel) rfl (by first | exact HeldL.refl _ | exact HeldL.append _ _ | simp [HeldL]) ?_
        refine any_one_skip 32 rfl (by first | rfl | decide +kernel) rfl rfl (.inr (by first | exact HeldL.refl _ | exact HeldL.append _ _ | simp [HeldL])) ?_
        refine any_skip 33 rfl (by first | rfl | decide +kernel) rfl (by first | exact HeldL.refl _ | exact HeldL.append _ _ | simp [HeldL]) ?_
        refine any_take 34 rfl (by first | rfl | decide +kernel) rfl (by first | exact HeldL.refl _ | exact HeldL.append _ _ | simp [HeldL]) (fun H' hH => OpOk.step (ok_pickb (t := true) (d := true) rfl rfl rfl)) ?_
        refine any_done rfl ?_
        refine keepK hK45 [1, 5, 149] (by dsimp) (by dsimp) ?_
        refine T.cond_true rfl ?_
        refine T.seq fun K48 hK48 => ?_
        refine T.region ?_
        refine rs rfl rfl (ok_moveb (c := false) (.inr rfl) rfl) ?_
        refine ro_nil ?_
        refine keepK hK48 [6] (by dsimp) (by dsimp) ?_
        refine T.ret (hQ _ _ _ rfl ?_).1 -- ret 16
        exact by (rw [stepZ_4 (by assumption), if_neg (by unfold Z4; intro h; obtain ⟨h1, h2, h3, h4, h5⟩ := h; first | omega | (simp_all; done))]; exact ch_end (z' := z) (p := 2) (l := z.pars) hj rfl rfl rfl (by decide) (Ent.sl0 (b := ⟨2, false, Prs z.pars⟩) rfl rfl (by simp)) ⟨rfl, trivial⟩)
       ·(try simp only [dE] at hb)
        refine any_take 21 rfl (by first | rfl | decide +kernel) rfl (HeldL.refl _) (fun H' hH => OpOk.step (ok_fieldAddr rfl ti_api_Rec rfl rfl ti_int (by decide) rfl)) ?_
        refine any_take 22 rfl (by first | rfl | decide +kernel) rfl (HeldL.refl _) (fun H' hH => OpOk.step (ok_load rfl ti_int (locA_held hH rfl) rfl)) ?_
        refine any_take 23 rfl (by first | rfl | decide +kernel) rfl (HeldL.refl _) (fun H' hH => OpOk.step (ok_move (.inl rfl))) ?_
        refine any_one 24 rfl (by first | rfl | decide +kernel) rfl rfl (ok_call rfl rfl rfl ((sin_ok x.w 1 (sizeC s.c)).plain rfl rfl)) (.inr (by first | (simp [HeldL]; done) | (simp only [dH]; (repeat' first | trivial | rfl | constructor)))) ?_
        refine any_take 25 rfl (by first | rfl | decide +kernel) rfl (by first | exact HeldL.refl _ | exact HeldL.append _ _ | simp [HeldL]) (fun H' hH => OpOk.step (ok_unOp rfl rfl)) ?_
        refine any_take 26 rfl (by first | rfl | decide +kernel) rfl (by first | exact HeldL.refl _ | exact HeldL.append _ _ | simp [HeldL]) (fun H' hH => OpOk.step (ok_pick rfl rfl)) ?_
        refine any_take_case 27 rfl (by first | rfl | decide +kernel) rfl (by first | exact HeldL.refl _ | exact HeldL.append _ _ | simp [HeldL]) (fun H' hH => OpOk.step (ok_moveb (.inl rfl) rfl)) (fun hb => ?_) (fun hb => ?_)
        ·(try simp only [dE] at hb)
         refine any_skip 28 rfl (by first | rfl | decide +kernel) rfl (by first | exact HeldL.refl _ | exact HeldL.append _ _ | simp [HeldL]) ?_
         refine any_skip 29 rfl (by first | rfl | decide +kernel) rfl (by first | exact HeldL.refl _ | exact HeldL.append _ _ | simp [HeldL]) ?_
         refine any_skip 30 rfl (by first | rfl | decide +kernel) rfl (by first | exact HeldL.refl _ | exact HeldL.append _ _ | simp [HeldL]) ?_
         refine any_skip 31 rfl (by first | rfl | decide +kernel) rfl (by first | exact HeldL.refl _ | exact HeldL.append _ _ | simp [HeldL]) ?_
         refine any_one_skip 32 rfl (by first | rfl | decide +kernel) rfl rfl (.inr (by first | exact HeldL.refl _ | exact HeldL.append _ _ | simp [HeldL])) ?_
         refine any_skip 33 rfl (by first | rfl | decide +kernel) rfl (by first | exact HeldL.refl _ | exact HeldL.append _ _ | simp [HeldL]) ?_
         refine any_take 34 rfl (by first | rfl | decide +kernel) rfl (by first | exact HeldL.refl _ | exact HeldL.append _ _ | simp [HeldL]) (fun H' hH => OpOk.step (ok_pickb (t := true) (d := true) rfl rfl rfl)) ?_
         refine any_done rfl ?_
         refine keepK hK45 [1, 5, 149] (by dsimp) (by dsimp) ?_
         refine T.cond_true rfl ?_
         refine T.seq fun K49 hK49 => ?_
         refine T.region ?_
         refine rs rfl rfl (ok_moveb (c := false) (.inr rfl) rfl) ?_
         refine ro_nil ?_
         refine keepK hK49 [6] (by dsimp) (by dsimp) ?_
         refine T.ret (hQ _ _ _ rfl ?_).1 -- ret 17
         exact by (rw [stepZ_4 (by assumption), if_neg (by unfold Z4; intro h; obtain ⟨h1, h2, h3, h4, h5⟩ := h; first | omega | (simp_all; done))]; exact ch_end (z' := z) (p := 2) (l := z.pars) hj rfl rfl rfl (by decide) (Ent.sl0 (b := ⟨2, false, Prs z.pars⟩) rfl rfl (by simp)) ⟨rfl, trivial⟩)
        ·(try simp only [dE] at hb)
         refine any_take 28 rfl (by first | rfl | decide +kernel) rfl (by first | exact HeldL.refl _ | exact HeldL.append _ _ | simp [HeldL]) (fun H' hH => OpOk.step (ok_fieldAddr rfl ti_api_Rec rfl rfl ti_Luint8 (by decide) rfl)) ?_
         refine any_take 29 rfl (by first | rfl | decide +kernel) rfl (by first | exact HeldL.refl _ | exact HeldL.append _ _ | simp [HeldL]) (fun H' hH => OpOk.step (ok_load rfl ti_Luint8 (locA_held hH rfl) rfl)) ?_
         refine any_take 30 rfl (by first | rfl | decide +kernel) rfl (by first | exact HeldL.refl _ | exact HeldL.append _ _ | simp [HeldL]) (fun H' hH => OpOk.step (ok_len' rfl rfl ti_Luint8 rfl (by first | exact ints_length _ _ | exact rowsA_length _ _ | exact Cms_len _ | exact mapLen _ | rfl))) ?_
         refine any_take 31 rfl (by first | rfl | decide +kernel) rfl (by first | exact HeldL.refl _ | exact HeldL.append _ _ | simp [HeldL]) (fun H' hH => OpOk.step (ok_load rfl ti_api_State (locA_held hH rfl) rfl)) ?_
         refine any_one 32 rfl (by first | rfl | decide +kernel) rfl rfl (ok_call rfl rfl rfl ((sunit_ok s hck).lendV (EntL.cons (Ent.stz s hz rfl rfl rfl) EntL.nil) (by simp [renL, AV.ren, StC_ren]))) (.inr (by first | (simp [HeldL]; done) | (simp only [dH]; (repeat' first | trivial | rfl | constructor)))) ?_
         refine any_take 33 rfl (by first | rfl | decide +kernel) rfl (by first | exact HeldL.refl _ | exact HeldL.append _ _ | simp [HeldL]) (fun H' hH => OpOk.step (ok_binOp rfl ti_int rfl)) ?_
         refine any_take 34 rfl (by first | rfl | decide +kernel) rfl (by first | exact HeldL.refl _ | exact HeldL.append _ _ | simp [HeldL]) (fun H' hH => OpOk.step (ok_pick rfl rfl)) ?_
         refine any_done rfl ?_
         refine keepK hK45 [1, 5, 149] (by dsimp) (by dsimp) ?_
         refine T.cond rfl (fun hc => ?_) (fun hc => ?_) -- cond 8
         ·(try simp only [dE] at hc)
          refine T.seq fun K50 hK50 => ?_
          refine T.region ?_
          refine rs rfl rfl (ok_moveb (c := false) (.inr rfl) rfl) ?_
          refine ro_nil ?_
          refine keepK hK50 [6] (by dsimp) (by dsimp) ?_
          refine T.ret (hQ _ _ _ rfl ?_).1 -- ret 18
          exact by (rw [stepZ_4 (by assumption), if_neg (by unfold Z4; intro h; obtain ⟨h1, h2, h3, h4, h5⟩ := h; first | omega | (simp_all; done))]; exact ch_end (z' := z) (p := 2) (l := z.pars) hj rfl rfl rfl (by decide) (Ent.sl0 (b := ⟨2, false, Prs z.pars⟩) rfl rfl (by simp)) ⟨rfl, trivial⟩)
         ·(try simp only [dE] at hc)
          refine T.skip ?_
          refine keepK hK44 [1, 5] (by dsimp) (by dsimp) ?_
          refine T.seq fun K51 hK51 => ?_
          refine T.draw mixed (SH [15] (HeldL ([none, some (ZR s.zs j (ZnS z (.sl 2 0 z.pars.length))), none, none, some (RcB x)]))) ?_
          refine any_take 0 rfl (by first | rfl | decide +kernel) rfl (by first | (simp [HeldL]; done) | (simp only [dH]; (repeat' first | trivial | rfl | constructor))) (fun H' hH => OpOk.step (ok_move (.inl rfl))) ?_
          refine any_take 1 rfl (by first | rfl | decide +kernel) rfl (by first | (simp [HeldL]; done) | (simp only [dH]; (repeat' first | trivial | rfl | constructor))) (fun H' hH => OpOk.step (ok_move (.inl rfl))) ?_
          refine any_take 2 rfl (by first | rfl | decide +kernel) rfl (by first | (simp [HeldL]; done) | (simp only [dH]; (repeat' first | trivial | rfl | constructor))) (fun H' hH => OpOk.step (ok_nilCheck rfl rfl)) ?_
          refine any_take 3 rfl (by first | rfl | decide +kernel) rfl (by first | (simp [HeldL]; done) | (simp only [dH]; (repeat' first | trivial | rfl | constructor))) (fun H' hH => OpOk.step (ok_fieldAddr rfl ti_api_Zone rfl rfl ti_Lapi_Par (by decide) rfl)) ?_
          refine any_take 4 rfl (by first | rfl | decide +kernel) rfl (by first | (simp [HeldL]; done) | (simp only [dH]; (repeat' first | trivial | rfl | constructor))) (fun H' hH => OpOk.step (by exact ok_load rfl ti_Lapi_Par (cl := ZnS z (.sl 2 0 z.pars.length)) (f := 5) (locA_held hH (ZR_loc hj rfl)) rfl)) ?_
          refine any_take 5 rfl (by first | rfl | decide +kernel) rfl (by first | (simp [HeldL]; done) | (simp only [dH]; (repeat' first | trivial | rfl | constructor))) (fun H' hH => OpOk.step (ok_fieldAddr rfl ti_api_Rec rfl rfl ti_int (by decide) rfl)) ?_
          refine any_take 6 rfl (by first | rfl | decide +kernel) rfl (by first | (simp [HeldL]; done) | (simp only [dH]; (repeat' first | trivial | rfl | constructor))) (fun H' hH => OpOk.step (ok_load rfl ti_int (locA_held hH rfl) rfl)) ?_
          refine any_take 7 rfl (by first | rfl | decide +kernel) rfl (by first | (simp [HeldL]; done) | (simp only [dH]; (repeat' first | trivial | rfl | constructor))) (fun H' hH => OpOk.step (ok_fieldAddr rfl ti_api_Rec rfl rfl ti_Luint8 (by decide) rfl)) ?_
          refine any_take 8 rfl (by first | rfl | decide +kernel) rfl (by first | (simp [HeldL]; done) | (simp only [dH]; (repeat' first | trivial | rfl | constructor))) (fun H' hH => OpOk.step (ok_load rfl ti_Luint8 (locA_held hH rfl) rfl)) ?_
          refine any_one 9 rfl (by first | rfl | decide +kernel) rfl rfl (ok_call rfl rfl rfl ((clone_frz x.body (by omega)).plain (by simp [renL, AV.ren, renL_ints]) (by simp [AV.ren, renL_ints]))) (.inr (by first | (simp [HeldL]; done) | (simp only [dH]; (repeat' first | trivial | rfl | constructor)))) ?_
          refine any_take 10 rfl (by first | rfl | decide +kernel) rfl (by first | (simp [HeldL]; done) | (simp only [dH]; (repeat' first | trivial | rfl | constructor))) (fun H' hH => OpOk.step (ok_build rfl ti_api_Par rfl)) ?_
          refine any_one 11 rfl (by first | rfl | decide +kernel) rfl rfl (OpOk.step (ok_buildSlice (n := 1) (ps := #[(0, .tmp 160)]) rfl ti_Lapi_Par rfl ti_api_Par (by decide) rfl rfl (by decide) rfl rfl rfl)) (.inr (by first | (simp [HeldL]; done) | (simp only [dH]; (repeat' first | trivial | rfl | constructor)))) ?_
          refine any_one 12 rfl (by first | rfl | decide +kernel) rfl rfl (OpOk.step (by exact ok_append_map (fun p => .agg (PrC p)) (xs := z.pars) (ys := [(⟨x.w, x.body⟩ : Pr)]) rfl ti_Lapi_Par rfl ti_api_Par (by decide) (by decide) rfl ti_Lapi_Par (by simp) rfl rfl rfl rfl rfl rfl rfl rfl rfl (by show (z.pars.length + 1) * 32 ≤ _; omega))) (.inr (by first | (simp [HeldL]; done) | (simp only [dH]; (repeat' first | trivial | rfl | constructor)))) ?_
          refine any_take 13 rfl (by first | rfl | decide +kernel) rfl (by first | (simp [HeldL]; done) | (simp only [dH]; (repeat' first | trivial | rfl | constructor))) (fun H' hH => OpOk.step (ok_nilCheck rfl rfl)) ?_
          refine any_take 14 rfl (by first | rfl | decide +kernel) rfl (by first | (simp [HeldL]; done) | (simp only [dH]; (repeat' first | trivial | rfl | constructor))) (fun H' hH => OpOk.step (ok_fieldAddr rfl ti_api_Zone rfl rfl ti_Lapi_Par (by decide) rfl)) ?_
          refine any_one 15 rfl (by first | rfl | decide +kernel) rfl rfl (OpOk.step ((ok_store rfl ti_Lapi_Par (by decide) (id := 1) (j := j) (f := 5) rfl rfl rfl (ZR_get hj) rfl (by show 5 + 1 ≤ 6; decide) (.inr rfl)).eq (x' := .any) (H'' := [some ⟨1, true, ints .i64 s.st⟩, some (ZR s.zs j (ZnS z (.sl 6 0 (z.pars ++ [(⟨x.w, x.body⟩ : Pr)]).length))), none, some (SB s (.sl 0 0 s.st.length) (.sl 1 0 s.zs.length)), some (RcB x), some ⟨2, true, Prs [(⟨x.w, x.body⟩ : Pr)]⟩, some ⟨2, true, Prs (z.pars ++ [(⟨x.w, x.body⟩ : Pr)])⟩]) rfl (by show [_, some (⟨6, true, (ZR s.zs j (ZnS z (.sl 2 0 z.pars.length))).els.set j (.agg (ZnS z (.sl 6 0 (z.pars ++ [(⟨x.w, x.body⟩ : Pr)]).length)))⟩ : Blk), _, _, _, _, _] = _; rw [ZR_set] <;> rfl))) (.inl (by simp)) ?_
          refine any_done rfl ?_
          refine keepK hK51 [1] (by dsimp) (by dsimp) ?_
          refine T.drawH mixed [15] ?_
          refine any_take 0 rfl (by first | rfl | decide +kernel) rfl (HeldL.refl _) (fun H' hH => OpOk.step (ok_move (.inl rfl))) ?_
          refine any_take 1 rfl (by first | rfl | decide +kernel) rfl (HeldL.refl _) (fun H' hH => OpOk.step (ok_move (.inl rfl))) ?_
          refine any_take 2 rfl (by first | rfl | decide +kernel) rfl (HeldL.refl _) (fun H' hH => OpOk.step (ok_nilCheck rfl rfl)) ?_
          refine any_take 3 rfl (by first | rfl | decide +kernel) rfl (HeldL.refl _) (fun H' hH => OpOk.step (ok_fieldAddr rfl ti_api_Zone rfl rfl ti_Lapi_Par (by decide) rfl)) ?_
          refine any_take 4 rfl (by first | rfl | decide +kernel) rfl (HeldL.refl _) (fun H' hH => OpOk.step (by exact ok_load rfl ti_Lapi_Par (cl := ZnS z (.sl 6 0 (z.pars ++ [(⟨x.w, x.body⟩ : Pr)]).length)) (f := 5) (locA_held hH (ZR_loc hj rfl)) rfl)) ?_
          refine any_take 5 rfl (by first | rfl | decide +kernel) rfl (HeldL.refl _) (fun H' hH => OpOk.step (ok_move (.inl rfl))) ?_
          refine any_take 6 rfl (by first | rfl | decide +kernel) rfl (HeldL.refl _) (fun H' hH => OpOk.step (ok_nilCheck rfl rfl)) ?_
          refine any_take 7 rfl (by first | rfl | decide +kernel) rfl (HeldL.refl _) (fun H' hH => OpOk.step (ok_fieldAddr rfl ti_api_Zone rfl rfl ti_Lapi_Par (by decide) rfl)) ?_
          refine any_take 8 rfl (by first | rfl | decide +kernel) rfl (HeldL.refl _) (fun H' hH => OpOk.step (by exact ok_load rfl ti_Lapi_Par (cl := ZnS z (.sl 6 0 (z.pars ++ [(⟨x.w, x.body⟩ : Pr)]).length)) (f := 5) (locA_held hH (ZR_loc hj rfl)) rfl)) ?_
          refine any_take 9 rfl (by first | rfl | decide +kernel) rfl (HeldL.refl _) (fun H' hH => OpOk.step (ok_len' rfl rfl ti_Lapi_Par rfl (by first | exact ints_length _ _ | exact rowsA_length _ _ | exact Cms_len _ | exact mapLen _ | rfl))) ?_
          refine any_take 10 rfl (by first | rfl | decide +kernel) rfl (HeldL.refl _) (fun H' hH => OpOk.step (by exact ok_sub64 rfl ti_int rfl rfl (by simp; omega) (by simp; omega))) ?_
          refine any_take 11 rfl (by first | rfl | decide +kernel) rfl (HeldL.refl _) (fun H' hH => OpOk.step ((ok_max rfl rfl rfl).eq (x' := .int (((z.pars ++ [(⟨x.w, x.body⟩ : Pr)]).length - 2 : Nat) : Int)) (by exact congrArg AV.int (by simp; omega)) rfl)) ?_
          refine any_take 12 rfl (by first | rfl | decide +kernel) rfl (HeldL.refl _) (fun H' hH => OpOk.step (by exact ok_slice (r := .sl 6 ((z.pars ++ [(⟨x.w, x.body⟩ : Pr)]).length - 2) ((z.pars ++ [(⟨x.w, x.body⟩ : Pr)]).length - ((z.pars ++ [(⟨x.w, x.body⟩ : Pr)]).length - 2))) rfl ti_Lapi_Par (.inl ⟨_, _, rfl, ti_api_Par, rfl⟩) rfl rfl rfl (sliceA_held hH (by simp [sliceA, hget]; omega)))) ?_
          refine any_take 13 rfl (by first | rfl | decide +kernel) rfl (HeldL.refl _) (fun H' hH => OpOk.step (ok_nilCheck rfl rfl)) ?_
          refine any_take 14 rfl (by first | rfl | decide +kernel) rfl (HeldL.refl _) (fun H' hH => OpOk.step (ok_fieldAddr rfl ti_api_Zone rfl rfl ti_Lapi_Par (by decide) rfl)) ?_
          refine any_one 15 rfl (by first | rfl | decide +kernel) rfl rfl (OpOk.step ((ok_store rfl ti_Lapi_Par (by decide) (id := 1) (j := j) (f := 5) rfl rfl rfl (ZR_get hj) rfl (by show 5 + 1 ≤ 6; decide) (.inr rfl)).eq (x' := .any) (H'' := [some ⟨1, true, ints .i64 s.st⟩, some (ZR s.zs j (ZnS z (.sl 6 ((z.pars ++ [(⟨x.w, x.body⟩ : Pr)]).length - 2) ((z.pars ++ [(⟨x.w, x.body⟩ : Pr)]).length - ((z.pars ++ [(⟨x.w, x.body⟩ : Pr)]).length - 2))))), none, some (SB s (.sl 0 0 s.st.length) (.sl 1 0 s.zs.length)), some (RcB x), some ⟨2, true, Prs [(⟨x.w, x.body⟩ : Pr)]⟩, some ⟨2, true, Prs (z.pars ++ [(⟨x.w, x.body⟩ : Pr)])⟩]) rfl (by show [_, some (⟨6, true, (ZR s.zs j (ZnS z (.sl 6 0 (z.pars ++ [(⟨x.w, x.body⟩ : Pr)]).length))).els.set j (.agg (ZnS z (.sl 6 ((z.pars ++ [(⟨x.w, x.body⟩ : Pr)]).length - 2) ((z.pars ++ [(⟨x.w, x.body⟩ : Pr)]).length - ((z.pars ++ [(⟨x.w, x.body⟩ : Pr)]).length - 2)))))⟩ : Blk), _, _, _, _, _] = _; rw [ZR_set] <;> rfl))) (.inl (by simp)) ?_
          refine any_done rfl ?_
          refine keepK hK43 [] (by dsimp) (by dsimp) ?_
          refine T.exit ?_
          refine keepK hK4 [] (by dsimp) (by dsimp) ?_
          refine T.seq fun K52 hK52 => ?_
          refine T.region ?_
          refine rs rfl rfl (ok_moveb (c := true) (.inr rfl) rfl) ?_
          refine ro_nil ?_
          refine keepK hK52 [6] (by dsimp) (by dsimp) ?_
          refine T.ret (hQ _ _ _ rfl ?_).1 -- ret 19
          exact by (rw [stepZ_4 (by assumption), if_pos (by unfold Z4; refine ⟨?_, ?_, ?_, ?_, ?_⟩ <;> first | assumption | omega | (simp_all; done))]; exact ch_end (z' := { z with pars := last2 (z.pars ++ [(⟨x.w, x.body⟩ : Pr)]) }) (p := 6) (l := (z.pars ++ [(⟨x.w, x.body⟩ : Pr)])) hj rfl rfl rfl (by decide) (Ent_last2 rfl) ⟨rfl, trivial⟩)
    ·(try simp only [dE] at hc)
     refine T.skip ?_
     refine keepK hK41 [1, 7, 16] (by dsimp) (by dsimp) ?_
     refine T.seq fun K53 hK53 => ?_
     refine T.seq fun K54 hK54 => ?_
     refine T.region ?_
     refine rs rfl rfl (ok_binOp rfl ti_int rfl) ?_
     refine rs rfl rfl (ok_move (.inr rfl)) ?_
     refine ro_nil ?_
     refine keepK hK54 [1, 7, 16, 25] (by dsimp) (by dsimp) ?_
     refine T.cond rfl (fun hc => ?_) (fun hc => ?_) -- cond 9
     ·(try simp only [dE] at hc)
      refine T.exit ?_
      refine keepK hK7 [1, 7] (by dsimp) (by dsimp) ?_
      refine T.seq fun K55 hK55 => ?_
      refine T.seq fun K56 hK56 => ?_
      refine T.seq fun K57 hK57 => ?_
      refine T.region ?_
      refine rs rfl rfl (ok_move (.inl rfl)) ?_
      refine rs rfl rfl (ok_nilCheck rfl rfl) ?_
      refine rs rfl rfl (ok_fieldAddr rfl ti_api_Zone rfl rfl ti_int (by decide) rfl) ?_
      refine rs rfl rfl (by exact ok_load rfl ti_int (cl := ZnS z (.sl 2 0 z.pars.length)) (f := 1) (ZR_loc hj rfl) rfl) ?_
      refine rs rfl rfl (ok_binOp rfl ti_int rfl) ?_
      refine ro_case rfl rfl (OpOk.step (ok_moveb (.inl rfl) rfl)) (fun hb => ?_) (fun hb => ?_)
      ·(try simp only [dE] at hb)
       refine ro_skip rfl rfl ?_
       refine ro_skip rfl rfl ?_
       refine rs rfl rfl (ok_pickb (t := true) (d := true) rfl rfl rfl) ?_
       refine ro_nil ?_
       refine keepK hK57 [1, 188] (by dsimp) (by dsimp) ?_
       refine T.cond_true rfl ?_
       refine T.seq fun K58 hK58 => ?_
       refine T.region ?_
       refine rs rfl rfl (ok_moveb (c := false) (.inr rfl) rfl) ?_
       refine ro_nil ?_
       refine keepK hK58 [6] (by dsimp) (by dsimp) ?_
       refine T.ret (hQ _ _ _ rfl ?_).1 -- ret 20
       exact by (rw [stepZ_5 (by assumption), if_neg (by unfold Z5; intro h; obtain ⟨h1, h2⟩ := h; first | omega | (simp_all; done))]; exact ch_end (z' := z) (p := 2) (l := z.pars) hj rfl rfl rfl (by decide) (Ent.sl0 (b := ⟨2, false, Prs z.pars⟩) rfl rfl (by simp)) ⟨rfl, trivial⟩)
      ·(try simp only [dE] at hb)
       refine rs rfl rfl (ok_move (.inl rfl)) ?_
       refine rs rfl rfl (ok_unOp rfl rfl) ?_
       refine rs rfl rfl (ok_pick rfl rfl) ?_
       refine ro_nil ?_
       refine keepK hK57 [1, 188] (by dsimp) (by dsimp) ?_
       refine T.cond rfl (fun hc => ?_) (fun hc => ?_) -- cond 10
       ·(try simp only [dE] at hc)
        refine T.seq fun K59 hK59 => ?_
        refine T.region ?_
        refine rs rfl rfl (ok_moveb (c := false) (.inr rfl) rfl) ?_
        refine ro_nil ?_
        refine keepK hK59 [6] (by dsimp) (by dsimp) ?_
        refine T.ret (hQ _ _ _ rfl ?_).1 -- ret 21
        exact by (rw [stepZ_5 (by assumption), if_neg (by unfold Z5; intro h; obtain ⟨h1, h2⟩ := h; first | omega | (simp_all; done))]; exact ch_end (z' := z) (p := 2) (l := z.pars) hj rfl rfl rfl (by decide) (Ent.sl0 (b := ⟨2, false, Prs z.pars⟩) rfl rfl (by simp)) ⟨rfl, trivial⟩)
       ·(try simp only [dE] at hc)
        refine T.skip ?_
        refine keepK hK56 [1] (by dsimp) (by dsimp) ?_
        refine T.region ?_
        refine rs rfl rfl (ok_move (.inl rfl)) ?_
        refine rs rfl rfl (ok_nilCheck rfl rfl) ?_
        refine rs rfl rfl (ok_fieldAddr rfl ti_api_Zone rfl rfl ti_bool (by decide) rfl) ?_
        refine rs rfl rfl ((ok_store rfl ti_bool (by decide) (id := 1) (j := j) (f := 4) rfl rfl rfl (ZR_get hj) rfl (by show 4 + 1 ≤ 6; decide) (.inr rfl)).eq (x' := .any) (H'' := [some ⟨1, true, ints .i64 s.st⟩, some (ZR s.zs j (ZnS { z with whole := true } (.sl 2 0 z.pars.length))), some ⟨2, true, Prs z.pars⟩, some (SB s (.sl 0 0 s.st.length) (.sl 1 0 s.zs.length)), some (RcB x)]) rfl (by show [_, some (⟨6, true, (ZR s.zs j (ZnS z (.sl 2 0 z.pars.length))).els.set j (.agg (ZnS { z with whole := true } (.sl 2 0 z.pars.length)))⟩ : Blk), _, _, _] = _; rw [ZR_set] <;> rfl)) ?_
        refine ro_nil ?_
        refine keepK hK55 [] (by dsimp) (by dsimp) ?_
        refine T.exit ?_
        refine keepK hK4 [] (by dsimp) (by dsimp) ?_
        refine T.seq fun K60 hK60 => ?_
        refine T.region ?_
        refine rs rfl rfl (ok_moveb (c := true) (.inr rfl) rfl) ?_
        refine ro_nil ?_
        refine keepK hK60 [6] (by dsimp) (by dsimp) ?_
        refine T.ret (hQ _ _ _ rfl ?_).1 -- ret 22
        exact by (rw [stepZ_5 (by assumption), if_pos (by unfold Z5; refine ⟨?_, ?_⟩ <;> first | assumption | omega | (simp_all; done))]; exact ch_end (z' := { z with whole := true }) (p := 2) (l := z.pars) hj rfl rfl rfl (by decide) (Ent.sl0 (b := ⟨2, false, Prs z.pars⟩) rfl rfl (by simp)) ⟨rfl, trivial⟩)
     ·(try simp only [dE] at hc)
      refine T.skip ?_
      refine keepK hK53 [16] (by dsimp) (by dsimp) ?_
      refine T.seq fun K61 hK61 => ?_
      refine T.region ?_
      refine rs rfl rfl (ok_binOp rfl ti_int rfl) ?_
      refine rs rfl rfl (ok_move (.inr rfl)) ?_
      refine ro_nil ?_
      refine keepK hK61 [27] (by dsimp) (by dsimp) ?_
      refine T.cond rfl (fun hc => ?_) (fun hc => ?_) -- cond 11
      ·(try simp only [dE] at hc)
       refine T.exit ?_
       refine keepK hK6 [] (by dsimp) (by dsimp) ?_
       refine T.seq fun K62 hK62 => ?_
       refine T.seq fun K63 hK63 => ?_
       refine T.region ?_
       refine rs rfl rfl (ok_moveb (c := false) (.inr rfl) rfl) ?_
       refine ro_nil ?_
       refine keepK hK63 [6] (by dsimp) (by dsimp) ?_
       refine T.ret (hQ _ _ _ rfl ?_).1 -- ret 23
       exact by (rw [stepZ_no (by assumption) (by assumption) (by assumption) (by assumption) (by assumption)]; exact ch_end (z' := z) (p := 2) (l := z.pars) hj rfl rfl rfl (by decide) (Ent.sl0 (b := ⟨2, false, Prs z.pars⟩) rfl rfl (by simp)) ⟨rfl, trivial⟩)
      ·(try simp only [dE] at hc)
       refine T.skip ?_
       refine keepK hK12 [] (by dsimp) (by dsimp) ?_
       refine T.exit ?_
       refine keepK hK6 [] (by dsimp) (by dsimp) ?_
       refine T.seq fun K64 hK64 => ?_
       refine T.seq fun K65 hK65 => ?_
       refine T.region ?_
       refine rs rfl rfl (ok_moveb (c := false) (.inr rfl) rfl) ?_
       refine ro_nil ?_
       refine keepK hK65 [6] (by dsimp) (by dsimp) ?_
       refine T.ret (hQ _ _ _ rfl ?_).1 -- ret 24
       exact by (rw [stepZ_no (by assumption) (by assumption) (by assumption) (by assumption) (by assumption)]; exact ch_end (z' := z) (p := 2) (l := z.pars) hj rfl rfl rfl (by decide) (Ent.sl0 (b := ⟨2, false, Prs z.pars⟩) rfl rfl (by simp)) ⟨rfl, trivial⟩)
end Go.Proofs.Ytjklgbafnfoolaa.AmF
namespace Go.Proofs.Ytjklgbafnfoolaa.AmF
open Go Go.AM
set_option maxRecDepth 100000
set_option maxHeartbeats 4000000
set_option linter.unusedSimpArgs false
set_option linter.unusedVariables false
attribute [local simp] tkeep tget tput ev cav argsTM pickA normT putA splice AV.cells ints_length rowsA_length Prs_len Zns_len
theorem sapply_ok (s : St) (x : Rc) (hn : s.st.length ≤ 1000000) (hm : s.zs.length ≤ 1000000) (hl : ∀ z ∈ s.zs, z.pars.length ≤ 1000000) (hpb : ∀ z ∈ s.zs, ∀ p ∈ z.pars, p.b.length ≤ 140737488355328) (hx : x.body.length ≤ 140737488355328) : CSpec Try.prog 15 [] [.agg (StC s), .agg (RcC x)] [] (.tup [.agg (StC (applyS s x).1), .int (applyS s x).2]) := by
 refine CSpec.body Try.func15 rfl rfl rfl rfl rfl fun Q hQ => ?_
 refine T.seq fun K1 hK1 => ?_
 refine T.region ?_
 refine rs rfl rfl (ok_box (n := 15) rfl rfl (by decide)) ?_
 refine rs rfl rfl (ok_box (n := 10) rfl rfl (by decide)) ?_
 refine rs rfl rfl (ok_alloc rfl ti_api_State rfl (by decide)) ?_
 refine rs rfl rfl (ok_move (.inr rfl)) ?_
 refine ro_nil ?_
 refine keepK hK1 [2, 3, 4] (by dsimp) (by dsimp) ?_
 refine T.seq fun K2 hK2 => ?_
 refine T.seq fun K3 hK3 => ?_
 refine T.region ?_
 refine rs rfl rfl (ok_load rfl ti_api_State rfl rfl) ?_
 refine ro rfl rfl (ok_call rfl rfl rfl ((sright_ok s (by omega) (by omega) (fun z hz => by have := hl z hz; omega)).plain (by simp [renL, AV.ren, StC_take, StC_ren]) rfl)) ?_
 refine rs rfl rfl (ok_unOp rfl rfl) ?_
 refine ro_nil ?_
 refine keepK hK3 [2, 3, 4, 9] (by dsimp) (by dsimp) ?_
 refine T.cond rfl (fun hc => ?_) (fun hc => ?_) -- cond 1
 ·(try simp only [dE] at hc)
  rw [applyS_no hc] at hQ
  refine T.seq fun K4 hK4 => ?_
  refine T.region ?_
  refine rs rfl rfl (ok_build rfl ti_api_State rfl) ?_
  refine rs rfl rfl (ok_store rfl ti_api_State (by decide) rfl rfl rfl rfl rfl (by first | exact Nat.le_of_ble_eq_true rfl | simp) (by first | exact .inl ⟨rfl, rfl⟩ | exact .inr rfl)) ?_
  refine rs rfl rfl (ok_move (.inr rfl)) ?_
  refine ro_nil ?_
  refine keepK hK4 [4, 5] (by dsimp) (by dsimp) ?_
  refine T.ret (hQ _ _ _ rfl ?_).1 -- ret 1
  exact by exact ap_no (e := 1) rfl rfl
 ·(try simp only [dE] at hc)
  have hrs := hc
  have hck := hrs.1
  have hzl : 0 < s.zs.length := by have := hrs.2.2.2.2.1; have := (chkC_ok hck).2; unfold okC at *; omega
  obtain ⟨j, hj, hjx⟩ : ∃ j, j < s.zs.length ∧ (0 ≤ x.zone ∧ x.zone < s.zs.length → j = x.zone.toNat) := by
    by_cases h : 0 ≤ x.zone ∧ x.zone < s.zs.length
    · exact ⟨x.zone.toNat, by omega, fun _ => rfl⟩
    · exact ⟨0, hzl, fun h' => absurd h' h⟩
  obtain ⟨z, hz⟩ : ∃ z, s.zs[j]? = some z := ⟨_, List.getElem?_eq_getElem hj⟩
  have hsq := hrs.2.2.1
  refine T.skip ?_
  refine keepK hK2 [2, 3, 4] (by dsimp) (by dsimp) ?_
  refine T.seq fun K5 hK5 => ?_
  refine T.seq fun K6 hK6 => ?_
  refine T.region ?_
  refine rs rfl rfl (ok_fieldAddr rfl ti_api_Rec rfl rfl ti_int (by decide) rfl) ?_
  refine rs rfl rfl (ok_load rfl ti_int rfl rfl) ?_
  refine rs rfl rfl (ok_fieldAddr rfl ti_api_State rfl rfl ti_int (by decide) rfl) ?_
  refine rs rfl rfl (ok_load rfl ti_int rfl rfl) ?_
  refine rs rfl rfl (ok_binOp rfl ti_int rfl) ?_
  refine ro_case rfl rfl (OpOk.step (ok_moveb (.inl rfl) rfl)) (fun hb => ?_) (fun hb => ?_)
  ·(try simp only [dE] at hb)
   refine ro_skip rfl rfl ?_
   refine ro_skip rfl rfl ?_
   refine ro_skip rfl rfl ?_
   refine ro_skip rfl rfl ?_
   refine ro_skip rfl rfl ?_
   refine ro_skip rfl rfl ?_
   refine rs rfl rfl (ok_pickb (t := true) (d := true) rfl rfl rfl) ?_
   refine rs rfl rfl (ok_moveb (c := true) (.inl rfl) rfl) ?_
   refine ro_skip rfl rfl ?_
   refine ro_skip rfl rfl ?_
   refine ro_skip rfl rfl ?_
   refine rs rfl rfl (ok_pickb (t := true) (d := true) rfl rfl rfl) ?_
   refine ro_nil ?_
   refine keepK hK6 [2, 3, 4, 28] (by dsimp) (by dsimp) ?_
   refine T.cond_true rfl ?_
   refine T.seq fun K7 hK7 => ?_
   refine T.region ?_
   refine rs rfl rfl (ok_build rfl ti_api_State rfl) ?_
   refine rs rfl rfl (ok_store rfl ti_api_State (by decide) rfl rfl rfl rfl rfl (by first | exact Nat.le_of_ble_eq_true rfl | simp) (by first | exact .inl ⟨rfl, rfl⟩ | exact .inr rfl)) ?_
   refine rs rfl rfl (ok_move (.inr rfl)) ?_
   refine ro_nil ?_
   refine keepK hK7 [4, 5] (by dsimp) (by dsimp) ?_
   refine T.ret (hQ _ _ _ rfl ?_).1 -- ret 2
   exact by (rw [applyS_form hrs (by unfold Goes; omega)]; exact ap_no (e := 13) rfl rfl)
  ·(try simp only [dE] at hb)
   refine rs rfl rfl (ok_fieldAddr rfl ti_api_Rec rfl rfl ti_int (by decide) rfl) ?_
   refine rs rfl rfl (ok_load rfl ti_int rfl rfl) ?_
   refine rs rfl rfl (ok_fieldAddr rfl ti_api_State rfl rfl ti_int (by decide) rfl) ?_
   refine rs rfl rfl (ok_load rfl ti_int rfl rfl) ?_
   refine rs rfl rfl (ok_add64 rfl ti_int rfl rfl (by omega) (by omega)) ?_
   refine rs rfl rfl (ok_binOp rfl ti_int rfl) ?_
   refine rs rfl rfl (ok_pick rfl rfl) ?_
   refine ro_case rfl rfl (OpOk.step (ok_moveb (.inl rfl) rfl)) (fun hb => ?_) (fun hb => ?_)
   ·(try simp only [dE] at hb)
    refine ro_skip rfl rfl ?_
    refine ro_skip rfl rfl ?_
    refine ro_skip rfl rfl ?_
    refine rs rfl rfl (ok_pickb (t := true) (d := true) rfl rfl rfl) ?_
    refine ro_nil ?_
    refine keepK hK6 [2, 3, 4, 28] (by dsimp) (by dsimp) ?_
    refine T.cond_true rfl ?_
    refine T.seq fun K8 hK8 => ?_
    refine T.region ?_
    refine rs rfl rfl (ok_build rfl ti_api_State rfl) ?_
    refine rs rfl rfl (ok_store rfl ti_api_State (by decide) rfl rfl rfl rfl rfl (by first | exact Nat.le_of_ble_eq_true rfl | simp) (by first | exact .inl ⟨rfl, rfl⟩ | exact .inr rfl)) ?_
    refine rs rfl rfl (ok_move (.inr rfl)) ?_
    refine ro_nil ?_
    refine keepK hK8 [4, 5] (by dsimp) (by dsimp) ?_
    refine T.ret (hQ _ _ _ rfl ?_).1 -- ret 3
    exact by (rw [applyS_form hrs (by unfold Goes; omega)]; exact ap_no (e := 13) rfl rfl)
   ·(try simp only [dE] at hb)
    refine rs rfl rfl (ok_fieldAddr rfl ti_api_Rec rfl rfl ti_int (by decide) rfl) ?_
    refine rs rfl rfl (ok_load rfl ti_int rfl rfl) ?_
    refine rs rfl rfl (ok_binOp rfl ti_int rfl) ?_
    refine rs rfl rfl (ok_pick rfl rfl) ?_
    refine ro_nil ?_
    refine keepK hK6 [2, 3, 4, 28] (by dsimp) (by dsimp) ?_
    refine T.cond rfl (fun hc => ?_) (fun hc => ?_) -- cond 2
    ·(try simp only [dE] at hc)
     refine T.seq fun K9 hK9 => ?_
     refine T.region ?_
     refine rs rfl rfl (ok_build rfl ti_api_State rfl) ?_
     refine rs rfl rfl (ok_store rfl ti_api_State (by decide) rfl rfl rfl rfl rfl (by first | exact Nat.le_of_ble_eq_true rfl | simp) (by first | exact .inl ⟨rfl, rfl⟩ | exact .inr rfl)) ?_
     refine rs rfl rfl (ok_move (.inr rfl)) ?_
     refine ro_nil ?_
     refine keepK hK9 [4, 5] (by dsimp) (by dsimp) ?_
     refine T.ret (hQ _ _ _ rfl ?_).1 -- ret 4
     exact by (rw [applyS_form hrs (by unfold Goes; omega)]; exact ap_no (e := 13) rfl rfl)
    ·(try simp only [dE] at hc)
     refine T.skip ?_
     refine keepK hK5 [2, 3, 4] (by dsimp) (by dsimp) ?_
     refine T.seq fun K10 hK10 => ?_
     refine T.region ?_
     refine rs rfl rfl (ok_load rfl ti_api_State rfl rfl) ?_
     refine ro rfl rfl (ok_call rfl rfl rfl ((sclone_at s j z hz (by omega) (by omega) (fun z hz => by have := hl z hz; omega) hpb).fresh (by simp [renL, AV.ren, StC_take, StC_ren]) (by simp [AV.ren, StS_ren]; rfl) (by show [_, _, _] = _; exact heap3 (ib_ren _ _) (ZR_ren (p := 2) (q := 5) rfl _ _ _ _) (prb_ren _ _)))) ?_
     refine rs rfl rfl (ok_store rfl ti_api_State (by decide) rfl rfl rfl rfl rfl (by first | exact Nat.le_of_ble_eq_true rfl | simp) (by first | exact .inl ⟨rfl, rfl⟩ | exact .inr rfl)) ?_
     refine ro_nil ?_
     refine keepK hK10 [2, 3, 4] (by dsimp) (by dsimp) ?_
     refine T.seq fun K11 hK11 => ?_
     refine T.region ?_
     refine rs rfl rfl (ok_moveb (c := false) (.inr rfl) rfl) ?_
     refine ro_nil ?_
     refine keepK hK11 [2, 3, 4, 6] (by dsimp) (by dsimp) ?_
     refine T.seq fun K12 hK12 => ?_
     refine T.block ?_
     refine T.seq fun K13 hK13 => ?_
     refine T.region ?_
     refine rs rfl rfl (ok_fieldAddr rfl ti_api_Rec rfl rfl ti_int (by decide) rfl) ?_
     refine rs rfl rfl (ok_load rfl ti_int rfl rfl) ?_
     refine rs rfl rfl (ok_binOp rfl ti_int rfl) ?_
     refine rs rfl rfl (ok_move (.inr rfl)) ?_
     refine ro_nil ?_
     refine keepK hK13 [2, 3, 4, 6, 32] (by dsimp) (by dsimp) ?_
     refine T.cond rfl (fun hc => ?_) (fun hc => ?_) -- cond 3
     ·(try simp only [dE] at hc)
      refine T.ent (((TEnt.freeze 5 (b := ⟨2, true, Prs z.pars⟩) rfl).trans (TEnt.blk 4 (b := ZR s.zs j (ZnS z (.sl 5 0 z.pars.length))) (l' := Zns s.zs) rfl (by simp [ZR]) (EntL.back (Zns_get hz) (Ent.zone z rfl)))).trans (TEnt.toH (tm' := [(2, .ref 0 0 0), (3, .ref 1 0 0), (4, .ref 2 0 0)]) (H' := [some (SB s (.sl 3 0 s.st.length) (.sl 4 0 s.zs.length)), some (RcB x), some Z15, some ⟨1, true, ints .i64 s.st⟩, some ⟨6, true, Zns s.zs⟩, some ⟨2, false, Prs z.pars⟩]) rfl ⟨rfl, rfl, rfl, trivial⟩)) ?_
      refine T.region ?_
      refine rs rfl rfl (ok_load rfl ti_api_Rec rfl rfl) ?_
      refine ro rfl rfl (ok_call rfl rfl rfl (((sstatus_ok s x (by omega) (by omega)).pass [0, 3, 4] (by decide) (by simp) (by exact heap3 (SB_ren (by decide) (by decide)) (ib_ren _ _) (znb_ren _ _)) (by simp [renL, AV.ren, RcC_take, RcC_ren]; rfl)).eq (x' := .b (decide (StOk s.st x))) (H'' := [some (SB s (.sl 3 0 s.st.length) (.sl 4 0 s.zs.length)), some (RcB x), some Z15, some ⟨1, true, ints .i64 (if StOk s.st x then s.st.set x.member.toNat x.status else s.st)⟩, some ⟨6, true, Zns (if StOk s.st x then s.zs.map unw else s.zs)⟩, some ⟨2, false, Prs z.pars⟩]) rfl (heap6 (SB_ren rfl rfl) rfl rfl (ib_ren _ _) (znb_ren _ _) rfl))) ?_
      refine rs rfl rfl (ok_move (.inr rfl)) ?_
      refine ro_nil ?_
      refine keepK hK12 [2, 3, 4, 6] (by dsimp) (by dsimp) ?_
      refine T.seq fun K14 hK14 => ?_
      refine T.seq fun K15 hK15 => ?_
      refine T.region ?_
      refine rs rfl rfl (ok_move (.inl rfl)) ?_
      refine rs rfl rfl (ok_unOp rfl rfl) ?_
      refine ro_nil ?_
      refine keepK hK15 [2, 3, 4, 55] (by dsimp) (by dsimp) ?_
      refine T.cond rfl (fun hc => ?_) (fun hc => ?_) -- cond 4
      ·(try simp only [dE] at hc)
       refine T.seq fun K16 hK16 => ?_
       refine T.region ?_
       refine rs rfl rfl (ok_build rfl ti_api_State rfl) ?_
       refine rs rfl rfl (ok_store rfl ti_api_State (by decide) rfl rfl rfl rfl rfl (by first | exact Nat.le_of_ble_eq_true rfl | simp) (by first | exact .inl ⟨rfl, rfl⟩ | exact .inr rfl)) ?_
       refine rs rfl rfl (ok_move (.inr rfl)) ?_
       refine ro_nil ?_
       refine keepK hK16 [4, 5] (by dsimp) (by dsimp) ?_
       refine T.ret (hQ _ _ _ rfl ?_).1 -- ret 5
       exact by (rw [applyS_bad hrs (by unfold Goes; omega) (by rw [stepS_st (by assumption), if_neg (by assumption)])]; exact ap_no (e := 13) rfl rfl)
      ·(try simp only [dE] at hc)
       refine T.skip ?_
       refine keepK hK14 [2, 3, 4] (by dsimp) (by dsimp) ?_
       refine T.seq fun K17 hK17 => ?_
       refine T.region ?_
       refine rs rfl rfl (ok_fieldAddr rfl ti_api_Rec rfl rfl ti_int (by decide) rfl) ?_
       refine rs rfl rfl (ok_load rfl ti_int rfl rfl) ?_
       refine rs rfl rfl (ok_fieldAddr rfl ti_api_State rfl rfl ti_int (by decide) rfl) ?_
       refine rs rfl rfl (ok_store rfl ti_int (by decide) rfl rfl rfl rfl rfl (by first | exact Nat.le_of_ble_eq_true rfl | simp) (by first | exact .inl ⟨rfl, rfl⟩ | exact .inr rfl)) ?_
       refine ro_nil ?_
       refine keepK hK17 [2, 4] (by dsimp) (by dsimp) ?_
       refine T.seq fun K18 hK18 => ?_
       refine T.region ?_
       refine rs rfl rfl (ok_load rfl ti_api_State rfl rfl) ?_
       refine rs rfl rfl (ok_store rfl ti_api_State (by decide) rfl rfl rfl rfl rfl (by first | exact Nat.le_of_ble_eq_true rfl | simp) (by first | exact .inl ⟨rfl, rfl⟩ | exact .inr rfl)) ?_
       refine rs rfl rfl (ok_move (.inr rfl)) ?_
       refine ro_nil ?_
       refine keepK hK18 [4, 5] (by dsimp) (by dsimp) ?_
       refine T.ret (hQ _ _ _ rfl ?_).1 -- ret 6
       have e := applyS_ok (t := { s with st := s.st.set x.member.toNat x.status, zs := s.zs.map unw, sq := x.seq }) hrs (x := x) (by unfold Goes; omega) (by rw [stepS_st (by assumption), if_pos (by assumption)])
       rw [e]
       exact ap_ok _ rfl rfl (by simp) (by simp) (by show some (⟨1, true, ints .i64 (if StOk s.st x then _ else _)⟩ : Blk) = _; rw [if_pos (by assumption)]) (by show some (⟨6, true, Zns (if StOk s.st x then _ else _)⟩ : Blk) = _; rw [if_pos (by assumption)])
     ·(try simp only [dE] at hc)
      refine T.seq fun K19 hK19 => ?_
      refine T.region ?_
      refine rs rfl rfl (ok_fieldAddr rfl ti_api_Rec rfl rfl ti_int (by decide) rfl) ?_
      refine rs rfl rfl (ok_load rfl ti_int rfl rfl) ?_
      refine rs rfl rfl (ok_fieldAddr rfl ti_api_State rfl rfl ti_Lapi_Zone (by decide) rfl) ?_
      refine rs rfl rfl (ok_load rfl ti_Lapi_Zone rfl rfl) ?_
      refine rs rfl rfl (ok_len' rfl rfl ti_Lapi_Zone rfl (by first | exact ints_length _ _ | exact rowsA_length _ _ | exact Cms_len _ | exact mapLen _ | rfl)) ?_
      refine rs rfl rfl (ok_sub64 rfl ti_int rfl rfl (by omega) (by omega)) ?_
      refine ro rfl rfl (ok_call rfl rfl rfl ((sin_ok x.zone 0 ((s.zs.length : Int) - 1)).plain (by simp [renL, AV.ren]) rfl)) ?_
      refine rs rfl rfl (ok_move (.inr rfl)) ?_
      refine ro_nil ?_
      refine keepK hK19 [2, 3, 4, 6, 38] (by dsimp) (by dsimp) ?_
      refine T.cond rfl (fun hc => ?_) (fun hc => ?_) -- cond 5
      ·(try simp only [dE] at hc)
       refine T.drawH mixed [7, 8] ?_
       refine any_take 0 rfl (by first | rfl | decide +kernel) rfl (HeldL.refl _) (fun H' hH => OpOk.step (ok_load rfl ti_api_State (locA_held hH rfl) rfl)) ?_
       refine any_take 1 rfl (by first | rfl | decide +kernel) rfl (HeldL.refl _) (fun H' hH => OpOk.step (ok_fieldAddr rfl ti_api_State rfl rfl ti_Lapi_Zone (by decide) rfl)) ?_
       refine any_take 2 rfl (by first | rfl | decide +kernel) rfl (HeldL.refl _) (fun H' hH => OpOk.step (ok_load rfl ti_Lapi_Zone (locA_held hH rfl) rfl)) ?_
       refine any_take 3 rfl (by first | rfl | decide +kernel) rfl (HeldL.refl _) (fun H' hH => OpOk.step (ok_fieldAddr rfl ti_api_Rec rfl rfl ti_int (by decide) rfl)) ?_
       refine any_take 4 rfl (by first | rfl | decide +kernel) rfl (HeldL.refl _) (fun H' hH => OpOk.step (ok_load rfl ti_int (locA_held hH rfl) rfl)) ?_
       refine any_take 5 rfl (by first | rfl | decide +kernel) rfl (HeldL.refl _) (fun H' hH => OpOk.step (by exact ok_index_sl (b := ZR s.zs j (ZnS z (.sl 5 0 z.pars.length))) rfl ti_Lapi_Zone rfl ti_api_Zone rfl (hH.get rfl) rfl rfl (by omega) (by omega))) ?_
       refine any_take 6 rfl (by first | rfl | decide +kernel) rfl (HeldL.refl _) (fun H' hH => OpOk.step (ok_load rfl ti_api_Rec (locA_held hH rfl) rfl)) ?_
       refine any_one 7 rfl (by first | rfl | decide +kernel) rfl rfl (ok_call rfl rfl rfl (((schange_ok s x j z hz hck (by have := hrs.2.2.2.2.2.2.2.1 z (List.mem_of_getElem? hz); exact this.1) (by omega) (by omega) (hl z (List.mem_of_getElem? hz)) hx).pass [3, 4, 5] (by decide) (by simp) (by exact heap3 (ib_ren _ _) (ZR_ren (by decide) _ _ _ _) (prb_ren _ _)) (by
  have hjz := hjx (by omega)
  rw [Nat.zero_add, ← hjz]
  simp [renL, AV.ren, RcC_take, RcC_ren, StS_take, StS_ren, pos345.1, pos345.2])).eq (x' := .b (stepZ s.c s.zs (decide (2 ∈ s.st)) z x).isSome) (H'' := [some (SB s (.sl 3 0 s.st.length) (.sl 4 0 s.zs.length)), some (RcB x), some Z15, some ⟨1, true, ints .i64 s.st⟩, some ⟨6, true, Zns (s.zs.set j ((stepZ s.c s.zs (decide (2 ∈ s.st)) z x).getD z))⟩, none]) rfl (heap6 rfl rfl rfl (ib_ren _ _) (znb_ren _ _) rfl))) (.inl (by simp)) ?_
       refine any_one 8 rfl (by first | rfl | decide +kernel) rfl rfl (OpOk.step (ok_move (.inr rfl))) (.inl (by simp)) ?_
       refine any_done rfl ?_
       refine keepK hK12 [2, 3, 4, 6] (by dsimp) (by dsimp) ?_
       refine T.seq fun K20 hK20 => ?_
       refine T.seq fun K21 hK21 => ?_
       refine T.region ?_
       refine rs rfl rfl (ok_move (.inl rfl)) ?_
       refine rs rfl rfl (ok_unOp rfl rfl) ?_
       refine ro_nil ?_
       refine keepK hK21 [2, 3, 4, 55] (by dsimp) (by dsimp) ?_
       refine T.cond rfl (fun hc => ?_) (fun hc => ?_) -- cond 6
       ·(try simp only [dE] at hc)
        refine T.seq fun K22 hK22 => ?_
        refine T.region ?_
        refine rs rfl rfl (ok_build rfl ti_api_State rfl) ?_
        refine rs rfl rfl (ok_store rfl ti_api_State (by decide) rfl rfl rfl rfl rfl (by first | exact Nat.le_of_ble_eq_true rfl | simp) (by first | exact .inl ⟨rfl, rfl⟩ | exact .inr rfl)) ?_
        refine rs rfl rfl (ok_move (.inr rfl)) ?_
        refine ro_nil ?_
        refine keepK hK22 [4, 5] (by dsimp) (by dsimp) ?_
        refine T.ret (hQ _ _ _ rfl ?_).1 -- ret 7
        exact by (rw [applyS_bad hrs (by unfold Goes; omega) (by rw [stepS_zn (by assumption) (by omega) (by rw [← hjx (by omega)]; exact hz)]; simp_all)]; exact ap_no (e := 13) rfl rfl)
       ·(try simp only [dE] at hc)
        refine T.skip ?_
        refine keepK hK20 [2, 3, 4] (by dsimp) (by dsimp) ?_
        refine T.seq fun K23 hK23 => ?_
        refine T.region ?_
        refine rs rfl rfl (ok_fieldAddr rfl ti_api_Rec rfl rfl ti_int (by decide) rfl) ?_
        refine rs rfl rfl (ok_load rfl ti_int rfl rfl) ?_
        refine rs rfl rfl (ok_fieldAddr rfl ti_api_State rfl rfl ti_int (by decide) rfl) ?_
        refine rs rfl rfl (ok_store rfl ti_int (by decide) rfl rfl rfl rfl rfl (by first | exact Nat.le_of_ble_eq_true rfl | simp) (by first | exact .inl ⟨rfl, rfl⟩ | exact .inr rfl)) ?_
        refine ro_nil ?_
        refine keepK hK23 [2, 4] (by dsimp) (by dsimp) ?_
        refine T.seq fun K24 hK24 => ?_
        refine T.region ?_
        refine rs rfl rfl (ok_load rfl ti_api_State rfl rfl) ?_
        refine rs rfl rfl (ok_store rfl ti_api_State (by decide) rfl rfl rfl rfl rfl (by first | exact Nat.le_of_ble_eq_true rfl | simp) (by first | exact .inl ⟨rfl, rfl⟩ | exact .inr rfl)) ?_
        refine rs rfl rfl (ok_move (.inr rfl)) ?_
        refine ro_nil ?_
        refine keepK hK24 [4, 5] (by dsimp) (by dsimp) ?_
        refine T.ret (hQ _ _ _ rfl ?_).1 -- ret 8
        obtain ⟨z', hz'⟩ := Option.isSome_iff_exists.1 (by assumption)
        have hjz := hjx (by omega)
        have e := applyS_ok (t := { s with zs := s.zs.set j z', sq := x.seq }) hrs (x := x) (by unfold Goes; omega) (by rw [stepS_zn (by assumption) (by omega) (by rw [← hjz]; exact hz), hz', ← hjz]; rfl)
        rw [e]
        exact ap_ok _ rfl rfl rfl (by simp) rfl (by show some (⟨6, true, Zns (s.zs.set j ((stepZ s.c s.zs (decide (2 ∈ s.st)) z x).getD z))⟩ : Blk) = _; rw [hz']; rfl)
      ·(try simp only [dE] at hc)
       refine T.skip ?_
       refine keepK hK12 [2, 3, 4, 6] (by dsimp) (by dsimp) ?_
       refine T.seq fun K25 hK25 => ?_
       refine T.seq fun K26 hK26 => ?_
       refine T.region ?_
       refine rs rfl rfl (ok_moveb (c := false) (.inl rfl) rfl) ?_
       refine rs rfl rfl (ok_unOp rfl rfl) ?_
       refine ro_nil ?_
       refine keepK hK26 [2, 3, 4, 55] (by dsimp) (by dsimp) ?_
       refine T.cond rfl (fun hc => ?_) (fun hc => ?_) -- cond 7
       ·(try simp only [dE] at hc)
        refine T.seq fun K27 hK27 => ?_
        refine T.region ?_
        refine rs rfl rfl (ok_build rfl ti_api_State rfl) ?_
        refine rs rfl rfl (ok_store rfl ti_api_State (by decide) rfl rfl rfl rfl rfl (by first | exact Nat.le_of_ble_eq_true rfl | simp) (by first | exact .inl ⟨rfl, rfl⟩ | exact .inr rfl)) ?_
        refine rs rfl rfl (ok_move (.inr rfl)) ?_
        refine ro_nil ?_
        refine keepK hK27 [4, 5] (by dsimp) (by dsimp) ?_
        refine T.ret (hQ _ _ _ rfl ?_).1 -- ret 9
        exact by (rw [applyS_bad hrs (by unfold Goes; omega) (stepS_no (by assumption) (by omega))]; exact ap_no (e := 13) rfl rfl)
       ·(try simp only [dE] at hc)
        refine T.skip ?_
        refine keepK hK25 [2, 3, 4] (by dsimp) (by dsimp) ?_
        refine T.seq fun K28 hK28 => ?_
        refine T.region ?_
        refine rs rfl rfl (ok_fieldAddr rfl ti_api_Rec rfl rfl ti_int (by decide) rfl) ?_
        refine rs rfl rfl (ok_load rfl ti_int rfl rfl) ?_
        refine rs rfl rfl (ok_fieldAddr rfl ti_api_State rfl rfl ti_int (by decide) rfl) ?_
        refine rs rfl rfl (ok_store rfl ti_int (by decide) rfl rfl rfl rfl rfl (by first | exact Nat.le_of_ble_eq_true rfl | simp) (by first | exact .inl ⟨rfl, rfl⟩ | exact .inr rfl)) ?_
        refine ro_nil ?_
        refine keepK hK28 [2, 4] (by dsimp) (by dsimp) ?_
        refine T.seq fun K29 hK29 => ?_
        refine T.region ?_
        refine rs rfl rfl (ok_load rfl ti_api_State rfl rfl) ?_
        refine rs rfl rfl (ok_store rfl ti_api_State (by decide) rfl rfl rfl rfl rfl (by first | exact Nat.le_of_ble_eq_true rfl | simp) (by first | exact .inl ⟨rfl, rfl⟩ | exact .inr rfl)) ?_
        refine rs rfl rfl (ok_move (.inr rfl)) ?_
        refine ro_nil ?_
        refine keepK hK29 [4, 5] (by dsimp) (by dsimp) ?_
        refine T.ret (hQ _ _ _ rfl ?_).1 -- ret 10
        exact by exact absurd hc (by decide)
end Go.Proofs.Ytjklgbafnfoolaa.AmF
namespace Go.Proofs.Ytjklgbafnfoolaa.AmF
open Go Go.AM
set_option maxRecDepth 100000
set_option maxHeartbeats 4000000
set_option linter.unusedSimpArgs false
set_option linter.unusedVariables false
attribute [local simp] tkeep tget tput ev cav argsTM pickA normT putA splice AV.cells ints_length rowsA_length Prs_len Zns_len
theorem firstB_ok {s : St} {m : Int} (h : RS s ∧ 0 ≤ m ∧ m < s.c.mem) : firstB s m = putR (ckR s m) s.c.blk := if_pos h
theorem firstB_bad {s : St} {m : Int} (h : ¬ (RS s ∧ 0 ≤ m ∧ m < s.c.mem)) : firstB s m = [] := if_neg h
theorem nil_end {k : Nat} {tm : TM} {H : Heap} (hk : k = 0) (h : tget tm 0 = .v (.slice none 0 0)) : TEnt k tm H [(0, .fz 1 (ints .u8 []))] [] := by
  subst hk
  exact (TEnt.put1 0 (x' := .fz 1 []) (by rw [h]; exact Ent.nil 1)).trans (TEnt.fin [] (by decide) (by simp) rfl ⟨rfl, trivial⟩)
theorem sfirst_ok (s : St) (m : Int) (hT : RS s → (encSt s).length ≤ 1000000) (hB : ∀ z ∈ s.zs, ∀ p ∈ z.pars, Bytes p.b) (hsl : s.st.length ≤ 1000000) (hzl : s.zs.length ≤ 1000000) (hpl : ∀ z ∈ s.zs, z.pars.length ≤ 1000000) : CSpec Try.prog 10 [] [.agg (StC s), .int m] [] (.fz 1 (ints .u8 (firstB s m))) := by
 refine CSpec.body Try.func10 rfl rfl rfl rfl rfl fun Q hQ => ?_
 refine T.seq fun K1 hK1 => ?_
 refine T.region ?_
 refine rs rfl rfl (ok_box (n := 15) rfl rfl (by decide)) ?_
 refine rs rfl rfl (ok_move (.inr rfl)) ?_
 refine ro_nil ?_
 refine keepK hK1 [1, 2] (by dsimp) (by dsimp) ?_
 refine T.seq fun K2 hK2 => ?_
 refine T.seq fun K3 hK3 => ?_
 refine T.region ?_
 refine rs rfl rfl (ok_load rfl ti_api_State rfl rfl) ?_
 refine ro rfl rfl (ok_call rfl rfl rfl ((sright_ok s (by omega) (by omega) (fun z hz => by have := hpl z hz; omega)).plain (by simp [renL, AV.ren, StC_take, StC_ren]) rfl)) ?_
 refine rs rfl rfl (ok_unOp rfl rfl) ?_
 refine ro_case rfl rfl (OpOk.step (ok_moveb (.inl rfl) rfl)) (fun hb => ?_) (fun hb => ?_)
 ·(try simp only [dE] at hb)
  rw [firstB_bad (fun h => hb h.1)] at hQ
  refine ro_skip rfl rfl ?_
  refine ro_skip rfl rfl ?_
  refine rs rfl rfl (ok_pickb (t := true) (d := true) rfl rfl rfl) ?_
  refine rs rfl rfl (ok_moveb (c := true) (.inl rfl) rfl) ?_
  refine ro_skip rfl rfl ?_
  refine ro_skip rfl rfl ?_
  refine ro_skip rfl rfl ?_
  refine ro_skip rfl rfl ?_
  refine ro_skip rfl rfl ?_
  refine rs rfl rfl (ok_pickb (t := true) (d := true) rfl rfl rfl) ?_
  refine ro_nil ?_
  refine keepK hK3 [1, 2, 19] (by dsimp) (by dsimp) ?_
  refine T.cond_true rfl ?_
  refine T.seq fun K4 hK4 => ?_
  refine T.region ?_
  refine rs rfl rfl (ok_move (.inr rfl)) ?_
  refine ro_nil ?_
  refine keepK hK4 [4] (by dsimp) (by dsimp) ?_
  refine T.ret (hQ _ _ _ rfl ?_).1 -- ret 1
  exact by first | exact nil_end rfl rfl | exact TEnt.fin [] (by decide) (by simp) rfl ⟨by simp [tupA, AV.ren, renL_ints], trivial⟩
 ·(try simp only [dE] at hb)
  have hrs : RS s := by simpa using hb
  refine rs rfl rfl (ok_move (.inl rfl)) ?_
  refine rs rfl rfl (ok_binOp rfl ti_int rfl) ?_
  refine rs rfl rfl (ok_pick rfl rfl) ?_
  refine ro_case rfl rfl (OpOk.step (ok_moveb (.inl rfl) rfl)) (fun hb => ?_) (fun hb => ?_)
  ·(try simp only [dE] at hb)
   rw [firstB_bad (fun h => by have := h.2.1; omega)] at hQ
   refine ro_skip rfl rfl ?_
   refine ro_skip rfl rfl ?_
   refine ro_skip rfl rfl ?_
   refine ro_skip rfl rfl ?_
   refine ro_skip rfl rfl ?_
   refine rs rfl rfl (ok_pickb (t := true) (d := true) rfl rfl rfl) ?_
   refine ro_nil ?_
   refine keepK hK3 [1, 2, 19] (by dsimp) (by dsimp) ?_
   refine T.cond_true rfl ?_
   refine T.seq fun K5 hK5 => ?_
   refine T.region ?_
   refine rs rfl rfl (ok_move (.inr rfl)) ?_
   refine ro_nil ?_
   refine keepK hK5 [4] (by dsimp) (by dsimp) ?_
   refine T.ret (hQ _ _ _ rfl ?_).1 -- ret 2
   exact by first | exact nil_end rfl rfl | exact TEnt.fin [] (by decide) (by simp) rfl ⟨by simp [tupA, AV.ren, renL_ints], trivial⟩
  ·(try simp only [dE] at hb)
   have hm0 : 0 ≤ m := by omega
   refine rs rfl rfl (ok_move (.inl rfl)) ?_
   refine rs rfl rfl (ok_fieldAddr rfl ti_api_State rfl rfl ti_api_Conf (by decide) rfl) ?_
   refine rs rfl rfl (ok_fieldAddr rfl ti_api_Conf rfl rfl ti_int (by decide) rfl) ?_
   refine rs rfl rfl (ok_load rfl ti_int rfl rfl) ?_
   refine rs rfl rfl (ok_binOp rfl ti_int rfl) ?_
   refine rs rfl rfl (ok_pick rfl rfl) ?_
   refine ro_nil ?_
   refine keepK hK3 [1, 2, 19] (by dsimp) (by dsimp) ?_
   refine T.cond rfl (fun hc => ?_) (fun hc => ?_) -- cond 1
   ·(try simp only [dE] at hc)
    rw [firstB_bad (fun h => by have := h.2.2; omega)] at hQ
    refine T.seq fun K6 hK6 => ?_
    refine T.region ?_
    refine rs rfl rfl (ok_move (.inr rfl)) ?_
    refine ro_nil ?_
    refine keepK hK6 [4] (by dsimp) (by dsimp) ?_
    refine T.ret (hQ _ _ _ rfl ?_).1 -- ret 3
    exact by first | exact nil_end rfl rfl | exact TEnt.fin [] (by decide) (by simp) rfl ⟨by simp [tupA, AV.ren, renL_ints], trivial⟩
   ·(try simp only [dE] at hc)
    rw [firstB_ok ⟨hrs, hm0, by omega⟩] at hQ
    have hput := sput_ok s hT hsl hzl hpl
    rw [putS_ok hrs] at hput
    refine T.skip ?_
    refine keepK hK2 [1, 2] (by dsimp) (by dsimp) ?_
    refine T.seq fun K7 hK7 => ?_
    refine T.draw mixed (SH [9] (HeldL ([some (StB s)]))) ?_
    refine any_take 0 rfl (by first | rfl | decide +kernel) rfl (by first | (simp [HeldL]; done) | (simp only [dH]; (repeat' first | trivial | rfl | constructor))) (fun H' hH => OpOk.step (ok_fieldAddr rfl ti_api_State rfl rfl ti_int (by decide) rfl)) ?_
    refine any_take 1 rfl (by first | rfl | decide +kernel) rfl (by first | (simp [HeldL]; done) | (simp only [dH]; (repeat' first | trivial | rfl | constructor))) (fun H' hH => OpOk.step (ok_load rfl ti_int (locA_held hH rfl) rfl)) ?_
    refine any_take 2 rfl (by first | rfl | decide +kernel) rfl (by first | (simp [HeldL]; done) | (simp only [dH]; (repeat' first | trivial | rfl | constructor))) (fun H' hH => OpOk.step (ok_fieldAddr rfl ti_api_State rfl rfl ti_int (by decide) rfl)) ?_
    refine any_take 3 rfl (by first | rfl | decide +kernel) rfl (by first | (simp [HeldL]; done) | (simp only [dH]; (repeat' first | trivial | rfl | constructor))) (fun H' hH => OpOk.step (ok_load rfl ti_int (locA_held hH rfl) rfl)) ?_
    refine any_take 4 rfl (by first | rfl | decide +kernel) rfl (by first | (simp [HeldL]; done) | (simp only [dH]; (repeat' first | trivial | rfl | constructor))) (fun H' hH => OpOk.step (ok_move (.inl rfl))) ?_
    refine any_take 5 rfl (by first | rfl | decide +kernel) rfl (by first | (simp [HeldL]; done) | (simp only [dH]; (repeat' first | trivial | rfl | constructor))) (fun H' hH => OpOk.step (ok_load rfl ti_api_State (locA_held hH rfl) rfl)) ?_
    refine any_many [6, 8] (by first | rfl | decide +kernel) (by decide) (fun k hk => ?_)
    simp only [List.mem_cons, List.not_mem_nil, or_false] at hk
    rcases hk with rfl | rfl
    ·
     refine step_one rfl rfl rfl (ok_call rfl rfl rfl (hput.plain (by simp [renL, AV.ren, StC_take, StC_ren]) (by simp [AV.ren, renL_ints]))) (.inr (by first | (simp [HeldL]; done) | (simp only [dH]; (repeat' first | trivial | rfl | constructor)))) ?_
     refine any_take 7 rfl (by first | rfl | decide +kernel) rfl (by first | (simp [HeldL]; done) | (simp only [dH]; (repeat' first | trivial | rfl | constructor))) (fun H' hH => OpOk.step (ok_build rfl ti_api_Rec rfl)) ?_
     refine any_one 8 rfl (by first | rfl | decide +kernel) rfl rfl (OpOk.step (ok_alloc rfl ti_api_Rec rfl (by decide))) (.inr (by first | (simp [HeldL]; done) | (simp only [dH]; (repeat' first | trivial | rfl | constructor)))) ?_
     refine any_one 9 rfl (by first | rfl | decide +kernel) rfl rfl (OpOk.step (ok_store rfl ti_api_Rec (by decide) rfl rfl rfl rfl rfl (by first | exact Nat.le_of_ble_eq_true rfl | simp) (by first | exact .inl ⟨rfl, rfl⟩ | exact .inr rfl))) (.inl (by simp)) ?_
     refine any_done rfl ?_
     refine keepK hK7 [2, 5] (by dsimp) (by dsimp) ?_
     refine T.seq fun K8 hK8 => ?_
     refine T.region ?_
     refine rs rfl rfl (ok_load rfl ti_api_Rec rfl rfl) ?_
     refine rs rfl rfl (ok_fieldAddr rfl ti_api_State rfl rfl ti_api_Conf (by decide) rfl) ?_
     refine rs rfl rfl (ok_fieldAddr rfl ti_api_Conf rfl rfl ti_int (by decide) rfl) ?_
     refine rs rfl rfl (ok_load rfl ti_int rfl rfl) ?_
     refine ro rfl rfl (ok_call rfl rfl rfl ((put_ok (ckR s m) s.c.blk (encSt_bytes hB) (by have := hT hrs; show (encSt s).length ≤ _; omega)).plain (by show renL _ [.agg (List.take 10 (RcC (ckR s m))), .int s.c.blk] = _; rw [RcC_take]; simp [renL, AV.ren, RcC_ren]) (by simp [AV.ren, renL_ints]))) ?_
     refine rs rfl rfl (ok_move (.inr rfl)) ?_
     refine ro_nil ?_
     refine keepK hK8 [4] (by dsimp) (by dsimp) ?_
     refine T.ret (hQ _ _ _ rfl ?_).1 -- ret 4
     exact by first | exact nil_end rfl rfl | exact TEnt.fin [] (by decide) (by simp) rfl ⟨by simp [tupA, AV.ren, renL_ints], trivial⟩
    ·
     refine step_one rfl rfl rfl (OpOk.step (ok_alloc rfl ti_api_Rec rfl (by decide))) (.inr (by first | (simp [HeldL]; done) | (simp only [dH]; (repeat' first | trivial | rfl | constructor)))) ?_
     refine any_one 6 rfl (by first | rfl | decide +kernel) rfl rfl (ok_call rfl rfl rfl (hput.plain (by simp [renL, AV.ren, StC_take, StC_ren]) (by simp [AV.ren, renL_ints]))) (.inr (by first | (simp [HeldL]; done) | (simp only [dH]; (repeat' first | trivial | rfl | constructor)))) ?_
     refine any_take 7 rfl (by first | rfl | decide +kernel) rfl (by first | (simp [HeldL]; done) | (simp only [dH]; (repeat' first | trivial | rfl | constructor))) (fun H' hH => OpOk.step (ok_build rfl ti_api_Rec rfl)) ?_
     refine any_one 9 rfl (by first | rfl | decide +kernel) rfl rfl (OpOk.step (ok_store rfl ti_api_Rec (by decide) rfl rfl rfl rfl rfl (by first | exact Nat.le_of_ble_eq_true rfl | simp) (by first | exact .inl ⟨rfl, rfl⟩ | exact .inr rfl))) (.inl (by simp)) ?_
     refine any_done rfl ?_
     refine keepK hK7 [2, 5] (by dsimp) (by dsimp) ?_
     refine T.seq fun K9 hK9 => ?_
     refine T.region ?_
     refine rs rfl rfl (ok_load rfl ti_api_Rec rfl rfl) ?_
     refine rs rfl rfl (ok_fieldAddr rfl ti_api_State rfl rfl ti_api_Conf (by decide) rfl) ?_
     refine rs rfl rfl (ok_fieldAddr rfl ti_api_Conf rfl rfl ti_int (by decide) rfl) ?_
     refine rs rfl rfl (ok_load rfl ti_int rfl rfl) ?_
     refine ro rfl rfl (ok_call rfl rfl rfl ((put_ok (ckR s m) s.c.blk (encSt_bytes hB) (by have := hT hrs; show (encSt s).length ≤ _; omega)).plain (by show renL _ [.agg (List.take 10 (RcC (ckR s m))), .int s.c.blk] = _; rw [RcC_take]; simp [renL, AV.ren, RcC_ren]) (by simp [AV.ren, renL_ints]))) ?_
     refine rs rfl rfl (ok_move (.inr rfl)) ?_
     refine ro_nil ?_
     refine keepK hK9 [4] (by dsimp) (by dsimp) ?_
     refine T.ret (hQ _ _ _ rfl ?_).1 -- ret 5
     exact by first | exact nil_end rfl rfl | exact TEnt.fin [] (by decide) (by simp) rfl ⟨by simp [tupA, AV.ren, renL_ints], trivial⟩
theorem ck_no {k : Nat} {tm : TM} {H : Heap} (hk : k = 0) (h : tget tm 0 = .tup [.agg (List.map .v [.int .i64 0, .int .i64 0, .int .i64 0, .int .i64 0, .int .i64 0, .int .i64 0, .int .i64 0, .int .i64 0, .int .i64 0, .int .i64 0, .int .i64 0, .int .i64 0, .int .i64 0, .slice none 0 0, .slice none 0 0]), .b false]) : TEnt k tm H [(0, .tup [.agg (StC St0), .b false])] [] := by
  subst hk
  exact (TEnt.put1 0 (x' := .tup [.agg (StC St0), .b false]) (by rw [h]; exact Ent.tup (EntL.cons Ent.st0 (EntL.refl _)))).trans (TEnt.fin [] (by decide) (by simp) rfl ⟨by simp [AV.ren, renL, StC_ren], trivial⟩)
theorem chkP_bad {x : Rc} {c : Cf} {m : Int} (h : x.kind ≠ 0 ∨ x.member ≠ m) : chkP x c m = (St0, false) := if_pos h
theorem chkP_good {x : Rc} {c : Cf} {m : Int} (h : x.kind = 0) (h' : x.member = m) {s : St} {e : Int} (hg : getS x.body = (s, e)) : chkP x c m = (s, decide (e = 0 ∧ s.c = c ∧ s.ep = x.epoch ∧ s.sq = x.seq)) := by
  unfold chkP
  rw [if_neg (by omega), hg]
theorem schk_ok (x : Rc) (c : Cf) (m : Int) (hB : Bytes x.body) (hl : x.body.length ≤ 140737488355328) : CSpec Try.prog 14 [] [.agg (RcC x), .agg (CC c), .int m] [] (.tup [.agg (StC (chkP x c m).1), .b (chkP x c m).2]) := by
 refine CSpec.body Try.func14 rfl rfl rfl rfl rfl fun Q hQ => ?_
 refine T.seq fun K1 hK1 => ?_
 refine T.region ?_
 refine rs rfl rfl (ok_box (n := 10) rfl rfl (by decide)) ?_
 refine rs rfl rfl (ok_box (n := 11) rfl rfl (by decide)) ?_
 refine rs rfl rfl (ok_alloc rfl ti_api_State rfl (by decide)) ?_
 refine rs rfl rfl (ok_moveb (c := false) (.inr rfl) rfl) ?_
 refine ro_nil ?_
 refine keepK hK1 [2, 3, 4, 6] (by dsimp) (by dsimp) ?_
 refine T.seq fun K2 hK2 => ?_
 refine T.seq fun K3 hK3 => ?_
 refine T.region ?_
 refine rs rfl rfl (ok_fieldAddr rfl ti_api_Rec rfl rfl ti_int (by decide) rfl) ?_
 refine rs rfl rfl (ok_load rfl ti_int rfl rfl) ?_
 refine rs rfl rfl (ok_binOp rfl ti_int rfl) ?_
 refine ro_case rfl rfl (OpOk.step (ok_moveb (.inl rfl) rfl)) (fun hb => ?_) (fun hb => ?_)
 ·(try simp only [dE] at hb)
  rw [chkP_bad (.inl hb)] at hQ
  refine ro_skip rfl rfl ?_
  refine ro_skip rfl rfl ?_
  refine ro_skip rfl rfl ?_
  refine ro_skip rfl rfl ?_
  refine rs rfl rfl (ok_pickb (t := true) (d := true) rfl rfl rfl) ?_
  refine ro_nil ?_
  refine keepK hK3 [3, 4, 6, 18] (by dsimp) (by dsimp) ?_
  refine T.cond_true rfl ?_
  refine T.seq fun K4 hK4 => ?_
  refine T.region ?_
  refine rs rfl rfl (ok_build rfl ti_api_State rfl) ?_
  refine rs rfl rfl (ok_store rfl ti_api_State (by decide) rfl rfl rfl rfl rfl (by first | exact Nat.le_of_ble_eq_true rfl | simp) (by first | exact .inl ⟨rfl, rfl⟩ | exact .inr rfl)) ?_
  refine rs rfl rfl (ok_moveb (c := false) (.inr rfl) rfl) ?_
  refine ro_nil ?_
  refine keepK hK4 [6, 7] (by dsimp) (by dsimp) ?_
  refine T.ret (hQ _ _ _ rfl ?_).1 -- ret 1
  exact by first | exact ck_no rfl rfl | exact TEnt.fin [] (by decide) (by simp) rfl ⟨by show AV.tup [.agg (renL _ (StC s)), .b _] = _; rw [StC_ren]; exact congrArg (fun q => AV.tup [AV.agg (StC s), AV.b q]) (by simp_all <;> rfl), trivial⟩
 ·(try simp only [dE] at hb)
  refine rs rfl rfl (ok_fieldAddr rfl ti_api_Rec rfl rfl ti_int (by decide) rfl) ?_
  refine rs rfl rfl (ok_load rfl ti_int rfl rfl) ?_
  refine rs rfl rfl (ok_move (.inl rfl)) ?_
  refine rs rfl rfl (ok_binOp rfl ti_int rfl) ?_
  refine rs rfl rfl (ok_pick rfl rfl) ?_
  refine ro_nil ?_
  refine keepK hK3 [3, 4, 6, 18] (by dsimp) (by dsimp) ?_
  refine T.cond rfl (fun hc => ?_) (fun hc => ?_) -- cond 1
  ·(try simp only [dE] at hc)
   rw [chkP_bad (.inr hc)] at hQ
   refine T.seq fun K5 hK5 => ?_
   refine T.region ?_
   refine rs rfl rfl (ok_build rfl ti_api_State rfl) ?_
   refine rs rfl rfl (ok_store rfl ti_api_State (by decide) rfl rfl rfl rfl rfl (by first | exact Nat.le_of_ble_eq_true rfl | simp) (by first | exact .inl ⟨rfl, rfl⟩ | exact .inr rfl)) ?_
   refine rs rfl rfl (ok_moveb (c := false) (.inr rfl) rfl) ?_
   refine ro_nil ?_
   refine keepK hK5 [6, 7] (by dsimp) (by dsimp) ?_
   refine T.ret (hQ _ _ _ rfl ?_).1 -- ret 2
   exact by first | exact ck_no rfl rfl | exact TEnt.fin [] (by decide) (by simp) rfl ⟨by show AV.tup [.agg (renL _ (StC s)), .b _] = _; rw [StC_ren]; exact congrArg (fun q => AV.tup [AV.agg (StC s), AV.b q]) (by simp_all <;> rfl), trivial⟩
  ·(try simp only [dE] at hc)
   obtain ⟨⟨s, e⟩, hg⟩ : ∃ q, getS x.body = q := ⟨_, rfl⟩
   have hget := sget_ok x.body hB hl
   rw [hg] at hget
   have hk0 : x.kind = 0 := by simpa using hb
   have hm0 : x.member = m := by simpa using hc
   rw [chkP_good hk0 hm0 hg] at hQ
   refine T.skip ?_
   refine keepK hK2 [3, 4, 6] (by dsimp) (by dsimp) ?_
   refine T.seq fun K6 hK6 => ?_
   refine T.region ?_
   refine rs rfl rfl (ok_fieldAddr rfl ti_api_Rec rfl rfl ti_Luint8 (by decide) rfl) ?_
   refine rs rfl rfl (ok_load rfl ti_Luint8 rfl rfl) ?_
   refine ro rfl rfl (ok_call rfl rfl rfl (hget.plain (by simp [renL, AV.ren, renL_ints]) (by simp [AV.ren, renL, StC_ren]))) ?_
   refine rs rfl rfl (ok_move (.inl rfl)) ?_
   refine rs rfl rfl (ok_extract rfl rfl rfl) ?_
   refine rs rfl rfl (ok_extract rfl rfl rfl) ?_
   refine rs rfl rfl (ok_alloc rfl ti_api_State rfl (by decide)) ?_
   refine rs rfl rfl (ok_store rfl ti_api_State (by decide) rfl rfl rfl rfl rfl (by first | exact Nat.le_of_ble_eq_true rfl | simp) (by first | exact .inl ⟨rfl, rfl⟩ | exact .inr rfl)) ?_
   refine rs rfl rfl (ok_move (.inr rfl)) ?_
   refine ro_nil ?_
   refine keepK hK6 [3, 4, 6, 8, 9] (by dsimp) (by dsimp) ?_
   refine T.seq fun K7 hK7 => ?_
   refine T.draw mixed (SH [] (HeldL ([some (RcB x), some (CB c), none, some (StB s)]))) ?_
   refine any_take 0 rfl (by first | rfl | decide +kernel) rfl (by first | (simp [HeldL]; done) | (simp only [dH]; (repeat' first | trivial | rfl | constructor))) (fun H' hH => OpOk.step ((ok_load rfl ti_api_State (locA_held hH rfl) rfl).eq (x' := .agg (StC s)) rfl rfl)) ?_
   refine any_take 1 rfl (by first | rfl | decide +kernel) rfl (by first | (simp [HeldL]; done) | (simp only [dH]; (repeat' first | trivial | rfl | constructor))) (fun H' hH => OpOk.step (ok_move (.inl rfl))) ?_
   refine any_take 2 rfl (by first | rfl | decide +kernel) rfl (by first | (simp [HeldL]; done) | (simp only [dH]; (repeat' first | trivial | rfl | constructor))) (fun H' hH => OpOk.step (ok_binOp rfl ti_api_Errno rfl)) ?_
   refine any_take_case 3 rfl (by first | rfl | decide +kernel) rfl (by first | (simp [HeldL]; done) | (simp only [dH]; (repeat' first | trivial | rfl | constructor))) (fun H' hH => OpOk.step (ok_moveb (.inl rfl) rfl)) (fun hb => ?_) (fun hb => ?_)
   ·(try simp only [dE] at hb)
    refine any_take 4 rfl (by first | rfl | decide +kernel) rfl (by first | (simp [HeldL]; done) | (simp only [dH]; (repeat' first | trivial | rfl | constructor))) (fun H' hH => OpOk.step (ok_fieldAddr rfl ti_api_State rfl rfl ti_api_Conf (by decide) rfl)) ?_
    refine any_take 5 rfl (by first | rfl | decide +kernel) rfl (by first | (simp [HeldL]; done) | (simp only [dH]; (repeat' first | trivial | rfl | constructor))) (fun H' hH => OpOk.step (ok_load rfl ti_api_Conf (locA_held hH rfl) rfl)) ?_
    refine any_take 6 rfl (by first | rfl | decide +kernel) rfl (by first | (simp [HeldL]; done) | (simp only [dH]; (repeat' first | trivial | rfl | constructor))) (fun H' hH => OpOk.step (ok_load rfl ti_api_Conf (locA_held hH rfl) rfl)) ?_
    refine any_take 7 rfl (by first | rfl | decide +kernel) rfl (by first | (simp [HeldL]; done) | (simp only [dH]; (repeat' first | trivial | rfl | constructor))) (fun H' hH => OpOk.step (by exact eq_conf (c := s.c) (d := c) rfl (.inl rfl) rfl rfl)) ?_
    refine any_take 8 rfl (by first | rfl | decide +kernel) rfl (by first | (simp [HeldL]; done) | (simp only [dH]; (repeat' first | trivial | rfl | constructor))) (fun H' hH => OpOk.step (ok_pick rfl rfl)) ?_
    refine any_take_case 9 rfl (by first | rfl | decide +kernel) rfl (by first | (simp [HeldL]; done) | (simp only [dH]; (repeat' first | trivial | rfl | constructor))) (fun H' hH => OpOk.step (ok_moveb (.inl rfl) rfl)) (fun hb => ?_) (fun hb => ?_)
    ·(try simp only [dE] at hb)
     refine any_take 10 rfl (by first | rfl | decide +kernel) rfl (by first | (simp [HeldL]; done) | (simp only [dH]; (repeat' first | trivial | rfl | constructor))) (fun H' hH => OpOk.step (ok_fieldAddr rfl ti_api_State rfl rfl ti_int (by decide) rfl)) ?_
     refine any_take 11 rfl (by first | rfl | decide +kernel) rfl (by first | (simp [HeldL]; done) | (simp only [dH]; (repeat' first | trivial | rfl | constructor))) (fun H' hH => OpOk.step (ok_load rfl ti_int (locA_held hH rfl) rfl)) ?_
     refine any_take 12 rfl (by first | rfl | decide +kernel) rfl (by first | (simp [HeldL]; done) | (simp only [dH]; (repeat' first | trivial | rfl | constructor))) (fun H' hH => OpOk.step (ok_fieldAddr rfl ti_api_Rec rfl rfl ti_int (by decide) rfl)) ?_
     refine any_take 13 rfl (by first | rfl | decide +kernel) rfl (by first | (simp [HeldL]; done) | (simp only [dH]; (repeat' first | trivial | rfl | constructor))) (fun H' hH => OpOk.step (ok_load rfl ti_int (locA_held hH rfl) rfl)) ?_
     refine any_take 14 rfl (by first | rfl | decide +kernel) rfl (by first | (simp [HeldL]; done) | (simp only [dH]; (repeat' first | trivial | rfl | constructor))) (fun H' hH => OpOk.step (ok_binOp rfl ti_int rfl)) ?_
     refine any_take 15 rfl (by first | rfl | decide +kernel) rfl (by first | (simp [HeldL]; done) | (simp only [dH]; (repeat' first | trivial | rfl | constructor))) (fun H' hH => OpOk.step (ok_pick rfl rfl)) ?_
     refine any_take_case 16 rfl (by first | rfl | decide +kernel) rfl (by first | (simp [HeldL]; done) | (simp only [dH]; (repeat' first | trivial | rfl | constructor))) (fun H' hH => OpOk.step (ok_moveb (.inl rfl) rfl)) (fun hb => ?_) (fun hb => ?_)
     ·(try simp only [dE] at hb)
      refine any_take 17 rfl (by first | rfl | decide +kernel) rfl (by first | (simp [HeldL]; done) | (simp only [dH]; (repeat' first | trivial | rfl | constructor))) (fun H' hH => OpOk.step (ok_fieldAddr rfl ti_api_State rfl rfl ti_int (by decide) rfl)) ?_
      refine any_take 18 rfl (by first | rfl | decide +kernel) rfl (by first | (simp [HeldL]; done) | (simp only [dH]; (repeat' first | trivial | rfl | constructor))) (fun H' hH => OpOk.step (ok_load rfl ti_int (locA_held hH rfl) rfl)) ?_
      refine any_take 19 rfl (by first | rfl | decide +kernel) rfl (by first | (simp [HeldL]; done) | (simp only [dH]; (repeat' first | trivial | rfl | constructor))) (fun H' hH => OpOk.step (ok_fieldAddr rfl ti_api_Rec rfl rfl ti_int (by decide) rfl)) ?_
      refine any_take 20 rfl (by first | rfl | decide +kernel) rfl (by first | (simp [HeldL]; done) | (simp only [dH]; (repeat' first | trivial | rfl | constructor))) (fun H' hH => OpOk.step (ok_load rfl ti_int (locA_held hH rfl) rfl)) ?_
      refine any_take 21 rfl (by first | rfl | decide +kernel) rfl (by first | (simp [HeldL]; done) | (simp only [dH]; (repeat' first | trivial | rfl | constructor))) (fun H' hH => OpOk.step (ok_binOp rfl ti_int rfl)) ?_
      refine any_take 22 rfl (by first | rfl | decide +kernel) rfl (by first | (simp [HeldL]; done) | (simp only [dH]; (repeat' first | trivial | rfl | constructor))) (fun H' hH => OpOk.step (ok_pick rfl rfl)) ?_
      refine any_one 23 rfl (by first | rfl | decide +kernel) rfl rfl (OpOk.step ((ok_store rfl ti_api_State (by decide) rfl rfl rfl rfl rfl (by first | exact Nat.le_of_ble_eq_true rfl | simp) (by first | exact .inl ⟨rfl, rfl⟩ | exact .inr rfl)).eq (x' := .any) (H'' := [some (RcB x), some (CB c), some (StB s), some (StB s)]) rfl rfl)) (.inr (by first | (simp [HeldL]; done) | (simp only [dH]; (repeat' first | trivial | rfl | constructor)))) ?_
      refine any_take 24 rfl (by first | rfl | decide +kernel) rfl (by first | (simp [HeldL]; done) | (simp only [dH]; (repeat' first | trivial | rfl | constructor))) (fun H' hH => OpOk.step (ok_move (.inr rfl))) ?_
      refine any_done rfl ?_
      refine keepK hK7 [6, 7] (by dsimp) (by dsimp) ?_
      refine T.ret (hQ _ _ _ rfl ?_).1 -- ret 3
      exact by first | exact ck_no rfl rfl | exact TEnt.fin [] (by decide) (by simp) rfl ⟨by show AV.tup [.agg (renL _ (StC s)), .b _] = _; rw [StC_ren]; exact congrArg (fun q => AV.tup [AV.agg (StC s), AV.b q]) (by simp_all <;> rfl), trivial⟩
     ·(try simp only [dE] at hb)
      refine any_skip 17 rfl (by first | rfl | decide +kernel) rfl (by first | (simp [HeldL]; done) | (simp only [dH]; (repeat' first | trivial | rfl | constructor))) ?_
      refine any_skip 18 rfl (by first | rfl | decide +kernel) rfl (by first | (simp [HeldL]; done) | (simp only [dH]; (repeat' first | trivial | rfl | constructor))) ?_
      refine any_skip 19 rfl (by first | rfl | decide +kernel) rfl (by first | (simp [HeldL]; done) | (simp only [dH]; (repeat' first | trivial | rfl | constructor))) ?_
      refine any_skip 20 rfl (by first | rfl | decide +kernel) rfl (by first | (simp [HeldL]; done) | (simp only [dH]; (repeat' first | trivial | rfl | constructor))) ?_
      refine any_skip 21 rfl (by first | rfl | decide +kernel) rfl (by first | (simp [HeldL]; done) | (simp only [dH]; (repeat' first | trivial | rfl | constructor))) ?_
      refine any_take 22 rfl (by first | rfl | decide +kernel) rfl (by first | (simp [HeldL]; done) | (simp only [dH]; (repeat' first | trivial | rfl | constructor))) (fun H' hH => OpOk.step (ok_pickb (t := false) (d := false) rfl rfl rfl)) ?_
      refine any_one 23 rfl (by first | rfl | decide +kernel) rfl rfl (OpOk.step ((ok_store rfl ti_api_State (by decide) rfl rfl rfl rfl rfl (by first | exact Nat.le_of_ble_eq_true rfl | simp) (by first | exact .inl ⟨rfl, rfl⟩ | exact .inr rfl)).eq (x' := .any) (H'' := [some (RcB x), some (CB c), some (StB s), some (StB s)]) rfl rfl)) (.inr (by first | (simp [HeldL]; done) | (simp only [dH]; (repeat' first | trivial | rfl | constructor)))) ?_
      refine any_take 24 rfl (by first | rfl | decide +kernel) rfl (by first | (simp [HeldL]; done) | (simp only [dH]; (repeat' first | trivial | rfl | constructor))) (fun H' hH => OpOk.step (ok_moveb (c := false) (.inr rfl) rfl)) ?_
      refine any_done rfl ?_
      refine keepK hK7 [6, 7] (by dsimp) (by dsimp) ?_
      refine T.ret (hQ _ _ _ rfl ?_).1 -- ret 4
      exact by first | exact ck_no rfl rfl | exact TEnt.fin [] (by decide) (by simp) rfl ⟨by show AV.tup [.agg (renL _ (StC s)), .b _] = _; rw [StC_ren]; exact congrArg (fun q => AV.tup [AV.agg (StC s), AV.b q]) (by simp_all <;> rfl), trivial⟩
    ·(try simp only [dE] at hb)
     refine any_skip 10 rfl (by first | rfl | decide +kernel) rfl (by first | (simp [HeldL]; done) | (simp only [dH]; (repeat' first | trivial | rfl | constructor))) ?_
     refine any_skip 11 rfl (by first | rfl | decide +kernel) rfl (by first | (simp [HeldL]; done) | (simp only [dH]; (repeat' first | trivial | rfl | constructor))) ?_
     refine any_skip 12 rfl (by first | rfl | decide +kernel) rfl (by first | (simp [HeldL]; done) | (simp only [dH]; (repeat' first | trivial | rfl | constructor))) ?_
     refine any_skip 13 rfl (by first | rfl | decide +kernel) rfl (by first | (simp [HeldL]; done) | (simp only [dH]; (repeat' first | trivial | rfl | constructor))) ?_
     refine any_skip 14 rfl (by first | rfl | decide +kernel) rfl (by first | (simp [HeldL]; done) | (simp only [dH]; (repeat' first | trivial | rfl | constructor))) ?_
     refine any_take 15 rfl (by first | rfl | decide +kernel) rfl (by first | (simp [HeldL]; done) | (simp only [dH]; (repeat' first | trivial | rfl | constructor))) (fun H' hH => OpOk.step (ok_pickb (t := false) (d := false) rfl rfl rfl)) ?_
     refine any_take 16 rfl (by first | rfl | decide +kernel) rfl (by first | (simp [HeldL]; done) | (simp only [dH]; (repeat' first | trivial | rfl | constructor))) (fun H' hH => OpOk.step (ok_moveb (c := false) (.inl rfl) rfl)) ?_
     refine any_skip 17 rfl (by first | rfl | decide +kernel) rfl (by first | (simp [HeldL]; done) | (simp only [dH]; (repeat' first | trivial | rfl | constructor))) ?_
     refine any_skip 18 rfl (by first | rfl | decide +kernel) rfl (by first | (simp [HeldL]; done) | (simp only [dH]; (repeat' first | trivial | rfl | constructor))) ?_
     refine any_skip 19 rfl (by first | rfl | decide +kernel) rfl (by first | (simp [HeldL]; done) | (simp only [dH]; (repeat' first | trivial | rfl | constructor))) ?_
     refine any_skip 20 rfl (by first | rfl | decide +kernel) rfl (by first | (simp [HeldL]; done) | (simp only [dH]; (repeat' first | trivial | rfl | constructor))) ?_
     refine any_skip 21 rfl (by first | rfl | decide +kernel) rfl (by first | (simp [HeldL]; done) | (simp only [dH]; (repeat' first | trivial | rfl | constructor))) ?_
     refine any_take 22 rfl (by first | rfl | decide +kernel) rfl (by first | (simp [HeldL]; done) | (simp only [dH]; (repeat' first | trivial | rfl | constructor))) (fun H' hH => OpOk.step (ok_pickb (t := false) (d := false) rfl rfl rfl)) ?_
     refine any_one 23 rfl (by first | rfl | decide +kernel) rfl rfl (OpOk.step ((ok_store rfl ti_api_State (by decide) rfl rfl rfl rfl rfl (by first | exact Nat.le_of_ble_eq_true rfl | simp) (by first | exact .inl ⟨rfl, rfl⟩ | exact .inr rfl)).eq (x' := .any) (H'' := [some (RcB x), some (CB c), some (StB s), some (StB s)]) rfl rfl)) (.inr (by first | (simp [HeldL]; done) | (simp only [dH]; (repeat' first | trivial | rfl | constructor)))) ?_
     refine any_take 24 rfl (by first | rfl | decide +kernel) rfl (by first | (simp [HeldL]; done) | (simp only [dH]; (repeat' first | trivial | rfl | constructor))) (fun H' hH => OpOk.step (ok_moveb (c := false) (.inr rfl) rfl)) ?_
     refine any_done rfl ?_
     refine keepK hK7 [6, 7] (by dsimp) (by dsimp) ?_
     refine T.ret (hQ _ _ _ rfl ?_).1 -- ret 5
     exact by first | exact ck_no rfl rfl | exact TEnt.fin [] (by decide) (by simp) rfl ⟨by show AV.tup [.agg (renL _ (StC s)), .b _] = _; rw [StC_ren]; exact congrArg (fun q => AV.tup [AV.agg (StC s), AV.b q]) (by simp_all <;> rfl), trivial⟩
   ·(try simp only [dE] at hb)
    refine any_skip 4 rfl (by first | rfl | decide +kernel) rfl (by first | (simp [HeldL]; done) | (simp only [dH]; (repeat' first | trivial | rfl | constructor))) ?_
    refine any_skip 5 rfl (by first | rfl | decide +kernel) rfl (by first | (simp [HeldL]; done) | (simp only [dH]; (repeat' first | trivial | rfl | constructor))) ?_
    refine any_skip 6 rfl (by first | rfl | decide +kernel) rfl (by first | (simp [HeldL]; done) | (simp only [dH]; (repeat' first | trivial | rfl | constructor))) ?_
    refine any_skip 7 rfl (by first | rfl | decide +kernel) rfl (by first | (simp [HeldL]; done) | (simp only [dH]; (repeat' first | trivial | rfl | constructor))) ?_
    refine any_take 8 rfl (by first | rfl | decide +kernel) rfl (by first | (simp [HeldL]; done) | (simp only [dH]; (repeat' first | trivial | rfl | constructor))) (fun H' hH => OpOk.step (ok_pickb (t := false) (d := false) rfl rfl rfl)) ?_
    refine any_take 9 rfl (by first | rfl | decide +kernel) rfl (by first | (simp [HeldL]; done) | (simp only [dH]; (repeat' first | trivial | rfl | constructor))) (fun H' hH => OpOk.step (ok_moveb (c := false) (.inl rfl) rfl)) ?_
    refine any_skip 10 rfl (by first | rfl | decide +kernel) rfl (by first | (simp [HeldL]; done) | (simp only [dH]; (repeat' first | trivial | rfl | constructor))) ?_
    refine any_skip 11 rfl (by first | rfl | decide +kernel) rfl (by first | (simp [HeldL]; done) | (simp only [dH]; (repeat' first | trivial | rfl | constructor))) ?_
    refine any_skip 12 rfl (by first | rfl | decide +kernel) rfl (by first | (simp [HeldL]; done) | (simp only [dH]; (repeat' first | trivial | rfl | constructor))) ?_
    refine any_skip 13 rfl (by first | rfl | decide +kernel) rfl (by first | (simp [HeldL]; done) | (simp only [dH]; (repeat' first | trivial | rfl | constructor))) ?_
    refine any_skip 14 rfl (by first | rfl | decide +kernel) rfl (by first | (simp [HeldL]; done) | (simp only [dH]; (repeat' first | trivial | rfl | constructor))) ?_
    refine any_take 15 rfl (by first | rfl | decide +kernel) rfl (by first | (simp [HeldL]; done) | (simp only [dH]; (repeat' first | trivial | rfl | constructor))) (fun H' hH => OpOk.step (ok_pickb (t := false) (d := false) rfl rfl rfl)) ?_
    refine any_take 16 rfl (by first | rfl | decide +kernel) rfl (by first | (simp [HeldL]; done) | (simp only [dH]; (repeat' first | trivial | rfl | constructor))) (fun H' hH => OpOk.step (ok_moveb (c := false) (.inl rfl) rfl)) ?_
    refine any_skip 17 rfl (by first | rfl | decide +kernel) rfl (by first | (simp [HeldL]; done) | (simp only [dH]; (repeat' first | trivial | rfl | constructor))) ?_
    refine any_skip 18 rfl (by first | rfl | decide +kernel) rfl (by first | (simp [HeldL]; done) | (simp only [dH]; (repeat' first | trivial | rfl | constructor))) ?_
    refine any_skip 19 rfl (by first | rfl | decide +kernel) rfl (by first | (simp [HeldL]; done) | (simp only [dH]; (repeat' first | trivial | rfl | constructor))) ?_
    refine any_skip 20 rfl (by first | rfl | decide +kernel) rfl (by first | (simp [HeldL]; done) | (simp only [dH]; (repeat' first | trivial | rfl | constructor))) ?_
    refine any_skip 21 rfl (by first | rfl | decide +kernel) rfl (by first | (simp [HeldL]; done) | (simp only [dH]; (repeat' first | trivial | rfl | constructor))) ?_
    refine any_take 22 rfl (by first | rfl | decide +kernel) rfl (by first | (simp [HeldL]; done) | (simp only [dH]; (repeat' first | trivial | rfl | constructor))) (fun H' hH => OpOk.step (ok_pickb (t := false) (d := false) rfl rfl rfl)) ?_
    refine any_one 23 rfl (by first | rfl | decide +kernel) rfl rfl (OpOk.step ((ok_store rfl ti_api_State (by decide) rfl rfl rfl rfl rfl (by first | exact Nat.le_of_ble_eq_true rfl | simp) (by first | exact .inl ⟨rfl, rfl⟩ | exact .inr rfl)).eq (x' := .any) (H'' := [some (RcB x), some (CB c), some (StB s), some (StB s)]) rfl rfl)) (.inr (by first | (simp [HeldL]; done) | (simp only [dH]; (repeat' first | trivial | rfl | constructor)))) ?_
    refine any_take 24 rfl (by first | rfl | decide +kernel) rfl (by first | (simp [HeldL]; done) | (simp only [dH]; (repeat' first | trivial | rfl | constructor))) (fun H' hH => OpOk.step (ok_moveb (c := false) (.inr rfl) rfl)) ?_
    refine any_done rfl ?_
    refine keepK hK7 [6, 7] (by dsimp) (by dsimp) ?_
    refine T.ret (hQ _ _ _ rfl ?_).1 -- ret 6
    exact by first | exact ck_no rfl rfl | exact TEnt.fin [] (by decide) (by simp) rfl ⟨by show AV.tup [.agg (renL _ (StC s)), .b _] = _; rw [StC_ren]; exact congrArg (fun q => AV.tup [AV.agg (StC s), AV.b q]) (by simp_all <;> rfl), trivial⟩
end Go.Proofs.Ytjklgbafnfoolaa.AmF
