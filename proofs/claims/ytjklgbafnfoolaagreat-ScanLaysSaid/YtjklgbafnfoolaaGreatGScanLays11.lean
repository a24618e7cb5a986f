/- Walks over the abstract machine: logs, up to where they are torn. -/
import Derived.Test.YtjklgbafnfoolaaGreatGScanLays10
import Derived.ChangeArms
import Derived.DataReads
import Derived.SizedLaws
import Derived.WideShapes
import Derived.ChangeShapes
import Derived.OpenShut
import Derived.Below
namespace Go.Proofs.YtjklgbafnfoolaaGreat.AmF
open Go Go.AM
set_option maxRecDepth 100000
set_option maxHeartbeats 4000000
set_option linter.unusedSimpArgs false
set_option linter.unusedVariables false
attribute [local simp] tkeep tget tput ev cav argsTM pickA normT putA splice AV.cells ints_length rowsA_length Prs_len Zns_len
theorem firstB_ok {s : St} {m : Int} (h : RS s ∧ 0 ≤ m ∧ m < s.c.mem) : firstB s m = putR (ckR s m) s.c.blk := if_pos h
theorem firstB_bad {s : St} {m : Int} (h : ¬ (RS s ∧ 0 ≤ m ∧ m < s.c.mem)) : firstB s m = [] := if_neg h
theorem nil_end {k : Nat} {tm : TM} {H : Heap} (hk : k = 0) (h : tget tm 0 = .v (.slice none 0 0)) : TEnt k tm H [(0, .fz 1 (ints .u8 []))] [] := by
  subst hk
  exact (TEnt.put1 0 (x' := .fz 1 []) (by rw [h]; exact Ent.nil 1)).trans (TEnt.fin [] (by decide) (by simp) rfl ⟨rfl, trivial⟩)
theorem sfirst_ok (s : St) (m : Int) (hT : RS s → (encSt s).length ≤ 1000000) (hB : ∀ z ∈ s.zs, ∀ p ∈ z.pars, Bytes p.b) (hsl : s.st.length ≤ 1000000) (hzl : s.zs.length ≤ 1000000) (hpl : ∀ z ∈ s.zs, z.pars.length ≤ 1000000) : CSpec Tryz.prog 8 [] [.agg (StC s), .int m] [] (.fz 1 (ints .u8 (firstB s m))) := by
 refine CSpec.body Tryz.func8 rfl rfl rfl rfl rfl fun Q hQ => ?_
 refine T.seq fun K1 hK1 => ?_
 refine T.region ?_
 refine rs rfl rfl (ok_box (n := 15) rfl rfl (by decide)) ?_
 refine rs rfl rfl (ok_move (.inr rfl)) ?_
 refine ro_nil ?_
 refine keepK hK1 [1, 2] (by dsimp) (by dsimp) ?_
 refine T.seq fun K2 hK2 => ?_
 refine T.seq fun K3 hK3 => ?_
 refine T.region ?_
 refine rs rfl rfl (ok_load rfl ti_api_State rfl rfl) ?_
 refine ro rfl rfl (ok_call rfl rfl rfl ((sright_ok s (by omega) (by omega) (fun z hz => by have := hpl z hz; omega)).plain (by simp [renL, AV.ren, StC_take, StC_ren]) rfl)) ?_
 refine rs rfl rfl (ok_unOp rfl rfl) ?_
 refine ro_case rfl rfl (OpOk.step (ok_moveb (.inl rfl) rfl)) (fun hb => ?_) (fun hb => ?_)
 ·(try simp only [dE] at hb)
  rw [firstB_bad (fun h => hb h.1)] at hQ
  refine ro_skip rfl rfl ?_
  refine ro_skip rfl rfl ?_
  refine rs rfl rfl (ok_pickb (t := true) (d := true) rfl rfl rfl) ?_
  refine rs rfl rfl (ok_moveb (c := true) (.inl rfl) rfl) ?_
  refine ro_skip rfl rfl ?_
  refine ro_skip rfl rfl ?_
  refine ro_skip rfl rfl ?_
  refine ro_skip rfl rfl ?_
  refine ro_skip rfl rfl ?_
  refine rs rfl rfl (ok_pickb (t := true) (d := true) rfl rfl rfl) ?_
  refine ro_nil ?_
  refine keepK hK3 [1, 2, 19] (by dsimp) (by dsimp) ?_
  refine T.cond_true rfl ?_
  refine T.seq fun K4 hK4 => ?_
  refine T.region ?_
  refine rs rfl rfl (ok_move (.inr rfl)) ?_
  refine ro_nil ?_
  refine keepK hK4 [4] (by dsimp) (by dsimp) ?_
  refine T.ret (hQ _ _ _ rfl ?_).1 -- ret 1
  exact by first | exact nil_end rfl rfl | exact TEnt.fin [] (by decide) (by simp) rfl ⟨by simp [tupA, AV.ren, renL_ints], trivial⟩
 ·(try simp only [dE] at hb)
  have hrs : RS s := by simpa using hb
  refine rs rfl rfl (ok_move (.inl rfl)) ?_
  refine rs rfl rfl (ok_binOp rfl ti_int rfl) ?_
  refine rs rfl rfl (ok_pick rfl rfl) ?_
  refine ro_case rfl rfl (OpOk.step (ok_moveb (.inl rfl) rfl)) (fun hb => ?_) (fun hb => ?_)
  ·(try simp only [dE] at hb)
   rw [firstB_bad (fun h => by have := h.2.1; omega)] at hQ
   refine ro_skip rfl rfl ?_
   refine ro_skip rfl rfl ?_
   refine ro_skip rfl rfl ?_
   refine ro_skip rfl rfl ?_
   refine ro_skip rfl rfl ?_
   refine rs rfl rfl (ok_pickb (t := true) (d := true) rfl rfl rfl) ?_
   refine ro_nil ?_
   refine keepK hK3 [1, 2, 19] (by dsimp) (by dsimp) ?_
   refine T.cond_true rfl ?_
   refine T.seq fun K5 hK5 => ?_
   refine T.region ?_
   refine rs rfl rfl (ok_move (.inr rfl)) ?_
   refine ro_nil ?_
   refine keepK hK5 [4] (by dsimp) (by dsimp) ?_
   refine T.ret (hQ _ _ _ rfl ?_).1 -- ret 2
   exact by first | exact nil_end rfl rfl | exact TEnt.fin [] (by decide) (by simp) rfl ⟨by simp [tupA, AV.ren, renL_ints], trivial⟩
  ·(try simp only [dE] at hb)
   have hm0 : 0 ≤ m := by omega
   refine rs rfl rfl (ok_move (.inl rfl)) ?_
   refine rs rfl rfl (ok_fieldAddr rfl ti_api_State rfl rfl ti_api_Conf (by decide) rfl) ?_
   refine rs rfl rfl (ok_fieldAddr rfl ti_api_Conf rfl rfl ti_int (by decide) rfl) ?_
   refine rs rfl rfl (ok_load rfl ti_int rfl rfl) ?_
   refine rs rfl rfl (ok_binOp rfl ti_int rfl) ?_
   refine rs rfl rfl (ok_pick rfl rfl) ?_
   refine ro_nil ?_
   refine keepK hK3 [1, 2, 19] (by dsimp) (by dsimp) ?_
   refine T.cond rfl (fun hc => ?_) (fun hc => ?_) -- cond 1
   ·(try simp only [dE] at hc)
    rw [firstB_bad (fun h => by have := h.2.2; omega)] at hQ
    refine T.seq fun K6 hK6 => ?_
    refine T.region ?_
    refine rs rfl rfl (ok_move (.inr rfl)) ?_
    refine ro_nil ?_
    refine keepK hK6 [4] (by dsimp) (by dsimp) ?_
    refine T.ret (hQ _ _ _ rfl ?_).1 -- ret 3
    exact by first | exact nil_end rfl rfl | exact TEnt.fin [] (by decide) (by simp) rfl ⟨by simp [tupA, AV.ren, renL_ints], trivial⟩
   ·(try simp only [dE] at hc)
    rw [firstB_ok ⟨hrs, hm0, by omega⟩] at hQ
    have hput := sput_ok s hT hsl hzl hpl
    rw [putS_ok hrs] at hput
    refine T.skip ?_
    refine keepK hK2 [1, 2] (by dsimp) (by dsimp) ?_
    refine T.seq fun K7 hK7 => ?_
    refine T.draw mixed (SH [9] (HeldL ([some (StB s)]))) ?_
    refine any_take 0 rfl (by first | rfl | decide +kernel) rfl (by first | (simp [HeldL]; done) | (simp only [dH]; (repeat' first | trivial | rfl | constructor))) (fun H' hH => OpOk.step (ok_fieldAddr rfl ti_api_State rfl rfl ti_int (by decide) rfl)) ?_
    refine any_take 1 rfl (by first | rfl | decide +kernel) rfl (by first | (simp [HeldL]; done) | (simp only [dH]; (repeat' first | trivial | rfl | constructor))) (fun H' hH => OpOk.step (ok_load rfl ti_int (locA_held hH rfl) rfl)) ?_
    refine any_take 2 rfl (by first | rfl | decide +kernel) rfl (by first | (simp [HeldL]; done) | (simp only [dH]; (repeat' first | trivial | rfl | constructor))) (fun H' hH => OpOk.step (ok_fieldAddr rfl ti_api_State rfl rfl ti_int (by decide) rfl)) ?_
    refine any_take 3 rfl (by first | rfl | decide +kernel) rfl (by first | (simp [HeldL]; done) | (simp only [dH]; (repeat' first | trivial | rfl | constructor))) (fun H' hH => OpOk.step (ok_load rfl ti_int (locA_held hH rfl) rfl)) ?_
    refine any_take 4 rfl (by first | rfl | decide +kernel) rfl (by first | (simp [HeldL]; done) | (simp only [dH]; (repeat' first | trivial | rfl | constructor))) (fun H' hH => OpOk.step (ok_move (.inl rfl))) ?_
    refine any_take 5 rfl (by first | rfl | decide +kernel) rfl (by first | (simp [HeldL]; done) | (simp only [dH]; (repeat' first | trivial | rfl | constructor))) (fun H' hH => OpOk.step (ok_load rfl ti_api_State (locA_held hH rfl) rfl)) ?_
    refine any_many [6, 8] (by first | rfl | decide +kernel) (by decide) (fun k hk => ?_)
    simp only [List.mem_cons, List.not_mem_nil, or_false] at hk
    rcases hk with rfl | rfl
    ·
     refine step_one rfl rfl rfl (ok_call rfl rfl rfl (hput.plain (by simp [renL, AV.ren, StC_take, StC_ren]) (by simp [AV.ren, renL_ints]))) (.inr (by first | (simp [HeldL]; done) | (simp only [dH]; (repeat' first | trivial | rfl | constructor)))) ?_
     refine any_take 7 rfl (by first | rfl | decide +kernel) rfl (by first | (simp [HeldL]; done) | (simp only [dH]; (repeat' first | trivial | rfl | constructor))) (fun H' hH => OpOk.step (ok_build rfl ti_api_Rec rfl)) ?_
     refine any_one 8 rfl (by first | rfl | decide +kernel) rfl rfl (OpOk.step (ok_alloc rfl ti_api_Rec rfl (by decide))) (.inr (by first | (simp [HeldL]; done) | (simp only [dH]; (repeat' first | trivial | rfl | constructor)))) ?_
     refine any_one 9 rfl (by first | rfl | decide +kernel) rfl rfl (OpOk.step (ok_store rfl ti_api_Rec (by decide) rfl rfl rfl rfl rfl (by first | exact Nat.le_of_ble_eq_true rfl | simp) (by first | exact .inl ⟨rfl, rfl⟩ | exact .inr rfl))) (.inl (by simp)) ?_
     refine any_done rfl ?_
     refine keepK hK7 [2, 5] (by dsimp) (by dsimp) ?_
     refine T.seq fun K8 hK8 => ?_
     refine T.region ?_
     refine rs rfl rfl (ok_load rfl ti_api_Rec rfl rfl) ?_
     refine rs rfl rfl (ok_fieldAddr rfl ti_api_State rfl rfl ti_api_Conf (by decide) rfl) ?_
     refine rs rfl rfl (ok_fieldAddr rfl ti_api_Conf rfl rfl ti_int (by decide) rfl) ?_
     refine rs rfl rfl (ok_load rfl ti_int rfl rfl) ?_
     refine ro rfl rfl (ok_call rfl rfl rfl ((put_ok (ckR s m) s.c.blk (encSt_bytes hB) (by have := hT hrs; show (encSt s).length ≤ _; omega)).plain (by show renL _ [.agg (List.take 10 (RcC (ckR s m))), .int s.c.blk] = _; rw [RcC_take]; simp [renL, AV.ren, RcC_ren]) (by simp [AV.ren, renL_ints]))) ?_
     refine rs rfl rfl (ok_move (.inr rfl)) ?_
     refine ro_nil ?_
     refine keepK hK8 [4] (by dsimp) (by dsimp) ?_
     refine T.ret (hQ _ _ _ rfl ?_).1 -- ret 4
     exact by first | exact nil_end rfl rfl | exact TEnt.fin [] (by decide) (by simp) rfl ⟨by simp [tupA, AV.ren, renL_ints], trivial⟩
    ·
     refine step_one rfl rfl rfl (OpOk.step (ok_alloc rfl ti_api_Rec rfl (by decide))) (.inr (by first | (simp [HeldL]; done) | (simp only [dH]; (repeat' first | trivial | rfl | constructor)))) ?_
     refine any_one 6 rfl (by first | rfl | decide +kernel) rfl rfl (ok_call rfl rfl rfl (hput.plain (by simp [renL, AV.ren, StC_take, StC_ren]) (by simp [AV.ren, renL_ints]))) (.inr (by first | (simp [HeldL]; done) | (simp only [dH]; (repeat' first | trivial | rfl | constructor)))) ?_
     refine any_take 7 rfl (by first | rfl | decide +kernel) rfl (by first | (simp [HeldL]; done) | (simp only [dH]; (repeat' first | trivial | rfl | constructor))) (fun H' hH => OpOk.step (ok_build rfl ti_api_Rec rfl)) ?_
     refine any_one 9 rfl (by first | rfl | decide +kernel) rfl rfl (OpOk.step (ok_store rfl ti_api_Rec (by decide) rfl rfl rfl rfl rfl (by first | exact Nat.le_of_ble_eq_true rfl | simp) (by first | exact .inl ⟨rfl, rfl⟩ | exact .inr rfl))) (.inl (by simp)) ?_
     refine any_done rfl ?_
     refine keepK hK7 [2, 5] (by dsimp) (by dsimp) ?_
     refine T.seq fun K9 hK9 => ?_
     refine T.region ?_
     refine rs rfl rfl (ok_load rfl ti_api_Rec rfl rfl) ?_
     refine rs rfl rfl (ok_fieldAddr rfl ti_api_State rfl rfl ti_api_Conf (by decide) rfl) ?_
     refine rs rfl rfl (ok_fieldAddr rfl ti_api_Conf rfl rfl ti_int (by decide) rfl) ?_
     refine rs rfl rfl (ok_load rfl ti_int rfl rfl) ?_
     refine ro rfl rfl (ok_call rfl rfl rfl ((put_ok (ckR s m) s.c.blk (encSt_bytes hB) (by have := hT hrs; show (encSt s).length ≤ _; omega)).plain (by show renL _ [.agg (List.take 10 (RcC (ckR s m))), .int s.c.blk] = _; rw [RcC_take]; simp [renL, AV.ren, RcC_ren]) (by simp [AV.ren, renL_ints]))) ?_
     refine rs rfl rfl (ok_move (.inr rfl)) ?_
     refine ro_nil ?_
     refine keepK hK9 [4] (by dsimp) (by dsimp) ?_
     refine T.ret (hQ _ _ _ rfl ?_).1 -- ret 5
     exact by first | exact nil_end rfl rfl | exact TEnt.fin [] (by decide) (by simp) rfl ⟨by simp [tupA, AV.ren, renL_ints], trivial⟩
theorem ck_no {k : Nat} {tm : TM} {H : Heap} (hk : k = 0) (h : tget tm 0 = .tup [.agg (List.map .v [.int .i64 0, .int .i64 0, .int .i64 0, .int .i64 0, .int .i64 0, .int .i64 0, .int .i64 0, .int .i64 0, .int .i64 0, .int .i64 0, .int .i64 0, .int .i64 0, .int .i64 0, .slice none 0 0, .slice none 0 0]), .b false]) : TEnt k tm H [(0, .tup [.agg (StC St0), .b false])] [] := by
  subst hk
  exact (TEnt.put1 0 (x' := .tup [.agg (StC St0), .b false]) (by rw [h]; exact Ent.tup (EntL.cons Ent.st0 (EntL.refl _)))).trans (TEnt.fin [] (by decide) (by simp) rfl ⟨by simp [AV.ren, renL, StC_ren], trivial⟩)
theorem chkP_bad {x : Rc} {c : Cf} {m : Int} (h : x.kind ≠ 0 ∨ x.member ≠ m) : chkP x c m = (St0, false) := if_pos h
theorem chkP_good {x : Rc} {c : Cf} {m : Int} (h : x.kind = 0) (h' : x.member = m) {s : St} {e : Int} (hg : getS x.body = (s, e)) : chkP x c m = (s, decide (e = 0 ∧ s.c = c ∧ s.ep = x.epoch ∧ s.sq = x.seq)) := by
  unfold chkP
  rw [if_neg (by omega), hg]
theorem schk_ok (x : Rc) (c : Cf) (m : Int) (hB : Bytes x.body) (hl : x.body.length ≤ 140737488355328) : CSpec Tryz.prog 29 [] [.agg (RcC x), .agg (CC c), .int m] [] (.tup [.agg (StC (chkP x c m).1), .b (chkP x c m).2]) := by
 refine CSpec.body Tryz.func29 rfl rfl rfl rfl rfl fun Q hQ => ?_
 refine T.seq fun K1 hK1 => ?_
 refine T.region ?_
 refine rs rfl rfl (ok_box (n := 10) rfl rfl (by decide)) ?_
 refine rs rfl rfl (ok_box (n := 11) rfl rfl (by decide)) ?_
 refine rs rfl rfl (ok_alloc rfl ti_api_State rfl (by decide)) ?_
 refine rs rfl rfl (ok_moveb (c := false) (.inr rfl) rfl) ?_
 refine ro_nil ?_
 refine keepK hK1 [2, 3, 4, 6] (by dsimp) (by dsimp) ?_
 refine T.seq fun K2 hK2 => ?_
 refine T.seq fun K3 hK3 => ?_
 refine T.region ?_
 refine rs rfl rfl (ok_fieldAddr rfl ti_api_Rec rfl rfl ti_int (by decide) rfl) ?_
 refine rs rfl rfl (ok_load rfl ti_int rfl rfl) ?_
 refine rs rfl rfl (ok_binOp rfl ti_int rfl) ?_
 refine ro_case rfl rfl (OpOk.step (ok_moveb (.inl rfl) rfl)) (fun hb => ?_) (fun hb => ?_)
 ·(try simp only [dE] at hb)
  rw [chkP_bad (.inl hb)] at hQ
  refine ro_skip rfl rfl ?_
  refine ro_skip rfl rfl ?_
  refine ro_skip rfl rfl ?_
  refine ro_skip rfl rfl ?_
  refine rs rfl rfl (ok_pickb (t := true) (d := true) rfl rfl rfl) ?_
  refine ro_nil ?_
  refine keepK hK3 [3, 4, 6, 18] (by dsimp) (by dsimp) ?_
  refine T.cond_true rfl ?_
  refine T.seq fun K4 hK4 => ?_
  refine T.region ?_
  refine rs rfl rfl (ok_build rfl ti_api_State rfl) ?_
  refine rs rfl rfl (ok_store rfl ti_api_State (by decide) rfl rfl rfl rfl rfl (by first | exact Nat.le_of_ble_eq_true rfl | simp) (by first | exact .inl ⟨rfl, rfl⟩ | exact .inr rfl)) ?_
  refine rs rfl rfl (ok_moveb (c := false) (.inr rfl) rfl) ?_
  refine ro_nil ?_
  refine keepK hK4 [6, 7] (by dsimp) (by dsimp) ?_
  refine T.ret (hQ _ _ _ rfl ?_).1 -- ret 1
  exact by first | exact ck_no rfl rfl | exact TEnt.fin [] (by decide) (by simp) rfl ⟨by show AV.tup [.agg (renL _ (StC s)), .b _] = _; rw [StC_ren]; exact congrArg (fun q => AV.tup [AV.agg (StC s), AV.b q]) (by simp_all <;> rfl), trivial⟩
 ·(try simp only [dE] at hb)
  refine rs rfl rfl (ok_fieldAddr rfl ti_api_Rec rfl rfl ti_int (by decide) rfl) ?_
  refine rs rfl rfl (ok_load rfl ti_int rfl rfl) ?_
  refine rs rfl rfl (ok_move (.inl rfl)) ?_
  refine rs rfl rfl (ok_binOp rfl ti_int rfl) ?_
  refine rs rfl rfl (ok_pick rfl rfl) ?_
  refine ro_nil ?_
  refine keepK hK3 [3, 4, 6, 18] (by dsimp) (by dsimp) ?_
  refine T.cond rfl (fun hc => ?_) (fun hc => ?_) -- cond 1
  ·(try simp only [dE] at hc)
   rw [chkP_bad (.inr hc)] at hQ
   refine T.seq fun K5 hK5 => ?_
   refine T.region ?_
   refine rs rfl rfl (ok_build rfl ti_api_State rfl) ?_
   refine rs rfl rfl (ok_store rfl ti_api_State (by decide) rfl rfl rfl rfl rfl (by first | exact Nat.le_of_ble_eq_true rfl | simp) (by first | exact .inl ⟨rfl, rfl⟩ | exact .inr rfl)) ?_
   refine rs rfl rfl (ok_moveb (c := false) (.inr rfl) rfl) ?_
   refine ro_nil ?_
   refine keepK hK5 [6, 7] (by dsimp) (by dsimp) ?_
   refine T.ret (hQ _ _ _ rfl ?_).1 -- ret 2
   exact by first | exact ck_no rfl rfl | exact TEnt.fin [] (by decide) (by simp) rfl ⟨by show AV.tup [.agg (renL _ (StC s)), .b _] = _; rw [StC_ren]; exact congrArg (fun q => AV.tup [AV.agg (StC s), AV.b q]) (by simp_all <;> rfl), trivial⟩
  ·(try simp only [dE] at hc)
   obtain ⟨⟨s, e⟩, hg⟩ : ∃ q, getS x.body = q := ⟨_, rfl⟩
   have hget := sget_ok x.body hB hl
   rw [hg] at hget
   have hk0 : x.kind = 0 := by simpa using hb
   have hm0 : x.member = m := by simpa using hc
   rw [chkP_good hk0 hm0 hg] at hQ
   refine T.skip ?_
   refine keepK hK2 [3, 4, 6] (by dsimp) (by dsimp) ?_
   refine T.seq fun K6 hK6 => ?_
   refine T.region ?_
   refine rs rfl rfl (ok_fieldAddr rfl ti_api_Rec rfl rfl ti_Luint8 (by decide) rfl) ?_
   refine rs rfl rfl (ok_load rfl ti_Luint8 rfl rfl) ?_
   refine ro rfl rfl (ok_call rfl rfl rfl (hget.plain (by simp [renL, AV.ren, renL_ints]) (by simp [AV.ren, renL, StC_ren]))) ?_
   refine rs rfl rfl (ok_move (.inl rfl)) ?_
   refine rs rfl rfl (ok_extract rfl rfl rfl) ?_
   refine rs rfl rfl (ok_extract rfl rfl rfl) ?_
   refine rs rfl rfl (ok_alloc rfl ti_api_State rfl (by decide)) ?_
   refine rs rfl rfl (ok_store rfl ti_api_State (by decide) rfl rfl rfl rfl rfl (by first | exact Nat.le_of_ble_eq_true rfl | simp) (by first | exact .inl ⟨rfl, rfl⟩ | exact .inr rfl)) ?_
   refine rs rfl rfl (ok_move (.inr rfl)) ?_
   refine ro_nil ?_
   refine keepK hK6 [3, 4, 6, 8, 9] (by dsimp) (by dsimp) ?_
   refine T.seq fun K7 hK7 => ?_
   refine T.draw mixed (SH [] (HeldL ([some (RcB x), some (CB c), none, some (StB s)]))) ?_
   refine any_take 0 rfl (by first | rfl | decide +kernel) rfl (by first | (simp [HeldL]; done) | (simp only [dH]; (repeat' first | trivial | rfl | constructor))) (fun H' hH => OpOk.step ((ok_load rfl ti_api_State (locA_held hH rfl) rfl).eq (x' := .agg (StC s)) rfl rfl)) ?_
   refine any_take 1 rfl (by first | rfl | decide +kernel) rfl (by first | (simp [HeldL]; done) | (simp only [dH]; (repeat' first | trivial | rfl | constructor))) (fun H' hH => OpOk.step (ok_move (.inl rfl))) ?_
   refine any_take 2 rfl (by first | rfl | decide +kernel) rfl (by first | (simp [HeldL]; done) | (simp only [dH]; (repeat' first | trivial | rfl | constructor))) (fun H' hH => OpOk.step (ok_binOp rfl ti_api_Errno rfl)) ?_
   refine any_take_case 3 rfl (by first | rfl | decide +kernel) rfl (by first | (simp [HeldL]; done) | (simp only [dH]; (repeat' first | trivial | rfl | constructor))) (fun H' hH => OpOk.step (ok_moveb (.inl rfl) rfl)) (fun hb => ?_) (fun hb => ?_)
   ·(try simp only [dE] at hb)
    refine any_take 4 rfl (by first | rfl | decide +kernel) rfl (by first | (simp [HeldL]; done) | (simp only [dH]; (repeat' first | trivial | rfl | constructor))) (fun H' hH => OpOk.step (ok_fieldAddr rfl ti_api_State rfl rfl ti_api_Conf (by decide) rfl)) ?_
    refine any_take 5 rfl (by first | rfl | decide +kernel) rfl (by first | (simp [HeldL]; done) | (simp only [dH]; (repeat' first | trivial | rfl | constructor))) (fun H' hH => OpOk.step (ok_load rfl ti_api_Conf (locA_held hH rfl) rfl)) ?_
    refine any_take 6 rfl (by first | rfl | decide +kernel) rfl (by first | (simp [HeldL]; done) | (simp only [dH]; (repeat' first | trivial | rfl | constructor))) (fun H' hH => OpOk.step (ok_load rfl ti_api_Conf (locA_held hH rfl) rfl)) ?_
    refine any_take 7 rfl (by first | rfl | decide +kernel) rfl (by first | (simp [HeldL]; done) | (simp only [dH]; (repeat' first | trivial | rfl | constructor))) (fun H' hH => OpOk.step (by exact eq_conf (c := s.c) (d := c) rfl (.inl rfl) rfl rfl)) ?_
    refine any_take 8 rfl (by first | rfl | decide +kernel) rfl (by first | (simp [HeldL]; done) | (simp only [dH]; (repeat' first | trivial | rfl | constructor))) (fun H' hH => OpOk.step (ok_pick rfl rfl)) ?_
    refine any_take_case 9 rfl (by first | rfl | decide +kernel) rfl (by first | (simp [HeldL]; done) | (simp only [dH]; (repeat' first | trivial | rfl | constructor))) (fun H' hH => OpOk.step (ok_moveb (.inl rfl) rfl)) (fun hb => ?_) (fun hb => ?_)
    ·(try simp only [dE] at hb)
     refine any_take 10 rfl (by first | rfl | decide +kernel) rfl (by first | (simp [HeldL]; done) | (simp only [dH]; (repeat' first | trivial | rfl | constructor))) (fun H' hH => OpOk.step (ok_fieldAddr rfl ti_api_State rfl rfl ti_int (by decide) rfl)) ?_
     refine any_take 11 rfl (by first | rfl | decide +kernel) rfl (by first | (simp [HeldL]; done) | (simp only [dH]; (repeat' first | trivial | rfl | constructor))) (fun H' hH => OpOk.step (ok_load rfl ti_int (locA_held hH rfl) rfl)) ?_
     refine any_take 12 rfl (by first | rfl | decide +kernel) rfl (by first | (simp [HeldL]; done) | (simp only [dH]; (repeat' first | trivial | rfl | constructor))) (fun H' hH => OpOk.step (ok_fieldAddr rfl ti_api_Rec rfl rfl ti_int (by decide) rfl)) ?_
     refine any_take 13 rfl (by first | rfl | decide +kernel) rfl (by first | (simp [HeldL]; done) | (simp only [dH]; (repeat' first | trivial | rfl | constructor))) (fun H' hH => OpOk.step (ok_load rfl ti_int (locA_held hH rfl) rfl)) ?_
     refine any_take 14 rfl (by first | rfl | decide +kernel) rfl (by first | (simp [HeldL]; done) | (simp only [dH]; (repeat' first | trivial | rfl | constructor))) (fun H' hH => OpOk.step (ok_binOp rfl ti_int rfl)) ?_
     refine any_take 15 rfl (by first | rfl | decide +kernel) rfl (by first | (simp [HeldL]; done) | (simp only [dH]; (repeat' first | trivial | rfl | constructor))) (fun H' hH => OpOk.step (ok_pick rfl rfl)) ?_
     refine any_take_case 16 rfl (by first | rfl | decide +kernel) rfl (by first | (simp [HeldL]; done) | (simp only [dH]; (repeat' first | trivial | rfl | constructor))) (fun H' hH => OpOk.step (ok_moveb (.inl rfl) rfl)) (fun hb => ?_) (fun hb => ?_)
     ·(try simp only [dE] at hb)
      refine any_take 17 rfl (by first | rfl | decide +kernel) rfl (by first | (simp [HeldL]; done) | (simp only [dH]; (repeat' first | trivial | rfl | constructor))) (fun H' hH => OpOk.step (ok_fieldAddr rfl ti_api_State rfl rfl ti_int (by decide) rfl)) ?_
      refine any_take 18 rfl (by first | rfl | decide +kernel) rfl (by first | (simp [HeldL]; done) | (simp only [dH]; (repeat' first | trivial | rfl | constructor))) (fun H' hH => OpOk.step (ok_load rfl ti_int (locA_held hH rfl) rfl)) ?_
      refine any_take 19 rfl (by first | rfl | decide +kernel) rfl (by first | (simp [HeldL]; done) | (simp only [dH]; (repeat' first | trivial | rfl | constructor))) (fun H' hH => OpOk.step (ok_fieldAddr rfl ti_api_Rec rfl rfl ti_int (by decide) rfl)) ?_
      refine any_take 20 rfl (by first | rfl | decide +kernel) rfl (by first | (simp [HeldL]; done) | (simp only [dH]; (repeat' first | trivial | rfl | constructor))) (fun H' hH => OpOk.step (ok_load rfl ti_int (locA_held hH rfl) rfl)) ?_
      refine any_take 21 rfl (by first | rfl | decide +kernel) rfl (by first | (simp [HeldL]; done) | (simp only [dH]; (repeat' first | trivial | rfl | constructor))) (fun H' hH => OpOk.step (ok_binOp rfl ti_int rfl)) ?_
      refine any_take 22 rfl (by first | rfl | decide +kernel) rfl (by first | (simp [HeldL]; done) | (simp only [dH]; (repeat' first | trivial | rfl | constructor))) (fun H' hH => OpOk.step (ok_pick rfl rfl)) ?_
      refine any_one 23 rfl (by first | rfl | decide +kernel) rfl rfl (OpOk.step ((ok_store rfl ti_api_State (by decide) rfl rfl rfl rfl rfl (by first | exact Nat.le_of_ble_eq_true rfl | simp) (by first | exact .inl ⟨rfl, rfl⟩ | exact .inr rfl)).eq (x' := .any) (H'' := [some (RcB x), some (CB c), some (StB s), some (StB s)]) rfl rfl)) (.inr (by first | (simp [HeldL]; done) | (simp only [dH]; (repeat' first | trivial | rfl | constructor)))) ?_
      refine any_take 24 rfl (by first | rfl | decide +kernel) rfl (by first | (simp [HeldL]; done) | (simp only [dH]; (repeat' first | trivial | rfl | constructor))) (fun H' hH => OpOk.step (ok_move (.inr rfl))) ?_
      refine any_done rfl ?_
      refine keepK hK7 [6, 7] (by dsimp) (by dsimp) ?_
      refine T.ret (hQ _ _ _ rfl ?_).1 -- ret 3
      exact by first | exact ck_no rfl rfl | exact TEnt.fin [] (by decide) (by simp) rfl ⟨by show AV.tup [.agg (renL _ (StC s)), .b _] = _; rw [StC_ren]; exact congrArg (fun q => AV.tup [AV.agg (StC s), AV.b q]) (by simp_all <;> rfl), trivial⟩
     ·(try simp only [dE] at hb)
      refine any_skip 17 rfl (by first | rfl | decide +kernel) rfl (by first | (simp [HeldL]; done) | (simp only [dH]; (repeat' first | trivial | rfl | constructor))) ?_
      refine any_skip 18 rfl (by first | rfl | decide +kernel) rfl (by first | (simp [HeldL]; done) | (simp only [dH]; (repeat' first | trivial | rfl | constructor))) ?_
      refine any_skip 19 rfl (by first | rfl | decide +kernel) rfl (by first | (simp [HeldL]; done) | (simp only [dH]; (repeat' first | trivial | rfl | constructor))) ?_
      refine any_skip 20 rfl (by first | rfl | decide +kernel) rfl (by first | (simp [HeldL]; done) | (simp only [dH]; (repeat' first | trivial | rfl | constructor))) ?_
      refine any_skip 21 rfl (by first | rfl | decide +kernel) rfl (by first | (simp [HeldL]; done) | (simp only [dH]; (repeat' first | trivial | rfl | constructor))) ?_
      refine any_take 22 rfl (by first | rfl | decide +kernel) rfl (by first | (simp [HeldL]; done) | (simp only [dH]; (repeat' first | trivial | rfl | constructor))) (fun H' hH => OpOk.step (ok_pickb (t := false) (d := false) rfl rfl rfl)) ?_
      refine any_one 23 rfl (by first | rfl | decide +kernel) rfl rfl (OpOk.step ((ok_store rfl ti_api_State (by decide) rfl rfl rfl rfl rfl (by first | exact Nat.le_of_ble_eq_true rfl | simp) (by first | exact .inl ⟨rfl, rfl⟩ | exact .inr rfl)).eq (x' := .any) (H'' := [some (RcB x), some (CB c), some (StB s), some (StB s)]) rfl rfl)) (.inr (by first | (simp [HeldL]; done) | (simp only [dH]; (repeat' first | trivial | rfl | constructor)))) ?_
      refine any_take 24 rfl (by first | rfl | decide +kernel) rfl (by first | (simp [HeldL]; done) | (simp only [dH]; (repeat' first | trivial | rfl | constructor))) (fun H' hH => OpOk.step (ok_moveb (c := false) (.inr rfl) rfl)) ?_
      refine any_done rfl ?_
      refine keepK hK7 [6, 7] (by dsimp) (by dsimp) ?_
      refine T.ret (hQ _ _ _ rfl ?_).1 -- ret 4
      exact by first | exact ck_no rfl rfl | exact TEnt.fin [] (by decide) (by simp) rfl ⟨by show AV.tup [.agg (renL _ (StC s)), .b _] = _; rw [StC_ren]; exact congrArg (fun q => AV.tup [AV.agg (StC s), AV.b q]) (by simp_all <;> rfl), trivial⟩
    ·(try simp only [dE] at hb)
     refine any_skip 10 rfl (by first | rfl | decide +kernel) rfl (by first | (simp [HeldL]; done) | (simp only [dH]; (repeat' first | trivial | rfl | constructor))) ?_
     refine any_skip 11 rfl (by first | rfl | decide +kernel) rfl (by first | (simp [HeldL]; done) | (simp only [dH]; (repeat' first | trivial | rfl | constructor))) ?_
     refine any_skip 12 rfl (by first | rfl | decide +kernel) rfl (by first | (simp [HeldL]; done) | (simp only [dH]; (repeat' first | trivial | rfl | constructor))) ?_
     refine any_skip 13 rfl (by first | rfl | decide +kernel) rfl (by first | (simp [HeldL]; done) | (simp only [dH]; (repeat' first | trivial | rfl | constructor))) ?_
     refine any_skip 14 rfl (by first | rfl | decide +kernel) rfl (by first | (simp [HeldL]; done) | (simp only [dH]; (repeat' first | trivial | rfl | constructor))) ?_
     refine any_take 15 rfl (by first | rfl | decide +kernel) rfl (by first | (simp [HeldL]; done) | (simp only [dH]; (repeat' first | trivial | rfl | constructor))) (fun H' hH => OpOk.step (ok_pickb (t := false) (d := false) rfl rfl rfl)) ?_
     refine any_take 16 rfl (by first | rfl | decide +kernel) rfl (by first | (simp [HeldL]; done) | (simp only [dH]; (repeat' first | trivial | rfl | constructor))) (fun H' hH => OpOk.step (ok_moveb (c := false) (.inl rfl) rfl)) ?_
     refine any_skip 17 rfl (by first | rfl | decide +kernel) rfl (by first | (simp [HeldL]; done) | (simp only [dH]; (repeat' first | trivial | rfl | constructor))) ?_
     refine any_skip 18 rfl (by first | rfl | decide +kernel) rfl (by first | (simp [HeldL]; done) | (simp only [dH]; (repeat' first | trivial | rfl | constructor))) ?_
     refine any_skip 19 rfl (by first | rfl | decide +kernel) rfl (by first | (simp [HeldL]; done) | (simp only [dH]; (repeat' first | trivial | rfl | constructor))) ?_
     refine any_skip 20 rfl (by first | rfl | decide +kernel) rfl (by first | (simp [HeldL]; done) | (simp only [dH]; (repeat' first | trivial | rfl | constructor))) ?_
     refine any_skip 21 rfl (by first | rfl | decide +kernel) rfl (by first | (simp [HeldL]; done) | (simp only [dH]; (repeat' first | trivial | rfl | constructor))) ?_
     refine any_take 22 rfl (by first | rfl | decide +kernel) rfl (by first | (simp [HeldL]; done) | (simp only [dH]; (repeat' first | trivial | rfl | constructor))) (fun H' hH => OpOk.step (ok_pickb (t := false) (d := false) rfl rfl rfl)) ?_
     refine any_one 23 rfl (by first | rfl | decide +kernel) rfl rfl (OpOk.step ((ok_store rfl ti_api_State (by decide) rfl rfl rfl rfl rfl (by first | exact Nat.le_of_ble_eq_true rfl | simp) (by first | exact .inl ⟨rfl, rfl⟩ | exact .inr rfl)).eq (x' := .any) (H'' := [some (RcB x), some (CB c), some (StB s), some (StB s)]) rfl rfl)) (.inr (by first | (simp [HeldL]; done) | (simp only [dH]; (repeat' first | trivial | rfl | constructor)))) ?_
     refine any_take 24 rfl (by first | rfl | decide +kernel) rfl (by first | (simp [HeldL]; done) | (simp only [dH]; (repeat' first | trivial | rfl | constructor))) (fun H' hH => OpOk.step (ok_moveb (c := false) (.inr rfl) rfl)) ?_
     refine any_done rfl ?_
     refine keepK hK7 [6, 7] (by dsimp) (by dsimp) ?_
     refine T.ret (hQ _ _ _ rfl ?_).1 -- ret 5
     exact by first | exact ck_no rfl rfl | exact TEnt.fin [] (by decide) (by simp) rfl ⟨by show AV.tup [.agg (renL _ (StC s)), .b _] = _; rw [StC_ren]; exact congrArg (fun q => AV.tup [AV.agg (StC s), AV.b q]) (by simp_all <;> rfl), trivial⟩
   ·(try simp only [dE] at hb)
    refine any_skip 4 rfl (by first | rfl | decide +kernel) rfl (by first | (simp [HeldL]; done) | (simp only [dH]; (repeat' first | trivial | rfl | constructor))) ?_
    refine any_skip 5 rfl (by first | rfl | decide +kernel) rfl (by first | (simp [HeldL]; done) | (simp only [dH]; (repeat' first | trivial | rfl | constructor))) ?_
    refine any_skip 6 rfl (by first | rfl | decide +kernel) rfl (by first | (simp [HeldL]; done) | (simp only [dH]; (repeat' first | trivial | rfl | constructor))) ?_
    refine any_skip 7 rfl (by first | rfl | decide +kernel) rfl (by first | (simp [HeldL]; done) | (simp only [dH]; (repeat' first | trivial | rfl | constructor))) ?_
    refine any_take 8 rfl (by first | rfl | decide +kernel) rfl (by first | (simp [HeldL]; done) | (simp only [dH]; (repeat' first | trivial | rfl | constructor))) (fun H' hH => OpOk.step (ok_pickb (t := false) (d := false) rfl rfl rfl)) ?_
    refine any_take 9 rfl (by first | rfl | decide +kernel) rfl (by first | (simp [HeldL]; done) | (simp only [dH]; (repeat' first | trivial | rfl | constructor))) (fun H' hH => OpOk.step (ok_moveb (c := false) (.inl rfl) rfl)) ?_
    refine any_skip 10 rfl (by first | rfl | decide +kernel) rfl (by first | (simp [HeldL]; done) | (simp only [dH]; (repeat' first | trivial | rfl | constructor))) ?_
    refine any_skip 11 rfl (by first | rfl | decide +kernel) rfl (by first | (simp [HeldL]; done) | (simp only [dH]; (repeat' first | trivial | rfl | constructor))) ?_
    refine any_skip 12 rfl (by first | rfl | decide +kernel) rfl (by first | (simp [HeldL]; done) | (simp only [dH]; (repeat' first | trivial | rfl | constructor))) ?_
    refine any_skip 13 rfl (by first | rfl | decide +kernel) rfl (by first | (simp [HeldL]; done) | (simp only [dH]; (repeat' first | trivial | rfl | constructor))) ?_
    refine any_skip 14 rfl (by first | rfl | decide +kernel) rfl (by first | (simp [HeldL]; done) | (simp only [dH]; (repeat' first | trivial | rfl | constructor))) ?_
    refine any_take 15 rfl (by first | rfl | decide +kernel) rfl (by first | (simp [HeldL]; done) | (simp only [dH]; (repeat' first | trivial | rfl | constructor))) (fun H' hH => OpOk.step (ok_pickb (t := false) (d := false) rfl rfl rfl)) ?_
    refine any_take 16 rfl (by first | rfl | decide +kernel) rfl (by first | (simp [HeldL]; done) | (simp only [dH]; (repeat' first | trivial | rfl | constructor))) (fun H' hH => OpOk.step (ok_moveb (c := false) (.inl rfl) rfl)) ?_
    refine any_skip 17 rfl (by first | rfl | decide +kernel) rfl (by first | (simp [HeldL]; done) | (simp only [dH]; (repeat' first | trivial | rfl | constructor))) ?_
    refine any_skip 18 rfl (by first | rfl | decide +kernel) rfl (by first | (simp [HeldL]; done) | (simp only [dH]; (repeat' first | trivial | rfl | constructor))) ?_
    refine any_skip 19 rfl (by first | rfl | decide +kernel) rfl (by first | (simp [HeldL]; done) | (simp only [dH]; (repeat' first | trivial | rfl | constructor))) ?_
    refine any_skip 20 rfl (by first | rfl | decide +kernel) rfl (by first | (simp [HeldL]; done) | (simp only [dH]; (repeat' first | trivial | rfl | constructor))) ?_
    refine any_skip 21 rfl (by first | rfl | decide +kernel) rfl (by first | (simp [HeldL]; done) | (simp only [dH]; (repeat' first | trivial | rfl | constructor))) ?_
    refine any_take 22 rfl (by first | rfl | decide +kernel) rfl (by first | (simp [HeldL]; done) | (simp only [dH]; (repeat' first | trivial | rfl | constructor))) (fun H' hH => OpOk.step (ok_pickb (t := false) (d := false) rfl rfl rfl)) ?_
    refine any_one 23 rfl (by first | rfl | decide +kernel) rfl rfl (OpOk.step ((ok_store rfl ti_api_State (by decide) rfl rfl rfl rfl rfl (by first | exact Nat.le_of_ble_eq_true rfl | simp) (by first | exact .inl ⟨rfl, rfl⟩ | exact .inr rfl)).eq (x' := .any) (H'' := [some (RcB x), some (CB c), some (StB s), some (StB s)]) rfl rfl)) (.inr (by first | (simp [HeldL]; done) | (simp only [dH]; (repeat' first | trivial | rfl | constructor)))) ?_
    refine any_take 24 rfl (by first | rfl | decide +kernel) rfl (by first | (simp [HeldL]; done) | (simp only [dH]; (repeat' first | trivial | rfl | constructor))) (fun H' hH => OpOk.step (ok_moveb (c := false) (.inr rfl) rfl)) ?_
    refine any_done rfl ?_
    refine keepK hK7 [6, 7] (by dsimp) (by dsimp) ?_
    refine T.ret (hQ _ _ _ rfl ?_).1 -- ret 6
    exact by first | exact ck_no rfl rfl | exact TEnt.fin [] (by decide) (by simp) rfl ⟨by show AV.tup [.agg (renL _ (StC s)), .b _] = _; rw [StC_ren]; exact congrArg (fun q => AV.tup [AV.agg (StC s), AV.b q]) (by simp_all <;> rfl), trivial⟩
end Go.Proofs.YtjklgbafnfoolaaGreat.AmF
namespace Go.Proofs.YtjklgbafnfoolaaGreat.AmF
open Go Go.AM
set_option maxRecDepth 100000
set_option maxHeartbeats 4000000
set_option linter.unusedSimpArgs false
set_option linter.unusedVariables false
attribute [local simp] tkeep tget tput ev cav argsTM pickA normT putA splice AV.cells ints_length rowsA_length Prs_len Zns_len
/-- What was found, as cells. -/
def FdC (s : St) (cnt n : Int) : List AV := StC s ++ [.int cnt, .int n]
theorem renL_app (ρ : Nat → Option Nat) : ∀ l m : List AV, renL ρ (l ++ m) = renL ρ l ++ renL ρ m
  | [], _ => by simp [renL]
  | x :: l, m => by simp [renL, renL_app ρ l m]
theorem FdC_ren (ρ : Nat → Option Nat) (s : St) (cnt n : Int) : renL ρ (FdC s cnt n) = FdC s cnt n := by
  rw [FdC, renL_app, StC_ren]
  simp [renL, AV.ren]
theorem EntL.st0 {H : Heap} : EntL H (List.map .v [.int .i64 0, .int .i64 0, .int .i64 0, .int .i64 0, .int .i64 0, .int .i64 0, .int .i64 0, .int .i64 0, .int .i64 0, .int .i64 0, .int .i64 0, .int .i64 0, .int .i64 0, .slice none 0 0, .slice none 0 0]) (StC St0) :=
  EntL.append (l := CC cfz) (EntL.refl _) (EntL.cons (Ent.refl _) (EntL.cons (Ent.refl _) (EntL.cons (Ent.nil 1) (EntL.cons (Ent.nil 6) EntL.nil))))
def FdB (s : St) (cnt n : Int) : Blk := ⟨17, true, [.agg (FdC s cnt n)]⟩
theorem FdB_ren (ρ : Nat → Option Nat) (s : St) (cnt n : Int) : Blk.ren ρ (FdB s cnt n) = FdB s cnt n := by simp [FdB, Blk.ren, renL, AV.ren, FdC_ren]
def Z17 : Blk := ⟨17, true, [.agg (List.map .v [.int .i64 0, .int .i64 0, .int .i64 0, .int .i64 0, .int .i64 0, .int .i64 0, .int .i64 0, .int .i64 0, .int .i64 0, .int .i64 0, .int .i64 0, .int .i64 0, .int .i64 0, .slice none 0 0, .slice none 0 0, .int .i64 0, .int .i64 0])]⟩
theorem fd_no {k : Nat} {tm : TM} {H : Heap} {e : Int} (hk : k = 0) (h : tget tm 0 = .tup [.agg (List.map .v [.int .i64 0, .int .i64 0, .int .i64 0, .int .i64 0, .int .i64 0, .int .i64 0, .int .i64 0, .int .i64 0, .int .i64 0, .int .i64 0, .int .i64 0, .int .i64 0, .int .i64 0, .slice none 0 0, .slice none 0 0, .int .i64 0, .int .i64 0]), .int e]) : TEnt k tm H [(0, .tup [.agg (FdC St0 0 0), .int e])] [] := by
  subst hk
  exact (TEnt.put1 0 (x' := .tup [.agg (FdC St0 0 0), .int e]) (by
    rw [h]
    exact Ent.tup (EntL.cons (Ent.agg (EntL.append (m := [AV.int 0, AV.int 0]) EntL.st0 (EntL.refl _))) (EntL.refl _)))).trans (TEnt.fin [] (by decide) (by simp) rfl ⟨by simp [AV.ren, renL, FdC_ren], trivial⟩)
theorem slog_ok (b : List Int) (c : Cf) (m : Int) (hB : Bytes b) (hl : b.length ≤ 140737488355328) : CSpec Tryz.prog 14 [] [.fz 1 (ints .u8 b), .agg (CC c), .int m] [] (.tup [.agg (FdC (logS b c m).1.1 (logS b c m).1.2.1 (logS b c m).1.2.2), .int (logS b c m).2]) := by
 obtain ⟨⟨x, n0, e0⟩, hg⟩ : ∃ q, getR b c.blk = q := ⟨_, rfl⟩
 have hget := get_ok b c.blk hB hl
 have hin := getR_in (k := c.blk) hB
 rw [hg] at hget hin
 obtain ⟨hin1, hin2, hin3⟩ := hin
 obtain ⟨⟨s0, okp⟩, hp⟩ : ∃ q, chkP x c m = q := ⟨_, rfl⟩
 have hchk := schk_ok x c m hin2 (by dsimp only at hin3; omega)
 rw [hp] at hchk
 refine CSpec.body Tryz.func14 rfl rfl rfl rfl rfl fun Q hQ => ?_
 refine T.seq fun K1 hK1 => ?_
 refine T.region ?_
 refine rs rfl rfl (ok_box (n := 11) rfl rfl (by decide)) ?_
 refine rs rfl rfl (ok_alloc rfl ti_api_Found rfl (by decide)) ?_
 refine rs rfl rfl (ok_move (.inr rfl)) ?_
 refine ro_nil ?_
 refine keepK hK1 [0, 2, 4, 6] (by dsimp) (by dsimp) ?_
 refine T.scope ?_
 refine T.seq fun K2 hK2 => ?_
 refine T.seq fun K3 hK3 => ?_
 refine T.region ?_
 refine rs rfl rfl (ok_load rfl ti_api_Conf rfl rfl) ?_
 refine ro rfl rfl (ok_call rfl rfl rfl ((check_ok c).plain (by show renL _ [.agg (CC c)] = _; simp [renL, AV.ren, CC_ren]) rfl)) ?_
 refine rs rfl rfl (ok_binOp rfl ti_api_Errno rfl) ?_
 refine ro_nil ?_
 refine keepK hK3 [0, 2, 4, 6, 20] (by dsimp) (by dsimp) ?_
 refine T.cond rfl (fun hc => ?_) (fun hc => ?_) -- cond 1
 ·(try simp only [dE] at hc)
  rw [logS_1 hc] at hQ
  refine T.seq fun K4 hK4 => ?_
  refine T.region ?_
  refine rs rfl rfl (ok_build rfl ti_api_Found rfl) ?_
  refine rs rfl rfl (ok_store rfl ti_api_Found (by decide) rfl rfl rfl rfl rfl (by first | exact Nat.le_of_ble_eq_true rfl | simp) (by first | exact .inl ⟨rfl, rfl⟩ | exact .inr rfl)) ?_
  refine rs rfl rfl (ok_move (.inr rfl)) ?_
  refine ro_nil ?_
  refine keepK hK4 [6, 7] (by dsimp) (by dsimp) ?_
  refine T.ret (hQ _ _ _ rfl ?_).1 -- ret 1
  exact fd_no (e := 1) rfl rfl
 ·(try simp only [dE] at hc)
  have hck := hc
  refine T.skip ?_
  refine keepK hK2 [0, 2, 4, 6] (by dsimp) (by dsimp) ?_
  refine T.seq fun K5 hK5 => ?_
  refine T.region ?_
  refine rs rfl rfl (ok_move (.inl rfl)) ?_
  refine rs rfl rfl (ok_fieldAddr rfl ti_api_Conf rfl rfl ti_int (by decide) rfl) ?_
  refine rs rfl rfl (ok_load rfl ti_int rfl rfl) ?_
  refine ro rfl rfl (ok_call rfl rfl rfl (hget.plain (by simp [renL, AV.ren, renL_ints]) (by simp [AV.ren, renL, RcC_ren]))) ?_
  refine rs rfl rfl (ok_move (.inl rfl)) ?_
  refine rs rfl rfl (ok_extract rfl rfl rfl) ?_
  refine rs rfl rfl (ok_extract rfl rfl rfl) ?_
  refine rs rfl rfl (ok_extract rfl rfl rfl) ?_
  refine rs rfl rfl (ok_alloc rfl ti_api_Rec rfl (by decide)) ?_
  refine rs rfl rfl (ok_store rfl ti_api_Rec (by decide) rfl rfl rfl rfl rfl (by first | exact Nat.le_of_ble_eq_true rfl | simp) (by first | exact .inl ⟨rfl, rfl⟩ | exact .inr rfl)) ?_
  refine rs rfl rfl (ok_move (.inr rfl)) ?_
  refine rs rfl rfl (ok_move (.inr rfl)) ?_
  refine ro_nil ?_
  refine keepK hK5 [0, 2, 4, 6, 8, 9, 10] (by dsimp) (by dsimp) ?_
  refine T.seq fun K6 hK6 => ?_
  refine T.seq fun K7 hK7 => ?_
  refine T.region ?_
  refine rs rfl rfl (ok_move (.inl rfl)) ?_
  refine rs rfl rfl (ok_binOp rfl ti_api_Errno rfl) ?_
  refine ro_nil ?_
  refine keepK hK7 [0, 2, 4, 6, 8, 9, 10, 31] (by dsimp) (by dsimp) ?_
  refine T.cond rfl (fun hc => ?_) (fun hc => ?_) -- cond 2
  ·(try simp only [dE] at hc)
   rw [logS_2 hck hg hc] at hQ
   refine T.seq fun K8 hK8 => ?_
   refine T.region ?_
   refine rs rfl rfl (ok_build rfl ti_api_Found rfl) ?_
   refine rs rfl rfl (ok_move (.inl rfl)) ?_
   refine rs rfl rfl (ok_store rfl ti_api_Found (by decide) rfl rfl rfl rfl rfl (by first | exact Nat.le_of_ble_eq_true rfl | simp) (by first | exact .inl ⟨rfl, rfl⟩ | exact .inr rfl)) ?_
   refine rs rfl rfl (ok_move (.inr rfl)) ?_
   refine ro_nil ?_
   refine keepK hK8 [6, 7] (by dsimp) (by dsimp) ?_
   refine T.ret (hQ _ _ _ rfl ?_).1 -- ret 2
   exact fd_no (e := e0) rfl rfl
  ·(try simp only [dE] at hc)
   obtain rfl : e0 = 0 := hc
   refine T.skip ?_
   refine keepK hK6 [0, 2, 4, 6, 8, 9] (by dsimp) (by dsimp) ?_
   refine T.seq fun K9 hK9 => ?_
   refine T.region ?_
   refine rs rfl rfl (ok_load rfl ti_api_Rec rfl rfl) ?_
   refine rs rfl rfl (ok_load rfl ti_api_Conf rfl rfl) ?_
   refine rs rfl rfl (ok_move (.inl rfl)) ?_
   refine ro rfl rfl (ok_call rfl rfl rfl (hchk.plain (by show renL _ [.agg (List.take 10 (RcC x)), .agg (CC c), .int m] = _; rw [RcC_take]; simp [renL, AV.ren, RcC_ren, CC_ren]) (by simp [AV.ren, renL, StC_ren]))) ?_
   refine rs rfl rfl (ok_move (.inl rfl)) ?_
   refine rs rfl rfl (ok_extract rfl rfl rfl) ?_
   refine rs rfl rfl (ok_extract rfl rfl rfl) ?_
   refine rs rfl rfl (ok_alloc rfl ti_api_State rfl (by decide)) ?_
   refine rs rfl rfl (ok_store rfl ti_api_State (by decide) rfl rfl rfl rfl rfl (by first | exact Nat.le_of_ble_eq_true rfl | simp) (by first | exact .inl ⟨rfl, rfl⟩ | exact .inr rfl)) ?_
   refine rs rfl rfl (ok_move (.inr rfl)) ?_
   refine ro_nil ?_
   refine keepK hK9 [0, 4, 6, 9, 11, 12] (by dsimp) (by dsimp) ?_
   refine T.seq fun K10 hK10 => ?_
   refine T.seq fun K11 hK11 => ?_
   refine T.region ?_
   refine rs rfl rfl (ok_move (.inl rfl)) ?_
   refine rs rfl rfl (ok_unOp rfl rfl) ?_
   refine ro_nil ?_
   refine keepK hK11 [0, 4, 6, 9, 11, 42] (by dsimp) (by dsimp) ?_
   refine T.cond rfl (fun hc => ?_) (fun hc => ?_) -- cond 3
   ·(try simp only [dE] at hc)
    have hok : okp = false := by simpa using hc
    subst hok
    rw [logS_3 hck hg hp] at hQ
    refine T.seq fun K12 hK12 => ?_
    refine T.region ?_
    refine rs rfl rfl (ok_build rfl ti_api_Found rfl) ?_
    refine rs rfl rfl (ok_store rfl ti_api_Found (by decide) rfl rfl rfl rfl rfl (by first | exact Nat.le_of_ble_eq_true rfl | simp) (by first | exact .inl ⟨rfl, rfl⟩ | exact .inr rfl)) ?_
    refine rs rfl rfl (ok_move (.inr rfl)) ?_
    refine ro_nil ?_
    refine keepK hK12 [6, 7] (by dsimp) (by dsimp) ?_
    refine T.ret (hQ _ _ _ rfl ?_).1 -- ret 3
    exact fd_no (e := 13) rfl rfl
   ·(try simp only [dE] at hc)
    have hok : okp = true := by simpa using hc
    subst hok
    rw [logS_4 hck hg hp] at hQ
    obtain ⟨hk, hn1, hnl⟩ := hin1 rfl
    have hrs0 : RS s0 := by
      have hx := hp
      unfold chkP at hx
      split at hx
      · cases hx
      · have h1 := (Prod.mk.inj hx).1
        have h2 := of_decide_eq_true (Prod.mk.inj hx).2
        have hlw := getS_right x.body
        rw [← h1]
        exact hlw h2.1
    obtain ⟨R, hR⟩ : ∃ R, folN b c.blk (b.length + 1) s0 0 n0 = R := ⟨_, rfl⟩
    rw [hR] at hQ
    refine T.skip ?_
    refine keepK hK10 [0, 4, 6, 9, 11] (by dsimp) (by dsimp) ?_
    refine T.seq fun K13 hK13 => ?_
    refine T.region ?_
    refine rs rfl rfl (ok_load rfl ti_api_State rfl rfl) ?_
    refine rs rfl rfl (ok_move (.inl rfl)) ?_
    refine rs rfl rfl (ok_build rfl ti_api_Found rfl) ?_
    refine rs rfl rfl (ok_alloc rfl ti_api_Found rfl (by decide)) ?_
    refine rs rfl rfl (ok_store rfl ti_api_Found (by decide) rfl rfl rfl rfl rfl (by first | exact Nat.le_of_ble_eq_true rfl | simp) (by first | exact .inl ⟨rfl, rfl⟩ | exact .inr rfl)) ?_
    refine ro_nil ?_
    refine keepK hK13 [0, 4, 6, 13] (by dsimp) (by dsimp) ?_
    refine T.seq fun K14 hK14 => ?_
    refine T.label ?_
    refine keepK hK14 [0, 4, 6, 13] (by dsimp) (by dsimp) ?_
    refine T.seq fun K15 hK15 => ?_
    refine T.block ?_
    refine T.loopI (ι := Nat × St × Int × Int) (fun j => folN b c.blk j.1 j.2.1 j.2.2.1 j.2.2.2 = R ∧ RS j.2.1 ∧ (0 ≤ j.2.2.2 ∧ j.2.2.2 * c.blk ≤ b.length) ∧ (0 ≤ j.2.2.1 ∧ j.2.2.1 ≤ j.2.2.2) ∧ (b.length : Int) < j.2.2.2 * c.blk + j.1) (fun j => j.1) (fun j => ([(0, .fz 1 (ints .u8 b)), (4, .ref 0 0 0), (6, .ref 1 0 0), (13, .ref 2 0 0)], [some (CB c), some Z17, some (FdB j.2.1 j.2.2.1 j.2.2.2)])) (b.length + 1, s0, 0, n0) ⟨hR, hrs0, ⟨by dsimp only at hn1 ⊢; omega, hnl⟩, ⟨Int.le_refl _, by dsimp only at hn1 ⊢; omega⟩, by have : 0 ≤ n0 * c.blk := Int.mul_nonneg (by dsimp only at hn1; omega) (by omega); dsimp only; omega⟩ (TEnt.fin [0, 1, 4] (by decide) (by simp) (by show [some (Blk.ren _ (CB c)), some (Blk.ren _ Z17), some (Blk.ren _ (FdB s0 0 n0))] = _; rw [CB_ren, FdB_ren]; rfl) ⟨by simp [AV.ren, renL_ints], rfl, rfl, rfl, trivial⟩) (fun i hi => ?_) -- loop 1
    obtain ⟨f, s, cnt, n⟩ := i
    obtain ⟨h1, h2, h3, h4, h5⟩ := hi
    dsimp only at h1 h2 h3 h4 h5
    have hfw := RS_few h2
    have hnk : 0 ≤ n * c.blk := Int.mul_nonneg h3.1 (by omega)
    have hnn : n ≤ n * c.blk := by have := Int.mul_le_mul_of_nonneg_left hk.1 h3.1; omega
    obtain ⟨f, rfl⟩ : ∃ f', f = f' + 1 := ⟨f - 1, by omega⟩
    obtain ⟨y, hy⟩ : ∃ y, b.drop (n * c.blk).toNat = y := ⟨_, rfl⟩
    have hyB : Bytes y := by rw [← hy]; exact hB.drop _
    have hyl : y.length + (n * c.blk).toNat = b.length := by rw [← hy, List.length_drop]; omega
    obtain ⟨⟨x2, m2, e2⟩, hg2⟩ : ∃ q, getR y c.blk = q := ⟨_, rfl⟩
    have hget2 := get_ok y c.blk hyB (by omega)
    have hin2' := getR_in (k := c.blk) hyB
    rw [hg2] at hget2 hin2'
    obtain ⟨g1, g2, g3⟩ := hin2'
    dsimp only at g1 g2 g3
    rw [← hy] at hg2
    refine T.ent (TEnt.toH (tm' := [(0, .fz 1 (ints .u8 b)), (4, .ref 0 0 0), (6, .ref 1 0 0), (13, .ref 2 0 0)]) (H' := [some (CB c), some Z17, some (FdB s cnt n)]) rfl ⟨rfl, rfl, rfl, rfl, trivial⟩) ?_
    refine T.block ?_
    refine T.seq fun K16 hK16 => ?_
    refine T.join hK16 [(0, .fz 1 (ints .u8 b)), (4, .ref 0 0 0), (6, .ref 1 0 0), (13, .ref 2 0 0), (14, .ref 3 0 0), (15, .int m2), (16, .int e2)] [some (CB c), some Z17, some (FdB s cnt n), some (RcB x2)] (fun hJ17 => ?_) ?_
    ·
     refine T.draw mixed (SH [] (HeldL ([some (CB c), some Z17, some (FdB s cnt n)]))) ?_
     refine any_take 0 rfl (by first | rfl | decide +kernel) rfl (by first | (simp [HeldL]; done) | (simp only [dH]; (repeat' first | trivial | rfl | constructor))) (fun H' hH => OpOk.step (ok_move (.inl rfl))) ?_
     refine any_take 1 rfl (by first | rfl | decide +kernel) rfl (by first | (simp [HeldL]; done) | (simp only [dH]; (repeat' first | trivial | rfl | constructor))) (fun H' hH => OpOk.step (ok_fieldAddr rfl ti_api_Found rfl rfl ti_int (by decide) rfl)) ?_
     refine any_take 2 rfl (by first | rfl | decide +kernel) rfl (by first | (simp [HeldL]; done) | (simp only [dH]; (repeat' first | trivial | rfl | constructor))) (fun H' hH => OpOk.step (ok_load rfl ti_int (locA_held hH rfl) rfl)) ?_
     refine any_take 3 rfl (by first | rfl | decide +kernel) rfl (by first | (simp [HeldL]; done) | (simp only [dH]; (repeat' first | trivial | rfl | constructor))) (fun H' hH => OpOk.step (ok_fieldAddr rfl ti_api_Conf rfl rfl ti_int (by decide) rfl)) ?_
     refine any_take 4 rfl (by first | rfl | decide +kernel) rfl (by first | (simp [HeldL]; done) | (simp only [dH]; (repeat' first | trivial | rfl | constructor))) (fun H' hH => OpOk.step (ok_load rfl ti_int (locA_held hH rfl) rfl)) ?_
     refine any_take 5 rfl (by first | rfl | decide +kernel) rfl (by first | (simp [HeldL]; done) | (simp only [dH]; (repeat' first | trivial | rfl | constructor))) (fun H' hH => OpOk.step (ok_mul64 rfl ti_int rfl rfl (by omega) (by omega))) ?_
     refine any_take 6 rfl (by first | rfl | decide +kernel) rfl (by first | (simp [HeldL]; done) | (simp only [dH]; (repeat' first | trivial | rfl | constructor))) (fun H' hH => OpOk.step ((ok_slice rfl ti_Luint8 (.inl ⟨_, _, rfl, ti_uint8, rfl⟩) (zl := some (n * c.blk)) (zh := none) rfl rfl rfl (r := .fz 1 (ints .u8 y)) (sliceA_held hH (by
  have q1 : n * c.blk ≤ b.length := h3.2
  rw [← hy]
  simp [sliceA, q1, hnk, ints, List.map_drop, List.take_of_length_le]))))) ?_
     refine any_take 7 rfl (by first | rfl | decide +kernel) rfl (by first | (simp [HeldL]; done) | (simp only [dH]; (repeat' first | trivial | rfl | constructor))) (fun H' hH => OpOk.step (ok_fieldAddr rfl ti_api_Conf rfl rfl ti_int (by decide) rfl)) ?_
     refine any_take 8 rfl (by first | rfl | decide +kernel) rfl (by first | (simp [HeldL]; done) | (simp only [dH]; (repeat' first | trivial | rfl | constructor))) (fun H' hH => OpOk.step (ok_load rfl ti_int (locA_held hH rfl) rfl)) ?_
     refine any_many [9, 14] (by first | rfl | decide +kernel) (by decide) (fun k hk => ?_)
     simp only [List.mem_cons, List.not_mem_nil, or_false] at hk
     rcases hk with rfl | rfl
     ·
      refine step_one rfl rfl rfl (ok_call rfl rfl rfl (hget2.plain (by simp [renL, AV.ren, renL_ints]) (by simp [AV.ren, renL, RcC_ren]))) (.inr (by first | (simp [HeldL]; done) | (simp only [dH]; (repeat' first | trivial | rfl | constructor)))) ?_
      refine any_take 10 rfl (by first | rfl | decide +kernel) rfl (by first | (simp [HeldL]; done) | (simp only [dH]; (repeat' first | trivial | rfl | constructor))) (fun H' hH => OpOk.step (ok_move (.inl rfl))) ?_
      refine any_take 11 rfl (by first | rfl | decide +kernel) rfl (by first | (simp [HeldL]; done) | (simp only [dH]; (repeat' first | trivial | rfl | constructor))) (fun H' hH => OpOk.step (ok_extract rfl rfl rfl)) ?_
      refine any_take 12 rfl (by first | rfl | decide +kernel) rfl (by first | (simp [HeldL]; done) | (simp only [dH]; (repeat' first | trivial | rfl | constructor))) (fun H' hH => OpOk.step (ok_extract rfl rfl rfl)) ?_
      refine any_take 13 rfl (by first | rfl | decide +kernel) rfl (by first | (simp [HeldL]; done) | (simp only [dH]; (repeat' first | trivial | rfl | constructor))) (fun H' hH => OpOk.step (ok_extract rfl rfl rfl)) ?_
      refine any_one 14 rfl (by first | rfl | decide +kernel) rfl rfl (OpOk.step (ok_alloc rfl ti_api_Rec rfl (by decide))) (.inr (by first | (simp [HeldL]; done) | (simp only [dH]; (repeat' first | trivial | rfl | constructor)))) ?_
      refine any_one 15 rfl (by first | rfl | decide +kernel) rfl rfl (OpOk.step (ok_store rfl ti_api_Rec (by decide) rfl rfl rfl rfl rfl (by first | exact Nat.le_of_ble_eq_true rfl | simp) (by first | exact .inl ⟨rfl, rfl⟩ | exact .inr rfl))) (.inr (by first | (simp [HeldL]; done) | (simp only [dH]; (repeat' first | trivial | rfl | constructor)))) ?_
      refine any_take 16 rfl (by first | rfl | decide +kernel) rfl (by first | (simp [HeldL]; done) | (simp only [dH]; (repeat' first | trivial | rfl | constructor))) (fun H' hH => OpOk.step (ok_move (.inr rfl))) ?_
      refine any_take 17 rfl (by first | rfl | decide +kernel) rfl (by first | (simp [HeldL]; done) | (simp only [dH]; (repeat' first | trivial | rfl | constructor))) (fun H' hH => OpOk.step (ok_move (.inr rfl))) ?_
      refine any_done rfl ?_
      exact hJ17 _ _ (TEnt.toH rfl ⟨rfl, rfl, rfl, rfl, rfl, rfl, rfl, trivial⟩)
     ·
      refine step_one rfl rfl rfl (OpOk.step (ok_alloc rfl ti_api_Rec rfl (by decide))) (.inr (by first | (simp [HeldL]; done) | (simp only [dH]; (repeat' first | trivial | rfl | constructor)))) ?_
      refine any_one 9 rfl (by first | rfl | decide +kernel) rfl rfl (ok_call rfl rfl rfl (hget2.plain (by simp [renL, AV.ren, renL_ints]) (by simp [AV.ren, renL, RcC_ren]))) (.inr (by first | (simp [HeldL]; done) | (simp only [dH]; (repeat' first | trivial | rfl | constructor)))) ?_
      refine any_take 10 rfl (by first | rfl | decide +kernel) rfl (by first | (simp [HeldL]; done) | (simp only [dH]; (repeat' first | trivial | rfl | constructor))) (fun H' hH => OpOk.step (ok_move (.inl rfl))) ?_
      refine any_take 11 rfl (by first | rfl | decide +kernel) rfl (by first | (simp [HeldL]; done) | (simp only [dH]; (repeat' first | trivial | rfl | constructor))) (fun H' hH => OpOk.step (ok_extract rfl rfl rfl)) ?_
      refine any_take 12 rfl (by first | rfl | decide +kernel) rfl (by first | (simp [HeldL]; done) | (simp only [dH]; (repeat' first | trivial | rfl | constructor))) (fun H' hH => OpOk.step (ok_extract rfl rfl rfl)) ?_
      refine any_take 13 rfl (by first | rfl | decide +kernel) rfl (by first | (simp [HeldL]; done) | (simp only [dH]; (repeat' first | trivial | rfl | constructor))) (fun H' hH => OpOk.step (ok_extract rfl rfl rfl)) ?_
      refine any_one 15 rfl (by first | rfl | decide +kernel) rfl rfl (OpOk.step (ok_store rfl ti_api_Rec (by decide) rfl rfl rfl rfl rfl (by first | exact Nat.le_of_ble_eq_true rfl | simp) (by first | exact .inl ⟨rfl, rfl⟩ | exact .inr rfl))) (.inr (by first | (simp [HeldL]; done) | (simp only [dH]; (repeat' first | trivial | rfl | constructor)))) ?_
      refine any_take 16 rfl (by first | rfl | decide +kernel) rfl (by first | (simp [HeldL]; done) | (simp only [dH]; (repeat' first | trivial | rfl | constructor))) (fun H' hH => OpOk.step (ok_move (.inr rfl))) ?_
      refine any_take 17 rfl (by first | rfl | decide +kernel) rfl (by first | (simp [HeldL]; done) | (simp only [dH]; (repeat' first | trivial | rfl | constructor))) (fun H' hH => OpOk.step (ok_move (.inr rfl))) ?_
      refine any_done rfl ?_
      exact hJ17 _ _ (TEnt.toH rfl ⟨rfl, rfl, rfl, rfl, rfl, rfl, rfl, trivial⟩)
    refine T.seq fun K18 hK18 => ?_
    refine T.seq fun K19 hK19 => ?_
    refine T.region ?_
    refine rs rfl rfl (ok_move (.inl rfl)) ?_
    refine rs rfl rfl (ok_binOp rfl ti_api_Errno rfl) ?_
    refine ro_nil ?_
    refine keepK hK19 [0, 4, 6, 13, 14, 15, 62] (by dsimp) (by dsimp) ?_
    refine T.cond rfl (fun hc => ?_) (fun hc => ?_) -- cond 4
    ·(try simp only [dE] at hc)
     rw [← h1, folN_1 hg2 hc] at hQ
     refine T.exit ?_
     refine keepK hK15 [6, 13] (by dsimp) (by dsimp) ?_
     refine T.seq fun K20 hK20 => ?_
     refine T.region ?_
     refine rs rfl rfl (ok_load rfl ti_api_Found rfl rfl) ?_
     refine rs rfl rfl (ok_store rfl ti_api_Found (by decide) rfl rfl rfl rfl rfl (by first | exact Nat.le_of_ble_eq_true rfl | simp) (by first | exact .inl ⟨rfl, rfl⟩ | exact .inr rfl)) ?_
     refine rs rfl rfl (ok_move (.inr rfl)) ?_
     refine ro_nil ?_
     refine keepK hK20 [6, 7] (by dsimp) (by dsimp) ?_
     refine T.ret (hQ _ _ _ rfl ?_).1 -- ret 4
     exact TEnt.fin [] (by decide) (by simp) rfl ⟨by show AV.tup (renL _ [.agg (FdC s cnt n), .int 0]) = _; simp [renL, AV.ren, FdC_ren], trivial⟩
    ·(try simp only [dE] at hc)
     obtain rfl : e2 = 0 := hc
     obtain ⟨i1, i2, i3⟩ := g1 rfl
     obtain ⟨⟨t, e3⟩, ha⟩ : ∃ q, applyS s x2 = q := ⟨_, rfl⟩
     have hap := sapply_ok s x2 (by omega) (by omega) (fun z hz => by have := hfw.2.2.1 z hz; omega) hfw.2.2.2 (by omega)
     rw [ha] at hap
     refine T.skip ?_
     refine keepK hK18 [0, 4, 6, 13, 14, 15] (by dsimp) (by dsimp) ?_
     refine T.seq fun K21 hK21 => ?_
     refine T.region ?_
     refine rs rfl rfl (ok_fieldAddr rfl ti_api_Found rfl rfl ti_api_State (by decide) rfl) ?_
     refine rs rfl rfl ((ok_load rfl ti_api_State rfl rfl).eq (x' := .agg (StC s)) rfl rfl) ?_
     refine rs rfl rfl (ok_load rfl ti_api_Rec rfl rfl) ?_
     refine ro rfl rfl (ok_call rfl rfl rfl (hap.plain (by show renL _ [.agg (StC s), .agg (List.take 10 (RcC x2))] = _; rw [RcC_take]; simp [renL, AV.ren, StC_ren, RcC_ren]) (by simp [AV.ren, renL, StC_ren]))) ?_
     refine rs rfl rfl (ok_move (.inl rfl)) ?_
     refine rs rfl rfl (ok_extract rfl rfl rfl) ?_
     refine rs rfl rfl (ok_extract rfl rfl rfl) ?_
     refine rs rfl rfl (ok_alloc rfl ti_api_State rfl (by decide)) ?_
     refine rs rfl rfl (ok_store rfl ti_api_State (by decide) rfl rfl rfl rfl rfl (by first | exact Nat.le_of_ble_eq_true rfl | simp) (by first | exact .inl ⟨rfl, rfl⟩ | exact .inr rfl)) ?_
     refine rs rfl rfl (ok_move (.inr rfl)) ?_
     refine ro_nil ?_
     refine keepK hK21 [0, 4, 6, 13, 15, 16, 17] (by dsimp) (by dsimp) ?_
     refine T.seq fun K22 hK22 => ?_
     refine T.seq fun K23 hK23 => ?_
     refine T.region ?_
     refine rs rfl rfl (ok_move (.inl rfl)) ?_
     refine rs rfl rfl (ok_binOp rfl ti_api_Errno rfl) ?_
     refine ro_nil ?_
     refine keepK hK23 [0, 4, 6, 13, 15, 17, 71] (by dsimp) (by dsimp) ?_
     refine T.cond rfl (fun hc => ?_) (fun hc => ?_) -- cond 5
     ·(try simp only [dE] at hc)
      rw [← h1, folN_2 hg2 ha hc] at hQ
      refine T.exit ?_
      refine keepK hK15 [6, 13] (by dsimp) (by dsimp) ?_
      refine T.seq fun K24 hK24 => ?_
      refine T.region ?_
      refine rs rfl rfl (ok_load rfl ti_api_Found rfl rfl) ?_
      refine rs rfl rfl (ok_store rfl ti_api_Found (by decide) rfl rfl rfl rfl rfl (by first | exact Nat.le_of_ble_eq_true rfl | simp) (by first | exact .inl ⟨rfl, rfl⟩ | exact .inr rfl)) ?_
      refine rs rfl rfl (ok_move (.inr rfl)) ?_
      refine ro_nil ?_
      refine keepK hK24 [6, 7] (by dsimp) (by dsimp) ?_
      refine T.ret (hQ _ _ _ rfl ?_).1 -- ret 5
      exact TEnt.fin [] (by decide) (by simp) rfl ⟨by show AV.tup (renL _ [.agg (FdC s cnt n), .int 0]) = _; simp [renL, AV.ren, FdC_ren], trivial⟩
     ·(try simp only [dE] at hc)
      obtain rfl : e3 = 0 := hc
      have hmk : 0 ≤ m2 * c.blk := Int.mul_nonneg (by omega) (by omega)
      have hmm : m2 ≤ m2 * c.blk := by have := Int.mul_le_mul_of_nonneg_left hk.1 (show 0 ≤ m2 by omega); omega
      have hnm : (n + m2) * c.blk = n * c.blk + m2 * c.blk := Int.add_mul ..
      have hrt : RS t := (apply_right h2 ha).1
      refine T.skip ?_
      refine keepK hK22 [0, 4, 6, 13, 15, 17] (by dsimp) (by dsimp) ?_
      refine T.region ?_
      refine rs rfl rfl (ok_load rfl ti_api_State rfl rfl) ?_
      refine rs rfl rfl (ok_fieldAddr rfl ti_api_Found rfl rfl ti_int (by decide) rfl) ?_
      refine rs rfl rfl (ok_load rfl ti_int rfl rfl) ?_
      refine rs rfl rfl (ok_add64 rfl ti_int rfl rfl (by omega) (by omega)) ?_
      refine rs rfl rfl (ok_fieldAddr rfl ti_api_Found rfl rfl ti_int (by decide) rfl) ?_
      refine rs rfl rfl (ok_load rfl ti_int rfl rfl) ?_
      refine rs rfl rfl (ok_move (.inl rfl)) ?_
      refine rs rfl rfl (ok_add64 rfl ti_int rfl rfl (by omega) (by omega)) ?_
      refine rs rfl rfl (ok_build rfl ti_api_Found rfl) ?_
      refine rs rfl rfl (ok_store rfl ti_api_Found (by decide) rfl rfl rfl rfl rfl (by first | exact Nat.le_of_ble_eq_true rfl | simp) (by first | exact .inl ⟨rfl, rfl⟩ | exact .inr rfl)) ?_
      refine ro_nil ?_
      exact ⟨(f, t, cnt + 1, n + m2), ⟨by rw [← folN_3 hg2 ha]; exact h1, hrt, ⟨by dsimp only; omega, by dsimp only; omega⟩, ⟨by dsimp only; omega, by dsimp only; omega⟩, by dsimp only; omega⟩, by dsimp only; omega, TEnt.fin [0, 1, 2] (by decide) (by simp) (by show [some (Blk.ren _ (CB c)), some (Blk.ren _ Z17), some (Blk.ren _ (FdB t (cnt + 1) (n + m2)))] = _; rw [CB_ren, FdB_ren]; rfl) ⟨by simp [AV.ren, renL_ints], rfl, rfl, rfl, trivial⟩⟩
end Go.Proofs.YtjklgbafnfoolaaGreat.AmF
namespace Go.Proofs.YtjklgbafnfoolaaGreat.AmF
open Go Go.AM
set_option maxRecDepth 100000
set_option maxHeartbeats 4000000
set_option linter.unusedSimpArgs false
set_option linter.unusedVariables false
attribute [local simp] tkeep tget tput ev cav argsTM pickA normT putA splice AV.cells ints_length rowsA_length Prs_len Zns_len
def SBg (c : Cf) (m n : Nat) (a b : Nat) : Blk := SB (newS c) (.sl a 0 m) (.sl b 0 n)
theorem SBg_ren {ρ : Nat → Option Nat} {c : Cf} {m n a a' b b' : Nat} (ha : ρ a = some a') (hb : ρ b = some b') : some (Blk.ren ρ (SBg c m n a b)) = some (SBg c m n a' b') := SB_ren ha hb
theorem rn_ok {k : Nat} {tm : TM} {H : Heap} {n m : Nat} (s : St) (hk : k = 0) (h : tget tm 0 = .agg (StS s (.sl 2 0 n) (.sl 3 0 m))) (hn : n = s.st.length) (hm : m = s.zs.length) (ha : hget H 2 = some ⟨1, true, ints .i64 s.st⟩) (hb : hget H 3 = some ⟨6, true, Zns s.zs⟩) : TEnt k tm H [(0, .agg (StC s))] [] := by
  subst hk
  have h3 := hget_lt ha
  have h4 := hget_lt hb
  refine (TEnt.freeze 2 ha).trans ((TEnt.freeze 3 (b := ⟨6, true, Zns s.zs⟩) (by rw [hget_set, if_neg (by omega)]; exact hb)).trans ((TEnt.put1 0 (x' := .agg (StC s)) (by
    rw [h]
    refine Ent.st' s hn hm ?_ ?_
    · rw [hget_set, if_neg (by omega), hget_set, if_pos ⟨rfl, h3⟩]
    · rw [hget_set, if_pos ⟨rfl, by simpa using h4⟩])).trans (TEnt.fin [] (by decide) (by simp) rfl ⟨by simp [AV.ren, renL, StC_ren], trivial⟩)))
theorem rnew11_ok (c : Cf) (hck : chkC c = 0) : CSpec Tryz.prog 18 [] [.agg (CC c)] [] (.agg (StC (newS c))) := by
 have hk := chkC_ok hck
 obtain ⟨m, hm⟩ : ∃ m : Nat, c.mem = m := ⟨c.mem.toNat, by have := hk.2.1; omega⟩
 obtain ⟨n, hn⟩ : ∃ n : Nat, c.zon = n := ⟨c.zon.toNat, by unfold okC at hk; omega⟩
 have hmb : m ≤ 16 := by have := hk.2.1; omega
 have hnb : n ≤ 64 := by unfold okC at hk; omega
 have hzs : (newS c).zs = List.replicate n z0 := by show List.replicate c.zon.toNat z0 = _; rw [hn]; rfl
 have hst : (newS c).st = List.replicate m 0 := by show List.replicate c.mem.toNat 0 = _; rw [hm]; rfl
 refine CSpec.body Tryz.func18 rfl rfl rfl rfl rfl fun Q hQ => ?_
 refine T.seq fun K1 hK1 => ?_
 refine T.region ?_
 refine rs rfl rfl (ok_box (n := 11) rfl rfl (by decide)) ?_
 refine rs rfl rfl (ok_alloc rfl ti_api_State rfl (by decide)) ?_
 refine ro_nil ?_
 refine keepK hK1 [1, 2] (by dsimp) (by dsimp) ?_
 refine T.seq fun K2 hK2 => ?_
 refine T.region ?_
 refine rs rfl rfl (ok_load rfl ti_api_Conf rfl rfl) ?_
 refine rs rfl rfl (((ok_build rfl ti_api_State rfl).eq (x' := .agg (StS (newS c) (.v (.slice none 0 0)) (.v (.slice none 0 0)))) rfl rfl).tent ((emptyAt11 0 13 1 (by decide) rfl rfl).trans ((emptyAt11 0 14 6 (by decide) rfl rfl).trans (TEnt.to ⟨rfl, trivial⟩)))) ?_
 refine rs rfl rfl (ok_alloc rfl ti_api_State rfl (by decide)) ?_
 refine rs rfl rfl (ok_store rfl ti_api_State (by decide) rfl rfl rfl rfl rfl (by first | exact Nat.le_of_ble_eq_true rfl | simp) (by first | exact .inl ⟨rfl, rfl⟩ | exact .inr rfl)) ?_
 refine ro_nil ?_
 refine keepK hK2 [1, 2, 3] (by dsimp) (by dsimp) ?_
 refine T.seq fun K3 hK3 => ?_
 refine T.seq fun K4 hK4 => ?_
 refine T.region ?_
 refine rs rfl rfl (ok_move (.inr rfl)) ?_
 refine ro_nil ?_
 refine keepK hK4 [1, 2, 3, 4] (by dsimp) (by dsimp) ?_
 refine T.block ?_
 refine T.loopI (ι := Nat) (fun i => i ≤ m) (fun i => m - i) (fun i => ([(1, .ref 0 0 0), (2, .ref 1 0 0), (3, .ref 4 0 0), (4, .int i)], [some (CB c), some Z15, some ⟨1, true, ints .i64 (List.replicate i 0)⟩, some ⟨6, true, Zns (List.replicate 0 z0)⟩, some (SBg c i 0 2 3)])) 0 (Nat.zero_le _) (TEnt.toH rfl ⟨rfl, rfl, rfl, rfl, trivial⟩) (fun i hi => ?_) -- loop 1
 refine T.seq fun K5 hK5 => ?_
 refine T.seq fun K6 hK6 => ?_
 refine T.region ?_
 refine rs rfl rfl (ok_move (.inl rfl)) ?_
 refine rs rfl rfl (ok_fieldAddr rfl ti_api_Conf rfl rfl ti_int (by decide) rfl) ?_
 refine rs rfl rfl ((ok_load rfl ti_int rfl rfl).eq (x' := .int m) (by show AV.int c.mem = _; rw [hm]) rfl) ?_
 refine rs rfl rfl (ok_binOp rfl ti_int rfl) ?_
 refine ro_nil ?_
 refine keepK hK6 [1, 2, 3, 4, 11] (by dsimp) (by dsimp) ?_
 refine T.cond rfl (fun hc => ?_) (fun hc => ?_) -- cond 1
 ·(try simp only [dE] at hc)
  refine T.skip ?_
  refine keepK hK5 [1, 2, 3, 4] (by dsimp) (by dsimp) ?_
  refine T.seq fun K7 hK7 => ?_
  refine T.block ?_
  refine T.region ?_
  refine rs rfl rfl (ok_fieldAddr rfl ti_api_State rfl rfl ti_Lint (by decide) rfl) ?_
  refine rs rfl rfl (ok_load rfl ti_Lint rfl rfl) ?_
  refine rs rfl rfl (ok_buildSlice (n := 1) (ps := #[(0, .const (.int .i64 (0)))]) rfl ti_Lint rfl ti_int (by decide) rfl rfl (by decide) rfl rfl rfl) ?_
  refine rs rfl rfl (by exact ok_append_ints (k := .i64) (xs := List.replicate i 0) (ys := [0]) rfl ti_Lint rfl ti_int rfl (by decide) rfl ti_Lint (by simp) rfl rfl rfl rfl rfl rfl rfl rfl (by simp) (by simp; omega)) ?_
  refine rs rfl rfl (ok_fieldAddr rfl ti_api_State rfl rfl ti_Lint (by decide) rfl) ?_
  refine rs rfl rfl (ok_store rfl ti_Lint (by decide) rfl rfl rfl rfl rfl (by first | exact Nat.le_of_ble_eq_true rfl | simp) (by first | exact .inl ⟨rfl, rfl⟩ | exact .inr rfl)) ?_
  refine ro_nil ?_
  refine keepK hK7 [1, 2, 3, 4] (by dsimp) (by dsimp) ?_
  refine T.region ?_
  refine rs rfl rfl (ok_move (.inl rfl)) ?_
  refine rs rfl rfl (ok_add64 rfl ti_int rfl rfl (by omega) (by omega)) ?_
  refine rs rfl rfl (ok_move (.inr rfl)) ?_
  refine ro_nil ?_
  exact ⟨i + 1, by omega, by omega, TEnt.fin [0, 1, 6, 3, 4] (by decide) (by simp) (heap5 (congrArg some (CB_ren _ _)) rfl (by show some (Blk.ren _ ⟨1, true, ints .i64 (List.replicate i 0 ++ [0])⟩) = _; rw [← List.replicate_succ']; exact ib_ren _ _) (znb_ren _ _) (by show some (Blk.ren _ (SBg c ((List.replicate i (0 : Int) ++ [0]).length) 0 6 3)) = _; rw [List.length_append, List.length_replicate]; exact SBg_ren (by decide) (by decide))) ⟨rfl, rfl, rfl, rfl, trivial⟩⟩
 ·(try simp only [dE] at hc)
  have him : i = m := by omega
  subst him
  obtain ⟨M, hM⟩ : ∃ M, M = i := ⟨_, rfl⟩
  subst hM
  refine T.exit ?_
  refine keepK hK3 [1, 2, 3] (by dsimp) (by dsimp) ?_
  refine T.seq fun K8 hK8 => ?_
  refine T.seq fun K9 hK9 => ?_
  refine T.region ?_
  refine rs rfl rfl (ok_move (.inr rfl)) ?_
  refine ro_nil ?_
  refine keepK hK9 [1, 2, 3, 5] (by dsimp) (by dsimp) ?_
  refine T.block ?_
  refine T.loopI (ι := Nat) (fun k => k ≤ n) (fun k => n - k) (fun k => ([(1, .ref 0 0 0), (2, .ref 1 0 0), (3, .ref 4 0 0), (5, .int k)], [some (CB c), some Z15, some ⟨1, true, ints .i64 (List.replicate M 0)⟩, some ⟨6, true, Zns (List.replicate k z0)⟩, some (SBg c M k 2 3)])) 0 (Nat.zero_le _) (TEnt.toH rfl ⟨rfl, rfl, rfl, rfl, trivial⟩) (fun i hi => ?_) -- loop 2
  refine T.seq fun K10 hK10 => ?_
  refine T.seq fun K11 hK11 => ?_
  refine T.region ?_
  refine rs rfl rfl (ok_move (.inl rfl)) ?_
  refine rs rfl rfl (ok_fieldAddr rfl ti_api_Conf rfl rfl ti_int (by decide) rfl) ?_
  refine rs rfl rfl ((ok_load rfl ti_int rfl rfl).eq (x' := .int n) (by show AV.int c.zon = _; rw [hn]) rfl) ?_
  refine rs rfl rfl (ok_binOp rfl ti_int rfl) ?_
  refine ro_nil ?_
  refine keepK hK11 [1, 2, 3, 5, 22] (by dsimp) (by dsimp) ?_
  refine T.cond rfl (fun hc => ?_) (fun hc => ?_) -- cond 2
  ·(try simp only [dE] at hc)
   refine T.skip ?_
   refine keepK hK10 [1, 2, 3, 5] (by dsimp) (by dsimp) ?_
   refine T.seq fun K12 hK12 => ?_
   refine T.block ?_
   refine T.region ?_
   refine rs rfl rfl (ok_fieldAddr rfl ti_api_State rfl rfl ti_Lapi_Zone (by decide) rfl) ?_
   refine rs rfl rfl (ok_load rfl ti_Lapi_Zone rfl rfl) ?_
   refine rs rfl rfl (((ok_build rfl ti_api_Zone rfl).eq (x' := .agg (ZnS z0 (.v (.slice none 0 0)))) rfl rfl).tent ((TEnt.put1 0 (x' := .agg (ZnC z0)) (Ent.agg (EntL.cons (Ent.refl _) (EntL.cons (Ent.refl _) (EntL.cons (Ent.refl _) (EntL.cons (Ent.refl _) (EntL.cons (Ent.refl _) (EntL.cons (Ent.nil 2) EntL.nil)))))))).trans (TEnt.to ⟨rfl, trivial⟩))) ?_
   refine rs rfl rfl (ok_buildSlice (n := 1) (ps := #[(0, .tmp 27)]) rfl ti_Lapi_Zone rfl ti_api_Zone (by decide) rfl rfl (by decide) rfl rfl rfl) ?_
   refine rs rfl rfl (by exact ok_append_map (fun z => .agg (ZnC z)) (xs := List.replicate i z0) (ys := [z0]) rfl ti_Lapi_Zone rfl ti_api_Zone (by decide) (by decide) rfl ti_Lapi_Zone (by simp) rfl rfl rfl rfl rfl rfl rfl rfl (by simp) (by simp; omega)) ?_
   refine rs rfl rfl (ok_fieldAddr rfl ti_api_State rfl rfl ti_Lapi_Zone (by decide) rfl) ?_
   refine rs rfl rfl (ok_store rfl ti_Lapi_Zone (by decide) rfl rfl rfl rfl rfl (by first | exact Nat.le_of_ble_eq_true rfl | simp) (by first | exact .inl ⟨rfl, rfl⟩ | exact .inr rfl)) ?_
   refine ro_nil ?_
   refine keepK hK12 [1, 2, 3, 5] (by dsimp) (by dsimp) ?_
   refine T.region ?_
   refine rs rfl rfl (ok_move (.inl rfl)) ?_
   refine rs rfl rfl (ok_add64 rfl ti_int rfl rfl (by omega) (by omega)) ?_
   refine rs rfl rfl (ok_move (.inr rfl)) ?_
   refine ro_nil ?_
   exact ⟨i + 1, by omega, by omega, TEnt.fin [0, 1, 2, 6, 4] (by decide) (by simp) (heap5 (congrArg some (CB_ren _ _)) rfl (ib_ren _ _) (by show some (Blk.ren _ ⟨6, true, Zns (List.replicate i z0 ++ [z0])⟩) = _; rw [← List.replicate_succ']; exact znb_ren _ _) (by show some (Blk.ren _ (SBg c _ ((List.replicate i z0 ++ [z0]).length) 2 6)) = _; rw [List.length_append, List.length_replicate]; exact SBg_ren (by decide) (by decide))) ⟨rfl, rfl, rfl, rfl, trivial⟩⟩
  ·(try simp only [dE] at hc)
   have hin : i = n := by omega
   subst hin
   refine T.exit ?_
   refine keepK hK8 [2, 3] (by dsimp) (by dsimp) ?_
   refine T.seq fun K13 hK13 => ?_
   refine T.region ?_
   refine rs rfl rfl (ok_load rfl ti_api_State rfl rfl) ?_
   refine rs rfl rfl (ok_store rfl ti_api_State (by decide) rfl rfl rfl rfl rfl (by first | exact Nat.le_of_ble_eq_true rfl | simp) (by first | exact .inl ⟨rfl, rfl⟩ | exact .inr rfl)) ?_
   refine ro_nil ?_
   refine keepK hK13 [2] (by dsimp) (by dsimp) ?_
   refine T.ret (hQ _ _ _ rfl ?_).1 -- ret 1
   exact rn_ok (newS c) rfl rfl (by rw [hst]; simp) (by rw [hzs]; simp) (by rw [hst]; rfl) (by rw [hzs]; rfl)
end Go.Proofs.YtjklgbafnfoolaaGreat.AmF
namespace Go.Proofs.YtjklgbafnfoolaaGreat.AmF
open Go Go.AM
set_option maxRecDepth 100000
set_option maxHeartbeats 4000000
set_option linter.unusedSimpArgs false
set_option linter.unusedVariables false
attribute [local simp] tkeep tget tput ev cav argsTM pickA normT putA splice AV.cells ints_length rowsA_length Prs_len Zns_len
theorem code12_ok (e : Int) : CSpec Tryz.prog 17 [] [.int e] [] (.int e) := by
 refine CSpec.body Tryz.func17 rfl rfl rfl rfl rfl fun Q hQ => ?_
 refine T.seq fun K1 hK1 => ?_
 refine T.region ?_
 refine rs rfl rfl (ok_move (.inr rfl)) ?_
 refine ro_nil ?_
 refine keepK hK1 [0] (by dsimp) (by dsimp) ?_
 refine T.seq fun K2 hK2 => ?_
 refine T.region ?_
 refine rs rfl rfl (ok_move (.inl rfl)) ?_
 refine rs rfl rfl (ok_move (.inr rfl)) ?_
 refine ro_nil ?_
 refine keepK hK2 [2] (by dsimp) (by dsimp) ?_
 refine T.ret (hQ _ _ _ rfl ?_).1 -- ret 1
 exact TEnt.fin [] (by decide) (by simp) rfl ⟨rfl, trivial⟩
theorem live12_ok : CSpec Tryz.prog 7 [] [] [] (.b true) := by
 have hpos := first12_pos
 have hfst := sfirst_ok (newS cf12) 2 (fun _ => enc12) (fun z hz p hp => by rw [show z = z0 from List.eq_of_mem_replicate hz] at hp; simp [z0] at hp) (by decide) (by decide) (fun z hz => by rw [show z = z0 from List.eq_of_mem_replicate hz]; decide)
 obtain ⟨hlog, hmul⟩ := first12
 have hBb := first12_bytes
 have hBl := first12_len
 obtain ⟨B, hB⟩ : ∃ B, firstB (newS cf12) 2 = B := ⟨_, rfl⟩
 rw [hB] at hpos hfst hlog hmul hBb hBl
 have hl := slog_ok B cf12 2 hBb (by omega)
 have hn := slog_ok [] cf12 2 Bytes.nil (by decide)
 rw [hlog] at hl
 rw [log12_nil] at hn
 obtain ⟨q, hq⟩ : ∃ q, (B.length : Int) / 64 = q := ⟨_, rfl⟩
 rw [hq] at hl hmul
 refine CSpec.body Tryz.func7 rfl rfl rfl rfl rfl fun Q hQ => ?_
 refine T.seq fun K1 hK1 => ?_
 refine T.region ?_
 refine rs rfl rfl (ok_moveb (c := false) (.inr rfl) rfl) ?_
 refine ro_nil ?_
 refine keepK hK1 [] (by dsimp) (by dsimp) ?_
 refine T.seq fun K2 hK2 => ?_
 refine T.region ?_
 refine rs rfl rfl (ok_build_flat 11 rfl ti_api_Conf rfl rfl rfl rfl rfl) ?_
 refine rs rfl rfl (ok_alloc rfl ti_api_Conf rfl (by decide)) ?_
 refine rs rfl rfl (ok_store rfl ti_api_Conf (by decide) rfl rfl rfl rfl rfl (by first | exact Nat.le_of_ble_eq_true rfl | simp) (by first | exact .inl ⟨rfl, rfl⟩ | exact .inr rfl)) ?_
 refine ro_nil ?_
 refine keepK hK2 [1] (by dsimp) (by dsimp) ?_
 refine T.seq fun K3 hK3 => ?_
 refine T.region ?_
 refine rs rfl rfl (ok_load rfl ti_api_Conf rfl rfl) ?_
 refine ro rfl rfl (ok_call rfl rfl rfl ((rnew11_ok cf12 cf12_ok).plain (by simp [renL, AV.ren]; rfl) (by simp [AV.ren, renL, StC_ren]))) ?_
 refine ro rfl rfl (ok_call rfl rfl rfl (hfst.plain (by simp [renL, AV.ren, StC_ren]) (by simp [AV.ren, renL_ints]))) ?_
 refine rs rfl rfl (ok_move (.inr rfl)) ?_
 refine ro_nil ?_
 refine keepK hK3 [1, 2] (by dsimp) (by dsimp) ?_
 refine T.seq fun K4 hK4 => ?_
 refine T.region ?_
 refine rs rfl rfl (ok_move (.inl rfl)) ?_
 refine rs rfl rfl (ok_load rfl ti_api_Conf rfl rfl) ?_
 refine ro rfl rfl (ok_call rfl rfl rfl (hl.plain (by show renL _ [.fz 1 (ints .u8 B), .agg (CC cf12), .int 2] = _; simp [renL, AV.ren, renL_ints, CC_ren]) (by show AV.tup (renL _ [.agg (FdC (newS cf12) 0 q), .int 0]) = _; simp [renL, AV.ren, FdC_ren]))) ?_
 refine rs rfl rfl (ok_move (.inl rfl)) ?_
 refine rs rfl rfl (ok_extract rfl rfl rfl) ?_
 refine rs rfl rfl (ok_extract rfl rfl rfl) ?_
 refine rs rfl rfl (ok_alloc rfl ti_api_Found rfl (by decide)) ?_
 refine rs rfl rfl (ok_store rfl ti_api_Found (by decide) rfl rfl rfl rfl rfl (by first | exact Nat.le_of_ble_eq_true rfl | simp) (by first | exact .inl ⟨rfl, rfl⟩ | exact .inr rfl)) ?_
 refine rs rfl rfl (ok_move (.inr rfl)) ?_
 refine ro_nil ?_
 refine keepK hK4 [1, 2, 3, 4] (by dsimp) (by dsimp) ?_
 refine T.seq fun K5 hK5 => ?_
 refine T.region ?_
 refine rs rfl rfl (ok_load rfl ti_api_Conf rfl rfl) ?_
 refine ro rfl rfl (ok_call rfl rfl rfl ((hn.plain (by show renL _ [.fz 1 (ints .u8 []), .agg (CC cf12), .int 2] = _; simp [renL, AV.ren, renL_ints, CC_ren]) (by show AV.tup (renL _ [.agg (FdC St0 0 0), .int 14]) = _; simp [renL, AV.ren, FdC_ren])).view (EntL.cons (Ent.nil 1) (EntL.refl _)))) ?_
 refine rs rfl rfl (ok_move (.inl rfl)) ?_
 refine rs rfl rfl (ok_extract rfl rfl rfl) ?_
 refine rs rfl rfl (ok_extract rfl rfl rfl) ?_
 refine rs rfl rfl (ok_alloc rfl ti_api_Found rfl (by decide)) ?_
 refine rs rfl rfl (ok_store rfl ti_api_Found (by decide) rfl rfl rfl rfl rfl (by first | exact Nat.le_of_ble_eq_true rfl | simp) (by first | exact .inl ⟨rfl, rfl⟩ | exact .inr rfl)) ?_
 refine rs rfl rfl (ok_move (.inr rfl)) ?_
 refine ro_nil ?_
 refine keepK hK5 [2, 3, 4, 6] (by dsimp) (by dsimp) ?_
 refine T.seq fun K6 hK6 => ?_
 refine T.region ?_
 refine rs rfl rfl (ok_move (.inl rfl)) ?_
 refine rs rfl rfl (ok_len' rfl rfl ti_Luint8 rfl (by first | exact ints_length _ _ | exact rowsA_length _ _ | exact Cms_len _ | exact mapLen _ | rfl)) ?_
 refine rs rfl rfl ((ok_binOp rfl ti_int rfl).eq (x' := .b true) (by simp; omega) rfl) ?_
 refine rs rfl rfl (OpOk.bool (d := true) (ok_moveb (.inl rfl) rfl) (rfl)) ?_
 refine rs rfl rfl (ok_move (.inl rfl)) ?_
 refine ro rfl rfl (ok_call rfl rfl rfl ((code12_ok 0).plain rfl rfl)) ?_
 refine rs rfl rfl (ok_binOp rfl ti_int rfl) ?_
 refine rs rfl rfl (ok_pick rfl rfl) ?_
 refine rs rfl rfl (OpOk.bool (d := true) (ok_moveb (.inl rfl) rfl) (rfl)) ?_
 refine rs rfl rfl (ok_fieldAddr rfl ti_api_Found rfl rfl ti_int (by decide) rfl) ?_
 refine rs rfl rfl ((ok_load rfl ti_int rfl rfl).eq (x' := .int q) rfl rfl) ?_
 refine rs rfl rfl ((ok_mul64 rfl ti_int rfl rfl (by omega) (by omega)).eq (x' := .int (B.length : Int)) (by rw [hmul]) rfl) ?_
 refine rs rfl rfl (ok_move (.inl rfl)) ?_
 refine rs rfl rfl (ok_len' rfl rfl ti_Luint8 rfl (by first | exact ints_length _ _ | exact rowsA_length _ _ | exact Cms_len _ | exact mapLen _ | rfl)) ?_
 refine rs rfl rfl ((ok_binOp rfl ti_int rfl).eq (x' := .b true) (by simp) rfl) ?_
 refine rs rfl rfl (ok_pick rfl rfl) ?_
 refine rs rfl rfl (OpOk.bool (d := true) (ok_moveb (.inl rfl) rfl) (rfl)) ?_
 refine rs rfl rfl (ok_move (.inl rfl)) ?_
 refine ro rfl rfl (ok_call rfl rfl rfl ((code12_ok 14).plain rfl rfl)) ?_
 refine rs rfl rfl (ok_binOp rfl ti_int rfl) ?_
 refine rs rfl rfl (ok_pick rfl rfl) ?_
 refine rs rfl rfl (ok_move (.inr rfl)) ?_
 refine ro_nil ?_
 refine keepK hK6 [0] (by dsimp) (by dsimp) ?_
 refine T.ret (hQ _ _ _ rfl ?_).1 -- ret 1
 exact TEnt.fin [] (by decide) (by simp) rfl ⟨rfl, trivial⟩
end Go.Proofs.YtjklgbafnfoolaaGreat.AmF
namespace Go.Proofs.YtjklgbafnfoolaaGreat.AmF
open Go Go.AM
set_option maxRecDepth 100000
set_option maxHeartbeats 4000000
set_option linter.unusedSimpArgs false
set_option linter.unusedVariables false
attribute [local simp] tkeep tget tput ev cav argsTM pickA normT putA splice AV.cells ints_length rowsA_length Prs_len Zns_len
def sumP (l : List Pr) : Int := (l.map fun p => (p.b.length : Int)).sum
def sumB (l : List Zn) : Int := (l.map fun z => sumP z.pars).sum
theorem sumP_snoc {l : List Pr} {i : Nat} {p : Pr} (h : l[i]? = some p) : sumP (l.take (i + 1)) = sumP (l.take i) + p.b.length := by
  unfold sumP
  rw [take_succ_get h]; simp [List.sum_append]
theorem sumB_snoc {l : List Zn} {i : Nat} {z : Zn} (h : l[i]? = some z) : sumB (l.take (i + 1)) = sumB (l.take i) + sumP z.pars := by
  unfold sumB
  rw [take_succ_get h]; simp [List.sum_append]
theorem sumP_bd : ∀ (l : List Pr), (∀ p ∈ l, p.b.length ≤ 140737488355328) → 0 ≤ sumP l ∧ sumP l ≤ 140737488355328 * l.length
  | [], _ => by simp [sumP]
  | p :: l, h => by
    have h1 := sumP_bd l fun q hq => h q (List.mem_cons_of_mem _ hq)
    have h2 := h p (List.mem_cons_self ..)
    have h3 : sumP (p :: l) = p.b.length + sumP l := by simp [sumP]
    rw [h3, List.length_cons]
    omega
/-- As far as it was looked, no more than is asked. -/
def FewZ (zs : List Zn) (i : Nat) : Prop := ∀ (k : Nat), k < i → ∀ z, zs[k]? = some z → z.pars.length ≤ 5 ∧ sumB (zs.take (k + 1)) ≤ 4000
def FewS (s : St) : Prop := FewZ s.zs (min s.zs.length 80) ∧ s.zs.length ≤ 70 ∧ s.st.length ≤ 30
noncomputable def muchB (s : St) : Bool := @decide (¬ FewS s) (Classical.propDecidable _)
theorem muchB_true {s : St} (h : ¬ FewS s) : muchB s = true := by unfold muchB; exact @decide_eq_true _ (Classical.propDecidable _) h
theorem muchB_false {s : St} (h : FewS s) : muchB s = false := by unfold muchB; exact @decide_eq_false _ (Classical.propDecidable _) (fun h' => h' h)
theorem FewS_of {s : St} (h : muchB s = false) : FewS s := by
  apply Classical.byContradiction
  intro h'
  rw [muchB_true h'] at h
  cases h
theorem FewS_pars {s : St} (h : FewS s) {z : Zn} (hz : z ∈ s.zs) : z.pars.length ≤ 5 := by
  obtain ⟨k, hk⟩ := List.mem_iff_getElem?.1 hz
  have hl := (List.getElem?_eq_some_iff.1 hk).1
  exact (h.1 k (by have := h.2.1; omega) z hk).1
theorem FewZ_step {zs : List Zn} {i : Nat} {z : Zn} (h : FewZ zs i) (hz : zs[i]? = some z) (h1 : z.pars.length ≤ 5) (h2 : sumB (zs.take (i + 1)) ≤ 4000) : FewZ zs (i + 1) := by
  intro k hk u hu
  rcases Nat.lt_or_ge k i with h3 | h3
  · exact h k h3 u hu
  · obtain rfl : k = i := by omega
    rw [hz] at hu
    cases hu
    exact ⟨h1, h2⟩
theorem FewS_no {s : St} {i : Nat} {z : Zn} (hz : s.zs[i]? = some z) (hi : i < 80) (h : 5 < z.pars.length ∨ 4000 < sumB (s.zs.take (i + 1))) : ¬ FewS s := by
  intro hf
  have hl := (List.getElem?_eq_some_iff.1 hz).1
  have := hf.1 i (by omega) z hz
  omega
theorem sumB_of {zs : List Zn} {i : Nat} (h : FewZ zs i) (hi : i ≤ zs.length) : sumB (zs.take i) ≤ 4000 := by
  cases i with
  | zero => simp [sumB]
  | succ i =>
    obtain ⟨z, hz⟩ : ∃ z, zs[i]? = some z := ⟨_, List.getElem?_eq_getElem (by omega)⟩
    exact (h i (Nat.lt_succ_self _) z hz).2
theorem sumB_nn : ∀ (l : List Zn), (∀ z ∈ l, ∀ p ∈ z.pars, p.b.length ≤ 140737488355328) → 0 ≤ sumB l
  | [], _ => by simp [sumB]
  | z :: l, h => by
    have h1 := sumB_nn l fun q hq => h q (List.mem_cons_of_mem _ hq)
    have h2 := (sumP_bd z.pars (h z (List.mem_cons_self ..))).1
    have h3 : sumB (z :: l) = sumP z.pars + sumB l := by simp [sumB]
    omega
theorem smuch_ok (s : St) (hn : s.st.length ≤ 140737488355328) (hm : s.zs.length ≤ 140737488355328) (hl : ∀ z ∈ s.zs, z.pars.length ≤ 140737488355328) (hpb : ∀ z ∈ s.zs, ∀ p ∈ z.pars, p.b.length ≤ 140737488355328) : CSpec Tryz.prog 6 [] [.agg (StC s)] [] (.b (muchB s)) := by
 refine CSpec.body Tryz.func6 rfl rfl rfl rfl rfl fun Q hQ => ?_
 refine T.seq fun K1 hK1 => ?_
 refine T.region ?_
 refine rs rfl rfl (ok_box (n := 15) rfl rfl (by decide)) ?_
 refine rs rfl rfl (ok_moveb (c := false) (.inr rfl) rfl) ?_
 refine ro_nil ?_
 refine keepK hK1 [1] (by dsimp) (by dsimp) ?_
 refine T.seq fun K2 hK2 => ?_
 refine T.region ?_
 refine rs rfl rfl (ok_move (.inr rfl)) ?_
 refine ro_nil ?_
 refine keepK hK2 [1, 3] (by dsimp) (by dsimp) ?_
 refine T.seq fun K3 hK3 => ?_
 refine T.seq fun K4 hK4 => ?_
 refine T.region ?_
 refine rs rfl rfl (ok_move (.inr rfl)) ?_
 refine ro_nil ?_
 refine keepK hK4 [1, 3, 4] (by dsimp) (by dsimp) ?_
 refine T.block ?_
 refine T.loopI (ι := Nat) (fun i => i ≤ s.zs.length ∧ i ≤ 80 ∧ FewZ s.zs i) (fun i => s.zs.length - i) (fun i => ([(1, .ref 0 0 0), (3, .int (sumB (s.zs.take i))), (4, .int i)], [some (StB s)])) 0 ⟨Nat.zero_le _, Nat.zero_le _, fun k hk => absurd hk (Nat.not_lt_zero _)⟩ (TEnt.toH rfl ⟨rfl, rfl, rfl, trivial⟩) (fun i hi => ?_) -- loop 1
 obtain ⟨hil, hi80, hfew⟩ := hi
 have hsb := sumB_of hfew hil
 have hs0 := sumB_nn (s.zs.take i) fun z hz => hpb z (List.mem_of_mem_take hz)
 refine T.seq fun K5 hK5 => ?_
 refine T.seq fun K6 hK6 => ?_
 refine T.region ?_
 refine rs rfl rfl (ok_move (.inl rfl)) ?_
 refine rs rfl rfl (ok_fieldAddr rfl ti_api_State rfl rfl ti_Lapi_Zone (by decide) rfl) ?_
 refine rs rfl rfl (ok_load rfl ti_Lapi_Zone rfl rfl) ?_
 refine rs rfl rfl (ok_len' rfl rfl ti_Lapi_Zone rfl (by first | exact ints_length _ _ | exact rowsA_length _ _ | exact Cms_len _ | exact mapLen _ | rfl)) ?_
 refine rs rfl rfl (ok_binOp rfl ti_int rfl) ?_
 refine ro_case rfl rfl (OpOk.step (ok_moveb (.inl rfl) rfl)) (fun hb => ?_) (fun hb => ?_)
 ·(try simp only [dE] at hb)
  refine rs rfl rfl (ok_move (.inl rfl)) ?_
  refine rs rfl rfl (ok_binOp rfl ti_int rfl) ?_
  refine rs rfl rfl (ok_pick rfl rfl) ?_
  refine ro_nil ?_
  refine keepK hK6 [1, 3, 4, 14] (by dsimp) (by dsimp) ?_
  refine T.cond rfl (fun hc => ?_) (fun hc => ?_) -- cond 1
  ·(try simp only [dE] at hc)
   refine T.skip ?_
   refine keepK hK5 [1, 3, 4] (by dsimp) (by dsimp) ?_
   refine T.seq fun K7 hK7 => ?_
   refine T.block ?_
   refine T.seq fun K8 hK8 => ?_
   refine T.seq fun K9 hK9 => ?_
   have hiz : i < s.zs.length := by simp only [Zns_len] at *; omega
   have hi79 : i < 80 := by omega
   obtain ⟨z, hz⟩ : ∃ z, s.zs[i]? = some z := ⟨_, List.getElem?_eq_getElem hiz⟩
   have hzm := List.mem_of_getElem? hz
   have hbz := hpb z hzm
   have hbs := sumB_snoc hz
   obtain ⟨w, hw⟩ : ∃ w, w = i := ⟨_, rfl⟩
   subst hw
   refine T.region ?_
   refine rs rfl rfl (ok_fieldAddr rfl ti_api_State rfl rfl ti_Lapi_Zone (by decide) rfl) ?_
   refine rs rfl rfl (ok_load rfl ti_Lapi_Zone rfl rfl) ?_
   refine rs rfl rfl (ok_move (.inl rfl)) ?_
   refine rs rfl rfl (by exact ok_index_map (F := ZnC) rfl ti_Lapi_Zone rfl ti_api_Zone rfl rfl rfl hz (by simp [ZnC])) ?_
   refine rs rfl rfl (ok_fieldAddr rfl ti_api_Zone rfl rfl ti_Lapi_Par (by decide) rfl) ?_
   refine rs rfl rfl (ok_load rfl ti_Lapi_Par rfl rfl) ?_
   refine rs rfl rfl (ok_len' rfl rfl ti_Lapi_Par rfl (by first | exact ints_length _ _ | exact rowsA_length _ _ | exact Cms_len _ | exact mapLen _ | rfl)) ?_
   refine rs rfl rfl (ok_binOp rfl ti_int rfl) ?_
   refine ro_nil ?_
   refine keepK hK9 [1, 3, 4, 24] (by dsimp) (by dsimp) ?_
   refine T.cond rfl (fun hc => ?_) (fun hc => ?_) -- cond 2
   ·(try simp only [dE] at hc)
    rw [Prs_len] at hc
    refine T.seq fun K10 hK10 => ?_
    refine T.region ?_
    refine rs rfl rfl (ok_moveb (c := true) (.inr rfl) rfl) ?_
    refine ro_nil ?_
    refine keepK hK10 [2] (by dsimp) (by dsimp) ?_
    refine T.ret (hQ _ _ _ rfl ?_).1 -- ret 1
    exact by (rw [muchB_true (FewS_no hz hi79 (by omega))]; exact TEnt.fin [] (by decide) (by simp) rfl ⟨rfl, trivial⟩)
   ·(try simp only [dE] at hc)
    rw [Prs_len] at hc
    have hp5 : z.pars.length ≤ 5 := by omega
    refine T.skip ?_
    refine keepK hK8 [1, 3, 4] (by dsimp) (by dsimp) ?_
    refine T.seq fun K11 hK11 => ?_
    refine T.seq fun K12 hK12 => ?_
    refine T.region ?_
    refine rs rfl rfl (ok_move (.inr rfl)) ?_
    refine ro_nil ?_
    refine keepK hK12 [1, 3, 4, 5] (by dsimp) (by dsimp) ?_
    refine T.block ?_
    refine T.loopI (ι := Nat) (fun k => k ≤ z.pars.length) (fun k => z.pars.length - k) (fun k => ([(1, .ref 0 0 0), (3, .int (sumB (s.zs.take w) + sumP (z.pars.take k))), (4, .int w), (5, .int k)], [some (StB s)])) 0 (Nat.zero_le _) (TEnt.toH rfl ⟨rfl, by simp [sumP], rfl, rfl, trivial⟩) (fun i hi => ?_) -- loop 2
    have hpk := sumP_bd (z.pars.take i) fun p hp => hbz p (List.mem_of_mem_take hp)
    refine T.seq fun K13 hK13 => ?_
    refine T.seq fun K14 hK14 => ?_
    refine T.region ?_
    refine rs rfl rfl (ok_move (.inl rfl)) ?_
    refine rs rfl rfl (ok_fieldAddr rfl ti_api_State rfl rfl ti_Lapi_Zone (by decide) rfl) ?_
    refine rs rfl rfl (ok_load rfl ti_Lapi_Zone rfl rfl) ?_
    refine rs rfl rfl (ok_move (.inl rfl)) ?_
    refine rs rfl rfl (by exact ok_index_map (F := ZnC) rfl ti_Lapi_Zone rfl ti_api_Zone rfl rfl rfl hz (by simp [ZnC])) ?_
    refine rs rfl rfl (ok_fieldAddr rfl ti_api_Zone rfl rfl ti_Lapi_Par (by decide) rfl) ?_
    refine rs rfl rfl (ok_load rfl ti_Lapi_Par rfl rfl) ?_
    refine rs rfl rfl (ok_len' rfl rfl ti_Lapi_Par rfl (by first | exact ints_length _ _ | exact rowsA_length _ _ | exact Cms_len _ | exact mapLen _ | rfl)) ?_
    refine rs rfl rfl (ok_binOp rfl ti_int rfl) ?_
    refine ro_nil ?_
    refine keepK hK14 [1, 3, 4, 5, 33] (by dsimp) (by dsimp) ?_
    refine T.cond rfl (fun hc => ?_) (fun hc => ?_) -- cond 3
    ·(try simp only [dE] at hc)
     rw [Prs_len] at hc
     obtain ⟨p, hp⟩ : ∃ p, z.pars[i]? = some p := ⟨_, List.getElem?_eq_getElem (by omega)⟩
     have hps := sumP_snoc hp
     have hpl := hbz p (List.mem_of_getElem? hp)
     have htk : (z.pars.take i).length ≤ 5 := by rw [List.length_take]; omega
     refine T.skip ?_
     refine keepK hK13 [1, 3, 4, 5] (by dsimp) (by dsimp) ?_
     refine T.seq fun K15 hK15 => ?_
     refine T.block ?_
     refine T.region ?_
     refine rs rfl rfl (ok_move (.inl rfl)) ?_
     refine rs rfl rfl (ok_fieldAddr rfl ti_api_State rfl rfl ti_Lapi_Zone (by decide) rfl) ?_
     refine rs rfl rfl (ok_load rfl ti_Lapi_Zone rfl rfl) ?_
     refine rs rfl rfl (ok_move (.inl rfl)) ?_
     refine rs rfl rfl (by exact ok_index_map (F := ZnC) rfl ti_Lapi_Zone rfl ti_api_Zone rfl rfl rfl hz (by simp [ZnC])) ?_
     refine rs rfl rfl (ok_fieldAddr rfl ti_api_Zone rfl rfl ti_Lapi_Par (by decide) rfl) ?_
     refine rs rfl rfl (ok_load rfl ti_Lapi_Par rfl rfl) ?_
     refine rs rfl rfl (ok_move (.inl rfl)) ?_
     refine rs rfl rfl (by exact ok_index_map (F := PrC) rfl ti_Lapi_Par rfl ti_api_Par rfl rfl rfl hp (by simp [PrC])) ?_
     refine rs rfl rfl (ok_fieldAddr rfl ti_api_Par rfl rfl ti_Luint8 (by decide) rfl) ?_
     refine rs rfl rfl (ok_load rfl ti_Luint8 rfl rfl) ?_
     refine rs rfl rfl (ok_len' rfl rfl ti_Luint8 rfl (by first | exact ints_length _ _ | exact rowsA_length _ _ | exact Cms_len _ | exact mapLen _ | rfl)) ?_
     refine rs rfl rfl (ok_add64 rfl ti_int rfl rfl (by omega) (by omega)) ?_
     refine rs rfl rfl (ok_move (.inr rfl)) ?_
     refine ro_nil ?_
     refine keepK hK15 [1, 3, 4, 5] (by dsimp) (by dsimp) ?_
     refine T.region ?_
     refine rs rfl rfl (ok_move (.inl rfl)) ?_
     refine rs rfl rfl (ok_add64 rfl ti_int rfl rfl (by omega) (by omega)) ?_
     refine rs rfl rfl (ok_move (.inr rfl)) ?_
     refine ro_nil ?_
     exact ⟨i + 1, by omega, by omega, TEnt.toH rfl ⟨rfl, by rw [hps, ← Int.add_assoc]; rfl, rfl, rfl, trivial⟩⟩
    ·(try simp only [dE] at hc)
     rw [Prs_len] at hc
     have hin : i = z.pars.length := by omega
     subst hin
     rw [List.take_length] at hpk
     rw [List.take_length, ← hbs]
     refine T.exit ?_
     refine keepK hK11 [1, 3, 4] (by dsimp) (by dsimp) ?_
     refine T.seq fun K16 hK16 => ?_
     refine T.region ?_
     refine rs rfl rfl (ok_move (.inl rfl)) ?_
     refine rs rfl rfl (ok_binOp rfl ti_int rfl) ?_
     refine ro_nil ?_
     refine keepK hK16 [1, 3, 4, 50] (by dsimp) (by dsimp) ?_
     refine T.cond rfl (fun hc => ?_) (fun hc => ?_) -- cond 4
     ·(try simp only [dE] at hc)
      refine T.seq fun K17 hK17 => ?_
      refine T.region ?_
      refine rs rfl rfl (ok_moveb (c := true) (.inr rfl) rfl) ?_
      refine ro_nil ?_
      refine keepK hK17 [2] (by dsimp) (by dsimp) ?_
      refine T.ret (hQ _ _ _ rfl ?_).1 -- ret 2
      exact by (rw [muchB_true (FewS_no hz hi79 (by omega))]; exact TEnt.fin [] (by decide) (by simp) rfl ⟨rfl, trivial⟩)
     ·(try simp only [dE] at hc)
      refine T.skip ?_
      refine keepK hK7 [1, 3, 4] (by dsimp) (by dsimp) ?_
      refine T.region ?_
      refine rs rfl rfl (ok_move (.inl rfl)) ?_
      refine rs rfl rfl (ok_add64 rfl ti_int rfl rfl (by omega) (by omega)) ?_
      refine rs rfl rfl (ok_move (.inr rfl)) ?_
      refine ro_nil ?_
      exact ⟨w + 1, ⟨by omega, by omega, FewZ_step hfew hz hp5 (by omega)⟩, by omega, TEnt.toH rfl ⟨rfl, rfl, rfl, trivial⟩⟩
  ·(try simp only [dE] at hc)
   refine T.exit ?_
   refine keepK hK3 [1] (by dsimp) (by dsimp) ?_
   refine T.seq fun K18 hK18 => ?_
   refine T.region ?_
   refine rs rfl rfl (ok_fieldAddr rfl ti_api_State rfl rfl ti_Lapi_Zone (by decide) rfl) ?_
   refine rs rfl rfl (ok_load rfl ti_Lapi_Zone rfl rfl) ?_
   refine rs rfl rfl (ok_len' rfl rfl ti_Lapi_Zone rfl (by first | exact ints_length _ _ | exact rowsA_length _ _ | exact Cms_len _ | exact mapLen _ | rfl)) ?_
   refine rs rfl rfl (ok_binOp rfl ti_int rfl) ?_
   refine ro_case rfl rfl (OpOk.step (ok_moveb (.inl rfl) rfl)) (fun hb => ?_) (fun hb => ?_)
   ·(try simp only [dE] at hb)
    refine ro_skip rfl rfl ?_
    refine ro_skip rfl rfl ?_
    refine ro_skip rfl rfl ?_
    refine ro_skip rfl rfl ?_
    refine rs rfl rfl (ok_pickb (t := true) (d := true) rfl rfl rfl) ?_
    refine rs rfl rfl (ok_moveb (c := true) (.inr rfl) rfl) ?_
    refine ro_nil ?_
    refine keepK hK18 [2] (by dsimp) (by dsimp) ?_
    refine T.ret (hQ _ _ _ rfl ?_).1 -- ret 3
    exact by (rw [muchB_true (fun h => by have := h.2.1; simp only [Zns_len] at *; omega)]; exact TEnt.fin [] (by decide) (by simp) rfl ⟨rfl, trivial⟩)
   ·(try simp only [dE] at hb)
    refine rs rfl rfl (ok_fieldAddr rfl ti_api_State rfl rfl ti_Lint (by decide) rfl) ?_
    refine rs rfl rfl (ok_load rfl ti_Lint rfl rfl) ?_
    refine rs rfl rfl (ok_len' rfl rfl ti_Lint rfl (by first | exact ints_length _ _ | exact rowsA_length _ _ | exact Cms_len _ | exact mapLen _ | rfl)) ?_
    refine rs rfl rfl (ok_binOp rfl ti_int rfl) ?_
    refine rs rfl rfl (ok_pick rfl rfl) ?_
    refine rs rfl rfl (ok_move (.inr rfl)) ?_
    refine ro_nil ?_
    refine keepK hK18 [2] (by dsimp) (by dsimp) ?_
    refine T.ret (hQ _ _ _ rfl ?_).1 -- ret 4
    have e : muchB s = decide ((s.st.length : Int) > 30) := by
      simp only [Zns_len] at *
      have hf : FewZ s.zs (min s.zs.length 80) := by rw [show min s.zs.length 80 = i by omega]; exact hfew
      by_cases h : s.st.length ≤ 30
      · rw [muchB_false ⟨hf, by omega, h⟩, decide_eq_false (by omega)]
      · rw [muchB_true (fun h' => h h'.2.2), decide_eq_true (by omega)]
    rw [e]; exact TEnt.fin [] (by decide) (by simp) rfl ⟨rfl, trivial⟩
 ·(try simp only [dE] at hb)
  refine ro_skip rfl rfl ?_
  refine ro_skip rfl rfl ?_
  refine rs rfl rfl (ok_pickb (t := false) (d := false) rfl rfl rfl) ?_
  refine ro_nil ?_
  refine keepK hK6 [1, 3, 4, 14] (by dsimp) (by dsimp) ?_
  refine T.cond_false rfl ?_
  refine T.exit ?_
  refine keepK hK3 [1] (by dsimp) (by dsimp) ?_
  refine T.seq fun K19 hK19 => ?_
  refine T.region ?_
  refine rs rfl rfl (ok_fieldAddr rfl ti_api_State rfl rfl ti_Lapi_Zone (by decide) rfl) ?_
  refine rs rfl rfl (ok_load rfl ti_Lapi_Zone rfl rfl) ?_
  refine rs rfl rfl (ok_len' rfl rfl ti_Lapi_Zone rfl (by first | exact ints_length _ _ | exact rowsA_length _ _ | exact Cms_len _ | exact mapLen _ | rfl)) ?_
  refine rs rfl rfl (ok_binOp rfl ti_int rfl) ?_
  refine ro_case rfl rfl (OpOk.step (ok_moveb (.inl rfl) rfl)) (fun hb => ?_) (fun hb => ?_)
  ·(try simp only [dE] at hb)
   refine ro_skip rfl rfl ?_
   refine ro_skip rfl rfl ?_
   refine ro_skip rfl rfl ?_
   refine ro_skip rfl rfl ?_
   refine rs rfl rfl (ok_pickb (t := true) (d := true) rfl rfl rfl) ?_
   refine rs rfl rfl (ok_moveb (c := true) (.inr rfl) rfl) ?_
   refine ro_nil ?_
   refine keepK hK19 [2] (by dsimp) (by dsimp) ?_
   refine T.ret (hQ _ _ _ rfl ?_).1 -- ret 5
   exact by (rw [muchB_true (fun h => by have := h.2.1; simp only [Zns_len] at *; omega)]; exact TEnt.fin [] (by decide) (by simp) rfl ⟨rfl, trivial⟩)
  ·(try simp only [dE] at hb)
   refine rs rfl rfl (ok_fieldAddr rfl ti_api_State rfl rfl ti_Lint (by decide) rfl) ?_
   refine rs rfl rfl (ok_load rfl ti_Lint rfl rfl) ?_
   refine rs rfl rfl (ok_len' rfl rfl ti_Lint rfl (by first | exact ints_length _ _ | exact rowsA_length _ _ | exact Cms_len _ | exact mapLen _ | rfl)) ?_
   refine rs rfl rfl (ok_binOp rfl ti_int rfl) ?_
   refine rs rfl rfl (ok_pick rfl rfl) ?_
   refine rs rfl rfl (ok_move (.inr rfl)) ?_
   refine ro_nil ?_
   refine keepK hK19 [2] (by dsimp) (by dsimp) ?_
   refine T.ret (hQ _ _ _ rfl ?_).1 -- ret 6
   have e : muchB s = decide ((s.st.length : Int) > 30) := by
     simp only [Zns_len] at *
     have hf : FewZ s.zs (min s.zs.length 80) := by rw [show min s.zs.length 80 = i by omega]; exact hfew
     by_cases h : s.st.length ≤ 30
     · rw [muchB_false ⟨hf, by omega, h⟩, decide_eq_false (by omega)]
     · rw [muchB_true (fun h' => h h'.2.2), decide_eq_true (by omega)]
   rw [e]; exact TEnt.fin [] (by decide) (by simp) rfl ⟨rfl, trivial⟩
end Go.Proofs.YtjklgbafnfoolaaGreat.AmF
namespace Go.Proofs.YtjklgbafnfoolaaGreat.AmF
open Go Go.AM
set_option maxRecDepth 100000
set_option linter.unusedSimpArgs false
set_option linter.unusedVariables false
theorem encPs_len : ∀ l : List Pr, ((encPs l).length : Int) = 16 * l.length + sumP l
  | [] => rfl
  | p :: l => by
    have ih := encPs_len l
    have h : sumP (p :: l) = p.b.length + sumP l := by simp [sumP]
    rw [encPs, encP, h]
    simp [enc_len]
    omega
theorem encZs_le : ∀ zs : List Zn, (∀ z ∈ zs, z.pars.length ≤ 5) → ((encZs zs).length : Int) ≤ 114 * zs.length + sumB zs
  | [], _ => by simp [encZs, sumB]
  | z :: zs, h => by
    have ih := encZs_le zs fun y hy => h y (List.mem_cons_of_mem _ hy)
    have h0 := h z (List.mem_cons_self ..)
    have h1 : sumB (z :: zs) = sumP z.pars + sumB zs := by simp [sumB]
    have h2 := encPs_len z.pars
    have h3 := headZ_len z
    rw [encZs, encZ, h1, List.length_append, List.length_append, List.length_cons]
    omega
theorem encSt_le {s : St} (h : FewS s) : (encSt s).length ≤ 1000000 := by
  have h1 := encZs_le s.zs fun z hz => FewS_pars h hz
  obtain ⟨f1, f2, f3⟩ := h
  rw [show min s.zs.length 80 = s.zs.length by omega] at f1
  have h2 := sumB_of f1 (Nat.le_refl _)
  rw [List.take_length] at h2
  have h3 := headS_len s
  have h4 := encs_len s.st
  rw [encSt, List.length_append, List.length_append]
  omega
end Go.Proofs.YtjklgbafnfoolaaGreat.AmF
namespace Go.Proofs.YtjklgbafnfoolaaGreat.AmF
open Go Go.AM
set_option maxRecDepth 100000
set_option linter.unusedSimpArgs false
set_option linter.unusedVariables false
def SizedS (s : St) : Prop := s.st.length ≤ 140737488355328 ∧ s.zs.length ≤ 140737488355328 ∧ (∀ z ∈ s.zs, z.pars.length ≤ 140737488355328) ∧ ∀ z ∈ s.zs, ∀ p ∈ z.pars, p.b.length ≤ 140737488355328
abbrev PrT := Int × List Int
abbrev ZnT := Int × Int × Bool × Int × Bool × List PrT
abbrev StT := Cf11 × Int × Int × List Int × List ZnT
def prOf (a : PrT) : Pr := ⟨a.1, a.2⟩
def znOf (a : ZnT) : Zn := ⟨a.1, a.2.1, a.2.2.1, a.2.2.2.1, a.2.2.2.2.1, a.2.2.2.2.2.map prOf⟩
def stOf (a : StT) : St := ⟨cfOf a.1, a.2.1, a.2.2.1, a.2.2.2.1, a.2.2.2.2.map znOf⟩
def ZnR (a : ZnT) : List AV := [.int a.1, .int a.2.1, .b a.2.2.1, .int a.2.2.2.1, .b a.2.2.2.2.1, .fz 2 (a.2.2.2.2.2.map fun p => .agg (PrC (prOf p)))]
def StR (a : StT) : List AV := CC (cfOf a.1) ++ [.int a.2.1, .int a.2.2.1, .fz 1 (ints .i64 a.2.2.2.1), .fz 6 (a.2.2.2.2.map fun z => .agg (ZnR z))]
theorem ZnR_eq (a : ZnT) : ZnR a = ZnC (znOf a) := by simp [ZnR, ZnC, znOf, Prs, Function.comp_def]
theorem StR_eq (a : StT) : StR a = StC (stOf a) := by
  simp only [StR, StC, stOf, Zns, List.map_map, Function.comp_def, ZnR_eq]
theorem stOf_sized {a : StT} (h1 : a.2.2.2.1.length ≤ 140737488355328) (h2 : a.2.2.2.2.length ≤ 140737488355328) (h3 : ∀ z ∈ a.2.2.2.2, z.2.2.2.2.2.length ≤ 140737488355328 ∧ ∀ p ∈ z.2.2.2.2.2, p.2.length ≤ 140737488355328) : SizedS (stOf a) := by
  refine ⟨h1, by show (a.2.2.2.2.map znOf).length ≤ _; rw [List.length_map]; exact h2, fun z hz => ?_, fun z hz p hp => ?_⟩
  · obtain ⟨y, hy, rfl⟩ := List.mem_map.1 hz
    show (y.2.2.2.2.2.map prOf).length ≤ _
    rw [List.length_map]
    exact (h3 y hy).1
  · obtain ⟨y, hy, rfl⟩ := List.mem_map.1 hz
    obtain ⟨q, hq, rfl⟩ := List.mem_map.1 hp
    exact (h3 y hy).2 q hq
end Go.Proofs.YtjklgbafnfoolaaGreat.AmF
namespace Go.Proofs.YtjklgbafnfoolaaGreat.AmF
open Go Go.AM
set_option maxRecDepth 100000
set_option maxHeartbeats 4000000
set_option linter.unusedSimpArgs false
set_option linter.unusedVariables false
attribute [local simp] tkeep tget tput ev cav argsTM pickA normT putA splice AV.cells ints_length rowsA_length Prs_len Zns_len
theorem nextB_ok {s : St} {x : Rc} (h : RS s) : nextB s x = putR (atS s x) s.c.blk := if_pos h
theorem nextB_bad {s : St} {x : Rc} (h : ¬ RS s) : nextB s x = [] := if_neg h
theorem snext_ok (s : St) (x : Rc) (hB : Bytes x.body) (hl : x.body.length ≤ 140737488355328) (hsl : s.st.length ≤ 1000000) (hzl : s.zs.length ≤ 1000000) (hpl : ∀ z ∈ s.zs, z.pars.length ≤ 1000000) : CSpec Tryz.prog 10 [] [.agg (StC s), .agg (RcC x)] [] (.fz 1 (ints .u8 (nextB s x))) := by
 refine CSpec.body Tryz.func10 rfl rfl rfl rfl rfl fun Q hQ => ?_
 refine T.seq fun K1 hK1 => ?_
 refine T.region ?_
 refine rs rfl rfl (ok_box (n := 15) rfl rfl (by decide)) ?_
 refine rs rfl rfl (ok_box (n := 10) rfl rfl (by decide)) ?_
 refine rs rfl rfl (ok_move (.inr rfl)) ?_
 refine ro_nil ?_
 refine keepK hK1 [2, 3] (by dsimp) (by dsimp) ?_
 refine T.seq fun K2 hK2 => ?_
 refine T.seq fun K3 hK3 => ?_
 refine T.region ?_
 refine rs rfl rfl (ok_load rfl ti_api_State rfl rfl) ?_
 refine ro rfl rfl (ok_call rfl rfl rfl ((sright_ok s (by omega) (by omega) (fun z hz => by have := hpl z hz; omega)).plain (by simp [renL, AV.ren, StC_take, StC_ren]) rfl)) ?_
 refine rs rfl rfl (ok_unOp rfl rfl) ?_
 refine ro_nil ?_
 refine keepK hK3 [2, 3, 7] (by dsimp) (by dsimp) ?_
 refine T.cond rfl (fun hc => ?_) (fun hc => ?_) -- cond 1
 ·(try simp only [dE] at hc)
  rw [nextB_bad hc] at hQ
  refine T.seq fun K4 hK4 => ?_
  refine T.region ?_
  refine rs rfl rfl (ok_move (.inr rfl)) ?_
  refine ro_nil ?_
  refine keepK hK4 [4] (by dsimp) (by dsimp) ?_
  refine T.ret (hQ _ _ _ rfl ?_).1 -- ret 1
  exact by first | exact nil_end rfl rfl | exact TEnt.fin [] (by decide) (by simp) rfl ⟨by simp [tupA, AV.ren, renL_ints], trivial⟩
 ·(try simp only [dE] at hc)
  have hrs : RS s := hc
  have hsq := hrs.2.2.1
  rw [nextB_ok hrs] at hQ
  refine T.skip ?_
  refine keepK hK2 [2, 3] (by dsimp) (by dsimp) ?_
  refine T.seq fun K5 hK5 => ?_
  refine T.draw mixed (SH [] (HeldL ([some (StB s)]))) ?_
  refine any_take 0 rfl (by first | rfl | decide +kernel) rfl (by first | (simp [HeldL]; done) | (simp only [dH]; (repeat' first | trivial | rfl | constructor))) (fun H' hH => OpOk.step (ok_fieldAddr rfl ti_api_State rfl rfl ti_int (by decide) rfl)) ?_
  refine any_take 1 rfl (by first | rfl | decide +kernel) rfl (by first | (simp [HeldL]; done) | (simp only [dH]; (repeat' first | trivial | rfl | constructor))) (fun H' hH => OpOk.step (ok_load rfl ti_int (locA_held hH rfl) rfl)) ?_
  refine any_take 2 rfl (by first | rfl | decide +kernel) rfl (by first | (simp [HeldL]; done) | (simp only [dH]; (repeat' first | trivial | rfl | constructor))) (fun H' hH => OpOk.step (ok_fieldAddr rfl ti_api_State rfl rfl ti_int (by decide) rfl)) ?_
  refine any_take 3 rfl (by first | rfl | decide +kernel) rfl (by first | (simp [HeldL]; done) | (simp only [dH]; (repeat' first | trivial | rfl | constructor))) (fun H' hH => OpOk.step (ok_load rfl ti_int (locA_held hH rfl) rfl)) ?_
  refine any_take 4 rfl (by first | rfl | decide +kernel) rfl (by first | (simp [HeldL]; done) | (simp only [dH]; (repeat' first | trivial | rfl | constructor))) (fun H' hH => OpOk.step (ok_add64 rfl ti_int rfl rfl (by omega) (by omega))) ?_
  refine any_take 5 rfl (by first | rfl | decide +kernel) rfl (by first | (simp [HeldL]; done) | (simp only [dH]; (repeat' first | trivial | rfl | constructor))) (fun H' hH => OpOk.step (ok_fieldAddr rfl ti_api_Rec rfl rfl ti_int (by decide) rfl)) ?_
  refine any_one 6 rfl (by first | rfl | decide +kernel) rfl rfl (OpOk.step (ok_store rfl ti_int (by decide) rfl rfl rfl rfl rfl (by first | exact Nat.le_of_ble_eq_true rfl | simp) (by first | exact .inl ⟨rfl, rfl⟩ | exact .inr rfl))) (.inr (by first | (simp [HeldL]; done) | (simp only [dH]; (repeat' first | trivial | rfl | constructor)))) ?_
  refine any_take 7 rfl (by first | rfl | decide +kernel) rfl (by first | (simp [HeldL]; done) | (simp only [dH]; (repeat' first | trivial | rfl | constructor))) (fun H' hH => OpOk.step (ok_fieldAddr rfl ti_api_Rec rfl rfl ti_int (by decide) rfl)) ?_
  refine any_one 8 rfl (by first | rfl | decide +kernel) rfl rfl (OpOk.step (ok_store rfl ti_int (by decide) rfl rfl rfl rfl rfl (by first | exact Nat.le_of_ble_eq_true rfl | simp) (by first | exact .inl ⟨rfl, rfl⟩ | exact .inr rfl))) (.inr (by first | (simp [HeldL]; done) | (simp only [dH]; (repeat' first | trivial | rfl | constructor)))) ?_
  refine any_done rfl ?_
  refine keepK hK5 [2, 3] (by dsimp) (by dsimp) ?_
  refine T.seq fun K6 hK6 => ?_
  refine T.ent (TEnt.toH (tm' := [(2, .ref 0 0 0), (3, .ref 1 0 0)]) (H' := [some (StB s), some (RcB (atS s x))]) rfl ⟨rfl, rfl, trivial⟩) ?_
  refine T.region ?_
  refine rs rfl rfl (ok_load rfl ti_api_Rec rfl rfl) ?_
  refine rs rfl rfl (ok_fieldAddr rfl ti_api_State rfl rfl ti_api_Conf (by decide) rfl) ?_
  refine rs rfl rfl (ok_fieldAddr rfl ti_api_Conf rfl rfl ti_int (by decide) rfl) ?_
  refine rs rfl rfl (ok_load rfl ti_int rfl rfl) ?_
  refine ro rfl rfl (ok_call rfl rfl rfl ((put_ok (atS s x) s.c.blk hB hl).plain (by show renL _ [.agg (List.take 10 (RcC (atS s x))), .int s.c.blk] = _; rw [RcC_take]; simp [renL, AV.ren, RcC_ren]) (by simp [AV.ren, renL_ints]))) ?_
  refine rs rfl rfl (ok_move (.inr rfl)) ?_
  refine ro_nil ?_
  refine keepK hK6 [4] (by dsimp) (by dsimp) ?_
  refine T.ret (hQ _ _ _ rfl ?_).1 -- ret 2
  exact by first | exact nil_end rfl rfl | exact TEnt.fin [] (by decide) (by simp) rfl ⟨by simp [tupA, AV.ren, renL_ints], trivial⟩
theorem r12next_ok (s : St) (x : Rc) (hB : Bytes x.body) (hl : x.body.length ≤ 140737488355328) (hsl : s.st.length ≤ 1000000) (hzl : s.zs.length ≤ 1000000) : CSpec Tryz.prog 11 [] [.agg (StC s), .agg (RcC x)] [] (.fz 1 (ints .u8 (nextB s x))) := by
 refine CSpec.body Tryz.func11 rfl rfl rfl rfl rfl fun Q hQ => ?_
 refine T.seq fun K1 hK1 => ?_
 refine T.region ?_
 refine rs rfl rfl (ok_box (n := 15) rfl rfl (by decide)) ?_
 refine rs rfl rfl (ok_box (n := 10) rfl rfl (by decide)) ?_
 refine rs rfl rfl (ok_move (.inr rfl)) ?_
 refine ro_nil ?_
 refine keepK hK1 [2, 3] (by dsimp) (by dsimp) ?_
 refine T.seq fun K2 hK2 => ?_
 refine T.seq fun K3 hK3 => ?_
 refine T.region ?_
 refine rs rfl rfl (ok_load rfl ti_api_State rfl rfl) ?_
 refine ro rfl rfl (ok_call rfl rfl rfl ((rsright_ok s (by omega) (by omega)).plain (by simp [renL, AV.ren, StC_take, StC_ren]) rfl)) ?_
 refine rs rfl rfl (ok_unOp rfl rfl) ?_
 refine ro_nil ?_
 refine keepK hK3 [2, 3, 7] (by dsimp) (by dsimp) ?_
 refine T.cond rfl (fun hc => ?_) (fun hc => ?_) -- cond 1
 ·(try simp only [dE] at hc)
  rw [nextB_bad hc] at hQ
  refine T.seq fun K4 hK4 => ?_
  refine T.region ?_
  refine rs rfl rfl (ok_move (.inr rfl)) ?_
  refine ro_nil ?_
  refine keepK hK4 [4] (by dsimp) (by dsimp) ?_
  refine T.ret (hQ _ _ _ rfl ?_).1 -- ret 1
  exact by first | exact nil_end rfl rfl | exact TEnt.fin [] (by decide) (by simp) rfl ⟨by simp [tupA, AV.ren, renL_ints], trivial⟩
 ·(try simp only [dE] at hc)
  have hrs : RS s := hc
  have hsq := hrs.2.2.1
  rw [nextB_ok hrs] at hQ
  refine T.skip ?_
  refine keepK hK2 [2, 3] (by dsimp) (by dsimp) ?_
  refine T.seq fun K5 hK5 => ?_
  refine T.region ?_
  refine rs rfl rfl (ok_fieldAddr rfl ti_api_State rfl rfl ti_int (by decide) rfl) ?_
  refine rs rfl rfl (ok_load rfl ti_int rfl rfl) ?_
  refine rs rfl rfl (ok_fieldAddr rfl ti_api_Rec rfl rfl ti_int (by decide) rfl) ?_
  refine rs rfl rfl (ok_store rfl ti_int (by decide) rfl rfl rfl rfl rfl (by first | exact Nat.le_of_ble_eq_true rfl | simp) (by first | exact .inl ⟨rfl, rfl⟩ | exact .inr rfl)) ?_
  refine ro_nil ?_
  refine keepK hK5 [2, 3] (by dsimp) (by dsimp) ?_
  refine T.seq fun K6 hK6 => ?_
  refine T.region ?_
  refine rs rfl rfl (ok_fieldAddr rfl ti_api_State rfl rfl ti_int (by decide) rfl) ?_
  refine rs rfl rfl (ok_load rfl ti_int rfl rfl) ?_
  refine rs rfl rfl (ok_add64 rfl ti_int rfl rfl (by omega) (by omega)) ?_
  refine rs rfl rfl (ok_fieldAddr rfl ti_api_Rec rfl rfl ti_int (by decide) rfl) ?_
  refine rs rfl rfl (ok_store rfl ti_int (by decide) rfl rfl rfl rfl rfl (by first | exact Nat.le_of_ble_eq_true rfl | simp) (by first | exact .inl ⟨rfl, rfl⟩ | exact .inr rfl)) ?_
  refine ro_nil ?_
  refine keepK hK6 [2, 3] (by dsimp) (by dsimp) ?_
  refine T.seq fun K7 hK7 => ?_
  refine T.ent (TEnt.toH (tm' := [(2, .ref 0 0 0), (3, .ref 1 0 0)]) (H' := [some (StB s), some (RcB (atS s x))]) rfl ⟨rfl, rfl, trivial⟩) ?_
  refine T.region ?_
  refine rs rfl rfl (ok_load rfl ti_api_Rec rfl rfl) ?_
  refine rs rfl rfl (ok_fieldAddr rfl ti_api_State rfl rfl ti_api_Conf (by decide) rfl) ?_
  refine rs rfl rfl (ok_fieldAddr rfl ti_api_Conf rfl rfl ti_int (by decide) rfl) ?_
  refine rs rfl rfl (ok_load rfl ti_int rfl rfl) ?_
  refine ro rfl rfl (ok_call rfl rfl rfl ((rrput_ok (atS s x) s.c.blk hB hl).plain (by show renL _ [.agg (List.take 10 (RcC (atS s x))), .int s.c.blk] = _; rw [RcC_take]; simp [renL, AV.ren, RcC_ren]) (by simp [AV.ren, renL_ints]))) ?_
  refine rs rfl rfl (ok_move (.inr rfl)) ?_
  refine ro_nil ?_
  refine keepK hK7 [4] (by dsimp) (by dsimp) ?_
  refine T.ret (hQ _ _ _ rfl ?_).1 -- ret 2
  exact by first | exact nil_end rfl rfl | exact TEnt.fin [] (by decide) (by simp) rfl ⟨by simp [tupA, AV.ren, renL_ints], trivial⟩
theorem r12first_ok (s : St) (m : Int) (hT : RS s → (encSt s).length ≤ 1000000) (hB : ∀ z ∈ s.zs, ∀ p ∈ z.pars, Bytes p.b) (hsl : s.st.length ≤ 1000000) (hzl : s.zs.length ≤ 1000000) : CSpec Tryz.prog 9 [] [.agg (StC s), .int m] [] (.fz 1 (ints .u8 (firstB s m))) := by
 refine CSpec.body Tryz.func9 rfl rfl rfl rfl rfl fun Q hQ => ?_
 refine T.seq fun K1 hK1 => ?_
 refine T.region ?_
 refine rs rfl rfl (ok_box (n := 15) rfl rfl (by decide)) ?_
 refine rs rfl rfl (ok_move (.inr rfl)) ?_
 refine ro_nil ?_
 refine keepK hK1 [1, 2] (by dsimp) (by dsimp) ?_
 refine T.seq fun K2 hK2 => ?_
 refine T.seq fun K3 hK3 => ?_
 refine T.region ?_
 refine rs rfl rfl (ok_load rfl ti_api_State rfl rfl) ?_
 refine ro rfl rfl (ok_call rfl rfl rfl ((rsright_ok s (by omega) (by omega)).plain (by simp [renL, AV.ren, StC_take, StC_ren]) rfl)) ?_
 refine rs rfl rfl (ok_unOp rfl rfl) ?_
 refine ro_case rfl rfl (OpOk.step (ok_moveb (.inl rfl) rfl)) (fun hb => ?_) (fun hb => ?_)
 ·(try simp only [dE] at hb)
  rw [firstB_bad (fun h => hb h.1)] at hQ
  refine ro_skip rfl rfl ?_
  refine ro_skip rfl rfl ?_
  refine rs rfl rfl (ok_pickb (t := true) (d := true) rfl rfl rfl) ?_
  refine rs rfl rfl (ok_moveb (c := true) (.inl rfl) rfl) ?_
  refine ro_skip rfl rfl ?_
  refine ro_skip rfl rfl ?_
  refine ro_skip rfl rfl ?_
  refine ro_skip rfl rfl ?_
  refine ro_skip rfl rfl ?_
  refine rs rfl rfl (ok_pickb (t := true) (d := true) rfl rfl rfl) ?_
  refine ro_nil ?_
  refine keepK hK3 [1, 2, 18] (by dsimp) (by dsimp) ?_
  refine T.cond_true rfl ?_
  refine T.seq fun K4 hK4 => ?_
  refine T.region ?_
  refine rs rfl rfl (ok_move (.inr rfl)) ?_
  refine ro_nil ?_
  refine keepK hK4 [4] (by dsimp) (by dsimp) ?_
  refine T.ret (hQ _ _ _ rfl ?_).1 -- ret 1
  exact by first | exact nil_end rfl rfl | exact TEnt.fin [] (by decide) (by simp) rfl ⟨by simp [tupA, AV.ren, renL_ints], trivial⟩
 ·(try simp only [dE] at hb)
  have hrs : RS s := by simpa using hb
  have hlm := hrs.2.2.2.1
  refine rs rfl rfl (ok_move (.inl rfl)) ?_
  refine rs rfl rfl (ok_binOp rfl ti_int rfl) ?_
  refine rs rfl rfl (ok_pick rfl rfl) ?_
  refine ro_case rfl rfl (OpOk.step (ok_moveb (.inl rfl) rfl)) (fun hb => ?_) (fun hb => ?_)
  ·(try simp only [dE] at hb)
   rw [firstB_bad (fun h => by have := h.2.1; omega)] at hQ
   refine ro_skip rfl rfl ?_
   refine ro_skip rfl rfl ?_
   refine ro_skip rfl rfl ?_
   refine ro_skip rfl rfl ?_
   refine ro_skip rfl rfl ?_
   refine rs rfl rfl (ok_pickb (t := true) (d := true) rfl rfl rfl) ?_
   refine ro_nil ?_
   refine keepK hK3 [1, 2, 18] (by dsimp) (by dsimp) ?_
   refine T.cond_true rfl ?_
   refine T.seq fun K5 hK5 => ?_
   refine T.region ?_
   refine rs rfl rfl (ok_move (.inr rfl)) ?_
   refine ro_nil ?_
   refine keepK hK5 [4] (by dsimp) (by dsimp) ?_
   refine T.ret (hQ _ _ _ rfl ?_).1 -- ret 2
   exact by first | exact nil_end rfl rfl | exact TEnt.fin [] (by decide) (by simp) rfl ⟨by simp [tupA, AV.ren, renL_ints], trivial⟩
  ·(try simp only [dE] at hb)
   have hm0 : 0 ≤ m := by omega
   refine rs rfl rfl (ok_move (.inl rfl)) ?_
   refine rs rfl rfl (ok_fieldAddr rfl ti_api_State rfl rfl ti_Lint (by decide) rfl) ?_
   refine rs rfl rfl (ok_load rfl ti_Lint rfl rfl) ?_
   refine rs rfl rfl (ok_len' rfl rfl ti_Lint rfl (by first | exact ints_length _ _ | exact rowsA_length _ _ | exact Cms_len _ | exact mapLen _ | rfl)) ?_
   refine rs rfl rfl (ok_binOp rfl ti_int rfl) ?_
   refine rs rfl rfl (ok_pick rfl rfl) ?_
   refine ro_nil ?_
   refine keepK hK3 [1, 2, 18] (by dsimp) (by dsimp) ?_
   refine T.cond rfl (fun hc => ?_) (fun hc => ?_) -- cond 1
   ·(try simp only [dE] at hc)
    rw [firstB_bad (fun h => by have := h.2.2; (try simp only [ints_length] at hc); omega)] at hQ
    refine T.seq fun K6 hK6 => ?_
    refine T.region ?_
    refine rs rfl rfl (ok_move (.inr rfl)) ?_
    refine ro_nil ?_
    refine keepK hK6 [4] (by dsimp) (by dsimp) ?_
    refine T.ret (hQ _ _ _ rfl ?_).1 -- ret 3
    exact by first | exact nil_end rfl rfl | exact TEnt.fin [] (by decide) (by simp) rfl ⟨by simp [tupA, AV.ren, renL_ints], trivial⟩
   ·(try simp only [dE] at hc)
    rw [firstB_ok ⟨hrs, hm0, by (try simp only [ints_length] at hc); omega⟩] at hQ
    have hput := (rput11_new s hrs (hT hrs) hsl hzl).frz (by simp) (renL_ints _ _ _)
    refine T.skip ?_
    refine keepK hK2 [1, 2] (by dsimp) (by dsimp) ?_
    refine T.seq fun K7 hK7 => ?_
    refine T.drawH mixed [] ?_
    refine any_take 0 rfl (by first | rfl | decide +kernel) rfl (HeldL.refl _) (fun H' hH => OpOk.step (ok_fieldAddr rfl ti_api_State rfl rfl ti_int (by decide) rfl)) ?_
    refine any_take 1 rfl (by first | rfl | decide +kernel) rfl (HeldL.refl _) (fun H' hH => OpOk.step (ok_load rfl ti_int (locA_held hH rfl) rfl)) ?_
    refine any_take 2 rfl (by first | rfl | decide +kernel) rfl (HeldL.refl _) (fun H' hH => OpOk.step (ok_fieldAddr rfl ti_api_State rfl rfl ti_int (by decide) rfl)) ?_
    refine any_take 3 rfl (by first | rfl | decide +kernel) rfl (HeldL.refl _) (fun H' hH => OpOk.step (ok_load rfl ti_int (locA_held hH rfl) rfl)) ?_
    refine any_take 4 rfl (by first | rfl | decide +kernel) rfl (HeldL.refl _) (fun H' hH => OpOk.step (ok_move (.inl rfl))) ?_
    refine any_take 5 rfl (by first | rfl | decide +kernel) rfl (HeldL.refl _) (fun H' hH => OpOk.step (ok_load rfl ti_api_State (locA_held hH rfl) rfl)) ?_
    refine any_take 8 rfl (by first | rfl | decide +kernel) rfl (HeldL.refl _) (fun H' hH => OpOk.step (ok_fieldAddr rfl ti_api_State rfl rfl ti_api_Conf (by decide) rfl)) ?_
    refine any_take 9 rfl (by first | rfl | decide +kernel) rfl (HeldL.refl _) (fun H' hH => OpOk.step (ok_fieldAddr rfl ti_api_Conf rfl rfl ti_int (by decide) rfl)) ?_
    refine any_take 10 rfl (by first | rfl | decide +kernel) rfl (HeldL.refl _) (fun H' hH => OpOk.step (ok_load rfl ti_int (locA_held hH rfl) rfl)) ?_
    refine any_one 6 rfl (by first | rfl | decide +kernel) rfl rfl (ok_call rfl rfl rfl (hput.plain (by simp [renL, AV.ren, StC_take, StC_ren]) (by simp [AV.ren, renL_ints]))) (.inr (by first | (simp [HeldL]; done) | (simp only [dH]; (repeat' first | trivial | rfl | constructor)))) ?_
    refine any_take 7 rfl (by first | rfl | decide +kernel) rfl (by first | exact HeldL.refl _ | exact HeldL.append _ _ | simp [HeldL]) (fun H' hH => OpOk.step (ok_build rfl ti_api_Rec rfl)) ?_
    refine any_one 11 rfl (by first | rfl | decide +kernel) rfl rfl (ok_call rfl rfl rfl ((rrput_ok (ckR s m) s.c.blk (encSt_bytes hB) (by have := hT hrs; show (encSt s).length ≤ _; omega)).plain (by show renL _ [.agg (RcC (ckR s m)), .int s.c.blk] = _; simp [renL, AV.ren, RcC_ren]) (by simp [AV.ren, renL_ints]))) (.inr (by first | (simp [HeldL]; done) | (simp only [dH]; (repeat' first | trivial | rfl | constructor)))) ?_
    refine any_take 12 rfl (by first | rfl | decide +kernel) rfl (by first | exact HeldL.refl _ | exact HeldL.append _ _ | simp [HeldL]) (fun H' hH => OpOk.step (ok_move (.inr rfl))) ?_
    refine any_done rfl ?_
    refine keepK hK7 [4] (by dsimp) (by dsimp) ?_
    refine T.ret (hQ _ _ _ rfl ?_).1 -- ret 4
    exact by first | exact nil_end rfl rfl | exact TEnt.fin [] (by decide) (by simp) rfl ⟨by simp [tupA, AV.ren, renL_ints], trivial⟩
theorem scanLays_ok (s : St) (m : Int) (x : Rc) (hs : SizedS s) (hB : ∀ z ∈ s.zs, ∀ p ∈ z.pars, Bytes p.b) (hx : Bytes x.body) (hxl : x.body.length ≤ 140737488355328) : CSpec Tryz.prog 3 [] [.agg (StC s), .int m, .agg (RcC x)] [] (.b true) := by
 refine CSpec.body Tryz.func3 rfl rfl rfl rfl rfl fun Q hQ => ?_
 refine T.seq fun K1 hK1 => ?_
 refine T.region ?_
 refine rs rfl rfl (ok_box (n := 15) rfl rfl (by decide)) ?_
 refine rs rfl rfl (ok_box (n := 10) rfl rfl (by decide)) ?_
 refine rs rfl rfl (ok_moveb (c := false) (.inr rfl) rfl) ?_
 refine ro_nil ?_
 refine keepK hK1 [1, 3, 5] (by dsimp) (by dsimp) ?_
 refine T.seq fun K2 hK2 => ?_
 refine T.seq fun K3 hK3 => ?_
 refine T.region ?_
 refine rs rfl rfl (ok_load rfl ti_api_State rfl rfl) ?_
 refine ro rfl rfl (ok_call rfl rfl rfl ((smuch_ok s hs.1 hs.2.1 hs.2.2.1 hs.2.2.2).plain (by simp [renL, AV.ren, StC_take, StC_ren]) rfl)) ?_
 refine ro_case rfl rfl (OpOk.step (ok_moveb (.inl rfl) rfl)) (fun hb => ?_) (fun hb => ?_)
 ·(try simp only [dE] at hb)
  refine ro_skip rfl rfl ?_
  refine ro_skip rfl rfl ?_
  refine ro_skip rfl rfl ?_
  refine ro_skip rfl rfl ?_
  refine rs rfl rfl (ok_pickb (t := true) (d := true) rfl rfl rfl) ?_
  refine ro_nil ?_
  refine keepK hK3 [1, 3, 5, 14] (by dsimp) (by dsimp) ?_
  refine T.cond_true rfl ?_
  refine T.seq fun K4 hK4 => ?_
  refine T.region ?_
  refine ro rfl rfl (ok_call rfl rfl rfl (live12_ok.plain rfl rfl)) ?_
  refine rs rfl rfl (ok_move (.inr rfl)) ?_
  refine ro_nil ?_
  refine keepK hK4 [6] (by dsimp) (by dsimp) ?_
  refine T.ret (hQ _ _ _ rfl ?_).1 -- ret 1
  exact TEnt.fin [] (by decide) (by simp) rfl ⟨rfl, trivial⟩
 ·(try simp only [dE] at hb)
  have hf : FewS s := FewS_of hb
  have hf2 := hf.2.1
  have hf3 := hf.2.2
  have hp6 : ∀ z ∈ s.zs, z.pars.length ≤ 1000000 := fun z hz => by have := FewS_pars hf hz; omega
  refine rs rfl rfl (ok_fieldAddr rfl ti_api_Rec rfl rfl ti_Luint8 (by decide) rfl) ?_
  refine rs rfl rfl (ok_load rfl ti_Luint8 rfl rfl) ?_
  refine rs rfl rfl (ok_len' rfl rfl ti_Luint8 rfl (by first | exact ints_length _ _ | exact rowsA_length _ _ | exact Cms_len _ | exact mapLen _ | rfl)) ?_
  refine rs rfl rfl (ok_binOp rfl ti_int rfl) ?_
  refine rs rfl rfl (ok_pick rfl rfl) ?_
  refine ro_nil ?_
  refine keepK hK3 [1, 3, 5, 14] (by dsimp) (by dsimp) ?_
  refine T.cond rfl (fun hc => ?_) (fun hc => ?_) -- cond 1
  ·(try simp only [dE] at hc)
   refine T.seq fun K5 hK5 => ?_
   refine T.region ?_
   refine ro rfl rfl (ok_call rfl rfl rfl (live12_ok.plain rfl rfl)) ?_
   refine rs rfl rfl (ok_move (.inr rfl)) ?_
   refine ro_nil ?_
   refine keepK hK5 [6] (by dsimp) (by dsimp) ?_
   refine T.ret (hQ _ _ _ rfl ?_).1 -- ret 2
   exact TEnt.fin [] (by decide) (by simp) rfl ⟨rfl, trivial⟩
  ·(try simp only [dE] at hc)
   refine T.skip ?_
   refine keepK hK2 [1, 3, 5] (by dsimp) (by dsimp) ?_
   refine T.seq fun K6 hK6 => ?_
   refine T.draw mixed (SH [] (HeldL ([some (StB s), some (RcB x)]))) ?_
   refine any_take 0 rfl (by first | rfl | decide +kernel) rfl (by first | (simp [HeldL]; done) | (simp only [dH]; (repeat' first | trivial | rfl | constructor))) (fun H' hH => OpOk.step (ok_load rfl ti_api_State (locA_held hH rfl) rfl)) ?_
   refine any_take 1 rfl (by first | rfl | decide +kernel) rfl (by first | (simp [HeldL]; done) | (simp only [dH]; (repeat' first | trivial | rfl | constructor))) (fun H' hH => OpOk.step (ok_move (.inl rfl))) ?_
   refine any_take 4 rfl (by first | rfl | decide +kernel) rfl (by first | (simp [HeldL]; done) | (simp only [dH]; (repeat' first | trivial | rfl | constructor))) (fun H' hH => OpOk.step (ok_load rfl ti_api_State (locA_held hH rfl) rfl)) ?_
   refine any_take 5 rfl (by first | rfl | decide +kernel) rfl (by first | (simp [HeldL]; done) | (simp only [dH]; (repeat' first | trivial | rfl | constructor))) (fun H' hH => OpOk.step (ok_move (.inl rfl))) ?_
   refine any_one 2 rfl (by first | rfl | decide +kernel) rfl rfl (ok_call rfl rfl rfl ((sfirst_ok s m (fun _ => encSt_le hf) hB (by omega) (by omega) hp6).plain (by simp [renL, AV.ren, StC_take, StC_ren]) (by simp [AV.ren, renL_ints]))) (.inr (by first | (simp [HeldL]; done) | (simp only [dH]; (repeat' first | trivial | rfl | constructor)))) ?_
   refine any_take 3 rfl (by first | rfl | decide +kernel) rfl (by first | (simp [HeldL]; done) | (simp only [dH]; (repeat' first | trivial | rfl | constructor))) (fun H' hH => OpOk.step (ok_conv_str rfl ti_Luint8 ti_string rfl ti_uint8 rfl rfl (rowA_held hH rfl) rfl (bytesOf_ints _))) ?_
   refine any_one 6 rfl (by first | rfl | decide +kernel) rfl rfl (ok_call rfl rfl rfl ((r12first_ok s m (fun _ => encSt_le hf) hB (by omega) (by omega)).plain (by simp [renL, AV.ren, StC_take, StC_ren]) (by simp [AV.ren, renL_ints]))) (.inr (by first | (simp [HeldL]; done) | (simp only [dH]; (repeat' first | trivial | rfl | constructor)))) ?_
   refine any_take 7 rfl (by first | rfl | decide +kernel) rfl (by first | (simp [HeldL]; done) | (simp only [dH]; (repeat' first | trivial | rfl | constructor))) (fun H' hH => OpOk.step (ok_conv_str rfl ti_Luint8 ti_string rfl ti_uint8 rfl rfl (rowA_held hH rfl) rfl (bytesOf_ints _))) ?_
   refine any_take 8 rfl (by first | rfl | decide +kernel) rfl (by first | (simp [HeldL]; done) | (simp only [dH]; (repeat' first | trivial | rfl | constructor))) (fun H' hH => OpOk.step ((ok_binOp rfl ti_string rfl).eq (x' := .b true) (by show AV.b (strEq (firstB s m) (firstB s m)) = _; rw [strEq_refl]) rfl)) ?_
   refine any_take 9 rfl (by first | rfl | decide +kernel) rfl (by first | (simp [HeldL]; done) | (simp only [dH]; (repeat' first | trivial | rfl | constructor))) (fun H' hH => OpOk.step (OpOk.bool (d := true) (ok_moveb (.inl rfl) rfl) (rfl))) ?_
   refine any_take 10 rfl (by first | rfl | decide +kernel) rfl (by first | (simp [HeldL]; done) | (simp only [dH]; (repeat' first | trivial | rfl | constructor))) (fun H' hH => OpOk.step (ok_load rfl ti_api_State (locA_held hH rfl) rfl)) ?_
   refine any_take 11 rfl (by first | rfl | decide +kernel) rfl (by first | (simp [HeldL]; done) | (simp only [dH]; (repeat' first | trivial | rfl | constructor))) (fun H' hH => OpOk.step (ok_load rfl ti_api_Rec (locA_held hH rfl) rfl)) ?_
   refine any_take 14 rfl (by first | rfl | decide +kernel) rfl (by first | (simp [HeldL]; done) | (simp only [dH]; (repeat' first | trivial | rfl | constructor))) (fun H' hH => OpOk.step (ok_load rfl ti_api_State (locA_held hH rfl) rfl)) ?_
   refine any_take 15 rfl (by first | rfl | decide +kernel) rfl (by first | (simp [HeldL]; done) | (simp only [dH]; (repeat' first | trivial | rfl | constructor))) (fun H' hH => OpOk.step (ok_load rfl ti_api_Rec (locA_held hH rfl) rfl)) ?_
   refine any_one 12 rfl (by first | rfl | decide +kernel) rfl rfl (ok_call rfl rfl rfl ((snext_ok s x hx hxl (by omega) (by omega) hp6).plain (by simp [renL, AV.ren, StC_take, StC_ren, RcC_take, RcC_ren]) (by simp [AV.ren, renL_ints]))) (.inr (by first | (simp [HeldL]; done) | (simp only [dH]; (repeat' first | trivial | rfl | constructor)))) ?_
   refine any_take 13 rfl (by first | rfl | decide +kernel) rfl (by first | (simp [HeldL]; done) | (simp only [dH]; (repeat' first | trivial | rfl | constructor))) (fun H' hH => OpOk.step (ok_conv_str rfl ti_Luint8 ti_string rfl ti_uint8 rfl rfl (rowA_held hH rfl) rfl (bytesOf_ints _))) ?_
   refine any_one 16 rfl (by first | rfl | decide +kernel) rfl rfl (ok_call rfl rfl rfl ((r12next_ok s x hx hxl (by omega) (by omega)).plain (by simp [renL, AV.ren, StC_take, StC_ren, RcC_take, RcC_ren]) (by simp [AV.ren, renL_ints]))) (.inr (by first | (simp [HeldL]; done) | (simp only [dH]; (repeat' first | trivial | rfl | constructor)))) ?_
   refine any_take 17 rfl (by first | rfl | decide +kernel) rfl (by first | (simp [HeldL]; done) | (simp only [dH]; (repeat' first | trivial | rfl | constructor))) (fun H' hH => OpOk.step (ok_conv_str rfl ti_Luint8 ti_string rfl ti_uint8 rfl rfl (rowA_held hH rfl) rfl (bytesOf_ints _))) ?_
   refine any_take 18 rfl (by first | rfl | decide +kernel) rfl (by first | (simp [HeldL]; done) | (simp only [dH]; (repeat' first | trivial | rfl | constructor))) (fun H' hH => OpOk.step ((ok_binOp rfl ti_string rfl).eq (x' := .b true) (by show AV.b (strEq (nextB s x) (nextB s x)) = _; rw [strEq_refl]) rfl)) ?_
   refine any_take 19 rfl (by first | rfl | decide +kernel) rfl (by first | (simp [HeldL]; done) | (simp only [dH]; (repeat' first | trivial | rfl | constructor))) (fun H' hH => OpOk.step (ok_pick rfl rfl)) ?_
   refine any_take 20 rfl (by first | rfl | decide +kernel) rfl (by first | (simp [HeldL]; done) | (simp only [dH]; (repeat' first | trivial | rfl | constructor))) (fun H' hH => OpOk.step (OpOk.bool (d := true) (ok_moveb (.inl rfl) rfl) (rfl))) ?_
   refine any_one 21 rfl (by first | rfl | decide +kernel) rfl rfl (ok_call rfl rfl rfl (live12_ok.plain rfl rfl)) (.inr (by first | (simp [HeldL]; done) | (simp only [dH]; (repeat' first | trivial | rfl | constructor)))) ?_
   refine any_take 22 rfl (by first | rfl | decide +kernel) rfl (by first | (simp [HeldL]; done) | (simp only [dH]; (repeat' first | trivial | rfl | constructor))) (fun H' hH => OpOk.step (ok_pick rfl rfl)) ?_
   refine any_take 23 rfl (by first | rfl | decide +kernel) rfl (by first | (simp [HeldL]; done) | (simp only [dH]; (repeat' first | trivial | rfl | constructor))) (fun H' hH => OpOk.step (ok_move (.inr rfl))) ?_
   refine any_done rfl ?_
   refine keepK hK6 [6] (by dsimp) (by dsimp) ?_
   refine T.ret (hQ _ _ _ rfl ?_).1 -- ret 3
   exact TEnt.fin [] (by decide) (by simp) rfl ⟨rfl, trivial⟩
theorem scanLays_row (a : StT) (m : Int) (x : Rc10) (h1 : a.2.2.2.1.length ≤ 140737488355328) (h2 : a.2.2.2.2.length ≤ 140737488355328) (h3 : ∀ z ∈ a.2.2.2.2, z.2.2.2.2.2.length ≤ 140737488355328 ∧ ∀ p ∈ z.2.2.2.2.2, p.2.length ≤ 140737488355328) (h4 : ∀ z ∈ a.2.2.2.2, ∀ p ∈ z.2.2.2.2.2, Bytes p.2) (g1 : Bytes (rcOf x).body) (g2 : (rcOf x).body.length ≤ 140737488355328) : CSpec Tryz.prog 3 [] [.agg (StR a), .int m, .agg (RcC (rcOf x))] [] (.b true) := by
  rw [StR_eq]
  refine scanLays_ok (stOf a) m (rcOf x) (stOf_sized h1 h2 h3) ?_ g1 g2
  intro z hz p hp
  obtain ⟨y, hy, rfl⟩ := List.mem_map.1 hz
  obtain ⟨q, hq, rfl⟩ := List.mem_map.1 hp
  exact h4 y hy q hq
end Go.Proofs.YtjklgbafnfoolaaGreat.AmF
namespace Go.AM
open Go.RowKit

def g0 (w : World) : G := ⟨w, [], fun _ => 0, fun _ => 0, fun _ => 0, fun b => b < w.heap.size⟩
theorem g0_ok (w : World) : GOk (g0 w) := ⟨fun id k h => by simp [g0, hget] at h, fun i j k k' h => by simp [g0, hget] at h, fun _ h => h⟩
/-- A kind of data: its cells, and it itself. -/
structure Kd (α : Type) where
  sz : Nat
  C : α → List AV
  el : α → AV
  ok : (∀ a, el a = .agg (C a)) ∨ (sz = 1 ∧ ∀ a, C a = [el a])
def Kd.int (k : IntKind) : Kd Int := ⟨1, fun n => [.v (.int k n)], fun n => .v (.int k n), .inr ⟨rfl, fun _ => rfl⟩⟩
def Kd.bool : Kd Bool := ⟨1, fun n => [.v (.bool n)], fun n => .v (.bool n), .inr ⟨rfl, fun _ => rfl⟩⟩
def Kd.string : Kd ByteArray := ⟨1, fun n => [.v (.string n)], fun n => .v (.string n), .inr ⟨rfl, fun _ => rfl⟩⟩
def Kd.slice {α : Type} (d : Kd α) : Kd (List α) := ⟨1, fun l => [.fz d.sz (l.map d.el)], fun l => .fz d.sz (l.map d.el), .inr ⟨rfl, fun _ => rfl⟩⟩
def Kd.pair {α β : Type} (d : Kd α) (d' : Kd β) : Kd (α × β) := ⟨d.sz + d'.sz, fun x => d.C x.1 ++ d'.C x.2, fun x => .agg (d.C x.1 ++ d'.C x.2), .inl fun _ => rfl⟩
/-- A struct: under words of one's own. -/
def Kd.struct {α β : Type} (d : Kd α) (f : β → α) : Kd β := ⟨d.sz, fun x => d.C (f x), fun x => .agg (d.C (f x)), .inl fun _ => rfl⟩
def Kd.array {α : Type} (n : Nat) (d : Kd α) : Kd (List α) := ⟨n * d.sz, fun l => l.flatMap d.C, fun l => .agg (l.flatMap d.C), .inl fun _ => rfl⟩

def Opens (P : Program) (w : World) {α : Type} (d : Kd α) (t : TypeId) (Wf : α → Prop) : Prop :=
  ∀ (H : Type) (enc : TypeId × Value → H) (base : Nat) (spare : Nat → Bool) (held : Bool) (fuel : Nat) (cs : List Value) (x : DataW H × List MemPlace),
    DataW.trod enc P w base spare held fuel t cs = some x → (∀ n ∈ x.1.weights P t, n ≤ 140737488351232) → ∃ a, cs.length = d.sz ∧ (∀ c ∈ cs, c.oneCell' = true) ∧ RelL (g0 w) (d.C a) cs ∧ Wf a

theorem list_of {α : Type} {Q : Nat → α → Prop} : ∀ {n : Nat}, (∀ i, i < n → ∃ a, Q i a) → ∃ xs : List α, xs.length = n ∧ ∀ i a, xs[i]? = some a → Q i a
  | 0, _ => ⟨[], rfl, fun i a h => by simp at h⟩
  | n + 1, h => by
    obtain ⟨xs, hl, hq⟩ := list_of (n := n) (fun i hi => h i (by omega))
    obtain ⟨a, ha⟩ := h n (by omega)
    refine ⟨xs ++ [a], by simp [hl], fun i b hb => ?_⟩
    rw [List.getElem?_append] at hb
    split at hb
    · exact hq i b hb
    · rename_i hi
      have hi2 : i < (xs ++ [a]).length := by
        rcases Nat.lt_or_ge i (xs ++ [a]).length with h1 | h1
        · exact h1
        · rw [List.getElem?_eq_none (by simp at h1 ⊢; omega)] at hb; cases hb
      have e : i = n := by simp at hi2; omega
      subst e
      rw [show i - xs.length = 0 by omega] at hb
      simp at hb
      subst hb
      exact ha
theorem add_add (a : Addr) (m n : Nat) : (a.add m).add n = a.add (m + n) := by
  unfold Addr.add
  by_cases hm : m = 0
  · subst hm; simp
  · by_cases hn : n = 0
    · subst hn; simp
    · have : m + n ≠ 0 := by omega
      simp [hm, hn]; omega
theorem weightsAll_mem {H : Type} {P : Program} {e : TypeId} : ∀ {l : List (DataW H)} {d : DataW H}, d ∈ l → ∀ n ∈ d.weights P e, n ∈ DataW.weightsAll P e l
  | [], _, h, _, _ => by cases h
  | y :: r, d, h, n, hn => by
    simp only [DataW.weightsAll, List.mem_append]
    rcases List.mem_cons.1 h with rfl | h
    · exact .inl hn
    · exact .inr (weightsAll_mem h n hn)

/-- The value of cells. -/
def Kd.val {α : Type} (d : Kd α) (cs : List Value) (y : Value) : Prop := ((∀ a, d.el a = .agg (d.C a)) ∧ y = .agg cs.toArray) ∨ (cs = [y])
theorem cells_one {y : Value} (h : y.oneCell' = true) : y.cells = #[y] := by cases y <;> simp_all [Value.oneCell', Value.cells]
theorem Kd.rel {α : Type} {d : Kd α} {w : World} {a : α} {cs : List Value} (hl : cs.length = d.sz) (h1 : ∀ c ∈ cs, c.oneCell' = true) (hr : RelL (g0 w) (d.C a) cs) :
    ∃ y, Rel (g0 w) (d.el a) y ∧ y.cells.toList = cs ∧ Flat y d.sz := by
  rcases d.ok with hk | ⟨hz, hk⟩
  · refine ⟨.agg cs.toArray, ?_, by simp [Value.cells], by simpa [Value.cells] using hl, fun j v hv => ?_⟩
    · rw [hk]
      simp only [Rel]
      exact ⟨_, rfl, by simpa using hr⟩
    · simp only [Value.cells, List.getElem?_toArray] at hv
      exact h1 v (List.mem_of_getElem? hv)
  · rw [hk] at hr
    simp only [RelL] at hr
    obtain ⟨y, zs, rfl, hr, rfl⟩ := hr
    have ho := h1 y (by simp)
    have hc := cells_one ho
    refine ⟨y, hr, by rw [hc], by rw [hc, hz]; rfl, fun j v hv => ?_⟩
    rw [hc] at hv
    cases j with
    | zero => simp at hv; subst hv; exact ho
    | succ j => simp at hv
section
variable {P : Program} {w : World} {t e : TypeId}
theorem Opens.int {k : IntKind} (ht : P.underlying t = some (.int k)) : Opens P w (Kd.int k) t (fun n => (Lit.int k n).wf = true) := by
  intro H enc base spare held fuel cs x h _
  obtain ⟨n, rfl, rfl, hw⟩ := DataW.trod_int ht h
  exact ⟨n, rfl, by simp [Value.oneCell'], by simp [Kd.int, Rel, RelL], hw⟩
theorem Opens.bool (ht : P.underlying t = some .bool) : Opens P w Kd.bool t (fun _ => True) := by
  intro H enc base spare held fuel cs x h _
  obtain ⟨b, rfl, rfl⟩ := DataW.trod_bool ht h
  exact ⟨b, rfl, by simp [Value.oneCell'], by simp [Kd.bool, Rel, RelL], trivial⟩
theorem Opens.string (ht : P.underlying t = some .string) : Opens P w Kd.string t (fun s => s.size ≤ 140737488351232) := by
  intro H enc base spare held fuel cs x h hw
  obtain ⟨s, rfl, rfl, _⟩ := DataW.trod_string ht h
  refine ⟨s, rfl, by simp [Value.oneCell'], by simp [Kd.string, Rel, RelL], ?_⟩
  have := hw s.data.toList.length (by simp [DataW.weights])
  simpa using this
theorem Opens.slice {α : Type} {d : Kd α} {Wf : α → Prop} {B : Nat} (h : Opens P w d e Wf) (ht : P.underlying t = some (.slice e)) (hc : P.cellsOf e = d.sz) (hz : 0 < d.sz) (hB : P.bytesOf e = B) :
    Opens P w (Kd.slice d) t (fun xs => xs.length * B ≤ 140737488351232 ∧ ∀ x ∈ xs, Wf x) := by
  intro H enc base spare held fuel cs x hx hw
  rcases DataW.trod_slice ht hx with ⟨rfl, rfl⟩ | ⟨a, len, cap, elems, rest, n, rfl, rfl, rfl, _, hl, hm, hlen, hel, _, _⟩
  · refine ⟨[], rfl, by simp [Value.oneCell'], ?_, by simp, by simp⟩
    simp only [Kd.slice, Rel, RelL]
    exact ⟨_, [], rfl, ⟨none, 0, [], rfl, Nat.le_refl _, by simp [RelL], fun i x h => by simp at h, fun _ => rfl⟩, rfl⟩
  · have hw1 : (elems.length + rest.length) * P.bytesOf e ≤ 140737488351232 := hw _ (by simp [DataW.weights, ht])
    have hw2 : ∀ (i : Nat) y, elems[i]? = some y → ∀ n ∈ y.1.weights P e, n ≤ 140737488351232 := fun i y hy n hn =>
      hw n (by
        simp only [DataW.weights, ht, List.mem_cons, List.mem_append]
        exact .inr (.inl (weightsAll_mem (List.mem_map_of_mem (List.mem_of_getElem? hy)) n hn)))
    obtain ⟨xs, hxl, hxs⟩ := list_of (n := len) (Q := fun i (z : α × Value) => Rel (g0 w) (d.el z.1) z.2 ∧ Flat z.2 d.sz ∧ (∀ (j : Nat) u, z.2.cells[j]? = some u → w.cell? (a.add (i * d.sz + j)) = some u) ∧ Wf z.1) (fun i hi => by
      have h1 := hel i hi
      obtain ⟨y, hy⟩ : ∃ y, elems[i]? = some y := ⟨_, List.getElem?_eq_getElem (by omega)⟩
      rw [hy, Option.bind_eq_some_iff] at h1
      obtain ⟨c, hcs, hty⟩ := h1
      obtain ⟨_, hcl, hcc⟩ := World.cells?_some hcs
      obtain ⟨z, hK1, hK2, hK3, hW⟩ := h H enc base spare held n c y hty (hw2 i y hy)
      obtain ⟨v, hv1, hv2, hv3⟩ := Kd.rel hK1 hK2 hK3
      refine ⟨(z, v), hv1, hv3, fun j u hu => ?_, hW⟩
      have hu' : c[j]? = some u := by rw [← hv2, Array.getElem?_toList]; exact hu
      have hj : j < c.length := (List.getElem?_eq_some_iff.1 hu').1
      rw [← hc, ← add_add, hcc j (by omega)]
      exact hu')
    refine ⟨xs.map (·.1), rfl, by simp [Value.oneCell'], ?_, by rw [hB] at hw1; exact Nat.le_trans (Nat.mul_le_mul_right _ (by simp; omega)) hw1, fun z hz => ?_⟩
    · simp only [Kd.slice, Rel, RelL]
      refine ⟨_, [], rfl, ⟨some a, cap, xs.map (·.2), by simp [hxl], by simp [hxl]; omega, ?_, ?_, fun h => by cases h⟩, rfl⟩
      · refine RelL.of_get (by simp) (fun i x y hx hy => ?_)
        simp only [List.map_map, List.getElem?_map, Option.map_eq_some_iff] at hx hy
        obtain ⟨z, hz, rfl⟩ := hx
        obtain ⟨z', hz', rfl⟩ := hy
        rw [hz] at hz'
        cases hz'
        exact (hxs i z hz).1
      · intro i y hy
        simp only [List.getElem?_map, Option.map_eq_some_iff] at hy
        obtain ⟨z, hz', rfl⟩ := hy
        obtain ⟨q1, q2, q3, _⟩ := hxs i z hz'
        obtain ⟨z0, hz0⟩ : ∃ z0, xs[0]? = some z0 := ⟨_, List.getElem?_eq_getElem (by have := (List.getElem?_eq_some_iff.1 hz').1; omega)⟩
        obtain ⟨_, p2, p3, _⟩ := hxs 0 z0 hz0
        have hspot : a.spot = none ∧ a.block < w.heap.size := by
          have hs := p2.1
          have hq := p3 0 _ (Array.getElem?_eq_getElem (by omega))
          simp only [Nat.zero_mul, Nat.add_zero, Addr.add, if_true] at hq
          unfold World.cell? at hq
          split at hq
          · rename_i hb
            refine ⟨?_, (Array.getElem?_eq_some_iff.1 hb).1⟩
            split at hq
            · cases hq
            · rename_i hsp; cases hsp' : a.spot <;> simp_all
          · cases hq
        refine ⟨q2, a, rfl, hspot.1, hspot.2, fun j hj => ?_⟩
        have hj' : j < z.2.cells.size := by rw [q2.1]; exact hj
        rw [Array.getElem?_eq_getElem hj']
        have := q3 j _ (Array.getElem?_eq_getElem hj')
        rw [← this]
        show w.cell? _ = w.cell? _
        congr 1
        unfold Addr.add
        obtain ⟨ab, ao, asx⟩ := a
        simp only at hspot
        split
        · rename_i h0
          rw [Nat.add_assoc, h0, hspot.1]
          rfl
        · rw [Nat.add_assoc]
    · simp only [List.mem_map] at hz
      obtain ⟨z', hz', rfl⟩ := hz
      obtain ⟨i, hi⟩ := List.getElem?_of_mem hz'
      exact (hxs i z' hi).2.2.2

def FOpens (P : Program) (w : World) {α : Type} (d : Kd α) (fs : List Field) (off : Nat) (Wf : α → Prop) : Prop :=
  ∀ (H : Type) (enc : TypeId × Value → H) (base : Nat) (spare : Nat → Bool) (held : Bool) (fuel : Nat) (cs : List Value) (xs : List (DataW H × List MemPlace)),
    cs.length = off + d.sz → xs.length = fs.length →
    (∀ (i : Nat) (f : Field), fs[i]? = some f → DataW.trod enc P w base spare held fuel f.type ((cs.drop f.offset).take (P.cellsOf f.type)) = xs[i]?) →
    (∀ n ∈ DataW.weightsEach P (fs.map (·.type)) (xs.map (·.1)), n ≤ 140737488351232) → ∃ a, (∀ c ∈ cs.drop off, c.oneCell' = true) ∧ RelL (g0 w) (d.C a) (cs.drop off) ∧ Wf a
theorem FOpens.one {α : Type} {d : Kd α} {Wf : α → Prop} {f : Field} {off : Nat} (h : Opens P w d f.type Wf) (ho : f.offset = off) (hc : P.cellsOf f.type = d.sz) : FOpens P w d [f] off Wf := by
  intro H enc base spare held fuel cs xs hl hx ht hw
  obtain ⟨x, rfl⟩ : ∃ x, xs = [x] := by
    match xs, hx with
    | [x], _ => exact ⟨x, rfl⟩
  have h0 := ht 0 f rfl
  rw [ho, hc, List.take_of_length_le (by simp; omega)] at h0
  obtain ⟨a, _, h2, h3, h4⟩ := h H enc base spare held fuel _ x h0 (fun n hn => hw n (by simp [DataW.weightsEach, hn]))
  exact ⟨a, h2, h3, h4⟩
theorem FOpens.cons {α β : Type} {d : Kd α} {d' : Kd β} {Wf : α → Prop} {Wf' : β → Prop} {f : Field} {fs : List Field} {off : Nat} (h : Opens P w d f.type Wf) (ho : f.offset = off) (hc : P.cellsOf f.type = d.sz)
    (hr : FOpens P w d' fs (off + d.sz) Wf') : FOpens P w (Kd.pair d d') (f :: fs) off (fun x => Wf x.1 ∧ Wf' x.2) := by
  intro H enc base spare held fuel cs xs hl hx ht hw
  obtain ⟨x, ys, rfl⟩ : ∃ x ys, xs = x :: ys := by
    match xs, hx with
    | x :: ys, _ => exact ⟨x, ys, rfl⟩
  have hsz : (Kd.pair d d').sz = d.sz + d'.sz := rfl
  have h0 := ht 0 f rfl
  rw [ho, hc] at h0
  obtain ⟨a, _, ha1, ha, hWa⟩ := h H enc base spare held fuel _ x h0 (fun n hn => hw n (by simp [DataW.weightsEach, hn]))
  obtain ⟨b, hb1, hb, hWb⟩ := hr H enc base spare held fuel cs ys (by omega) (by simpa using hx) (fun i g hg => ht (i + 1) g hg) (fun n hn => hw n (by simp only [List.map_cons, DataW.weightsEach, List.mem_append]; exact .inr hn))
  have hq : cs.drop off = (cs.drop off).take d.sz ++ cs.drop (off + d.sz) := by
    have : cs.drop (off + d.sz) = (cs.drop off).drop d.sz := by rw [List.drop_drop]
    rw [this, List.take_append_drop]
  refine ⟨(a, b), ?_, ?_, hWa, hWb⟩
  · rw [hq]
    intro c hc
    exact (List.mem_append.1 hc).elim (ha1 c) (hb1 c)
  · rw [hq]
    exact ha.append hb
theorem Opens.struct {α β : Type} {d : Kd α} {Wf : α → Prop} {fs : Array Field} {f : β → α} (g : α → β) (ht : P.underlying t = some (.struct fs)) (hc : P.cellsOf t = d.sz) (h : FOpens P w d fs.toList 0 Wf) (hg : ∀ a, f (g a) = a) :
    Opens P w (Kd.struct d f) t (fun b => Wf (f b)) := by
  intro H enc base spare held fuel cs x hx hw
  obtain ⟨xs, n, rfl, rfl, hcs, hlen, hfs⟩ := DataW.trod_struct ht hx
  obtain ⟨a, h1, ha, hW⟩ := h H enc base spare held n cs xs (by rw [hcs, hc]; omega) (by simpa using hlen) (fun i q hq => hfs i q (by simpa using hq)) (fun n hn => hw n (by simpa [DataW.weights, ht] using hn))
  refine ⟨g a, by rw [hcs, hc]; rfl, by simpa using h1, ?_, ?_⟩
  · show RelL _ (d.C (f (g a))) cs
    rw [hg]
    simpa using ha
  · show Wf (f (g a))
    rw [hg]
    exact hW
theorem flat_rel {α : Type} {d : Kd α} {g : G} {cs : List Value} : ∀ (asx : List α) (o : Nat), cs.length = (o + asx.length) * d.sz →
    (∀ (i : Nat) a, asx[i]? = some a → RelL g (d.C a) ((cs.drop ((o + i) * d.sz)).take d.sz)) → RelL g (asx.flatMap d.C) (cs.drop (o * d.sz))
  | [], o, hl, _ => by
    rw [List.drop_eq_nil_of_le (by rw [hl]; simp)]
    simp [RelL]
  | a :: asx, o, hl, h => by
    have h0 := h 0 a rfl
    have hr := flat_rel asx (o + 1) (by rw [hl, List.length_cons]; congr 1; omega) (fun i b hb => by
      have := h (i + 1) b hb
      rw [show o + (i + 1) = o + 1 + i by omega] at this
      exact this)
    have hq : cs.drop (o * d.sz) = (cs.drop (o * d.sz)).take d.sz ++ cs.drop ((o + 1) * d.sz) := by
      have : cs.drop ((o + 1) * d.sz) = (cs.drop (o * d.sz)).drop d.sz := by rw [List.drop_drop, Nat.add_mul, Nat.one_mul]
      rw [this, List.take_append_drop]
    rw [hq, List.flatMap_cons]
    exact RelL.append h0 hr
theorem Opens.array {α : Type} {d : Kd α} {Wf : α → Prop} {n : Nat} (h : Opens P w d e Wf) (ht : P.underlying t = some (.array n e)) (hce : P.cellsOf e = d.sz) (hc : P.cellsOf t = n * d.sz) :
    Opens P w (Kd.array n d) t (fun xs => xs.length = n ∧ ∀ x ∈ xs, Wf x) := by
  intro H enc base spare held fuel cs x hx hw
  obtain ⟨xs, m, rfl, rfl, hcs, hlen, hel⟩ := DataW.trod_array ht hx
  have hw2 : ∀ (i : Nat) y, xs[i]? = some y → ∀ k ∈ y.1.weights P e, k ≤ 140737488351232 := fun i y hy k hk =>
    hw k (by
      simp only [DataW.weights, ht]
      exact weightsAll_mem (List.mem_map_of_mem (List.mem_of_getElem? hy)) k hk)
  obtain ⟨asx, hal, has⟩ := list_of (n := n) (Q := fun i (a : α) => RelL (g0 w) (d.C a) ((cs.drop (i * d.sz)).take d.sz) ∧ (∀ c ∈ (cs.drop (i * d.sz)).take d.sz, c.oneCell' = true) ∧ Wf a) (fun i hi => by
    obtain ⟨y, hy⟩ : ∃ y, xs[i]? = some y := ⟨_, List.getElem?_eq_getElem (by omega)⟩
    have h1 := hel i hi
    rw [hy, hce] at h1
    obtain ⟨a, _, h2, h3, h4⟩ := h H enc base spare held m _ y h1 (hw2 i y hy)
    exact ⟨a, h3, h2, h4⟩)
  rw [hc] at hcs
  refine ⟨asx, hcs, fun c hcm => ?_, ?_, hal, fun a ha => ?_⟩
  · obtain ⟨j, hj⟩ := List.getElem?_of_mem hcm
    have hjl : j < n * d.sz := by rw [← hcs]; exact (List.getElem?_eq_some_iff.1 hj).1
    have hs0 : 0 < d.sz := by
      rcases Nat.eq_zero_or_pos d.sz with e0 | e0
      · rw [e0] at hjl; omega
      · exact e0
    have hi : j / d.sz < n := by
      rw [Nat.div_lt_iff_lt_mul hs0]; exact hjl
    obtain ⟨a, ha⟩ : ∃ a, asx[j / d.sz]? = some a := ⟨_, List.getElem?_eq_getElem (by omega)⟩
    refine (has _ a ha).2.1 c (List.mem_of_getElem? (i := j % d.sz) ?_)
    have hm := Nat.mod_lt j hs0
    rw [List.getElem?_take, if_pos hm, List.getElem?_drop, Nat.mul_comm, Nat.div_add_mod]
    exact hj
  · have := flat_rel (d := d) (g := g0 w) (cs := cs) asx 0 (by rw [hcs, hal, Nat.zero_add]) (fun i a ha => by rw [Nat.zero_add]; exact (has i a ha).1)
    simpa [Kd.array] using this
  · obtain ⟨i, hi⟩ := List.getElem?_of_mem ha
    exact (has i a hi).2.2
/-- An argument: a struct or an array. -/
theorem Opens.at_agg {H : Type} {enc : TypeId × Value → H} {base : Nat} {spare : Nat → Bool} {held : Bool} {α : Type} {d : Kd α} {Wf : α → Prop} {cs : Array Value} {x : DataW H} {p : List MemPlace}
    (h : Opens P w d t Wf) (hd : ∀ a, d.el a = .agg (d.C a)) (hx : DataW.Trod enc P w base spare held t (.agg cs) x p) (hw : ∀ n ∈ x.weights P t, n ≤ 140737488351232) : ∃ a, Rel (g0 w) (d.el a) (.agg cs) ∧ Wf a := by
  obtain ⟨fuel, hf⟩ := hx
  obtain ⟨a, h1, h2, h3, h4⟩ := h H enc base spare held fuel _ _ hf hw
  refine ⟨a, ?_, h4⟩
  rw [hd]
  simp only [Rel]
  exact ⟨cs, rfl, h3⟩
theorem weights_at {H : Type} {ts : List TypeId} {ds : List (DataW H)} (h : (DataW.weightsEach P ts ds).all (· ≤ reachBytes) = true) {j : Nat} {t : TypeId} {d : DataW H} (ht : ts[j]? = some t) (hd : ds[j]? = some d) :
    ∀ n ∈ d.weights P t, n ≤ 140737488351232 := fun n hn => by
  have := List.all_eq_true.1 h _ (DataW.weights_mem_each ht hd n hn)
  have e : reachBytes = 140737488351232 := by decide
  rw [e] at this
  simpa using this
theorem lt_of_trod {H : Type} {enc : TypeId × Value → H} {base : Nat} {spare : Nat → Bool} {held : Bool} {v : Value} {x : DataW H} {p : List MemPlace} (hx : DataW.Trod enc P w base spare held t v x p) : ∀ q ∈ p, q.block < w.heap.size := by
  obtain ⟨m, hm⟩ := hx
  exact DataW.trod_lt m _ _ _ hm
end
/-- A law: true, and nothing that stood is touched. -/
theorem CSpec.law {P : Program} {f : FuncId} {args : List AV} {hout : Heap} (h : CSpec P f [] args hout (.b true)) {w : World} {vals : List Value} (hr : RelL (g0 w) args vals) :
    Calls P f vals.toArray w fun e w' => e = .returned (.bool true) ∧ Below w.heap.size w w' := by
  refine Calls.mono (h.2 (g0 w) vals rfl (g0_ok w) hr) fun e w' ⟨v, g', h1, h2, h3, h4, h5, h6, h7⟩ => ?_
  subst h2
  simp only [AV.b, Rel] at h5
  refine ⟨by rw [h1, h5], h6.rest.1, h6.rest.2.1, h6.rest.2.2, h6.size, fun k hk => h6.keep k hk ?_⟩
  rintro ⟨id, k', h, _⟩
  simp [g0, hget] at h
end Go.AM
