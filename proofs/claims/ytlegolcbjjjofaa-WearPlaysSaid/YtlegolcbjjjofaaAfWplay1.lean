/- Walks over the abstract machine: how often slots are reset by records. -/
import Derived.Test.YtlegolcbjjjofaaAfState21
import Derived.Test.YtlegolcbjjjofaaAfWear
namespace Go.Proofs.Ytlegolcbjjjofaa.AmF
open Go Go.AM
set_option maxRecDepth 100000
set_option maxHeartbeats 4000000
set_option linter.unusedSimpArgs false
set_option linter.unusedVariables false
attribute [local simp] tkeep tget tput ev cav argsTM pickA normT putA splice AV.cells ints_length rowsA_length Prs_len Zns_len tbl_len
def TBl (v : Nat → Nat) : Blk := ⟨64, true, [.agg (ints .i64 (tbl v))]⟩
theorem TBl_ren (ρ : Nat → Option Nat) (v : Nat → Nat) : Blk.ren ρ (TBl v) = TBl v := by simp [TBl, Blk.ren, renL, AV.ren, renL_ints]
/-- The slot of the zone that a record is for. -/
def slotX (s : St) (x : Rc) : Int := match s.zs[x.zone.toNat]? with
  | some z => z.slot
  | none => -1
/-- The table behind a record. -/
def bumpX (v : Nat → Nat) (s : St) (x : Rc) : Nat → Nat := if (applyS s (atS s x)).2 = 0 ∧ x.kind = 2 ∧ 0 ≤ slotX s x then bump v (slotX s x).toNat else v
def playV (s : St) (l : List Rc) : Nat → Nat → Nat
  | 0 => fun _ => 0
  | i + 1 => match l[i]? with
    | some x => bumpX (playV s l i) (runS s l i) x
    | none => playV s l i
theorem playV_succ {s : St} {l : List Rc} {i : Nat} {x : Rc} (h : l[i]? = some x) : playV s l (i + 1) = bumpX (playV s l i) (runS s l i) x := by
  rw [playV, h]
theorem bumpX_le {v : Nat → Nat} {s : St} {x : Rc} {n : Nat} (h : ∀ j, v j ≤ n) : ∀ j, bumpX v s x j ≤ n + 1 := by
  intro j
  have := h j
  unfold bumpX
  split
  · unfold bump; split <;> omega
  · omega
theorem playV_le (s : St) (l : List Rc) : ∀ i j, playV s l i j ≤ i
  | 0, _ => Nat.le_refl _
  | i + 1, j => by
    cases h : l[i]? with
    | none =>
      have e : playV s l (i + 1) = playV s l i := by rw [playV, h]
      have := playV_le s l i j
      rw [e]; omega
    | some x => rw [playV_succ h]; exact bumpX_le (playV_le s l i) j
theorem apply_zone {s : St} {x : Rc} (h : RS s) (h0 : (applyS s (atS s x)).2 = 0) (hk : x.kind = 2) : 0 ≤ x.zone ∧ x.zone < s.zs.length := by
  by_cases hg : Goes s (atS s x)
  · by_cases hz : 0 ≤ x.zone ∧ x.zone < s.zs.length
    · exact hz
    · have := applyS_bad h hg (stepS_no (x := atS s x) (by show ¬ x.kind = 6; omega) hz)
      rw [this] at h0
      exact absurd h0 (by decide)
  · rw [applyS_form h hg] at h0
    exact absurd h0 (by decide)
theorem slot_lt {s : St} (h : RS s) {z : Zn} (hz : z ∈ s.zs) : z.slot < 64 := by
  have h1 := (h.2.2.2.2.2.2.2.1 z hz).2.1.2
  have hk := chkC_ok h.1
  have : slotsC s.c = s.c.zon + s.c.spa := by unfold slotsC; rw [if_pos (okC_sane hk)]
  unfold okC at hk
  omega
theorem rnd_bad {s t : St} {x : Rc} (ht : t = nextS s (atS s x)) (h : (applyS s (atS s x)).2 ≠ 0) : t = s := by rw [ht, nextS, if_neg h]
theorem rnd_good {s t : St} {x : Rc} (ht : t = nextS s (atS s x)) (h : (applyS s (atS s x)).2 = 0) : t = (applyS s (atS s x)).1 := by rw [ht, nextS, if_pos h]
theorem bump_not {v v' : Nat → Nat} {s : St} {x : Rc} (hv : v' = bumpX v s x) (h : ¬ ((applyS s (atS s x)).2 = 0 ∧ x.kind = 2 ∧ 0 ≤ slotX s x)) : v' = v := by rw [hv, bumpX, if_neg h]
theorem slotX_at {s : St} {x : Rc} {z : Zn} (hz : s.zs[x.zone.toNat]? = some z) : slotX s x = z.slot := by unfold slotX; rw [hz]
theorem bump_did {v v' : Nat → Nat} {s : St} {x : Rc} {z : Zn} {k : Nat} (hv : v' = bumpX v s x) (h0 : (applyS s (atS s x)).2 = 0) (hk : x.kind = 2) (hz : s.zs[x.zone.toNat]? = some z) (hs : z.slot = k) : v' = bump v k := by
  have e := slotX_at hz
  rw [hv, bumpX, if_pos ⟨h0, hk, by omega⟩, e, hs]
  rfl
theorem bump_none {v v' : Nat → Nat} {s : St} {x : Rc} {z : Zn} (hv : v' = bumpX v s x) (hz : s.zs[x.zone.toNat]? = some z) (hs : z.slot < 0) : v' = v :=
  bump_not hv (by rw [slotX_at hz]; omega)
theorem wplay_bad (c : Cf) (l : List Rc) (hck : chkC c ≠ 0) : CSpec Try.prog 42 [] [.agg (CC c), .fz 10 (Rcl l)] [] (.agg (ints .i64 (tbl fun _ => 0))) := by
 refine CSpec.body Try.func42 rfl rfl rfl rfl rfl fun Q hQ => ?_
 refine T.seq fun K1 hK1 => ?_
 refine T.region ?_ -- region 0
 refine ro rfl rfl (OpOk.step (ok_box (n := 11) rfl rfl (by decide))) ?_
 refine ro rfl rfl (OpOk.step (ok_alloc rfl ti_wear_Table rfl (by decide))) ?_
 refine ro_nil ?_
 refine keepK hK1 [1, 2, 4] (by dsimp) (by dsimp) ?_
 refine T.seq fun K2 hK2 => ?_
 refine T.region ?_ -- region 1
 refine ro rfl rfl (OpOk.step (ok_alloc rfl ti_wear_Table rfl (by decide))) ?_
 refine ro_nil ?_
 refine keepK hK2 [1, 2, 4, 5] (by dsimp) (by dsimp) ?_
 refine T.seq fun K3 hK3 => ?_
 refine T.region ?_ -- region 2
 refine ro rfl rfl (OpOk.step (ok_load rfl ti_api_Conf rfl rfl)) ?_
 refine ro rfl rfl (ok_call rfl rfl rfl ((snew_bad c hck).plain (by show renL _ [.agg (CC c)] = _; simp [renL, AV.ren, CC_ren]) (by simp [AV.ren, renL, StC_ren]))) ?_
 refine ro rfl rfl (OpOk.step (ok_move (.inl rfl))) ?_
 refine ro rfl rfl (OpOk.step (ok_extract rfl rfl rfl)) ?_
 refine ro rfl rfl (OpOk.step (ok_extract rfl rfl rfl)) ?_
 refine ro rfl rfl (OpOk.step (ok_alloc rfl ti_api_State rfl (by decide))) ?_
 refine ro rfl rfl (OpOk.step (ok_store rfl ti_api_State (by decide) rfl rfl rfl rfl rfl (by first | exact Nat.le_of_ble_eq_true rfl | simp) (by first | exact .inl ⟨rfl, rfl⟩ | exact .inr rfl))) ?_
 refine ro rfl rfl (OpOk.step (ok_move (.inr rfl))) ?_
 refine ro_nil ?_
 refine keepK hK3 [1, 4, 5, 6, 7] (by dsimp) (by dsimp) ?_
 refine T.seq fun K4 hK4 => ?_
 refine T.seq fun K5 hK5 => ?_
 refine T.region ?_ -- region 3
 refine ro rfl rfl (OpOk.step (ok_move (.inl rfl))) ?_
 refine ro rfl rfl (OpOk.step (OpOk.bool (d := true) (ok_binOp rfl ti_api_Errno rfl) ((by simp [hck])))) ?_
 refine ro_nil ?_
 refine keepK hK5 [1, 4, 5, 6, 18] (by dsimp) (by dsimp) ?_
 refine T.cond_true rfl ?_
 refine T.seq fun K6 hK6 => ?_
 refine T.region ?_ -- region 4
 refine ro rfl rfl (OpOk.step (ok_load rfl ti_wear_Table rfl rfl)) ?_
 refine ro rfl rfl (OpOk.step (ok_store rfl ti_wear_Table (by decide) rfl rfl rfl rfl rfl (by first | exact Nat.le_of_ble_eq_true rfl | simp) (by first | exact .inl ⟨rfl, rfl⟩ | exact .inr rfl))) ?_
 refine ro_nil ?_
 refine keepK hK6 [4] (by dsimp) (by dsimp) ?_
 refine T.ret (hQ _ _ _ rfl ?_).1 -- ret 1
 exact TEnt.fin [] (by decide) (by simp) rfl ⟨rfl, trivial⟩
theorem wplay_good (c : Cf) (l : List Rc) (hck : chkC c = 0) (hl : l.length ≤ 1000000) (hb : ∀ x ∈ l, x.body.length ≤ 140737488355328) : CSpec Try.prog 42 [] [.agg (CC c), .fz 10 (Rcl l)] [] (.agg (ints .i64 (tbl (playV (newS c) l l.length)))) := by
 obtain ⟨s0, hs0⟩ : ∃ s, newS c = s := ⟨_, rfl⟩
 have hnew := snew_ok c hck
 have hr0 : RS s0 := by rw [← hs0]; exact RS_new hck
 rw [hs0] at hnew ⊢
 have hrun := runS_right l hr0
 refine CSpec.body Try.func42 rfl rfl rfl rfl rfl fun Q hQ => ?_
 refine T.seq fun K1 hK1 => ?_
 refine T.region ?_ -- region 0
 refine ro rfl rfl (OpOk.step (ok_box (n := 11) rfl rfl (by decide))) ?_
 refine ro rfl rfl (OpOk.step (ok_alloc rfl ti_wear_Table rfl (by decide))) ?_
 refine ro_nil ?_
 refine keepK hK1 [1, 2, 4] (by dsimp) (by dsimp) ?_
 refine T.seq fun K2 hK2 => ?_
 refine T.region ?_ -- region 1
 refine ro rfl rfl (OpOk.step (ok_alloc rfl ti_wear_Table rfl (by decide))) ?_
 refine ro_nil ?_
 refine keepK hK2 [1, 2, 4, 5] (by dsimp) (by dsimp) ?_
 refine T.seq fun K3 hK3 => ?_
 refine T.region ?_ -- region 2
 refine ro rfl rfl (OpOk.step (ok_load rfl ti_api_Conf rfl rfl)) ?_
 refine ro rfl rfl (ok_call rfl rfl rfl (hnew.plain (by show renL _ [.agg (CC c)] = _; simp [renL, AV.ren, CC_ren]) (by simp [AV.ren, renL, StC_ren]))) ?_
 refine ro rfl rfl (OpOk.step (ok_move (.inl rfl))) ?_
 refine ro rfl rfl (OpOk.step (ok_extract rfl rfl rfl)) ?_
 refine ro rfl rfl (OpOk.step (ok_extract rfl rfl rfl)) ?_
 refine ro rfl rfl (OpOk.step (ok_alloc rfl ti_api_State rfl (by decide))) ?_
 refine ro rfl rfl (OpOk.step (ok_store rfl ti_api_State (by decide) rfl rfl rfl rfl rfl (by first | exact Nat.le_of_ble_eq_true rfl | simp) (by first | exact .inl ⟨rfl, rfl⟩ | exact .inr rfl))) ?_
 refine ro rfl rfl (OpOk.step (ok_move (.inr rfl))) ?_
 refine ro_nil ?_
 refine keepK hK3 [1, 4, 5, 6, 7] (by dsimp) (by dsimp) ?_
 refine T.seq fun K4 hK4 => ?_
 refine T.seq fun K5 hK5 => ?_
 refine T.region ?_ -- region 3
 refine ro rfl rfl (OpOk.step (ok_move (.inl rfl))) ?_
 refine ro rfl rfl (OpOk.step (OpOk.bool (d := false) (ok_binOp rfl ti_api_Errno rfl) ((by simp)))) ?_
 refine ro_nil ?_
 refine keepK hK5 [1, 4, 5, 6, 18] (by dsimp) (by dsimp) ?_
 refine T.cond_false rfl ?_
 refine T.skip ?_
 refine keepK hK4 [1, 4, 5, 6] (by dsimp) (by dsimp) ?_
 refine T.seq fun K6 hK6 => ?_
 refine T.seq fun K7 hK7 => ?_
 refine T.region ?_ -- region 5
 refine ro rfl rfl (OpOk.step (ok_move (.inl rfl))) ?_
 refine ro rfl rfl (OpOk.step (ok_len' rfl rfl ti_Lapi_Rec rfl (by first | exact ints_length _ _ | exact rowsA_length _ _ | exact Cms_len _ | exact mapLen _ | rfl))) ?_
 refine ro rfl rfl (OpOk.step (ok_move (.inl rfl))) ?_
 refine ro_nil ?_
 refine keepK hK7 [4, 5, 6, 20, 21, 22] (by dsimp) (by dsimp) ?_
 refine T.block ?_
 refine T.loopI (ι := Nat) (fun i => i ≤ l.length) (fun i => l.length - i) (fun i => ([(4, .ref 0 0 0), (5, .ref 1 0 0), (6, .ref 2 0 0), (20, .fz 10 (Rcl l)), (21, .int l.length), (22, .int i)], [some (TBl fun _ => 0), some (TBl (playV s0 l i)), some (StB (runS s0 l i))])) 0 (Nat.zero_le _) (TEnt.fin [1, 2, 3] (by decide) (by simp) (by show [some (Blk.ren _ (TBl fun _ => 0)), some (Blk.ren _ (TBl fun _ => 0)), some (Blk.ren _ (StB s0))] = _; rw [TBl_ren, StB_ren]; rfl) ⟨rfl, rfl, rfl, by simp [AV.ren, Rcl_ren], by rw [Rcl_len]; rfl, rfl, trivial⟩) (fun i hi => ?_) -- loop 1
 refine T.seq fun K8 hK8 => ?_
 refine T.region ?_ -- region 6
 refine ro rfl rfl (OpOk.step (ok_binOp rfl ti_int rfl)) ?_
 refine ro_nil ?_
 refine keepK hK8 [4, 5, 6, 20, 21, 22, 23] (by dsimp) (by dsimp) ?_
 refine T.seq fun K9 hK9 => ?_
 refine T.cond rfl (fun hc => ?_) (fun hc => ?_) -- cond 1
 ·(try simp only [dE] at hc)
  obtain ⟨w, hw⟩ : ∃ w, w = i := ⟨_, rfl⟩
  subst hw
  obtain ⟨x, hx⟩ : ∃ x, l[w]? = some x := ⟨_, List.getElem?_eq_getElem (by omega)⟩
  have hxb := hb x (List.mem_of_getElem? hx)
  have hri := (hrun w).1
  have hfi := RS_few hri
  have hsq := hri.2.2.1
  have hrt := runS_succ (s := s0) hx
  have hpv := playV_succ (s := s0) hx
  have hvb := playV_le s0 l w
  obtain ⟨s, hs⟩ : ∃ s, runS s0 l w = s := ⟨_, rfl⟩
  obtain ⟨t, ht⟩ : ∃ t, runS s0 l (w + 1) = t := ⟨_, rfl⟩
  obtain ⟨v, hv⟩ : ∃ v, playV s0 l w = v := ⟨_, rfl⟩
  obtain ⟨v', hv'⟩ : ∃ v, playV s0 l (w + 1) = v := ⟨_, rfl⟩
  rw [hs] at hri hfi hsq hrt hpv
  rw [ht] at hrt
  rw [hv] at hpv hvb
  rw [hv'] at hpv
  refine T.ent (TEnt.toH (tm' := [(4, .ref 0 0 0), (5, .ref 1 0 0), (6, .ref 2 0 0), (20, .fz 10 (Rcl l)), (21, .int l.length), (22, .int w)]) (H' := [some (TBl fun _ => 0), some (TBl v), some (StB s)]) (by rw [hs, hv]) ⟨rfl, rfl, rfl, rfl, rfl, rfl, trivial⟩) ?_
  refine T.skip ?_
  refine keepK hK9 [4, 5, 6, 20, 21, 22] (by dsimp) (by dsimp) ?_
  refine T.seq fun K10 hK10 => ?_
  refine T.block ?_
  refine T.seq fun K11 hK11 => ?_
  refine T.region ?_ -- region 7
  refine ro rfl rfl (OpOk.step (by exact ok_index_map (F := RcC) rfl ti_Lapi_Rec rfl ti_api_Rec rfl rfl rfl hx (by simp [RcC]))) ?_
  refine ro rfl rfl (OpOk.step (ok_load rfl ti_api_Rec rfl rfl)) ?_
  refine ro rfl rfl (OpOk.step (ok_alloc rfl ti_api_Rec rfl (by decide))) ?_
  refine ro rfl rfl (OpOk.step (ok_store rfl ti_api_Rec (by decide) rfl rfl rfl rfl rfl (by first | exact Nat.le_of_ble_eq_true rfl | simp) (by first | exact .inl ⟨rfl, rfl⟩ | exact .inr rfl))) ?_
  refine ro_nil ?_
  refine keepK hK11 [4, 5, 6, 9, 20, 21, 22] (by dsimp) (by dsimp) ?_
  refine T.seq fun K12 hK12 => ?_
  refine T.draw mixed (SH [] (HeldL ([some (TBl fun _ => 0), some (TBl v), some (StB s)]))) ?_ -- region 8
  refine any_take 0 rfl (by first | rfl | decide +kernel) rfl (by first | (simp [HeldL]; done) | (simp only [HeldL, List.map_cons, List.map_nil, List.cons_append, List.nil_append, List.set_cons_zero, List.set_cons_succ]; (repeat' first | trivial | rfl | constructor))) (fun H' hH => OpOk.step (ok_fieldAddr rfl ti_api_State rfl rfl ti_int (by decide) rfl)) ?_
  refine any_take 1 rfl (by first | rfl | decide +kernel) rfl (by first | (simp [HeldL]; done) | (simp only [HeldL, List.map_cons, List.map_nil, List.cons_append, List.nil_append, List.set_cons_zero, List.set_cons_succ]; (repeat' first | trivial | rfl | constructor))) (fun H' hH => OpOk.step (ok_load rfl ti_int (locA_held hH rfl) rfl)) ?_
  refine any_take 2 rfl (by first | rfl | decide +kernel) rfl (by first | (simp [HeldL]; done) | (simp only [HeldL, List.map_cons, List.map_nil, List.cons_append, List.nil_append, List.set_cons_zero, List.set_cons_succ]; (repeat' first | trivial | rfl | constructor))) (fun H' hH => OpOk.step (ok_fieldAddr rfl ti_api_State rfl rfl ti_int (by decide) rfl)) ?_
  refine any_take 3 rfl (by first | rfl | decide +kernel) rfl (by first | (simp [HeldL]; done) | (simp only [HeldL, List.map_cons, List.map_nil, List.cons_append, List.nil_append, List.set_cons_zero, List.set_cons_succ]; (repeat' first | trivial | rfl | constructor))) (fun H' hH => OpOk.step (ok_load rfl ti_int (locA_held hH rfl) rfl)) ?_
  refine any_take 4 rfl (by first | rfl | decide +kernel) rfl (by first | (simp [HeldL]; done) | (simp only [HeldL, List.map_cons, List.map_nil, List.cons_append, List.nil_append, List.set_cons_zero, List.set_cons_succ]; (repeat' first | trivial | rfl | constructor))) (fun H' hH => OpOk.step (ok_add64 rfl ti_int rfl rfl (by omega) (by omega))) ?_
  refine any_take 5 rfl (by first | rfl | decide +kernel) rfl (by first | (simp [HeldL]; done) | (simp only [HeldL, List.map_cons, List.map_nil, List.cons_append, List.nil_append, List.set_cons_zero, List.set_cons_succ]; (repeat' first | trivial | rfl | constructor))) (fun H' hH => OpOk.step (ok_fieldAddr rfl ti_api_Rec rfl rfl ti_int (by decide) rfl)) ?_
  refine any_one 6 rfl (by first | rfl | decide +kernel) rfl rfl (OpOk.step (ok_store rfl ti_int (by decide) rfl rfl rfl rfl rfl (by first | exact Nat.le_of_ble_eq_true rfl | simp) (by first | exact .inl ⟨rfl, rfl⟩ | exact .inr rfl))) (.inr (by first | (simp [HeldL]; done) | (simp only [HeldL, List.map_cons, List.map_nil, List.cons_append, List.nil_append, List.set_cons_zero, List.set_cons_succ]; (repeat' first | trivial | rfl | constructor)))) ?_
  refine any_take 7 rfl (by first | rfl | decide +kernel) rfl (by first | (simp [HeldL]; done) | (simp only [HeldL, List.map_cons, List.map_nil, List.cons_append, List.nil_append, List.set_cons_zero, List.set_cons_succ]; (repeat' first | trivial | rfl | constructor))) (fun H' hH => OpOk.step (ok_fieldAddr rfl ti_api_Rec rfl rfl ti_int (by decide) rfl)) ?_
  refine any_one 8 rfl (by first | rfl | decide +kernel) rfl rfl (OpOk.step (ok_store rfl ti_int (by decide) rfl rfl rfl rfl rfl (by first | exact Nat.le_of_ble_eq_true rfl | simp) (by first | exact .inl ⟨rfl, rfl⟩ | exact .inr rfl))) (.inr (by first | (simp [HeldL]; done) | (simp only [HeldL, List.map_cons, List.map_nil, List.cons_append, List.nil_append, List.set_cons_zero, List.set_cons_succ]; (repeat' first | trivial | rfl | constructor)))) ?_
  refine any_done rfl ?_
  refine keepK hK12 [4, 5, 6, 9, 20, 21, 22] (by dsimp) (by dsimp) ?_
  refine T.seq fun K13 hK13 => ?_
  refine T.ent (TEnt.toH (tm' := [(4, .ref 0 0 0), (5, .ref 1 0 0), (6, .ref 2 0 0), (9, .ref 3 0 0), (20, .fz 10 (Rcl l)), (21, .int l.length), (22, .int w)]) (H' := [some (TBl fun _ => 0), some (TBl v), some (StB s), some (RcB (atS s x))]) rfl ⟨rfl, rfl, rfl, rfl, rfl, rfl, rfl, trivial⟩) ?_
  refine T.region ?_ -- region 9
  refine ro rfl rfl (OpOk.step (ok_load rfl ti_api_State rfl rfl)) ?_
  refine ro rfl rfl (OpOk.step (ok_load rfl ti_api_Rec rfl rfl)) ?_
  refine ro rfl rfl (ok_call rfl rfl rfl ((sapply_ok s (atS s x) (by omega) (by omega) (fun z hz => by have := hfi.2.2.1 z hz; omega) hfi.2.2.2 hxb).plain (by simp [renL, AV.ren, StC_take, StC_ren, RcC_take, RcC_ren]) (by simp [AV.ren, renL, StC_ren]))) ?_
  refine ro rfl rfl (OpOk.step (ok_move (.inl rfl))) ?_
  refine ro rfl rfl (OpOk.step (ok_extract rfl rfl rfl)) ?_
  refine ro rfl rfl (OpOk.step (ok_extract rfl rfl rfl)) ?_
  refine ro rfl rfl (OpOk.step (ok_alloc rfl ti_api_State rfl (by decide))) ?_
  refine ro rfl rfl (OpOk.step (ok_store rfl ti_api_State (by decide) rfl rfl rfl rfl rfl (by first | exact Nat.le_of_ble_eq_true rfl | simp) (by first | exact .inl ⟨rfl, rfl⟩ | exact .inr rfl))) ?_
  refine ro rfl rfl (OpOk.step (ok_move (.inr rfl))) ?_
  refine ro_nil ?_
  refine keepK hK13 [4, 5, 6, 9, 10, 11, 20, 21, 22] (by dsimp) (by dsimp) ?_
  refine T.seq fun K14 hK14 => ?_
  refine T.seq fun K15 hK15 => ?_
  refine T.region ?_ -- region 10
  refine ro rfl rfl (OpOk.step (ok_move (.inl rfl))) ?_
  refine ro rfl rfl (OpOk.step (ok_binOp rfl ti_api_Errno rfl)) ?_
  refine ro_nil ?_
  refine keepK hK15 [4, 5, 6, 9, 10, 20, 21, 22, 40] (by dsimp) (by dsimp) ?_
  refine T.cond rfl (fun hc => ?_) (fun hc => ?_) -- cond 2
  ·(try simp only [dE] at hc)
   have e1 := rnd_bad hrt hc
   have e2 := bump_not hpv (fun h => hc h.1)
   refine T.exit ?_
   refine keepK hK10 [4, 5, 6, 20, 21, 22] (by dsimp) (by dsimp) ?_
   refine T.region ?_ -- region 14
   refine ro rfl rfl (OpOk.step (ok_add64 rfl ti_int rfl rfl (by omega) (by omega))) ?_
   refine ro rfl rfl (OpOk.step (ok_move (.inl rfl))) ?_
   refine ro_nil ?_
   exact ⟨w + 1, by omega, by omega, TEnt.fin [0, 1, 2] (by decide) (by simp) (by show [some (Blk.ren _ (TBl _)), some (Blk.ren _ (TBl _)), some (Blk.ren _ (StB _))] = _; first | (rw [TBl_ren, TBl_ren, StB_ren, ht, hv', e1]; done) | (rw [TBl_ren, TBl_ren, StB_ren, ht, hv', e1, e2])) ⟨rfl, rfl, rfl, by simp [AV.ren, Rcl_ren], rfl, rfl, trivial⟩⟩
  ·(try simp only [dE] at hc)
   have hc0 := hc
   have e1 := rnd_good hrt hc
   refine T.skip ?_
   refine keepK hK14 [4, 5, 6, 9, 10, 20, 21, 22] (by dsimp) (by dsimp) ?_
   refine T.seq fun K16 hK16 => ?_
   refine T.seq fun K17 hK17 => ?_
   refine T.region ?_ -- region 11
   refine ro rfl rfl (OpOk.step (ok_fieldAddr rfl ti_api_Rec rfl rfl ti_int (by decide) rfl)) ?_
   refine ro rfl rfl (OpOk.step (ok_load rfl ti_int rfl rfl)) ?_
   refine ro rfl rfl (OpOk.step (ok_binOp rfl ti_int rfl)) ?_
   refine ro_case rfl rfl (OpOk.step (ok_moveb (.inl rfl) rfl)) (fun hb => ?_) (fun hb => ?_)
   ·(try simp only [dE] at hb)
    have hzr := apply_zone hri hc0 hb
    obtain ⟨z, hz⟩ : ∃ z, s.zs[x.zone.toNat]? = some z := ⟨_, List.getElem?_eq_getElem (by omega)⟩
    have hsl := slot_lt hri (List.mem_of_getElem? hz)
    refine ro rfl rfl (OpOk.step (ok_fieldAddr rfl ti_api_State rfl rfl ti_Lapi_Zone (by decide) rfl)) ?_
    refine ro rfl rfl (OpOk.step (ok_load rfl ti_Lapi_Zone rfl rfl)) ?_
    refine ro rfl rfl (OpOk.step (ok_fieldAddr rfl ti_api_Rec rfl rfl ti_int (by decide) rfl)) ?_
    refine ro rfl rfl (OpOk.step (ok_load rfl ti_int rfl rfl)) ?_
    refine ro rfl rfl (OpOk.step (by exact ok_index_map (F := ZnC) rfl ti_Lapi_Zone rfl ti_api_Zone rfl rfl (show x.zone = (x.zone.toNat : Int) by omega) hz (by simp [ZnC]))) ?_
    refine ro rfl rfl (OpOk.step (ok_fieldAddr rfl ti_api_Zone rfl rfl ti_int (by decide) rfl)) ?_
    refine ro rfl rfl (OpOk.step (ok_load rfl ti_int rfl rfl)) ?_
    refine ro rfl rfl (OpOk.step (ok_binOp rfl ti_int rfl)) ?_
    refine ro rfl rfl (OpOk.step (ok_pick rfl rfl)) ?_
    refine ro_nil ?_
    refine keepK hK17 [4, 5, 6, 9, 10, 20, 21, 22, 53] (by dsimp) (by dsimp) ?_
    refine T.join hK16 [(4, .ref 0 0 0), (5, .ref 1 0 0), (6, .ref 2 0 0), (10, .ref 4 0 0), (20, .fz 10 (Rcl l)), (21, .int l.length), (22, .int w)] [some (TBl fun _ => 0), some (TBl v'), some (StB s), some (RcB (atS s x)), some (StB (applyS s (atS s x)).1)] (fun hJ18 => ?_) ?_ -- join 1
    · -- the two ways
     refine T.cond rfl (fun hc => ?_) (fun hc => ?_) -- cond 3
     ·(try simp only [dE] at hc)
      obtain ⟨k, hk⟩ : ∃ k : Nat, z.slot = k := ⟨z.slot.toNat, by omega⟩
      have e2 := bump_did hpv hc0 hb hz hk
      refine T.drawH mixed [9] ?_ -- region 12
      refine any_take 0 rfl (by first | rfl | decide +kernel) rfl (HeldL.refl _) (fun H' hH => OpOk.step ((ok_load rfl ti_wear_Table (locA_held hH (locA_arr rfl rfl rfl (tbl_ne _))) rfl).eq (x' := .agg (ints .i64 (tbl v))) (by simp [List.take_of_length_le]) rfl)) ?_
      refine any_take 1 rfl (by first | rfl | decide +kernel) rfl (HeldL.refl _) (fun H' hH => OpOk.step (ok_fieldAddr rfl ti_api_State rfl rfl ti_Lapi_Zone (by decide) rfl)) ?_
      refine any_take 2 rfl (by first | rfl | decide +kernel) rfl (HeldL.refl _) (fun H' hH => OpOk.step (ok_load rfl ti_Lapi_Zone (locA_held hH rfl) rfl)) ?_
      refine any_take 3 rfl (by first | rfl | decide +kernel) rfl (HeldL.refl _) (fun H' hH => OpOk.step (ok_fieldAddr rfl ti_api_Rec rfl rfl ti_int (by decide) rfl)) ?_
      refine any_take 4 rfl (by first | rfl | decide +kernel) rfl (HeldL.refl _) (fun H' hH => OpOk.step (ok_load rfl ti_int (locA_held hH rfl) rfl)) ?_
      refine any_take 5 rfl (by first | rfl | decide +kernel) rfl (HeldL.refl _) (fun H' hH => OpOk.step (by exact ok_index_map (F := ZnC) rfl ti_Lapi_Zone rfl ti_api_Zone rfl rfl (show x.zone = (x.zone.toNat : Int) by omega) hz (by simp [ZnC]))) ?_
      refine any_take 6 rfl (by first | rfl | decide +kernel) rfl (HeldL.refl _) (fun H' hH => OpOk.step (ok_fieldAddr rfl ti_api_Zone rfl rfl ti_int (by decide) rfl)) ?_
      refine any_take 7 rfl (by first | rfl | decide +kernel) rfl (HeldL.refl _) (fun H' hH => OpOk.step ((ok_load rfl ti_int rfl rfl).eq (x' := .int k) (by exact congrArg AV.int hk) rfl)) ?_
      refine any_one 8 rfl (by first | rfl | decide +kernel) rfl rfl (ok_call rfl rfl rfl ((add_ok v k (by omega) (by have := hvb k; omega)).plain (by simp [renL, AV.ren, renL_ints]) (by simp [AV.ren, renL_ints]))) (.inr (by first | (simp [HeldL]; done) | (simp only [HeldL, List.map_cons, List.map_nil, List.cons_append, List.nil_append, List.set_cons_zero, List.set_cons_succ]; (repeat' first | trivial | rfl | constructor)))) ?_
      refine any_one 9 rfl (by first | rfl | decide +kernel) rfl rfl (OpOk.step (by exact ok_store (x := .tmp 62) rfl ti_wear_Table (by decide) rfl rfl rfl (el := .agg (ints .i64 (tbl v))) rfl (fits_ints (tbl_len _)) (by simp [TBl]) (.inl ⟨rfl, rfl⟩))) (.inl (by simp)) ?_
      refine any_done rfl ?_
      exact hJ18 _ _ (TEnt.toH (by first | (rw [e2]; done) | (rw [e2]; rfl)) ⟨rfl, rfl, rfl, rfl, rfl, rfl, rfl, trivial⟩)
     ·(try simp only [dE] at hc)
      have e2 := bump_none hpv hz (by omega)
      refine T.skip ?_
      exact hJ18 _ _ (TEnt.toH (by first | (rw [e2]; done) | (rw [e2]; rfl)) ⟨rfl, rfl, rfl, rfl, rfl, rfl, rfl, trivial⟩)
    refine T.region ?_ -- region 13
    refine ro rfl rfl (OpOk.step (ok_load rfl ti_api_State rfl rfl)) ?_
    refine ro rfl rfl (OpOk.step (ok_store rfl ti_api_State (by decide) rfl rfl rfl rfl rfl (by first | exact Nat.le_of_ble_eq_true rfl | simp) (by first | exact .inl ⟨rfl, rfl⟩ | exact .inr rfl))) ?_
    refine ro_nil ?_
    refine keepK hK10 [4, 5, 6, 20, 21, 22] (by dsimp) (by dsimp) ?_
    refine T.region ?_ -- region 14
    refine ro rfl rfl (OpOk.step (ok_add64 rfl ti_int rfl rfl (by omega) (by omega))) ?_
    refine ro rfl rfl (OpOk.step (ok_move (.inl rfl))) ?_
    refine ro_nil ?_
    exact ⟨w + 1, by omega, by omega, TEnt.fin [0, 1, 2] (by decide) (by simp) (by show [some (Blk.ren _ (TBl _)), some (Blk.ren _ (TBl _)), some (Blk.ren _ (StB _))] = _; first | (rw [TBl_ren, TBl_ren, StB_ren, ht, hv', e1]; done) | (rw [TBl_ren, TBl_ren, StB_ren, ht, hv', e1, e2])) ⟨rfl, rfl, rfl, by simp [AV.ren, Rcl_ren], rfl, rfl, trivial⟩⟩
   ·(try simp only [dE] at hb)
    have e2 := bump_not hpv (fun h => hb h.2.1)
    refine ro_skip rfl rfl ?_
    refine ro_skip rfl rfl ?_
    refine ro_skip rfl rfl ?_
    refine ro_skip rfl rfl ?_
    refine ro_skip rfl rfl ?_
    refine ro_skip rfl rfl ?_
    refine ro_skip rfl rfl ?_
    refine ro_skip rfl rfl ?_
    refine ro rfl rfl (OpOk.step (ok_pickb (t := false) (d := false) rfl rfl rfl)) ?_
    refine ro_nil ?_
    refine keepK hK17 [4, 5, 6, 9, 10, 20, 21, 22, 53] (by dsimp) (by dsimp) ?_
    refine T.cond_false rfl ?_
    refine T.skip ?_
    refine keepK hK16 [4, 5, 6, 10, 20, 21, 22] (by dsimp) (by dsimp) ?_
    refine T.region ?_ -- region 13
    refine ro rfl rfl (OpOk.step (ok_load rfl ti_api_State rfl rfl)) ?_
    refine ro rfl rfl (OpOk.step (ok_store rfl ti_api_State (by decide) rfl rfl rfl rfl rfl (by first | exact Nat.le_of_ble_eq_true rfl | simp) (by first | exact .inl ⟨rfl, rfl⟩ | exact .inr rfl))) ?_
    refine ro_nil ?_
    refine keepK hK10 [4, 5, 6, 20, 21, 22] (by dsimp) (by dsimp) ?_
    refine T.region ?_ -- region 14
    refine ro rfl rfl (OpOk.step (ok_add64 rfl ti_int rfl rfl (by omega) (by omega))) ?_
    refine ro rfl rfl (OpOk.step (ok_move (.inl rfl))) ?_
    refine ro_nil ?_
    exact ⟨w + 1, by omega, by omega, TEnt.fin [0, 1, 2] (by decide) (by simp) (by show [some (Blk.ren _ (TBl _)), some (Blk.ren _ (TBl _)), some (Blk.ren _ (StB _))] = _; first | (rw [TBl_ren, TBl_ren, StB_ren, ht, hv', e1]; done) | (rw [TBl_ren, TBl_ren, StB_ren, ht, hv', e1, e2])) ⟨rfl, rfl, rfl, by simp [AV.ren, Rcl_ren], rfl, rfl, trivial⟩⟩
 ·(try simp only [dE] at hc)
  have hin : i = l.length := by omega
  subst hin
  refine T.exit ?_
  refine keepK hK6 [4, 5] (by dsimp) (by dsimp) ?_
  refine T.seq fun K19 hK19 => ?_
  refine T.region ?_ -- region 15
  refine ro rfl rfl (OpOk.step ((ok_load rfl ti_wear_Table (locA_arr rfl rfl rfl (tbl_ne _)) rfl).eq (x' := .agg (ints .i64 (tbl (playV s0 l l.length)))) (by simp [List.take_of_length_le]) rfl)) ?_
  refine ro rfl rfl (OpOk.step (by exact ok_store (x := .tmp 65) rfl ti_wear_Table (by decide) rfl rfl rfl (el := .agg (ints .i64 (tbl fun _ => 0))) rfl (fits_ints (tbl_len _)) (by simp [TBl]) (.inl ⟨rfl, rfl⟩))) ?_
  refine ro_nil ?_
  refine keepK hK19 [4] (by dsimp) (by dsimp) ?_
  refine T.ret (hQ _ _ _ rfl ?_).1 -- ret 1
  exact TEnt.fin [] (by decide) (by simp) rfl ⟨by show AV.ren _ (.agg (((ints .i64 (tbl (playV s0 l l.length))).drop 0).take 64)) = _; simp [AV.ren, renL_ints, List.take_of_length_le], trivial⟩
def playR (c : Cf) (l : List Rc) : Nat → Nat := if chkC c = 0 then playV (newS c) l l.length else fun _ => 0
theorem playR_ok {c : Cf} {l : List Rc} (h : chkC c = 0) : playR c l = playV (newS c) l l.length := if_pos h
theorem playR_bad {c : Cf} {l : List Rc} (h : chkC c ≠ 0) : playR c l = fun _ => 0 := if_neg h
theorem wplay_ok (c : Cf) (l : List Rc) (hl : l.length ≤ 1000000) (hb : ∀ x ∈ l, x.body.length ≤ 140737488355328) : CSpec Try.prog 42 [] [.agg (CC c), .fz 10 (Rcl l)] [] (.agg (ints .i64 (tbl (playR c l)))) := by
  by_cases h : chkC c = 0
  · rw [playR_ok h]; exact wplay_good c l h hl hb
  · rw [playR_bad h]; exact wplay_bad c l h
end Go.Proofs.Ytlegolcbjjjofaa.AmF
