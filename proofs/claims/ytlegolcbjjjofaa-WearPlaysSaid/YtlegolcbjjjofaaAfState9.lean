/- Walks over the abstract machine: states of the log: with a record more. -/
import Derived.Test.YtlegolcbjjjofaaAfState8
namespace Go.Proofs.Ytlegolcbjjjofaa.AmF
open Go Go.AM
set_option maxRecDepth 100000
set_option maxHeartbeats 4000000
set_option linter.unusedSimpArgs false
set_option linter.unusedVariables false
attribute [local simp] tkeep tget tput ev cav argsTM pickA normT putA splice AV.cells ints_length rowsA_length Prs_len Zns_len
def cfz : Cf := ⟨0, 0, 0, 0, 0, 0, 0, 0, 0, 0, 0⟩
/-- No state. -/
def St0 : St := ⟨cfz, 0, 0, [], []⟩
/-- What a record makes of a state. -/
def stepS (s : St) (x : Rc) : Option St :=
  if x.kind = 6 then (if StOk s.st x then some { s with st := s.st.set x.member.toNat x.status, zs := s.zs.map unw, sq := x.seq } else none)
  else if 0 ≤ x.zone ∧ x.zone < s.zs.length then
    match s.zs[x.zone.toNat]? with
    | some z => (stepZ s.c s.zs (decide (2 ∈ s.st)) z x).map fun z' => { s with zs := s.zs.set x.zone.toNat z', sq := x.seq }
    | none => none
  else none
def Goes (s : St) (x : Rc) : Prop := x.epoch = s.ep ∧ x.seq = s.sq + 1 ∧ x.seq ≤ 1099511627776
instance (s : St) (x : Rc) : Decidable (Goes s x) := by unfold Goes; infer_instance
/-- The new state, and the error. -/
def applyS (s : St) (x : Rc) : St × Int :=
  if RS s then (if Goes s x then (match stepS s x with | some t => (t, 0) | none => (St0, 13)) else (St0, 13)) else (St0, 1)
theorem applyS_no {s : St} {x : Rc} (h : ¬ RS s) : applyS s x = (St0, 1) := if_neg h
theorem applyS_form {s : St} {x : Rc} (h : RS s) (h' : ¬ Goes s x) : applyS s x = (St0, 13) := by unfold applyS; rw [if_pos h, if_neg h']
theorem applyS_bad {s : St} {x : Rc} (h : RS s) (h' : Goes s x) (h2 : stepS s x = none) : applyS s x = (St0, 13) := by unfold applyS; rw [if_pos h, if_pos h', h2]
theorem applyS_ok {s t : St} {x : Rc} (h : RS s) (h' : Goes s x) (h2 : stepS s x = some t) : applyS s x = (t, 0) := by unfold applyS; rw [if_pos h, if_pos h', h2]
theorem stepS_st {s : St} {x : Rc} (h : x.kind = 6) : stepS s x = if StOk s.st x then some { s with st := s.st.set x.member.toNat x.status, zs := s.zs.map unw, sq := x.seq } else none := if_pos h
theorem stepS_no {s : St} {x : Rc} (h : ¬ x.kind = 6) (h' : ¬ (0 ≤ x.zone ∧ x.zone < s.zs.length)) : stepS s x = none := by unfold stepS; rw [if_neg h, if_neg h']
theorem stepS_zn {s : St} {x : Rc} {z : Zn} (h : ¬ x.kind = 6) (h' : 0 ≤ x.zone ∧ x.zone < s.zs.length) (hz : s.zs[x.zone.toNat]? = some z) : stepS s x = (stepZ s.c s.zs (decide (2 ∈ s.st)) z x).map fun z' => { s with zs := s.zs.set x.zone.toNat z', sq := x.seq } := by
  unfold stepS; rw [if_neg h, if_pos h', hz]
/-- The clone, of which a zone is told apart. -/
theorem sclone_at (s : St) (j : Nat) (z : Zn) (hz : s.zs[j]? = some z) (hn : s.st.length ≤ 1000000000) (hm : s.zs.length ≤ 1000000000) (hl : ∀ z ∈ s.zs, z.pars.length ≤ 1000000000) (hb : ∀ z ∈ s.zs, ∀ p ∈ z.pars, p.b.length ≤ 140737488355328) : CSpec Try.prog 60 [] [.agg (StC s)] [some ⟨1, true, ints .i64 s.st⟩, some (ZR s.zs j (ZnS z (.sl 2 0 z.pars.length))), some ⟨2, true, Prs z.pars⟩] (.agg (StS s (.sl 0 0 s.st.length) (.sl 1 0 s.zs.length))) := by
  have h := sclone_ok s j hn hm hl hb
  have hj : j < s.zs.length := (List.getElem?_eq_some_iff.1 hz).1
  have e1 : zsJ s.zs j 2 s.zs.length = (Zns s.zs).set j (.agg (ZnS z (.sl 2 0 z.pars.length))) := by unfold zsJ; rw [hz]; exact if_pos hj
  have e2 : pbJ s.zs j s.zs.length = some ⟨2, true, Prs z.pars⟩ := by unfold pbJ; rw [hz]; exact if_pos hj
  rw [e1, e2] at h
  exact h
theorem RcC_take (x : Rc) : List.take 10 (RcC x) = RcC x := rfl
theorem StS_take (s : St) (A B : AV) : List.take 15 (StS s A B) = StS s A B := rfl
theorem pos345 : pos [3, 4, 5] 3 = some 0 ∧ pos [3, 4, 5] 4 = some 1 := by decide
theorem ZR_ren {ρ : Nat → Option Nat} {p q : Nat} (hρ : ρ p = some q) (zs : List Zn) (w : Nat) (z : Zn) (n : Nat) : some (Blk.ren ρ (ZR zs w (ZnS z (.sl p 0 n)))) = some (ZR zs w (ZnS z (.sl q 0 n))) := zset_ren hρ zs w z n
theorem Ent.st0 {H : Heap} : Ent H (.agg (List.map .v [.int .i64 0, .int .i64 0, .int .i64 0, .int .i64 0, .int .i64 0, .int .i64 0, .int .i64 0, .int .i64 0, .int .i64 0, .int .i64 0, .int .i64 0, .int .i64 0, .int .i64 0, .slice none 0 0, .slice none 0 0])) (.agg (StC St0)) :=
  Ent.agg (EntL.append (l := CC cfz) (EntL.refl _) (EntL.cons (Ent.refl _) (EntL.cons (Ent.refl _) (EntL.cons (Ent.nil 1) (EntL.cons (Ent.nil 6) EntL.nil)))))
theorem Ent.st' {H : Heap} {a b n m : Nat} (s : St) (hn : n = s.st.length) (hm : m = s.zs.length) (ha : hget H a = some ⟨1, false, ints .i64 s.st⟩) (hb : hget H b = some ⟨6, false, Zns s.zs⟩) : Ent H (.agg (StS s (.sl a 0 n) (.sl b 0 m))) (.agg (StC s)) := by subst hn hm; exact Ent.st s ha hb
theorem heap6 {a a' b b' c c' d d' e e' f f' : Option Blk} (h1 : a = a') (h2 : b = b') (h3 : c = c') (h4 : d = d') (h5 : e = e') (h6 : f = f') : [a, b, c, d, e, f] = [a', b', c', d', e', f'] := by subst h1 h2 h3 h4 h5 h6; rfl
theorem ap_no {k : Nat} {tm : TM} {H : Heap} {e : Int} (hk : k = 0) (h : tget tm 0 = .tup [.agg (List.map .v [.int .i64 0, .int .i64 0, .int .i64 0, .int .i64 0, .int .i64 0, .int .i64 0, .int .i64 0, .int .i64 0, .int .i64 0, .int .i64 0, .int .i64 0, .int .i64 0, .int .i64 0, .slice none 0 0, .slice none 0 0]), .int e]) : TEnt k tm H [(0, .tup [.agg (StC St0), .int e])] [] := by
  subst hk
  exact (TEnt.put1 0 (x' := .tup [.agg (StC St0), .int e]) (by rw [h]; exact Ent.tup (EntL.cons Ent.st0 (EntL.refl _)))).trans (TEnt.fin [] (by decide) (by simp) rfl ⟨by simp [AV.ren, renL, StC_ren], trivial⟩)
theorem ap_ok {k : Nat} {tm : TM} {H : Heap} {n m : Nat} (s : St) (hk : k = 0) (h : tget tm 0 = .tup [.agg (StS s (.sl 3 0 n) (.sl 4 0 m)), .int 0]) (hn : n = s.st.length) (hm : m = s.zs.length) (ha : hget H 3 = some ⟨1, true, ints .i64 s.st⟩) (hb : hget H 4 = some ⟨6, true, Zns s.zs⟩) : TEnt k tm H [(0, .tup [.agg (StC s), .int 0])] [] := by
  subst hk
  have h3 := hget_lt ha
  have h4 := hget_lt hb
  refine (TEnt.freeze 3 ha).trans ((TEnt.freeze 4 (b := ⟨6, true, Zns s.zs⟩) (by rw [hget_set, if_neg (by omega)]; exact hb)).trans ((TEnt.put1 0 (x' := .tup [.agg (StC s), .int 0]) (by
    rw [h]
    refine Ent.tup (EntL.cons (Ent.st' s hn hm ?_ ?_) (EntL.refl _))
    · rw [hget_set, if_neg (by omega), hget_set, if_pos ⟨rfl, h3⟩]
    · rw [hget_set, if_pos ⟨rfl, by simpa using h4⟩])).trans (TEnt.fin [] (by decide) (by simp) rfl ⟨by simp [AV.ren, renL, StC_ren], trivial⟩)))
theorem sapply_ok (s : St) (x : Rc) (hn : s.st.length ≤ 1000000) (hm : s.zs.length ≤ 1000000) (hl : ∀ z ∈ s.zs, z.pars.length ≤ 1000000) (hpb : ∀ z ∈ s.zs, ∀ p ∈ z.pars, p.b.length ≤ 140737488355328) (hx : x.body.length ≤ 140737488355328) : CSpec Try.prog 27 [] [.agg (StC s), .agg (RcC x)] [] (.tup [.agg (StC (applyS s x).1), .int (applyS s x).2]) := by
 refine CSpec.body Try.func27 rfl rfl rfl rfl rfl fun Q hQ => ?_
 refine T.seq fun K1 hK1 => ?_
 refine T.region ?_ -- region 0
 refine ro rfl rfl (OpOk.step (ok_box (n := 15) rfl rfl (by decide))) ?_
 refine ro rfl rfl (OpOk.step (ok_box (n := 10) rfl rfl (by decide))) ?_
 refine ro rfl rfl (OpOk.step (ok_alloc rfl ti_api_State rfl (by decide))) ?_
 refine ro rfl rfl (OpOk.step (ok_move (.inr rfl))) ?_
 refine ro_nil ?_
 refine keepK hK1 [2, 3, 4] (by dsimp) (by dsimp) ?_
 refine T.seq fun K2 hK2 => ?_
 refine T.seq fun K3 hK3 => ?_
 refine T.region ?_ -- region 1
 refine ro rfl rfl (OpOk.step (ok_load rfl ti_api_State rfl rfl)) ?_
 refine ro rfl rfl (ok_call rfl rfl rfl ((sright_ok s (by omega) (by omega) (fun z hz => by have := hl z hz; omega)).plain (by simp [renL, AV.ren, StC_take, StC_ren]) rfl)) ?_
 refine ro rfl rfl (OpOk.step (ok_unOp rfl rfl)) ?_
 refine ro_nil ?_
 refine keepK hK3 [2, 3, 4, 9] (by dsimp) (by dsimp) ?_
 refine T.cond rfl (fun hc => ?_) (fun hc => ?_) -- cond 1
 ·(try simp only [dE] at hc)
  rw [applyS_no hc] at hQ
  refine T.seq fun K4 hK4 => ?_
  refine T.region ?_ -- region 2
  refine ro rfl rfl (OpOk.step (ok_build rfl ti_api_State rfl)) ?_
  refine ro rfl rfl (OpOk.step (ok_store rfl ti_api_State (by decide) rfl rfl rfl rfl rfl (by first | exact Nat.le_of_ble_eq_true rfl | simp) (by first | exact .inl ⟨rfl, rfl⟩ | exact .inr rfl))) ?_
  refine ro rfl rfl (OpOk.step (ok_move (.inr rfl))) ?_
  refine ro_nil ?_
  refine keepK hK4 [4, 5] (by dsimp) (by dsimp) ?_
  refine T.ret (hQ _ _ _ rfl ?_).1 -- ret 1
  exact by exact ap_no (e := 1) rfl rfl
 ·(try simp only [dE] at hc)
  have hrs := hc
  have hck := hrs.1
  have hzl : 0 < s.zs.length := by have := hrs.2.2.2.2.1; have := (chkC_ok hck).2; unfold okC at *; omega
  obtain ⟨j, hj, hjx⟩ : ∃ j, j < s.zs.length ∧ (0 ≤ x.zone ∧ x.zone < s.zs.length → j = x.zone.toNat) := by
    by_cases h : 0 ≤ x.zone ∧ x.zone < s.zs.length
    · exact ⟨x.zone.toNat, by omega, fun _ => rfl⟩
    · exact ⟨0, hzl, fun h' => absurd h' h⟩
  obtain ⟨z, hz⟩ : ∃ z, s.zs[j]? = some z := ⟨_, List.getElem?_eq_getElem hj⟩
  have hsq := hrs.2.2.1
  refine T.skip ?_
  refine keepK hK2 [2, 3, 4] (by dsimp) (by dsimp) ?_
  refine T.seq fun K5 hK5 => ?_
  refine T.seq fun K6 hK6 => ?_
  refine T.region ?_ -- region 3
  refine ro rfl rfl (OpOk.step (ok_fieldAddr rfl ti_api_Rec rfl rfl ti_int (by decide) rfl)) ?_
  refine ro rfl rfl (OpOk.step (ok_load rfl ti_int rfl rfl)) ?_
  refine ro rfl rfl (OpOk.step (ok_fieldAddr rfl ti_api_State rfl rfl ti_int (by decide) rfl)) ?_
  refine ro rfl rfl (OpOk.step (ok_load rfl ti_int rfl rfl)) ?_
  refine ro rfl rfl (OpOk.step (ok_binOp rfl ti_int rfl)) ?_
  refine ro_case rfl rfl (OpOk.step (ok_moveb (.inl rfl) rfl)) (fun hb => ?_) (fun hb => ?_)
  ·(try simp only [dE] at hb)
   refine ro_skip rfl rfl ?_
   refine ro_skip rfl rfl ?_
   refine ro_skip rfl rfl ?_
   refine ro_skip rfl rfl ?_
   refine ro_skip rfl rfl ?_
   refine ro_skip rfl rfl ?_
   refine ro rfl rfl (OpOk.step (ok_pickb (t := true) (d := true) rfl rfl rfl)) ?_
   refine ro rfl rfl (OpOk.step (ok_moveb (c := true) (.inl rfl) rfl)) ?_
   refine ro_skip rfl rfl ?_
   refine ro_skip rfl rfl ?_
   refine ro_skip rfl rfl ?_
   refine ro rfl rfl (OpOk.step (ok_pickb (t := true) (d := true) rfl rfl rfl)) ?_
   refine ro_nil ?_
   refine keepK hK6 [2, 3, 4, 28] (by dsimp) (by dsimp) ?_
   refine T.cond_true rfl ?_
   refine T.seq fun K7 hK7 => ?_
   refine T.region ?_ -- region 4
   refine ro rfl rfl (OpOk.step (ok_build rfl ti_api_State rfl)) ?_
   refine ro rfl rfl (OpOk.step (ok_store rfl ti_api_State (by decide) rfl rfl rfl rfl rfl (by first | exact Nat.le_of_ble_eq_true rfl | simp) (by first | exact .inl ⟨rfl, rfl⟩ | exact .inr rfl))) ?_
   refine ro rfl rfl (OpOk.step (ok_move (.inr rfl))) ?_
   refine ro_nil ?_
   refine keepK hK7 [4, 5] (by dsimp) (by dsimp) ?_
   refine T.ret (hQ _ _ _ rfl ?_).1 -- ret 2
   exact by (rw [applyS_form hrs (by unfold Goes; omega)]; exact ap_no (e := 13) rfl rfl)
  ·(try simp only [dE] at hb)
   refine ro rfl rfl (OpOk.step (ok_fieldAddr rfl ti_api_Rec rfl rfl ti_int (by decide) rfl)) ?_
   refine ro rfl rfl (OpOk.step (ok_load rfl ti_int rfl rfl)) ?_
   refine ro rfl rfl (OpOk.step (ok_fieldAddr rfl ti_api_State rfl rfl ti_int (by decide) rfl)) ?_
   refine ro rfl rfl (OpOk.step (ok_load rfl ti_int rfl rfl)) ?_
   refine ro rfl rfl (OpOk.step (ok_add64 rfl ti_int rfl rfl (by omega) (by omega))) ?_
   refine ro rfl rfl (OpOk.step (ok_binOp rfl ti_int rfl)) ?_
   refine ro rfl rfl (OpOk.step (ok_pick rfl rfl)) ?_
   refine ro_case rfl rfl (OpOk.step (ok_moveb (.inl rfl) rfl)) (fun hb => ?_) (fun hb => ?_)
   ·(try simp only [dE] at hb)
    refine ro_skip rfl rfl ?_
    refine ro_skip rfl rfl ?_
    refine ro_skip rfl rfl ?_
    refine ro rfl rfl (OpOk.step (ok_pickb (t := true) (d := true) rfl rfl rfl)) ?_
    refine ro_nil ?_
    refine keepK hK6 [2, 3, 4, 28] (by dsimp) (by dsimp) ?_
    refine T.cond_true rfl ?_
    refine T.seq fun K8 hK8 => ?_
    refine T.region ?_ -- region 4
    refine ro rfl rfl (OpOk.step (ok_build rfl ti_api_State rfl)) ?_
    refine ro rfl rfl (OpOk.step (ok_store rfl ti_api_State (by decide) rfl rfl rfl rfl rfl (by first | exact Nat.le_of_ble_eq_true rfl | simp) (by first | exact .inl ⟨rfl, rfl⟩ | exact .inr rfl))) ?_
    refine ro rfl rfl (OpOk.step (ok_move (.inr rfl))) ?_
    refine ro_nil ?_
    refine keepK hK8 [4, 5] (by dsimp) (by dsimp) ?_
    refine T.ret (hQ _ _ _ rfl ?_).1 -- ret 3
    exact by (rw [applyS_form hrs (by unfold Goes; omega)]; exact ap_no (e := 13) rfl rfl)
   ·(try simp only [dE] at hb)
    refine ro rfl rfl (OpOk.step (ok_fieldAddr rfl ti_api_Rec rfl rfl ti_int (by decide) rfl)) ?_
    refine ro rfl rfl (OpOk.step (ok_load rfl ti_int rfl rfl)) ?_
    refine ro rfl rfl (OpOk.step (ok_binOp rfl ti_int rfl)) ?_
    refine ro rfl rfl (OpOk.step (ok_pick rfl rfl)) ?_
    refine ro_nil ?_
    refine keepK hK6 [2, 3, 4, 28] (by dsimp) (by dsimp) ?_
    refine T.cond rfl (fun hc => ?_) (fun hc => ?_) -- cond 2
    ·(try simp only [dE] at hc)
     refine T.seq fun K9 hK9 => ?_
     refine T.region ?_ -- region 4
     refine ro rfl rfl (OpOk.step (ok_build rfl ti_api_State rfl)) ?_
     refine ro rfl rfl (OpOk.step (ok_store rfl ti_api_State (by decide) rfl rfl rfl rfl rfl (by first | exact Nat.le_of_ble_eq_true rfl | simp) (by first | exact .inl ⟨rfl, rfl⟩ | exact .inr rfl))) ?_
     refine ro rfl rfl (OpOk.step (ok_move (.inr rfl))) ?_
     refine ro_nil ?_
     refine keepK hK9 [4, 5] (by dsimp) (by dsimp) ?_
     refine T.ret (hQ _ _ _ rfl ?_).1 -- ret 4
     exact by (rw [applyS_form hrs (by unfold Goes; omega)]; exact ap_no (e := 13) rfl rfl)
    ·(try simp only [dE] at hc)
     refine T.skip ?_
     refine keepK hK5 [2, 3, 4] (by dsimp) (by dsimp) ?_
     refine T.seq fun K10 hK10 => ?_
     refine T.region ?_ -- region 5
     refine ro rfl rfl (OpOk.step (ok_load rfl ti_api_State rfl rfl)) ?_
     refine ro rfl rfl (ok_call rfl rfl rfl ((sclone_at s j z hz (by omega) (by omega) (fun z hz => by have := hl z hz; omega) hpb).fresh (by simp [renL, AV.ren, StC_take, StC_ren]) (by simp [AV.ren, StS_ren]; rfl) (by show [_, _, _] = _; exact heap3 (ib_ren _ _) (ZR_ren (p := 2) (q := 5) rfl _ _ _ _) (prb_ren _ _)))) ?_
     refine ro rfl rfl (OpOk.step (ok_store rfl ti_api_State (by decide) rfl rfl rfl rfl rfl (by first | exact Nat.le_of_ble_eq_true rfl | simp) (by first | exact .inl ⟨rfl, rfl⟩ | exact .inr rfl))) ?_
     refine ro_nil ?_
     refine keepK hK10 [2, 3, 4] (by dsimp) (by dsimp) ?_
     refine T.seq fun K11 hK11 => ?_
     refine T.region ?_ -- region 6
     refine ro rfl rfl (OpOk.step (ok_moveb (c := false) (.inr rfl) rfl)) ?_
     refine ro_nil ?_
     refine keepK hK11 [2, 3, 4, 6] (by dsimp) (by dsimp) ?_
     refine T.seq fun K12 hK12 => ?_
     refine T.block ?_
     refine T.seq fun K13 hK13 => ?_
     refine T.region ?_ -- region 7
     refine ro rfl rfl (OpOk.step (ok_fieldAddr rfl ti_api_Rec rfl rfl ti_int (by decide) rfl)) ?_
     refine ro rfl rfl (OpOk.step (ok_load rfl ti_int rfl rfl)) ?_
     refine ro rfl rfl (OpOk.step (ok_binOp rfl ti_int rfl)) ?_
     refine ro rfl rfl (OpOk.step (ok_move (.inr rfl))) ?_
     refine ro_nil ?_
     refine keepK hK13 [2, 3, 4, 6, 32] (by dsimp) (by dsimp) ?_
     refine T.cond rfl (fun hc => ?_) (fun hc => ?_) -- cond 3
     ·(try simp only [dE] at hc)
      refine T.ent (((TEnt.freeze 5 (b := ⟨2, true, Prs z.pars⟩) rfl).trans (TEnt.blk 4 (b := ZR s.zs j (ZnS z (.sl 5 0 z.pars.length))) (l' := Zns s.zs) rfl (by simp [ZR]) (EntL.back (Zns_get hz) (Ent.zone z rfl)))).trans (TEnt.toH (tm' := [(2, .ref 0 0 0), (3, .ref 1 0 0), (4, .ref 2 0 0)]) (H' := [some (SB s (.sl 3 0 s.st.length) (.sl 4 0 s.zs.length)), some (RcB x), some Z15, some ⟨1, true, ints .i64 s.st⟩, some ⟨6, true, Zns s.zs⟩, some ⟨2, false, Prs z.pars⟩]) rfl ⟨rfl, rfl, rfl, trivial⟩)) ?_
      refine T.region ?_ -- region 8
      refine ro rfl rfl (OpOk.step (ok_load rfl ti_api_Rec rfl rfl)) ?_
      refine ro rfl rfl (ok_call rfl rfl rfl (((sstatus_ok s x (by omega) (by omega)).pass [0, 3, 4] (by decide) (by simp) (by exact heap3 (SB_ren (by decide) (by decide)) (ib_ren _ _) (znb_ren _ _)) (by simp [renL, AV.ren, RcC_take, RcC_ren]; rfl)).eq (x' := .b (decide (StOk s.st x))) (H'' := [some (SB s (.sl 3 0 s.st.length) (.sl 4 0 s.zs.length)), some (RcB x), some Z15, some ⟨1, true, ints .i64 (if StOk s.st x then s.st.set x.member.toNat x.status else s.st)⟩, some ⟨6, true, Zns (if StOk s.st x then s.zs.map unw else s.zs)⟩, some ⟨2, false, Prs z.pars⟩]) rfl (heap6 (SB_ren rfl rfl) rfl rfl (ib_ren _ _) (znb_ren _ _) rfl))) ?_
      refine ro rfl rfl (OpOk.step (ok_move (.inr rfl))) ?_
      refine ro_nil ?_
      refine keepK hK12 [2, 3, 4, 6] (by dsimp) (by dsimp) ?_
      refine T.seq fun K14 hK14 => ?_
      refine T.seq fun K15 hK15 => ?_
      refine T.region ?_ -- region 11
      refine ro rfl rfl (OpOk.step (ok_move (.inl rfl))) ?_
      refine ro rfl rfl (OpOk.step (ok_unOp rfl rfl)) ?_
      refine ro_nil ?_
      refine keepK hK15 [2, 3, 4, 55] (by dsimp) (by dsimp) ?_
      refine T.cond rfl (fun hc => ?_) (fun hc => ?_) -- cond 4
      ·(try simp only [dE] at hc)
       refine T.seq fun K16 hK16 => ?_
       refine T.region ?_ -- region 12
       refine ro rfl rfl (OpOk.step (ok_build rfl ti_api_State rfl)) ?_
       refine ro rfl rfl (OpOk.step (ok_store rfl ti_api_State (by decide) rfl rfl rfl rfl rfl (by first | exact Nat.le_of_ble_eq_true rfl | simp) (by first | exact .inl ⟨rfl, rfl⟩ | exact .inr rfl))) ?_
       refine ro rfl rfl (OpOk.step (ok_move (.inr rfl))) ?_
       refine ro_nil ?_
       refine keepK hK16 [4, 5] (by dsimp) (by dsimp) ?_
       refine T.ret (hQ _ _ _ rfl ?_).1 -- ret 5
       exact by (rw [applyS_bad hrs (by unfold Goes; omega) (by rw [stepS_st (by assumption), if_neg (by assumption)])]; exact ap_no (e := 13) rfl rfl)
      ·(try simp only [dE] at hc)
       refine T.skip ?_
       refine keepK hK14 [2, 3, 4] (by dsimp) (by dsimp) ?_
       refine T.seq fun K17 hK17 => ?_
       refine T.region ?_ -- region 13
       refine ro rfl rfl (OpOk.step (ok_fieldAddr rfl ti_api_Rec rfl rfl ti_int (by decide) rfl)) ?_
       refine ro rfl rfl (OpOk.step (ok_load rfl ti_int rfl rfl)) ?_
       refine ro rfl rfl (OpOk.step (ok_fieldAddr rfl ti_api_State rfl rfl ti_int (by decide) rfl)) ?_
       refine ro rfl rfl (OpOk.step (ok_store rfl ti_int (by decide) rfl rfl rfl rfl rfl (by first | exact Nat.le_of_ble_eq_true rfl | simp) (by first | exact .inl ⟨rfl, rfl⟩ | exact .inr rfl))) ?_
       refine ro_nil ?_
       refine keepK hK17 [2, 4] (by dsimp) (by dsimp) ?_
       refine T.seq fun K18 hK18 => ?_
       refine T.region ?_ -- region 14
       refine ro rfl rfl (OpOk.step (ok_load rfl ti_api_State rfl rfl)) ?_
       refine ro rfl rfl (OpOk.step (ok_store rfl ti_api_State (by decide) rfl rfl rfl rfl rfl (by first | exact Nat.le_of_ble_eq_true rfl | simp) (by first | exact .inl ⟨rfl, rfl⟩ | exact .inr rfl))) ?_
       refine ro rfl rfl (OpOk.step (ok_move (.inr rfl))) ?_
       refine ro_nil ?_
       refine keepK hK18 [4, 5] (by dsimp) (by dsimp) ?_
       refine T.ret (hQ _ _ _ rfl ?_).1 -- ret 6
       have e := applyS_ok (t := { s with st := s.st.set x.member.toNat x.status, zs := s.zs.map unw, sq := x.seq }) hrs (x := x) (by unfold Goes; omega) (by rw [stepS_st (by assumption), if_pos (by assumption)])
       rw [e]
       exact ap_ok _ rfl rfl (by simp) (by simp) (by show some (⟨1, true, ints .i64 (if StOk s.st x then _ else _)⟩ : Blk) = _; rw [if_pos (by assumption)]) (by show some (⟨6, true, Zns (if StOk s.st x then _ else _)⟩ : Blk) = _; rw [if_pos (by assumption)])
     ·(try simp only [dE] at hc)
      refine T.seq fun K19 hK19 => ?_
      refine T.region ?_ -- region 9
      refine ro rfl rfl (OpOk.step (ok_fieldAddr rfl ti_api_Rec rfl rfl ti_int (by decide) rfl)) ?_
      refine ro rfl rfl (OpOk.step (ok_load rfl ti_int rfl rfl)) ?_
      refine ro rfl rfl (OpOk.step (ok_fieldAddr rfl ti_api_State rfl rfl ti_Lapi_Zone (by decide) rfl)) ?_
      refine ro rfl rfl (OpOk.step (ok_load rfl ti_Lapi_Zone rfl rfl)) ?_
      refine ro rfl rfl (OpOk.step (ok_len' rfl rfl ti_Lapi_Zone rfl (by first | exact ints_length _ _ | exact rowsA_length _ _ | exact Cms_len _ | exact mapLen _ | rfl))) ?_
      refine ro rfl rfl (OpOk.step (ok_sub64 rfl ti_int rfl rfl (by omega) (by omega))) ?_
      refine ro rfl rfl (ok_call rfl rfl rfl ((sin_ok x.zone 0 ((s.zs.length : Int) - 1)).plain (by simp [renL, AV.ren]) rfl)) ?_
      refine ro rfl rfl (OpOk.step (ok_move (.inr rfl))) ?_
      refine ro_nil ?_
      refine keepK hK19 [2, 3, 4, 6, 38] (by dsimp) (by dsimp) ?_
      refine T.cond rfl (fun hc => ?_) (fun hc => ?_) -- cond 5
      ·(try simp only [dE] at hc)
       refine T.drawH mixed [7, 8] ?_ -- region 10
       refine any_take 0 rfl (by first | rfl | decide +kernel) rfl (HeldL.refl _) (fun H' hH => OpOk.step (ok_load rfl ti_api_State (locA_held hH rfl) rfl)) ?_
       refine any_take 1 rfl (by first | rfl | decide +kernel) rfl (HeldL.refl _) (fun H' hH => OpOk.step (ok_fieldAddr rfl ti_api_State rfl rfl ti_Lapi_Zone (by decide) rfl)) ?_
       refine any_take 2 rfl (by first | rfl | decide +kernel) rfl (HeldL.refl _) (fun H' hH => OpOk.step (ok_load rfl ti_Lapi_Zone (locA_held hH rfl) rfl)) ?_
       refine any_take 3 rfl (by first | rfl | decide +kernel) rfl (HeldL.refl _) (fun H' hH => OpOk.step (ok_fieldAddr rfl ti_api_Rec rfl rfl ti_int (by decide) rfl)) ?_
       refine any_take 4 rfl (by first | rfl | decide +kernel) rfl (HeldL.refl _) (fun H' hH => OpOk.step (ok_load rfl ti_int (locA_held hH rfl) rfl)) ?_
       refine any_take 5 rfl (by first | rfl | decide +kernel) rfl (HeldL.refl _) (fun H' hH => OpOk.step (by exact ok_index_sl (b := ZR s.zs j (ZnS z (.sl 5 0 z.pars.length))) rfl ti_Lapi_Zone rfl ti_api_Zone rfl (hH.get rfl) rfl rfl (by omega) (by omega))) ?_
       refine any_take 6 rfl (by first | rfl | decide +kernel) rfl (HeldL.refl _) (fun H' hH => OpOk.step (ok_load rfl ti_api_Rec (locA_held hH rfl) rfl)) ?_
       refine any_one 7 rfl (by first | rfl | decide +kernel) rfl rfl (ok_call rfl rfl rfl (((schange_ok s x j z hz hck (by have := hrs.2.2.2.2.2.2.2.1 z (List.mem_of_getElem? hz); exact this.1) (by omega) (by omega) (hl z (List.mem_of_getElem? hz)) hx).pass [3, 4, 5] (by decide) (by simp) (by exact heap3 (ib_ren _ _) (ZR_ren (by decide) _ _ _ _) (prb_ren _ _)) (by
  have hjz := hjx (by omega)
  rw [Nat.zero_add, ← hjz]
  simp [renL, AV.ren, RcC_take, RcC_ren, StS_take, StS_ren, pos345.1, pos345.2])).eq (x' := .b (stepZ s.c s.zs (decide (2 ∈ s.st)) z x).isSome) (H'' := [some (SB s (.sl 3 0 s.st.length) (.sl 4 0 s.zs.length)), some (RcB x), some Z15, some ⟨1, true, ints .i64 s.st⟩, some ⟨6, true, Zns (s.zs.set j ((stepZ s.c s.zs (decide (2 ∈ s.st)) z x).getD z))⟩, none]) rfl (heap6 rfl rfl rfl (ib_ren _ _) (znb_ren _ _) rfl))) (.inl (by simp)) ?_
       refine any_one 8 rfl (by first | rfl | decide +kernel) rfl rfl (OpOk.step (ok_move (.inr rfl))) (.inl (by simp)) ?_
       refine any_done rfl ?_
       refine keepK hK12 [2, 3, 4, 6] (by dsimp) (by dsimp) ?_
       refine T.seq fun K20 hK20 => ?_
       refine T.seq fun K21 hK21 => ?_
       refine T.region ?_ -- region 11
       refine ro rfl rfl (OpOk.step (ok_move (.inl rfl))) ?_
       refine ro rfl rfl (OpOk.step (ok_unOp rfl rfl)) ?_
       refine ro_nil ?_
       refine keepK hK21 [2, 3, 4, 55] (by dsimp) (by dsimp) ?_
       refine T.cond rfl (fun hc => ?_) (fun hc => ?_) -- cond 6
       ·(try simp only [dE] at hc)
        refine T.seq fun K22 hK22 => ?_
        refine T.region ?_ -- region 12
        refine ro rfl rfl (OpOk.step (ok_build rfl ti_api_State rfl)) ?_
        refine ro rfl rfl (OpOk.step (ok_store rfl ti_api_State (by decide) rfl rfl rfl rfl rfl (by first | exact Nat.le_of_ble_eq_true rfl | simp) (by first | exact .inl ⟨rfl, rfl⟩ | exact .inr rfl))) ?_
        refine ro rfl rfl (OpOk.step (ok_move (.inr rfl))) ?_
        refine ro_nil ?_
        refine keepK hK22 [4, 5] (by dsimp) (by dsimp) ?_
        refine T.ret (hQ _ _ _ rfl ?_).1 -- ret 7
        exact by (rw [applyS_bad hrs (by unfold Goes; omega) (by rw [stepS_zn (by assumption) (by omega) (by rw [← hjx (by omega)]; exact hz)]; simp_all)]; exact ap_no (e := 13) rfl rfl)
       ·(try simp only [dE] at hc)
        refine T.skip ?_
        refine keepK hK20 [2, 3, 4] (by dsimp) (by dsimp) ?_
        refine T.seq fun K23 hK23 => ?_
        refine T.region ?_ -- region 13
        refine ro rfl rfl (OpOk.step (ok_fieldAddr rfl ti_api_Rec rfl rfl ti_int (by decide) rfl)) ?_
        refine ro rfl rfl (OpOk.step (ok_load rfl ti_int rfl rfl)) ?_
        refine ro rfl rfl (OpOk.step (ok_fieldAddr rfl ti_api_State rfl rfl ti_int (by decide) rfl)) ?_
        refine ro rfl rfl (OpOk.step (ok_store rfl ti_int (by decide) rfl rfl rfl rfl rfl (by first | exact Nat.le_of_ble_eq_true rfl | simp) (by first | exact .inl ⟨rfl, rfl⟩ | exact .inr rfl))) ?_
        refine ro_nil ?_
        refine keepK hK23 [2, 4] (by dsimp) (by dsimp) ?_
        refine T.seq fun K24 hK24 => ?_
        refine T.region ?_ -- region 14
        refine ro rfl rfl (OpOk.step (ok_load rfl ti_api_State rfl rfl)) ?_
        refine ro rfl rfl (OpOk.step (ok_store rfl ti_api_State (by decide) rfl rfl rfl rfl rfl (by first | exact Nat.le_of_ble_eq_true rfl | simp) (by first | exact .inl ⟨rfl, rfl⟩ | exact .inr rfl))) ?_
        refine ro rfl rfl (OpOk.step (ok_move (.inr rfl))) ?_
        refine ro_nil ?_
        refine keepK hK24 [4, 5] (by dsimp) (by dsimp) ?_
        refine T.ret (hQ _ _ _ rfl ?_).1 -- ret 8
        obtain ⟨z', hz'⟩ := Option.isSome_iff_exists.1 (by assumption)
        have hjz := hjx (by omega)
        have e := applyS_ok (t := { s with zs := s.zs.set j z', sq := x.seq }) hrs (x := x) (by unfold Goes; omega) (by rw [stepS_zn (by assumption) (by omega) (by rw [← hjz]; exact hz), hz', ← hjz]; rfl)
        rw [e]
        exact ap_ok _ rfl rfl rfl (by simp) rfl (by show some (⟨6, true, Zns (s.zs.set j ((stepZ s.c s.zs (decide (2 ∈ s.st)) z x).getD z))⟩ : Blk) = _; rw [hz']; rfl)
      ·(try simp only [dE] at hc)
       refine T.skip ?_
       refine keepK hK12 [2, 3, 4, 6] (by dsimp) (by dsimp) ?_
       refine T.seq fun K25 hK25 => ?_
       refine T.seq fun K26 hK26 => ?_
       refine T.region ?_ -- region 11
       refine ro rfl rfl (OpOk.step (ok_moveb (c := false) (.inl rfl) rfl)) ?_
       refine ro rfl rfl (OpOk.step (ok_unOp rfl rfl)) ?_
       refine ro_nil ?_
       refine keepK hK26 [2, 3, 4, 55] (by dsimp) (by dsimp) ?_
       refine T.cond rfl (fun hc => ?_) (fun hc => ?_) -- cond 7
       ·(try simp only [dE] at hc)
        refine T.seq fun K27 hK27 => ?_
        refine T.region ?_ -- region 12
        refine ro rfl rfl (OpOk.step (ok_build rfl ti_api_State rfl)) ?_
        refine ro rfl rfl (OpOk.step (ok_store rfl ti_api_State (by decide) rfl rfl rfl rfl rfl (by first | exact Nat.le_of_ble_eq_true rfl | simp) (by first | exact .inl ⟨rfl, rfl⟩ | exact .inr rfl))) ?_
        refine ro rfl rfl (OpOk.step (ok_move (.inr rfl))) ?_
        refine ro_nil ?_
        refine keepK hK27 [4, 5] (by dsimp) (by dsimp) ?_
        refine T.ret (hQ _ _ _ rfl ?_).1 -- ret 9
        exact by (rw [applyS_bad hrs (by unfold Goes; omega) (stepS_no (by assumption) (by omega))]; exact ap_no (e := 13) rfl rfl)
       ·(try simp only [dE] at hc)
        refine T.skip ?_
        refine keepK hK25 [2, 3, 4] (by dsimp) (by dsimp) ?_
        refine T.seq fun K28 hK28 => ?_
        refine T.region ?_ -- region 13
        refine ro rfl rfl (OpOk.step (ok_fieldAddr rfl ti_api_Rec rfl rfl ti_int (by decide) rfl)) ?_
        refine ro rfl rfl (OpOk.step (ok_load rfl ti_int rfl rfl)) ?_
        refine ro rfl rfl (OpOk.step (ok_fieldAddr rfl ti_api_State rfl rfl ti_int (by decide) rfl)) ?_
        refine ro rfl rfl (OpOk.step (ok_store rfl ti_int (by decide) rfl rfl rfl rfl rfl (by first | exact Nat.le_of_ble_eq_true rfl | simp) (by first | exact .inl ⟨rfl, rfl⟩ | exact .inr rfl))) ?_
        refine ro_nil ?_
        refine keepK hK28 [2, 4] (by dsimp) (by dsimp) ?_
        refine T.seq fun K29 hK29 => ?_
        refine T.region ?_ -- region 14
        refine ro rfl rfl (OpOk.step (ok_load rfl ti_api_State rfl rfl)) ?_
        refine ro rfl rfl (OpOk.step (ok_store rfl ti_api_State (by decide) rfl rfl rfl rfl rfl (by first | exact Nat.le_of_ble_eq_true rfl | simp) (by first | exact .inl ⟨rfl, rfl⟩ | exact .inr rfl))) ?_
        refine ro rfl rfl (OpOk.step (ok_move (.inr rfl))) ?_
        refine ro_nil ?_
        refine keepK hK29 [4, 5] (by dsimp) (by dsimp) ?_
        refine T.ret (hQ _ _ _ rfl ?_).1 -- ret 10
        exact by exact absurd hc (by decide)
end Go.Proofs.Ytlegolcbjjjofaa.AmF
