/- Walks over the abstract machine: states of the log: the document's member states. -/
import Derived.Test.YtlegolcbjjjofaaAfState11
namespace Go.Proofs.Ytlegolcbjjjofaa.AmF
open Go Go.AM
set_option maxRecDepth 100000
set_option maxHeartbeats 4000000
set_option linter.unusedSimpArgs false
set_option linter.unusedVariables false
attribute [local simp] tkeep tget tput ev cav argsTM pickA normT putA splice AV.cells ints_length rowsA_length Prs_len Zns_len
theorem StS_eq (s : St) (A B : AV) : StS s A B = CC s.c ++ [.int s.ep, .int s.sq, A, B] := rfl
theorem Ent.sts {H : Heap} {A B A' B' : AV} (s : St) (hA : Ent H A A') (hB : Ent H B B') : Ent H (.agg (StS s A B)) (.agg (StS s A' B')) :=
  Ent.agg (EntL.append (EntL.refl _) (EntL.cons (Ent.refl _) (EntL.cons (Ent.refl _) (EntL.cons hA (EntL.cons hB EntL.nil)))))
theorem rwith_ok (s : St) (i : Int) (z : Zn) (hi : 0 ≤ i ∧ i < s.zs.length) (hm : s.zs.length ≤ 1000000) : CSpec Try.prog 66 [] [.agg (StC s), .int i, .agg (ZnC z)] [] (.agg (StC { s with zs := s.zs.set i.toNat z })) := by
 refine CSpec.body Try.func66 rfl rfl rfl rfl rfl fun Q hQ => ?_
 refine T.seq fun K1 hK1 => ?_
 refine T.region ?_ -- region 0
 refine ro rfl rfl (OpOk.step (ok_box (n := 15) rfl rfl (by decide))) ?_
 refine ro rfl rfl (OpOk.step (ok_box (n := 6) rfl rfl (by decide))) ?_
 refine ro rfl rfl (OpOk.step (ok_alloc rfl ti_api_State rfl (by decide))) ?_
 refine ro_nil ?_
 refine keepK hK1 [1, 3, 5, 6] (by dsimp) (by dsimp) ?_
 refine T.seq fun K2 hK2 => ?_
 refine T.region ?_ -- region 1
 refine ro rfl rfl (OpOk.step (ok_buildSlice (n := 0) (ps := #[]) rfl ti_Lapi_Zone rfl ti_api_Zone (by decide) rfl rfl (by decide) rfl rfl rfl)) ?_
 refine ro rfl rfl (OpOk.step (ok_fieldAddr rfl ti_api_State rfl rfl ti_Lapi_Zone (by decide) rfl)) ?_
 refine ro rfl rfl (OpOk.step (ok_load rfl ti_Lapi_Zone rfl rfl)) ?_
 refine ro rfl rfl (OpOk.step (by exact ok_append_map (fun z => .agg (ZnC z)) (xs := []) (ys := s.zs) rfl ti_Lapi_Zone rfl ti_api_Zone (by decide) (by decide) rfl ti_Lapi_Zone (by simp) rfl rfl rfl rfl rfl rfl rfl rfl rfl (by show (0 + s.zs.length) * 64 ≤ _; omega))) ?_
 refine ro rfl rfl (OpOk.step (ok_move (.inr rfl))) ?_
 refine ro_nil ?_
 refine keepK hK2 [1, 3, 5, 6, 7] (by dsimp) (by dsimp) ?_
 refine T.seq fun K3 hK3 => ?_
 refine T.region ?_ -- region 2
 refine ro rfl rfl (OpOk.step (ok_move (.inl rfl))) ?_
 refine ro rfl rfl (OpOk.step (ok_move (.inl rfl))) ?_
 refine ro rfl rfl (OpOk.step (ok_load rfl ti_api_Zone rfl rfl)) ?_
 refine ro rfl rfl (OpOk.step (by exact ok_index_sl (b := ⟨6, true, Zns s.zs⟩) rfl ti_Lapi_Zone rfl ti_api_Zone rfl rfl rfl rfl (by omega) (show i < ((s.zs.length : Nat) : Int) from hi.2))) ?_
 refine ro rfl rfl (OpOk.step ((ok_store rfl ti_api_Zone (by decide) (id := 4) (j := 0 + i.toNat) (f := 0) rfl rfl rfl (List.getElem?_eq_getElem (by simp; omega)) rfl (by show 0 + 6 ≤ 6; decide) (.inl ⟨rfl, rfl⟩)).eq (x' := .any) (H'' := [some (StB s), some (ZnB z), some Z15, none, some ⟨6, true, Zns (s.zs.set i.toNat z)⟩]) rfl (by show [_, _, _, _, some (⟨6, true, (Zns s.zs).set (0 + i.toNat) (.agg (ZnC z))⟩ : Blk)] = _; rw [Nat.zero_add, Zns_set]; rfl))) ?_
 refine ro_nil ?_
 refine keepK hK3 [3, 6, 7] (by dsimp) (by dsimp) ?_
 refine T.seq fun K4 hK4 => ?_
 refine T.region ?_ -- region 3
 refine ro rfl rfl (OpOk.step (ok_move (.inl rfl))) ?_
 refine ro rfl rfl (OpOk.step (ok_fieldAddr rfl ti_api_State rfl rfl ti_Lapi_Zone (by decide) rfl)) ?_
 refine ro rfl rfl (OpOk.step (ok_store rfl ti_Lapi_Zone (by decide) rfl rfl rfl rfl rfl (by first | exact Nat.le_of_ble_eq_true rfl | simp) (by first | exact .inl ⟨rfl, rfl⟩ | exact .inr rfl))) ?_
 refine ro_nil ?_
 refine keepK hK4 [3, 6] (by dsimp) (by dsimp) ?_
 refine T.seq fun K5 hK5 => ?_
 refine T.region ?_ -- region 4
 refine ro rfl rfl (OpOk.step (ok_load rfl ti_api_State rfl rfl)) ?_
 refine ro rfl rfl (OpOk.step (ok_store rfl ti_api_State (by decide) rfl rfl rfl rfl rfl (by first | exact Nat.le_of_ble_eq_true rfl | simp) (by first | exact .inl ⟨rfl, rfl⟩ | exact .inr rfl))) ?_
 refine ro_nil ?_
 refine keepK hK5 [6] (by dsimp) (by dsimp) ?_
 refine T.ret (hQ _ _ _ rfl ?_).1 -- ret 1
 exact (TEnt.freeze 4 (b := ⟨6, true, Zns (s.zs.set i.toNat z)⟩) rfl).trans ((TEnt.put1 0 (x' := .agg (StC { s with zs := s.zs.set i.toNat z })) (by
   show Ent _ (.agg (StS s (.fz 1 (ints .i64 s.st)) (.sl 4 0 ([] ++ s.zs).length))) _
   exact Ent.sts s (Ent.refl _) (Ent.sl0 (b := ⟨6, false, Zns (s.zs.set i.toNat z)⟩) rfl rfl (by simp)))).trans (TEnt.fin [] (by decide) (by simp) rfl ⟨by simp [AV.ren, StC_ren], trivial⟩))
/-- With its status, and so many zones turned. -/
def sK (s : St) (x : Rc) (i : Nat) : St := { s with st := s.st.set x.member.toNat x.status, zs := unwK s.zs i }
def stO (s : St) (x : Rc) : St := if StOk s.st x then { s with st := s.st.set x.member.toNat x.status, zs := s.zs.map unw } else s
theorem rstatus_ok (s : St) (x : Rc) (hn : s.st.length ≤ 1000000) (hm : s.zs.length ≤ 1000000) : CSpec Try.prog 64 [] [.agg (StC s), .agg (RcC x)] [] (.tup [.agg (StC (stO s x)), .b (decide (StOk s.st x))]) := by
 have hob := fIdx_bd oddP s.st
 refine CSpec.body Try.func64 rfl rfl rfl rfl rfl fun Q hQ => ?_
 refine T.seq fun K1 hK1 => ?_
 refine T.region ?_ -- region 0
 refine ro rfl rfl (OpOk.step (ok_box (n := 15) rfl rfl (by decide))) ?_
 refine ro rfl rfl (OpOk.step (ok_box (n := 10) rfl rfl (by decide))) ?_
 refine ro rfl rfl (OpOk.step (ok_alloc rfl ti_api_State rfl (by decide))) ?_
 refine ro rfl rfl (OpOk.step (ok_moveb (c := false) (.inr rfl) rfl)) ?_
 refine ro_nil ?_
 refine keepK hK1 [2, 3, 4] (by dsimp) (by dsimp) ?_
 refine T.seq fun K2 hK2 => ?_
 refine T.region ?_ -- region 1
 refine ro rfl rfl (OpOk.step (ok_load rfl ti_api_State rfl rfl)) ?_
 refine ro rfl rfl (ok_call rfl rfl rfl ((rodd_ok s (by omega)).plain (by simp [renL, AV.ren, StC_take, StC_ren]) rfl)) ?_
 refine ro rfl rfl (OpOk.step (ok_move (.inl rfl))) ?_
 refine ro rfl rfl (OpOk.step (ok_extract rfl rfl rfl)) ?_
 refine ro rfl rfl (OpOk.step (ok_extract rfl rfl rfl)) ?_
 refine ro rfl rfl (OpOk.step (ok_extract rfl rfl rfl)) ?_
 refine ro rfl rfl (OpOk.step (ok_move (.inr rfl))) ?_
 refine ro rfl rfl (OpOk.step (ok_move (.inr rfl))) ?_
 refine ro rfl rfl (OpOk.step (ok_move (.inr rfl))) ?_
 refine ro_nil ?_
 refine keepK hK2 [2, 3, 4, 6, 8] (by dsimp) (by dsimp) ?_
 refine T.seq fun K3 hK3 => ?_
 refine T.seq fun K4 hK4 => ?_
 refine T.region ?_ -- region 2
 refine ro rfl rfl (OpOk.step (ok_fieldAddr rfl ti_api_Rec rfl rfl ti_int (by decide) rfl)) ?_
 refine ro rfl rfl (OpOk.step (ok_load rfl ti_int rfl rfl)) ?_
 refine ro rfl rfl (OpOk.step (ok_binOp rfl ti_int rfl)) ?_
 refine ro_case rfl rfl (OpOk.step (ok_moveb (.inl rfl) rfl)) (fun hb => ?_) (fun hb => ?_)
 ·(try simp only [dE] at hb)
  refine ro_skip rfl rfl ?_
  refine ro_skip rfl rfl ?_
  refine ro_skip rfl rfl ?_
  refine ro_skip rfl rfl ?_
  refine ro_skip rfl rfl ?_
  refine ro_skip rfl rfl ?_
  refine ro rfl rfl (OpOk.step (ok_pickb (t := true) (d := true) rfl rfl rfl)) ?_
  refine ro rfl rfl (OpOk.step (ok_moveb (c := true) (.inl rfl) rfl)) ?_
  refine ro_skip rfl rfl ?_
  refine ro_skip rfl rfl ?_
  refine ro_skip rfl rfl ?_
  refine ro rfl rfl (OpOk.step (ok_pickb (t := true) (d := true) rfl rfl rfl)) ?_
  refine ro rfl rfl (OpOk.step (ok_moveb (c := true) (.inl rfl) rfl)) ?_
  refine ro_skip rfl rfl ?_
  refine ro_skip rfl rfl ?_
  refine ro_skip rfl rfl ?_
  refine ro rfl rfl (OpOk.step (ok_pickb (t := true) (d := true) rfl rfl rfl)) ?_
  refine ro rfl rfl (OpOk.step (ok_moveb (c := true) (.inl rfl) rfl)) ?_
  refine ro_skip rfl rfl ?_
  refine ro_skip rfl rfl ?_
  refine ro_skip rfl rfl ?_
  refine ro_skip rfl rfl ?_
  refine ro_skip rfl rfl ?_
  refine ro_skip rfl rfl ?_
  refine ro_skip rfl rfl ?_
  refine ro rfl rfl (OpOk.step (ok_pickb (t := true) (d := true) rfl rfl rfl)) ?_
  refine ro_nil ?_
  refine keepK hK4 [2, 3, 4, 47] (by dsimp) (by dsimp) ?_
  refine T.cond_true rfl ?_
  refine T.seq fun K5 hK5 => ?_
  refine T.region ?_ -- region 3
  refine ro rfl rfl (OpOk.step (ok_load rfl ti_api_State rfl rfl)) ?_
  refine ro rfl rfl (OpOk.step (ok_store rfl ti_api_State (by decide) rfl rfl rfl rfl rfl (by first | exact Nat.le_of_ble_eq_true rfl | simp) (by first | exact .inl ⟨rfl, rfl⟩ | exact .inr rfl))) ?_
  refine ro rfl rfl (OpOk.step (ok_moveb (c := false) (.inr rfl) rfl)) ?_
  refine ro_nil ?_
  refine keepK hK5 [4, 5] (by dsimp) (by dsimp) ?_
  refine T.ret (hQ _ _ _ rfl ?_).1 -- ret 1
  have hno : ¬ StOk s.st x := fun h => by obtain ⟨⟨h1, h2⟩, ⟨h3, h4⟩, h5⟩ := h; first | omega | exact absurd (h5 (by assumption)) (by assumption)
  rw [decide_eq_false hno, show stO s x = s from if_neg hno]
  exact TEnt.fin [] (by decide) (by simp) rfl ⟨by show AV.tup [.agg (renL _ (StC s)), _] = _; rw [StC_ren]; rfl, trivial⟩
 ·(try simp only [dE] at hb)
  refine ro rfl rfl (OpOk.step (ok_fieldAddr rfl ti_api_Rec rfl rfl ti_int (by decide) rfl)) ?_
  refine ro rfl rfl (OpOk.step (ok_load rfl ti_int rfl rfl)) ?_
  refine ro rfl rfl (OpOk.step (ok_fieldAddr rfl ti_api_State rfl rfl ti_Lint (by decide) rfl)) ?_
  refine ro rfl rfl (OpOk.step (ok_load rfl ti_Lint rfl rfl)) ?_
  refine ro rfl rfl (OpOk.step (ok_len' rfl rfl ti_Lint rfl (by first | exact ints_length _ _ | exact rowsA_length _ _ | exact Cms_len _ | exact mapLen _ | rfl))) ?_
  refine ro rfl rfl (OpOk.step (ok_binOp rfl ti_int rfl)) ?_
  refine ro rfl rfl (OpOk.step (ok_pick rfl rfl)) ?_
  refine ro_case rfl rfl (OpOk.step (ok_moveb (.inl rfl) rfl)) (fun hb => ?_) (fun hb => ?_)
  ·(try simp only [dE] at hb)
   refine ro_skip rfl rfl ?_
   refine ro_skip rfl rfl ?_
   refine ro_skip rfl rfl ?_
   refine ro rfl rfl (OpOk.step (ok_pickb (t := true) (d := true) rfl rfl rfl)) ?_
   refine ro rfl rfl (OpOk.step (ok_moveb (c := true) (.inl rfl) rfl)) ?_
   refine ro_skip rfl rfl ?_
   refine ro_skip rfl rfl ?_
   refine ro_skip rfl rfl ?_
   refine ro rfl rfl (OpOk.step (ok_pickb (t := true) (d := true) rfl rfl rfl)) ?_
   refine ro rfl rfl (OpOk.step (ok_moveb (c := true) (.inl rfl) rfl)) ?_
   refine ro_skip rfl rfl ?_
   refine ro_skip rfl rfl ?_
   refine ro_skip rfl rfl ?_
   refine ro_skip rfl rfl ?_
   refine ro_skip rfl rfl ?_
   refine ro_skip rfl rfl ?_
   refine ro_skip rfl rfl ?_
   refine ro rfl rfl (OpOk.step (ok_pickb (t := true) (d := true) rfl rfl rfl)) ?_
   refine ro_nil ?_
   refine keepK hK4 [2, 3, 4, 47] (by dsimp) (by dsimp) ?_
   refine T.cond_true rfl ?_
   refine T.seq fun K6 hK6 => ?_
   refine T.region ?_ -- region 3
   refine ro rfl rfl (OpOk.step (ok_load rfl ti_api_State rfl rfl)) ?_
   refine ro rfl rfl (OpOk.step (ok_store rfl ti_api_State (by decide) rfl rfl rfl rfl rfl (by first | exact Nat.le_of_ble_eq_true rfl | simp) (by first | exact .inl ⟨rfl, rfl⟩ | exact .inr rfl))) ?_
   refine ro rfl rfl (OpOk.step (ok_moveb (c := false) (.inr rfl) rfl)) ?_
   refine ro_nil ?_
   refine keepK hK6 [4, 5] (by dsimp) (by dsimp) ?_
   refine T.ret (hQ _ _ _ rfl ?_).1 -- ret 2
   have hno : ¬ StOk s.st x := fun h => by obtain ⟨⟨h1, h2⟩, ⟨h3, h4⟩, h5⟩ := h; first | omega | exact absurd (h5 (by assumption)) (by assumption)
   rw [decide_eq_false hno, show stO s x = s from if_neg hno]
   exact TEnt.fin [] (by decide) (by simp) rfl ⟨by show AV.tup [.agg (renL _ (StC s)), _] = _; rw [StC_ren]; rfl, trivial⟩
  ·(try simp only [dE] at hb)
   refine ro rfl rfl (OpOk.step (ok_fieldAddr rfl ti_api_Rec rfl rfl ti_int (by decide) rfl)) ?_
   refine ro rfl rfl (OpOk.step (ok_load rfl ti_int rfl rfl)) ?_
   refine ro rfl rfl (OpOk.step (ok_binOp rfl ti_int rfl)) ?_
   refine ro rfl rfl (OpOk.step (ok_pick rfl rfl)) ?_
   refine ro_case rfl rfl (OpOk.step (ok_moveb (.inl rfl) rfl)) (fun hb => ?_) (fun hb => ?_)
   ·(try simp only [dE] at hb)
    refine ro_skip rfl rfl ?_
    refine ro_skip rfl rfl ?_
    refine ro_skip rfl rfl ?_
    refine ro rfl rfl (OpOk.step (ok_pickb (t := true) (d := true) rfl rfl rfl)) ?_
    refine ro rfl rfl (OpOk.step (ok_moveb (c := true) (.inl rfl) rfl)) ?_
    refine ro_skip rfl rfl ?_
    refine ro_skip rfl rfl ?_
    refine ro_skip rfl rfl ?_
    refine ro_skip rfl rfl ?_
    refine ro_skip rfl rfl ?_
    refine ro_skip rfl rfl ?_
    refine ro_skip rfl rfl ?_
    refine ro rfl rfl (OpOk.step (ok_pickb (t := true) (d := true) rfl rfl rfl)) ?_
    refine ro_nil ?_
    refine keepK hK4 [2, 3, 4, 47] (by dsimp) (by dsimp) ?_
    refine T.cond_true rfl ?_
    refine T.seq fun K7 hK7 => ?_
    refine T.region ?_ -- region 3
    refine ro rfl rfl (OpOk.step (ok_load rfl ti_api_State rfl rfl)) ?_
    refine ro rfl rfl (OpOk.step (ok_store rfl ti_api_State (by decide) rfl rfl rfl rfl rfl (by first | exact Nat.le_of_ble_eq_true rfl | simp) (by first | exact .inl ⟨rfl, rfl⟩ | exact .inr rfl))) ?_
    refine ro rfl rfl (OpOk.step (ok_moveb (c := false) (.inr rfl) rfl)) ?_
    refine ro_nil ?_
    refine keepK hK7 [4, 5] (by dsimp) (by dsimp) ?_
    refine T.ret (hQ _ _ _ rfl ?_).1 -- ret 3
    have hno : ¬ StOk s.st x := fun h => by obtain ⟨⟨h1, h2⟩, ⟨h3, h4⟩, h5⟩ := h; first | omega | exact absurd (h5 (by assumption)) (by assumption)
    rw [decide_eq_false hno, show stO s x = s from if_neg hno]
    exact TEnt.fin [] (by decide) (by simp) rfl ⟨by show AV.tup [.agg (renL _ (StC s)), _] = _; rw [StC_ren]; rfl, trivial⟩
   ·(try simp only [dE] at hb)
    refine ro rfl rfl (OpOk.step (ok_fieldAddr rfl ti_api_Rec rfl rfl ti_int (by decide) rfl)) ?_
    refine ro rfl rfl (OpOk.step (ok_load rfl ti_int rfl rfl)) ?_
    refine ro rfl rfl (OpOk.step (ok_binOp rfl ti_int rfl)) ?_
    refine ro rfl rfl (OpOk.step (ok_pick rfl rfl)) ?_
    refine ro_case rfl rfl (OpOk.step (ok_moveb (.inl rfl) rfl)) (fun hb => ?_) (fun hb => ?_)
    ·(try simp only [dE] at hb)
     refine ro_skip rfl rfl ?_
     refine ro_skip rfl rfl ?_
     refine ro_skip rfl rfl ?_
     refine ro_skip rfl rfl ?_
     refine ro_skip rfl rfl ?_
     refine ro_skip rfl rfl ?_
     refine ro_skip rfl rfl ?_
     refine ro rfl rfl (OpOk.step (ok_pickb (t := true) (d := true) rfl rfl rfl)) ?_
     refine ro_nil ?_
     refine keepK hK4 [2, 3, 4, 47] (by dsimp) (by dsimp) ?_
     refine T.cond_true rfl ?_
     refine T.seq fun K8 hK8 => ?_
     refine T.region ?_ -- region 3
     refine ro rfl rfl (OpOk.step (ok_load rfl ti_api_State rfl rfl)) ?_
     refine ro rfl rfl (OpOk.step (ok_store rfl ti_api_State (by decide) rfl rfl rfl rfl rfl (by first | exact Nat.le_of_ble_eq_true rfl | simp) (by first | exact .inl ⟨rfl, rfl⟩ | exact .inr rfl))) ?_
     refine ro rfl rfl (OpOk.step (ok_moveb (c := false) (.inr rfl) rfl)) ?_
     refine ro_nil ?_
     refine keepK hK8 [4, 5] (by dsimp) (by dsimp) ?_
     refine T.ret (hQ _ _ _ rfl ?_).1 -- ret 4
     have hno : ¬ StOk s.st x := fun h => by obtain ⟨⟨h1, h2⟩, ⟨h3, h4⟩, h5⟩ := h; first | omega | exact absurd (h5 (by assumption)) (by assumption)
     rw [decide_eq_false hno, show stO s x = s from if_neg hno]
     exact TEnt.fin [] (by decide) (by simp) rfl ⟨by show AV.tup [.agg (renL _ (StC s)), _] = _; rw [StC_ren]; rfl, trivial⟩
    ·(try simp only [dE] at hb)
     refine ro rfl rfl (OpOk.step (ok_move (.inl rfl))) ?_
     refine ro_case rfl rfl (OpOk.step (ok_moveb (.inl rfl) rfl)) (fun hb => ?_) (fun hb => ?_)
     ·(try simp only [dE] at hb)
      refine ro rfl rfl (OpOk.step (ok_move (.inl rfl))) ?_
      refine ro rfl rfl (OpOk.step (ok_fieldAddr rfl ti_api_Rec rfl rfl ti_int (by decide) rfl)) ?_
      refine ro rfl rfl (OpOk.step (ok_load rfl ti_int rfl rfl)) ?_
      refine ro rfl rfl (OpOk.step (ok_binOp rfl ti_int rfl)) ?_
      refine ro rfl rfl (OpOk.step (ok_pick rfl rfl)) ?_
      refine ro rfl rfl (OpOk.step (ok_pick rfl rfl)) ?_
      refine ro_nil ?_
      refine keepK hK4 [2, 3, 4, 47] (by dsimp) (by dsimp) ?_
      refine T.cond rfl (fun hc => ?_) (fun hc => ?_) -- cond 1
      ·(try simp only [dE] at hc)
       refine T.seq fun K9 hK9 => ?_
       refine T.region ?_ -- region 3
       refine ro rfl rfl (OpOk.step (ok_load rfl ti_api_State rfl rfl)) ?_
       refine ro rfl rfl (OpOk.step (ok_store rfl ti_api_State (by decide) rfl rfl rfl rfl rfl (by first | exact Nat.le_of_ble_eq_true rfl | simp) (by first | exact .inl ⟨rfl, rfl⟩ | exact .inr rfl))) ?_
       refine ro rfl rfl (OpOk.step (ok_moveb (c := false) (.inr rfl) rfl)) ?_
       refine ro_nil ?_
       refine keepK hK9 [4, 5] (by dsimp) (by dsimp) ?_
       refine T.ret (hQ _ _ _ rfl ?_).1 -- ret 5
       have hno : ¬ StOk s.st x := fun h => by obtain ⟨⟨h1, h2⟩, ⟨h3, h4⟩, h5⟩ := h; first | omega | exact absurd (h5 (by assumption)) (by assumption)
       rw [decide_eq_false hno, show stO s x = s from if_neg hno]
       exact TEnt.fin [] (by decide) (by simp) rfl ⟨by show AV.tup [.agg (renL _ (StC s)), _] = _; rw [StC_ren]; rfl, trivial⟩
      ·(try simp only [dE] at hc)
       refine T.skip ?_
       refine keepK hK3 [2, 3, 4] (by dsimp) (by dsimp) ?_
       refine T.seq fun K10 hK10 => ?_
       refine T.region ?_ -- region 4
       refine ro rfl rfl (OpOk.step (ok_buildSlice (n := 0) (ps := #[]) rfl ti_Lint rfl ti_int (by decide) rfl rfl (by decide) rfl rfl rfl)) ?_
       refine ro rfl rfl (OpOk.step (ok_fieldAddr rfl ti_api_State rfl rfl ti_Lint (by decide) rfl)) ?_
       refine ro rfl rfl (OpOk.step (ok_load rfl ti_Lint rfl rfl)) ?_
       refine ro rfl rfl (OpOk.step (by exact ok_append_ints (k := .i64) (xs := []) (ys := s.st) rfl ti_Lint rfl ti_int rfl (by decide) rfl ti_Lint (by simp) rfl rfl rfl rfl rfl rfl rfl rfl rfl (by show (0 + s.st.length) * 8 ≤ _; omega))) ?_
       refine ro rfl rfl (OpOk.step (ok_move (.inr rfl))) ?_
       refine ro_nil ?_
       refine keepK hK10 [2, 3, 4, 9] (by dsimp) (by dsimp) ?_
       refine T.seq fun K11 hK11 => ?_
       refine T.region ?_ -- region 5
       refine ro rfl rfl (OpOk.step (ok_move (.inl rfl))) ?_
       refine ro rfl rfl (OpOk.step (ok_fieldAddr rfl ti_api_Rec rfl rfl ti_int (by decide) rfl)) ?_
       refine ro rfl rfl (OpOk.step (ok_load rfl ti_int rfl rfl)) ?_
       refine ro rfl rfl (OpOk.step (ok_fieldAddr rfl ti_api_Rec rfl rfl ti_int (by decide) rfl)) ?_
       refine ro rfl rfl (OpOk.step (ok_load rfl ti_int rfl rfl)) ?_
       refine ro rfl rfl (OpOk.step (by exact ok_index_sl (b := ⟨1, true, ints .i64 s.st⟩) rfl ti_Lint rfl ti_int rfl rfl rfl rfl (by omega) (show x.member < ((s.st.length : Nat) : Int) by omega))) ?_
       refine ro rfl rfl (OpOk.step ((ok_store rfl ti_int (by decide) (id := 4) (j := 0 + x.member.toNat) (f := 0) rfl rfl rfl (List.getElem?_eq_getElem (by simp; omega)) rfl (by show 0 + 1 ≤ 1; decide) (.inl ⟨rfl, rfl⟩)).eq (x' := .any) (H'' := [some (StB s), some (RcB x), some Z15, none, some ⟨1, true, ints .i64 (s.st.set x.member.toNat x.status)⟩]) rfl (by show [_, _, _, _, some (⟨1, true, (ints .i64 s.st).set (0 + x.member.toNat) (.int x.status)⟩ : Blk)] = _; rw [Nat.zero_add, ints_set]; rfl))) ?_
       refine ro_nil ?_
       refine keepK hK11 [2, 4, 9] (by dsimp) (by dsimp) ?_
       refine T.seq fun K12 hK12 => ?_
       refine T.region ?_ -- region 6
       refine ro rfl rfl (OpOk.step (ok_move (.inl rfl))) ?_
       refine ro rfl rfl (OpOk.step (ok_fieldAddr rfl ti_api_State rfl rfl ti_Lint (by decide) rfl)) ?_
       refine ro rfl rfl (OpOk.step (ok_store rfl ti_Lint (by decide) rfl rfl rfl rfl rfl (by first | exact Nat.le_of_ble_eq_true rfl | simp) (by first | exact .inl ⟨rfl, rfl⟩ | exact .inr rfl))) ?_
       refine ro_nil ?_
       refine keepK hK12 [2, 4] (by dsimp) (by dsimp) ?_
       refine T.seq fun K13 hK13 => ?_
       refine T.seq fun K14 hK14 => ?_
       have hyes : StOk s.st x := ⟨by omega, by omega, fun h => by first | assumption | (rw [show (oddS s.st).2.2 = false by assumption] at h; cases h)⟩
       refine T.ent (((TEnt.freeze 4 (b := ⟨1, true, ints .i64 (s.st.set x.member.toNat x.status)⟩) rfl).trans (TEnt.blk 0 (b := SB s (.sl 4 0 ([] ++ s.st).length) (.fz 6 (Zns s.zs))) (l' := [.agg (StC (sK s x 0))]) rfl rfl (EntL.cons (Ent.sts s (Ent.sl0 (b := ⟨1, false, ints .i64 (s.st.set x.member.toNat x.status)⟩) rfl rfl (by simp)) (Ent.refl _)) EntL.nil))).trans (TEnt.toH (tm' := [(2, .ref 0 0 0), (4, .ref 2 0 0)]) (H' := [some (StB (sK s x 0)), some (RcB x), some Z15, none, some ⟨1, false, ints .i64 (s.st.set x.member.toNat x.status)⟩]) rfl ⟨rfl, rfl, trivial⟩)) ?_
       refine T.region ?_ -- region 7
       refine ro rfl rfl (OpOk.step (ok_move (.inr rfl))) ?_
       refine ro_nil ?_
       refine keepK hK14 [2, 4, 10] (by dsimp) (by dsimp) ?_
       refine T.block ?_
       refine T.loopI (ι := Nat) (fun i => i ≤ s.zs.length) (fun i => s.zs.length - i) (fun i => ([(2, .ref 0 0 0), (4, .ref 2 0 0), (10, .int i)], [some (StB (sK s x i)), some (RcB x), some Z15])) 0 (Nat.zero_le _) (TEnt.fin [0, 1, 2] (by decide) (by simp) (heap3 (congrArg some (StB_ren _ _)) (congrArg some (RcB_ren _ _)) rfl) ⟨rfl, rfl, rfl, trivial⟩) (fun i hi => ?_) -- loop 1
       have hul := unwK_len s.zs i hi
       refine T.seq fun K15 hK15 => ?_
       refine T.seq fun K16 hK16 => ?_
       refine T.region ?_ -- region 8
       refine ro rfl rfl (OpOk.step (ok_move (.inl rfl))) ?_
       refine ro rfl rfl (OpOk.step (ok_fieldAddr rfl ti_api_State rfl rfl ti_Lapi_Zone (by decide) rfl)) ?_
       refine ro rfl rfl (OpOk.step (ok_load rfl ti_Lapi_Zone rfl rfl)) ?_
       refine ro rfl rfl (OpOk.step (ok_len' rfl rfl ti_Lapi_Zone rfl (by first | exact ints_length _ _ | exact rowsA_length _ _ | exact Cms_len _ | exact mapLen _ | rfl))) ?_
       refine ro rfl rfl (OpOk.step (ok_binOp rfl ti_int rfl)) ?_
       refine ro_nil ?_
       refine keepK hK16 [2, 4, 10, 65] (by dsimp) (by dsimp) ?_
       refine T.cond rfl (fun hc => ?_) (fun hc => ?_) -- cond 2
       ·(try simp only [dE] at hc)
        rw [Zns_len, show (sK s x i).zs.length = s.zs.length from hul] at hc
        obtain ⟨z, hz⟩ : ∃ z, s.zs[i]? = some z := ⟨_, List.getElem?_eq_getElem (by omega)⟩
        refine T.skip ?_
        refine keepK hK15 [2, 4, 10] (by dsimp) (by dsimp) ?_
        refine T.seq fun K17 hK17 => ?_
        refine T.block ?_
        refine T.seq fun K18 hK18 => ?_
        refine T.region ?_ -- region 10
        refine ro rfl rfl (OpOk.step (ok_fieldAddr rfl ti_api_State rfl rfl ti_Lapi_Zone (by decide) rfl)) ?_
        refine ro rfl rfl (OpOk.step (ok_load rfl ti_Lapi_Zone rfl rfl)) ?_
        refine ro rfl rfl (OpOk.step (ok_move (.inl rfl))) ?_
        refine ro rfl rfl (OpOk.step (by exact ok_index_map (F := ZnC) rfl ti_Lapi_Zone rfl ti_api_Zone rfl rfl rfl (unwK_get hz) (by simp [ZnC]))) ?_
        refine ro rfl rfl (OpOk.step (ok_load rfl ti_api_Zone rfl rfl)) ?_
        refine ro rfl rfl (OpOk.step (ok_alloc rfl ti_api_Zone rfl (by decide))) ?_
        refine ro rfl rfl (OpOk.step (ok_store rfl ti_api_Zone (by decide) rfl rfl rfl rfl rfl (by first | exact Nat.le_of_ble_eq_true rfl | simp) (by first | exact .inl ⟨rfl, rfl⟩ | exact .inr rfl))) ?_
        refine ro_nil ?_
        refine keepK hK18 [2, 4, 10, 11] (by dsimp) (by dsimp) ?_
        refine T.seq fun K19 hK19 => ?_
        refine T.region ?_ -- region 11
        refine ro rfl rfl (OpOk.step (ok_fieldAddr rfl ti_api_Zone rfl rfl ti_bool (by decide) rfl)) ?_
        refine ro rfl rfl (OpOk.step (ok_store rfl ti_bool (by decide) rfl rfl rfl rfl rfl (by first | exact Nat.le_of_ble_eq_true rfl | simp) (by first | exact .inl ⟨rfl, rfl⟩ | exact .inr rfl))) ?_
        refine ro_nil ?_
        refine keepK hK19 [2, 4, 10, 11] (by dsimp) (by dsimp) ?_
        refine T.region ?_ -- region 12
        refine ro rfl rfl (OpOk.step (ok_load rfl ti_api_State rfl rfl)) ?_
        refine ro rfl rfl (OpOk.step (ok_move (.inl rfl))) ?_
        refine ro rfl rfl (OpOk.step (ok_load rfl ti_api_Zone rfl rfl)) ?_
        refine ro rfl rfl (ok_call rfl rfl rfl (((rwith_ok (sK s x i) i (unw z) (by show 0 ≤ (i : Int) ∧ (i : Int) < ((unwK s.zs i).length : Nat); omega) (by show (unwK s.zs i).length ≤ _; omega)).plain (by simp [renL, AV.ren, StC_take, StC_ren]; exact ZnC_ren _ (unw z)) (by simp [AV.ren, StC_ren])).eq (x' := .agg (StC (sK s x (i + 1)))) (H'' := [some (StB (sK s x i)), some (RcB x), some Z15, some (ZnB (unw z))]) (by show AV.agg (StC { s with st := s.st.set x.member.toNat x.status, zs := (unwK s.zs i).set ((i : Nat) : Int).toNat (unw z) }) = _; rw [Int.toNat_natCast, unwK_set hz]; rfl) rfl)) ?_
        refine ro rfl rfl (OpOk.step (ok_store rfl ti_api_State (by decide) rfl rfl rfl rfl rfl (by first | exact Nat.le_of_ble_eq_true rfl | simp) (by first | exact .inl ⟨rfl, rfl⟩ | exact .inr rfl))) ?_
        refine ro_nil ?_
        refine keepK hK17 [2, 4, 10] (by dsimp) (by dsimp) ?_
        refine T.region ?_ -- region 9
        refine ro rfl rfl (OpOk.step (ok_move (.inl rfl))) ?_
        refine ro rfl rfl (OpOk.step (ok_add64 rfl ti_int rfl rfl (by omega) (by omega))) ?_
        refine ro rfl rfl (OpOk.step (ok_move (.inr rfl))) ?_
        refine ro_nil ?_
        exact ⟨i + 1, by omega, by omega, TEnt.fin [0, 1, 2] (by decide) (by simp) (heap3 (congrArg some (StB_ren _ _)) (congrArg some (RcB_ren _ _)) rfl) ⟨rfl, rfl, rfl, trivial⟩⟩
       ·(try simp only [dE] at hc)
        rw [Zns_len, show (sK s x i).zs.length = s.zs.length from hul] at hc
        have hin : i = s.zs.length := by omega
        subst hin
        refine T.exit ?_
        refine keepK hK13 [2, 4] (by dsimp) (by dsimp) ?_
        refine T.seq fun K20 hK20 => ?_
        refine T.region ?_ -- region 13
        refine ro rfl rfl (OpOk.step (ok_load rfl ti_api_State rfl rfl)) ?_
        refine ro rfl rfl (OpOk.step (ok_store rfl ti_api_State (by decide) rfl rfl rfl rfl rfl (by first | exact Nat.le_of_ble_eq_true rfl | simp) (by first | exact .inl ⟨rfl, rfl⟩ | exact .inr rfl))) ?_
        refine ro rfl rfl (OpOk.step (ok_moveb (c := true) (.inr rfl) rfl)) ?_
        refine ro_nil ?_
        refine keepK hK20 [4, 5] (by dsimp) (by dsimp) ?_
        refine T.ret (hQ _ _ _ rfl ?_).1 -- ret 6
        rw [decide_eq_true hyes, show stO s x = sK s x s.zs.length by unfold stO sK; rw [if_pos hyes, unwK_all]]
        exact TEnt.fin [] (by decide) (by simp) rfl ⟨by show AV.tup [.agg (renL _ (StC (sK s x s.zs.length))), _] = _; rw [StC_ren]; rfl, trivial⟩
     ·(try simp only [dE] at hb)
      refine ro_skip rfl rfl ?_
      refine ro_skip rfl rfl ?_
      refine ro_skip rfl rfl ?_
      refine ro_skip rfl rfl ?_
      refine ro rfl rfl (OpOk.step (ok_pickb (t := false) (d := false) rfl rfl rfl)) ?_
      refine ro rfl rfl (OpOk.step (ok_pickb (t := false) (d := false) rfl rfl rfl)) ?_
      refine ro_nil ?_
      refine keepK hK4 [2, 3, 4, 47] (by dsimp) (by dsimp) ?_
      refine T.cond_false rfl ?_
      refine T.skip ?_
      refine keepK hK3 [2, 3, 4] (by dsimp) (by dsimp) ?_
      refine T.seq fun K21 hK21 => ?_
      refine T.region ?_ -- region 4
      refine ro rfl rfl (OpOk.step (ok_buildSlice (n := 0) (ps := #[]) rfl ti_Lint rfl ti_int (by decide) rfl rfl (by decide) rfl rfl rfl)) ?_
      refine ro rfl rfl (OpOk.step (ok_fieldAddr rfl ti_api_State rfl rfl ti_Lint (by decide) rfl)) ?_
      refine ro rfl rfl (OpOk.step (ok_load rfl ti_Lint rfl rfl)) ?_
      refine ro rfl rfl (OpOk.step (by exact ok_append_ints (k := .i64) (xs := []) (ys := s.st) rfl ti_Lint rfl ti_int rfl (by decide) rfl ti_Lint (by simp) rfl rfl rfl rfl rfl rfl rfl rfl rfl (by show (0 + s.st.length) * 8 ≤ _; omega))) ?_
      refine ro rfl rfl (OpOk.step (ok_move (.inr rfl))) ?_
      refine ro_nil ?_
      refine keepK hK21 [2, 3, 4, 9] (by dsimp) (by dsimp) ?_
      refine T.seq fun K22 hK22 => ?_
      refine T.region ?_ -- region 5
      refine ro rfl rfl (OpOk.step (ok_move (.inl rfl))) ?_
      refine ro rfl rfl (OpOk.step (ok_fieldAddr rfl ti_api_Rec rfl rfl ti_int (by decide) rfl)) ?_
      refine ro rfl rfl (OpOk.step (ok_load rfl ti_int rfl rfl)) ?_
      refine ro rfl rfl (OpOk.step (ok_fieldAddr rfl ti_api_Rec rfl rfl ti_int (by decide) rfl)) ?_
      refine ro rfl rfl (OpOk.step (ok_load rfl ti_int rfl rfl)) ?_
      refine ro rfl rfl (OpOk.step (by exact ok_index_sl (b := ⟨1, true, ints .i64 s.st⟩) rfl ti_Lint rfl ti_int rfl rfl rfl rfl (by omega) (show x.member < ((s.st.length : Nat) : Int) by omega))) ?_
      refine ro rfl rfl (OpOk.step ((ok_store rfl ti_int (by decide) (id := 4) (j := 0 + x.member.toNat) (f := 0) rfl rfl rfl (List.getElem?_eq_getElem (by simp; omega)) rfl (by show 0 + 1 ≤ 1; decide) (.inl ⟨rfl, rfl⟩)).eq (x' := .any) (H'' := [some (StB s), some (RcB x), some Z15, none, some ⟨1, true, ints .i64 (s.st.set x.member.toNat x.status)⟩]) rfl (by show [_, _, _, _, some (⟨1, true, (ints .i64 s.st).set (0 + x.member.toNat) (.int x.status)⟩ : Blk)] = _; rw [Nat.zero_add, ints_set]; rfl))) ?_
      refine ro_nil ?_
      refine keepK hK22 [2, 4, 9] (by dsimp) (by dsimp) ?_
      refine T.seq fun K23 hK23 => ?_
      refine T.region ?_ -- region 6
      refine ro rfl rfl (OpOk.step (ok_move (.inl rfl))) ?_
      refine ro rfl rfl (OpOk.step (ok_fieldAddr rfl ti_api_State rfl rfl ti_Lint (by decide) rfl)) ?_
      refine ro rfl rfl (OpOk.step (ok_store rfl ti_Lint (by decide) rfl rfl rfl rfl rfl (by first | exact Nat.le_of_ble_eq_true rfl | simp) (by first | exact .inl ⟨rfl, rfl⟩ | exact .inr rfl))) ?_
      refine ro_nil ?_
      refine keepK hK23 [2, 4] (by dsimp) (by dsimp) ?_
      refine T.seq fun K24 hK24 => ?_
      refine T.seq fun K25 hK25 => ?_
      have hyes : StOk s.st x := ⟨by omega, by omega, fun h => by first | assumption | (rw [show (oddS s.st).2.2 = false by assumption] at h; cases h)⟩
      refine T.ent (((TEnt.freeze 4 (b := ⟨1, true, ints .i64 (s.st.set x.member.toNat x.status)⟩) rfl).trans (TEnt.blk 0 (b := SB s (.sl 4 0 ([] ++ s.st).length) (.fz 6 (Zns s.zs))) (l' := [.agg (StC (sK s x 0))]) rfl rfl (EntL.cons (Ent.sts s (Ent.sl0 (b := ⟨1, false, ints .i64 (s.st.set x.member.toNat x.status)⟩) rfl rfl (by simp)) (Ent.refl _)) EntL.nil))).trans (TEnt.toH (tm' := [(2, .ref 0 0 0), (4, .ref 2 0 0)]) (H' := [some (StB (sK s x 0)), some (RcB x), some Z15, none, some ⟨1, false, ints .i64 (s.st.set x.member.toNat x.status)⟩]) rfl ⟨rfl, rfl, trivial⟩)) ?_
      refine T.region ?_ -- region 7
      refine ro rfl rfl (OpOk.step (ok_move (.inr rfl))) ?_
      refine ro_nil ?_
      refine keepK hK25 [2, 4, 10] (by dsimp) (by dsimp) ?_
      refine T.block ?_
      refine T.loopI (ι := Nat) (fun i => i ≤ s.zs.length) (fun i => s.zs.length - i) (fun i => ([(2, .ref 0 0 0), (4, .ref 2 0 0), (10, .int i)], [some (StB (sK s x i)), some (RcB x), some Z15])) 0 (Nat.zero_le _) (TEnt.fin [0, 1, 2] (by decide) (by simp) (heap3 (congrArg some (StB_ren _ _)) (congrArg some (RcB_ren _ _)) rfl) ⟨rfl, rfl, rfl, trivial⟩) (fun i hi => ?_) -- loop 2
      have hul := unwK_len s.zs i hi
      refine T.seq fun K26 hK26 => ?_
      refine T.seq fun K27 hK27 => ?_
      refine T.region ?_ -- region 8
      refine ro rfl rfl (OpOk.step (ok_move (.inl rfl))) ?_
      refine ro rfl rfl (OpOk.step (ok_fieldAddr rfl ti_api_State rfl rfl ti_Lapi_Zone (by decide) rfl)) ?_
      refine ro rfl rfl (OpOk.step (ok_load rfl ti_Lapi_Zone rfl rfl)) ?_
      refine ro rfl rfl (OpOk.step (ok_len' rfl rfl ti_Lapi_Zone rfl (by first | exact ints_length _ _ | exact rowsA_length _ _ | exact Cms_len _ | exact mapLen _ | rfl))) ?_
      refine ro rfl rfl (OpOk.step (ok_binOp rfl ti_int rfl)) ?_
      refine ro_nil ?_
      refine keepK hK27 [2, 4, 10, 65] (by dsimp) (by dsimp) ?_
      refine T.cond rfl (fun hc => ?_) (fun hc => ?_) -- cond 3
      ·(try simp only [dE] at hc)
       rw [Zns_len, show (sK s x i).zs.length = s.zs.length from hul] at hc
       obtain ⟨z, hz⟩ : ∃ z, s.zs[i]? = some z := ⟨_, List.getElem?_eq_getElem (by omega)⟩
       refine T.skip ?_
       refine keepK hK26 [2, 4, 10] (by dsimp) (by dsimp) ?_
       refine T.seq fun K28 hK28 => ?_
       refine T.block ?_
       refine T.seq fun K29 hK29 => ?_
       refine T.region ?_ -- region 10
       refine ro rfl rfl (OpOk.step (ok_fieldAddr rfl ti_api_State rfl rfl ti_Lapi_Zone (by decide) rfl)) ?_
       refine ro rfl rfl (OpOk.step (ok_load rfl ti_Lapi_Zone rfl rfl)) ?_
       refine ro rfl rfl (OpOk.step (ok_move (.inl rfl))) ?_
       refine ro rfl rfl (OpOk.step (by exact ok_index_map (F := ZnC) rfl ti_Lapi_Zone rfl ti_api_Zone rfl rfl rfl (unwK_get hz) (by simp [ZnC]))) ?_
       refine ro rfl rfl (OpOk.step (ok_load rfl ti_api_Zone rfl rfl)) ?_
       refine ro rfl rfl (OpOk.step (ok_alloc rfl ti_api_Zone rfl (by decide))) ?_
       refine ro rfl rfl (OpOk.step (ok_store rfl ti_api_Zone (by decide) rfl rfl rfl rfl rfl (by first | exact Nat.le_of_ble_eq_true rfl | simp) (by first | exact .inl ⟨rfl, rfl⟩ | exact .inr rfl))) ?_
       refine ro_nil ?_
       refine keepK hK29 [2, 4, 10, 11] (by dsimp) (by dsimp) ?_
       refine T.seq fun K30 hK30 => ?_
       refine T.region ?_ -- region 11
       refine ro rfl rfl (OpOk.step (ok_fieldAddr rfl ti_api_Zone rfl rfl ti_bool (by decide) rfl)) ?_
       refine ro rfl rfl (OpOk.step (ok_store rfl ti_bool (by decide) rfl rfl rfl rfl rfl (by first | exact Nat.le_of_ble_eq_true rfl | simp) (by first | exact .inl ⟨rfl, rfl⟩ | exact .inr rfl))) ?_
       refine ro_nil ?_
       refine keepK hK30 [2, 4, 10, 11] (by dsimp) (by dsimp) ?_
       refine T.region ?_ -- region 12
       refine ro rfl rfl (OpOk.step (ok_load rfl ti_api_State rfl rfl)) ?_
       refine ro rfl rfl (OpOk.step (ok_move (.inl rfl))) ?_
       refine ro rfl rfl (OpOk.step (ok_load rfl ti_api_Zone rfl rfl)) ?_
       refine ro rfl rfl (ok_call rfl rfl rfl (((rwith_ok (sK s x i) i (unw z) (by show 0 ≤ (i : Int) ∧ (i : Int) < ((unwK s.zs i).length : Nat); omega) (by show (unwK s.zs i).length ≤ _; omega)).plain (by simp [renL, AV.ren, StC_take, StC_ren]; exact ZnC_ren _ (unw z)) (by simp [AV.ren, StC_ren])).eq (x' := .agg (StC (sK s x (i + 1)))) (H'' := [some (StB (sK s x i)), some (RcB x), some Z15, some (ZnB (unw z))]) (by show AV.agg (StC { s with st := s.st.set x.member.toNat x.status, zs := (unwK s.zs i).set ((i : Nat) : Int).toNat (unw z) }) = _; rw [Int.toNat_natCast, unwK_set hz]; rfl) rfl)) ?_
       refine ro rfl rfl (OpOk.step (ok_store rfl ti_api_State (by decide) rfl rfl rfl rfl rfl (by first | exact Nat.le_of_ble_eq_true rfl | simp) (by first | exact .inl ⟨rfl, rfl⟩ | exact .inr rfl))) ?_
       refine ro_nil ?_
       refine keepK hK28 [2, 4, 10] (by dsimp) (by dsimp) ?_
       refine T.region ?_ -- region 9
       refine ro rfl rfl (OpOk.step (ok_move (.inl rfl))) ?_
       refine ro rfl rfl (OpOk.step (ok_add64 rfl ti_int rfl rfl (by omega) (by omega))) ?_
       refine ro rfl rfl (OpOk.step (ok_move (.inr rfl))) ?_
       refine ro_nil ?_
       exact ⟨i + 1, by omega, by omega, TEnt.fin [0, 1, 2] (by decide) (by simp) (heap3 (congrArg some (StB_ren _ _)) (congrArg some (RcB_ren _ _)) rfl) ⟨rfl, rfl, rfl, trivial⟩⟩
      ·(try simp only [dE] at hc)
       rw [Zns_len, show (sK s x i).zs.length = s.zs.length from hul] at hc
       have hin : i = s.zs.length := by omega
       subst hin
       refine T.exit ?_
       refine keepK hK24 [2, 4] (by dsimp) (by dsimp) ?_
       refine T.seq fun K31 hK31 => ?_
       refine T.region ?_ -- region 13
       refine ro rfl rfl (OpOk.step (ok_load rfl ti_api_State rfl rfl)) ?_
       refine ro rfl rfl (OpOk.step (ok_store rfl ti_api_State (by decide) rfl rfl rfl rfl rfl (by first | exact Nat.le_of_ble_eq_true rfl | simp) (by first | exact .inl ⟨rfl, rfl⟩ | exact .inr rfl))) ?_
       refine ro rfl rfl (OpOk.step (ok_moveb (c := true) (.inr rfl) rfl)) ?_
       refine ro_nil ?_
       refine keepK hK31 [4, 5] (by dsimp) (by dsimp) ?_
       refine T.ret (hQ _ _ _ rfl ?_).1 -- ret 7
       rw [decide_eq_true hyes, show stO s x = sK s x s.zs.length by unfold stO sK; rw [if_pos hyes, unwK_all]]
       exact TEnt.fin [] (by decide) (by simp) rfl ⟨by show AV.tup [.agg (renL _ (StC (sK s x s.zs.length))), _] = _; rw [StC_ren]; rfl, trivial⟩
end Go.Proofs.Ytlegolcbjjjofaa.AmF
