/- Walks over the abstract machine: scripts put as bytes. -/
import Derived.Test.YtmegpanmiagheaaAfCmd
namespace Go.Proofs.Ytmegpanmiagheaa.AmF
open Go Go.AM
set_option maxRecDepth 100000
set_option linter.unusedSimpArgs false
set_option linter.unusedVariables false
attribute [local simp] tkeep tget tput ev cav argsTM pickA normT putA splice AV.cells ints_length rowsA_length enc_len
def bodyA (a : Ac) : List Int := ((((encs [a.kind, a.m, a.n] ++ (enc a.keep.length 8 ++ a.keep)) ++ encs [a.ck, a.cz, a.ca, a.cn]) ++ (enc a.cd.length 8 ++ a.cd)) ++ [if a.cf = true then 1 else 0])
theorem bodyA_len (a : Ac) : (bodyA a).length = 73 + a.keep.length + a.cd.length := by
  have h1 : (encs [a.kind, a.m, a.n]).length = 24 := by rw [encs_len]; rfl
  have h2 : (encs [a.ck, a.cz, a.ca, a.cn]).length = 32 := by rw [encs_len]; rfl
  simp only [bodyA, List.length_append, h1, h2, enc_len, List.length_cons, List.length_nil]
  omega
def allB : List Ac → List Int
  | [] => []
  | a :: l => bodyA a ++ allB l
theorem allB_append (l m : List Ac) : allB (l ++ m) = allB l ++ allB m := by
  induction l with
  | nil => rfl
  | cons a l ih => simp [allB, ih]
theorem allB_snoc {l : List Ac} {i : Nat} {a : Ac} (h : l[i]? = some a) : allB (l.take (i + 1)) = allB (l.take i) ++ bodyA a := by
  rw [take_succ_get h, allB_append]
  simp [allB]
theorem allB_le {l : List Ac} {i : Nat} {a : Ac} (h : l[i]? = some a) : (allB (l.take i)).length + (bodyA a).length ≤ (allB l).length := by
  have h1 : allB l = allB (l.take (i + 1)) ++ allB (l.drop (i + 1)) := by rw [← allB_append, List.take_append_drop]
  rw [h1, allB_snoc h, List.length_append, List.length_append]
  omega
def rightsA (l : List Ac) : Bool := l.all fun a => decide (RA a)
def headA (c : Cf) (l : List Ac) : List Int := encs c.l ++ enc l.length 8
theorem headA_len (c : Cf) (l : List Ac) : (headA c l).length = 96 := by
  have : (encs c.l).length = 88 := by rw [encs_len]; rfl
  simp [headA, this]
/-- A script as bytes, or the error. -/
def cput (c : Cf) (l : List Ac) : List Int × Int := if c.l.all farOk = false then ([], 4) else if l.length > 4096 then ([], 1) else if rightsA l = false then ([], 1) else (headA c l ++ allB l, 0)
section
variable {c : Cf} {l : List Ac}
theorem cput_1 (h : c.l.all farOk = false) : cput c l = ([], 4) := if_pos h
theorem cput_2 (h : c.l.all farOk = true) (h2 : l.length > 4096) : cput c l = ([], 1) := by unfold cput; rw [if_neg (by simp [h]), if_pos h2]
theorem cput_3 (h : c.l.all farOk = true) (h2 : ¬ l.length > 4096) (h3 : rightsA l = false) : cput c l = ([], 1) := by unfold cput; rw [if_neg (by simp [h]), if_neg h2, if_pos h3]
theorem cput_4 (h : c.l.all farOk = true) (h2 : ¬ l.length > 4096) (h3 : rightsA l = true) : cput c l = (headA c l ++ allB l, 0) := by unfold cput; rw [if_neg (by simp [h]), if_neg h2, if_neg (by simp [h3])]
theorem rightsA_bad {i : Nat} {a : Ac} (h : l[i]? = some a) (hr : ¬ RA a) : rightsA l = false := by
  unfold rightsA
  rw [Bool.eq_false_iff]
  intro h2
  exact hr (of_decide_eq_true (List.all_eq_true.1 h2 a (List.mem_of_getElem? h)))
theorem rightsA_step {i : Nat} {a : Ac} (h : l[i]? = some a) (hr : RA a) (hs : rightsA (l.take i) = true) : rightsA (l.take (i + 1)) = true := by
  unfold rightsA at hs ⊢
  rw [take_succ_get h, List.all_append, hs]
  simp [hr]
end
set_option maxHeartbeats 1000000 in
theorem cmdput_ok (c : Cf) (l : List Ac) (hT : (allB l).length ≤ 800000) (hl : l.length ≤ 140737488355328) : CSpec Try.prog 71 [] [.agg (CC c), .fz 10 (Acs l)] [] (.tup [.fz 1 (ints .u8 (cput c l).1), .int (cput c l).2]) := by
  have hH := headA_len c l
  refine CSpec.body Try.func71 rfl rfl rfl rfl rfl fun Q hQ => ?_
  refine T.seq fun K1 hK1 => ?_
  refine T.region ?_ -- region 0
  refine ro rfl rfl (OpOk.step (ok_box (n := 11) rfl rfl (by decide))) ?_
  refine ro rfl rfl (OpOk.step (ok_move (.inr rfl))) ?_
  refine ro rfl rfl (OpOk.step (ok_move (.inr rfl))) ?_
  refine ro_nil ?_
  refine keepK hK1 [1, 2] (by dsimp) (by dsimp) ?_
  refine T.seq fun K2 hK2 => ?_
  refine T.seq fun K3 hK3 => ?_
  refine T.region ?_ -- region 1
  refine ro rfl rfl (OpOk.step (ok_load rfl ti_api_Conf rfl rfl)) ?_
  refine ro rfl rfl (ok_call rfl rfl rfl ((rightconf_ok c).plain rfl rfl)) ?_
  refine ro rfl rfl (OpOk.step (ok_unOp rfl rfl)) ?_
  refine ro_nil ?_
  refine keepK hK3 [1, 2, 12] (by dsimp) (by dsimp) ?_
  refine T.cond rfl (fun hc => ?_) (fun hc => ?_) -- cond 1
  · (try simp only [decide_eq_true_eq, decide_eq_false_iff_not, beq_iff_eq, beq_eq_false_iff_ne, bne_iff_ne, bne_eq_false_iff_eq, ne_eq, Bool.not_eq_true', Bool.not_eq_false'] at hc)
    rw [cput_1 (by simpa using hc)] at hQ
    refine T.seq fun K4 hK4 => ?_
    refine T.region ?_ -- region 2
    refine ro rfl rfl (OpOk.step (ok_move (.inr rfl))) ?_
    refine ro rfl rfl (OpOk.step (ok_move (.inr rfl))) ?_
    refine ro_nil ?_
    refine keepK hK4 [4, 5] (by dsimp) (by dsimp) ?_
    refine T.ret (hQ _ _ _ rfl ?_).1 -- ret 1
    exact (TEnt.put1 0 (x' := .tup [.fz 1 (ints .u8 []), .int 4]) (by show Ent _ (.tup [.v (.slice none 0 0), .int _]) _; exact Ent.tup (EntL.cons (Ent.nil 1) (EntL.refl _)))).trans (TEnt.fin [] (by decide) (by simp) rfl ⟨by simp [AV.ren, renL, renL_ints], trivial⟩)
  · (try simp only [decide_eq_true_eq, decide_eq_false_iff_not, beq_iff_eq, beq_eq_false_iff_ne, bne_iff_ne, bne_eq_false_iff_eq, ne_eq, Bool.not_eq_true', Bool.not_eq_false'] at hc)
    have h1 : c.l.all farOk = true := by simpa using hc
    refine T.skip ?_
    refine keepK hK2 [1, 2] (by dsimp) (by dsimp) ?_
    refine T.seq fun K5 hK5 => ?_
    refine T.seq fun K6 hK6 => ?_
    refine T.region ?_ -- region 3
    refine ro rfl rfl (OpOk.step (ok_move (.inl rfl))) ?_
    refine ro rfl rfl (OpOk.step (ok_len' rfl rfl ti_Lapi_Act rfl (Acs_len l))) ?_
    refine ro rfl rfl (OpOk.step (ok_binOp rfl ti_int rfl)) ?_
    refine ro_nil ?_
    refine keepK hK6 [1, 2, 15] (by dsimp) (by dsimp) ?_
    refine T.cond rfl (fun hc => ?_) (fun hc => ?_) -- cond 2
    · (try simp only [decide_eq_true_eq, decide_eq_false_iff_not, beq_iff_eq, beq_eq_false_iff_ne, bne_iff_ne, bne_eq_false_iff_eq, ne_eq, Bool.not_eq_true', Bool.not_eq_false'] at hc)
      rw [cput_2 h1 (by omega)] at hQ
      refine T.seq fun K7 hK7 => ?_
      refine T.region ?_ -- region 4
      refine ro rfl rfl (OpOk.step (ok_move (.inr rfl))) ?_
      refine ro rfl rfl (OpOk.step (ok_move (.inr rfl))) ?_
      refine ro_nil ?_
      refine keepK hK7 [4, 5] (by dsimp) (by dsimp) ?_
      refine T.ret (hQ _ _ _ rfl ?_).1 -- ret 2
      exact (TEnt.put1 0 (x' := .tup [.fz 1 (ints .u8 []), .int 1]) (by show Ent _ (.tup [.v (.slice none 0 0), .int _]) _; exact Ent.tup (EntL.cons (Ent.nil 1) (EntL.refl _)))).trans (TEnt.fin [] (by decide) (by simp) rfl ⟨by simp [AV.ren, renL, renL_ints], trivial⟩)
    · (try simp only [decide_eq_true_eq, decide_eq_false_iff_not, beq_iff_eq, beq_eq_false_iff_ne, bne_iff_ne, bne_eq_false_iff_eq, ne_eq, Bool.not_eq_true', Bool.not_eq_false'] at hc)
      have h2 : ¬ l.length > 4096 := by omega
      refine T.skip ?_
      refine keepK hK5 [1, 2] (by dsimp) (by dsimp) ?_
      refine T.seq fun K8 hK8 => ?_
      refine T.region ?_ -- region 5
      refine ro rfl rfl (OpOk.step (ok_load rfl ti_api_Conf rfl rfl)) ?_
      refine ro rfl rfl (ok_call rfl rfl rfl ((cput_frz c).plain rfl (by simp [AV.ren, renL_ints]))) ?_
      refine ro rfl rfl (OpOk.step (ok_move (.inl rfl))) ?_
      refine ro rfl rfl (OpOk.step (ok_len' rfl rfl ti_Lapi_Act rfl (Acs_len l))) ?_
      refine ro rfl rfl (OpOk.step (((ok_buildSlice (n := 1) rfl ti_Lint rfl ti_int (by decide) rfl rfl (by decide) rfl rfl rfl).frz rfl rfl).eq (x' := .fz 1 (ints .i64 [(l.length : Int)])) (H'' := [some (CB c), some ⟨1, false, ints .i64 [(l.length : Int)]⟩]) rfl rfl)) ?_
      refine ro rfl rfl (ok_call rfl rfl rfl ((cints_frz (encs c.l) [(l.length : Int)] (headA c l) (by simp [headA, encs]) (by rw [encs_len]; simp [Cf.l]) (by simp)).plain (by simp [renL, AV.ren, renL_ints]) (by simp [AV.ren, renL_ints]))) ?_
      refine ro rfl rfl (OpOk.step (ok_move (.inr rfl))) ?_
      refine ro_nil ?_
      refine keepK hK8 [1, 6] (by dsimp) (by dsimp) ?_
      refine T.seq fun K9 hK9 => ?_
      refine T.seq fun K10 hK10 => ?_
      refine T.region ?_ -- region 6
      refine ro rfl rfl (OpOk.step (ok_move (.inl rfl))) ?_
      refine ro rfl rfl (OpOk.step (ok_len' rfl rfl ti_Lapi_Act rfl (Acs_len l))) ?_
      refine ro rfl rfl (OpOk.step (ok_move (.inl rfl))) ?_
      refine ro_nil ?_
      refine keepK hK10 [6, 22, 23, 24] (by dsimp) (by dsimp) ?_
      refine T.block ?_
      refine T.loopI (ι := Nat) (fun i => i ≤ l.length ∧ rightsA (l.take i) = true) (fun i => l.length - i) (fun i => ([(6, .fz 1 (ints .u8 (headA c l ++ allB (l.take i)))), (22, .fz 10 (Acs l)), (23, .int l.length), (24, .int i)], [])) 0 ⟨Nat.zero_le _, rfl⟩ (TEnt.fin [] (by decide) (by simp) rfl ⟨by simp [AV.ren, renL_ints, allB], by simp [AV.ren, Acs_ren], rfl, rfl, trivial⟩) (fun i hi => ?_) -- loop 1
      obtain ⟨hi, hall⟩ := hi
      refine T.seq fun K11 hK11 => ?_
      refine T.region ?_ -- region 7
      refine ro rfl rfl (OpOk.step (ok_binOp rfl ti_int rfl)) ?_
      refine ro_nil ?_
      refine keepK hK11 [6, 22, 23, 24, 25] (by dsimp) (by dsimp) ?_
      refine T.seq fun K12 hK12 => ?_
      refine T.cond rfl (fun hc => ?_) (fun hc => ?_) -- cond 3
      · (try simp only [decide_eq_true_eq, decide_eq_false_iff_not, beq_iff_eq, beq_eq_false_iff_ne, bne_iff_ne, bne_eq_false_iff_eq, ne_eq, Bool.not_eq_true', Bool.not_eq_false'] at hc)
        obtain ⟨a, ha⟩ : ∃ a, l[i]? = some a := ⟨_, List.getElem?_eq_getElem (by omega)⟩
        have hle := allB_le ha
        have hbl := bodyA_len a
        have hsn := allB_snoc ha
        obtain ⟨B, hB0⟩ : ∃ B, headA c l ++ allB (l.take i) = B := ⟨_, rfl⟩
        have hBl : B.length + (bodyA a).length ≤ 800096 := by rw [← hB0, List.length_append]; omega
        rw [hB0]
        refine T.skip ?_
        refine keepK hK12 [6, 22, 23, 24] (by dsimp) (by dsimp) ?_
        refine T.seq fun K13 hK13 => ?_
        refine T.block ?_
        refine T.seq fun K14 hK14 => ?_
        refine T.region ?_ -- region 8
        refine ro rfl rfl (OpOk.step (by exact ok_index_fz rfl ti_Lapi_Act rfl ti_api_Act rfl rfl rfl (by omega) (Acs_get ha) rfl)) ?_
        refine ro rfl rfl (OpOk.step (ok_load rfl ti_api_Act rfl rfl)) ?_
        refine ro rfl rfl (OpOk.step (ok_alloc rfl ti_api_Act rfl (by decide))) ?_
        refine ro rfl rfl (OpOk.step (ok_store rfl ti_api_Act (by decide) rfl rfl rfl rfl rfl (by first | exact Nat.le_of_ble_eq_true rfl | simp) (by first | exact .inl ⟨rfl, rfl⟩ | exact .inr rfl))) ?_
        refine ro_nil ?_
        refine keepK hK14 [6, 8, 22, 23, 24] (by dsimp) (by dsimp) ?_
        refine T.seq fun K15 hK15 => ?_
        refine T.seq fun K16 hK16 => ?_
        refine T.region ?_ -- region 9
        refine ro rfl rfl (OpOk.step (ok_load rfl ti_api_Act rfl rfl)) ?_
        refine ro rfl rfl (ok_call rfl rfl rfl ((cright_ok a (by omega) (by omega)).plain (by show renL (pos []) [.agg (AcC a)] = _; simp [renL, AV.ren, AcC_ren]) rfl)) ?_
        refine ro rfl rfl (OpOk.step (ok_unOp rfl rfl)) ?_
        refine ro_nil ?_
        refine keepK hK16 [6, 8, 22, 23, 24, 30] (by dsimp) (by dsimp) ?_
        refine T.cond rfl (fun hc => ?_) (fun hc => ?_) -- cond 4
        · (try simp only [decide_eq_true_eq, decide_eq_false_iff_not, beq_iff_eq, beq_eq_false_iff_ne, bne_iff_ne, bne_eq_false_iff_eq, ne_eq, Bool.not_eq_true', Bool.not_eq_false'] at hc)
          have hbad := rightsA_bad ha (by simpa using hc)
          rw [cput_3 h1 h2 hbad] at hQ
          refine T.seq fun K17 hK17 => ?_
          refine T.region ?_ -- region 10
          refine ro rfl rfl (OpOk.step (ok_move (.inr rfl))) ?_
          refine ro rfl rfl (OpOk.step (ok_move (.inr rfl))) ?_
          refine ro_nil ?_
          refine keepK hK17 [4, 5] (by dsimp) (by dsimp) ?_
          refine T.ret (hQ _ _ _ rfl ?_).1 -- ret 3
          exact (TEnt.put1 0 (x' := .tup [.fz 1 (ints .u8 []), .int 1]) (by show Ent _ (.tup [.v (.slice none 0 0), .int _]) _; exact Ent.tup (EntL.cons (Ent.nil 1) (EntL.refl _)))).trans (TEnt.fin [] (by decide) (by simp) rfl ⟨by simp [AV.ren, renL, renL_ints], trivial⟩)
        · (try simp only [decide_eq_true_eq, decide_eq_false_iff_not, beq_iff_eq, beq_eq_false_iff_ne, bne_iff_ne, bne_eq_false_iff_eq, ne_eq, Bool.not_eq_true', Bool.not_eq_false'] at hc)
          have hRA : RA a := by simpa using hc
          have hRA' := hRA
          unfold RA at hRA'
          refine T.skip ?_
          refine keepK hK15 [6, 8, 22, 23, 24] (by dsimp) (by dsimp) ?_
          refine T.seq fun K18 hK18 => ?_
          refine T.region ?_ -- region 11
          refine ro rfl rfl (OpOk.step (ok_fieldAddr rfl ti_api_Act rfl rfl ti_api_Cmd (by decide) rfl)) ?_
          refine ro rfl rfl (OpOk.step (ok_load rfl ti_api_Cmd rfl rfl)) ?_
          refine ro rfl rfl (OpOk.step (ok_alloc rfl ti_api_Cmd rfl (by decide))) ?_
          refine ro rfl rfl (OpOk.step (ok_store rfl ti_api_Cmd (by decide) rfl rfl rfl rfl rfl (by first | exact Nat.le_of_ble_eq_true rfl | simp) (by first | exact .inl ⟨rfl, rfl⟩ | exact .inr rfl))) ?_
          refine ro_nil ?_
          refine keepK hK18 [6, 8, 9, 22, 23, 24] (by dsimp) (by dsimp) ?_
          refine T.seq fun K19 hK19 => ?_
          refine T.drawH mixed [] ?_ -- region 12
          refine any_take 0 rfl (by first | rfl | decide +kernel) rfl (HeldL.refl _) (fun H' hH => OpOk.step (ok_move (.inl rfl))) ?_
          refine any_take 1 rfl (by first | rfl | decide +kernel) rfl (HeldL.refl _) (fun H' hH => OpOk.step (ok_fieldAddr rfl ti_api_Act rfl rfl ti_int (by decide) rfl)) ?_
          refine any_take 2 rfl (by first | rfl | decide +kernel) rfl (HeldL.refl _) (fun H' hH => OpOk.step (ok_load rfl ti_int (locA_held hH rfl) rfl)) ?_
          refine any_take 3 rfl (by first | rfl | decide +kernel) rfl (HeldL.refl _) (fun H' hH => OpOk.step (ok_fieldAddr rfl ti_api_Act rfl rfl ti_int (by decide) rfl)) ?_
          refine any_take 4 rfl (by first | rfl | decide +kernel) rfl (HeldL.refl _) (fun H' hH => OpOk.step (ok_load rfl ti_int (locA_held hH rfl) rfl)) ?_
          refine any_take 5 rfl (by first | rfl | decide +kernel) rfl (HeldL.refl _) (fun H' hH => OpOk.step (ok_fieldAddr rfl ti_api_Act rfl rfl ti_int (by decide) rfl)) ?_
          refine any_take 6 rfl (by first | rfl | decide +kernel) rfl (HeldL.refl _) (fun H' hH => OpOk.step (ok_load rfl ti_int (locA_held hH rfl) rfl)) ?_
          refine any_take 9 rfl (by first | rfl | decide +kernel) rfl (HeldL.refl _) (fun H' hH => OpOk.step (ok_fieldAddr rfl ti_api_Act rfl rfl ti_Luint8 (by decide) rfl)) ?_
          refine any_take 10 rfl (by first | rfl | decide +kernel) rfl (HeldL.refl _) (fun H' hH => OpOk.step (ok_load rfl ti_Luint8 (locA_held hH rfl) rfl)) ?_
          refine any_one 7 rfl (by first | rfl | decide +kernel) rfl rfl (OpOk.step (((ok_buildSlice (n := 3) (ps := #[(0, .tmp 35), (1, .tmp 37), (2, .tmp 39)]) rfl ti_Lint rfl ti_int (by decide) rfl rfl (by decide) rfl rfl rfl).frz rfl rfl).eq (x' := .fz 1 (ints .i64 [a.kind, a.m, a.n])) (H'' := [some (AcB a), some (CmB a), some ⟨1, false, ints .i64 [a.kind, a.m, a.n]⟩]) rfl rfl)) (.inr (by first | (simp [HeldL]; done) | (simp only [HeldL, List.map_cons, List.map_nil, List.cons_append, List.nil_append, List.set_cons_zero, List.set_cons_succ]; (repeat' first | trivial | rfl | constructor)))) ?_
          refine any_one 8 rfl (by first | rfl | decide +kernel) rfl rfl (ok_call rfl rfl rfl ((cints_frz B [a.kind, a.m, a.n] _ rfl (by omega) (by simp)).plain (by simp [renL, AV.ren, renL_ints]) (by simp [AV.ren, renL_ints]))) (.inr (by first | (simp [HeldL]; done) | (simp only [HeldL, List.map_cons, List.map_nil, List.cons_append, List.nil_append, List.set_cons_zero, List.set_cons_succ]; (repeat' first | trivial | rfl | constructor)))) ?_
          refine any_one 11 rfl (by first | rfl | decide +kernel) rfl rfl (ok_call rfl rfl rfl ((pkbytes_frz (l := B ++ encs [a.kind, a.m, a.n]) (x := a.keep) rfl (by rw [List.length_append, encs_len]; simp; omega) (by omega)).plain (by simp [renL, AV.ren, renL_ints]) (by simp [AV.ren, renL_ints]))) (.inr (by first | (simp [HeldL]; done) | (simp only [HeldL, List.map_cons, List.map_nil, List.cons_append, List.nil_append, List.set_cons_zero, List.set_cons_succ]; (repeat' first | trivial | rfl | constructor)))) ?_
          refine any_take 12 rfl (by first | rfl | decide +kernel) rfl (by first | exact HeldL.refl _ | exact HeldL.append _ _ | simp [HeldL]) (fun H' hH => OpOk.step (ok_move (.inr rfl))) ?_
          refine any_done rfl ?_
          refine keepK hK19 [6, 9, 22, 23, 24] (by dsimp) (by dsimp) ?_
          obtain ⟨B2, hB2⟩ : ∃ B2, B ++ encs [a.kind, a.m, a.n] ++ enc a.keep.length 8 ++ a.keep = B2 := ⟨_, rfl⟩
          have hB2l : B2.length = B.length + 32 + a.keep.length := by rw [← hB2]; simp [encs_len]; omega
          try rw [hB2]
          refine T.ent (TEnt.toH (tm' := [(6, .fz 1 (ints .u8 B2)), (9, .ref 1 0 0), (22, .fz 10 (Acs l)), (23, .int l.length), (24, .int i)]) rfl ⟨by first | rfl | (show AV.fz 1 (ints .u8 _) = _; rw [hB2]), rfl, rfl, rfl, rfl, trivial⟩) ?_
          refine T.drawH mixed [] ?_ -- region 13
          refine any_take 0 rfl (by first | rfl | decide +kernel) rfl (HeldL.refl _) (fun H' hH => OpOk.step (ok_move (.inl rfl))) ?_
          refine any_take 1 rfl (by first | rfl | decide +kernel) rfl (HeldL.refl _) (fun H' hH => OpOk.step (ok_fieldAddr rfl ti_api_Cmd rfl rfl ti_int (by decide) rfl)) ?_
          refine any_take 2 rfl (by first | rfl | decide +kernel) rfl (HeldL.refl _) (fun H' hH => OpOk.step (ok_load rfl ti_int (locA_held hH rfl) rfl)) ?_
          refine any_take 3 rfl (by first | rfl | decide +kernel) rfl (HeldL.refl _) (fun H' hH => OpOk.step (ok_fieldAddr rfl ti_api_Cmd rfl rfl ti_int (by decide) rfl)) ?_
          refine any_take 4 rfl (by first | rfl | decide +kernel) rfl (HeldL.refl _) (fun H' hH => OpOk.step (ok_load rfl ti_int (locA_held hH rfl) rfl)) ?_
          refine any_take 5 rfl (by first | rfl | decide +kernel) rfl (HeldL.refl _) (fun H' hH => OpOk.step (ok_fieldAddr rfl ti_api_Cmd rfl rfl ti_int (by decide) rfl)) ?_
          refine any_take 6 rfl (by first | rfl | decide +kernel) rfl (HeldL.refl _) (fun H' hH => OpOk.step (ok_load rfl ti_int (locA_held hH rfl) rfl)) ?_
          refine any_take 7 rfl (by first | rfl | decide +kernel) rfl (HeldL.refl _) (fun H' hH => OpOk.step (ok_fieldAddr rfl ti_api_Cmd rfl rfl ti_int (by decide) rfl)) ?_
          refine any_take 8 rfl (by first | rfl | decide +kernel) rfl (HeldL.refl _) (fun H' hH => OpOk.step (ok_load rfl ti_int (locA_held hH rfl) rfl)) ?_
          refine any_take 11 rfl (by first | rfl | decide +kernel) rfl (HeldL.refl _) (fun H' hH => OpOk.step (ok_fieldAddr rfl ti_api_Cmd rfl rfl ti_Luint8 (by decide) rfl)) ?_
          refine any_take 12 rfl (by first | rfl | decide +kernel) rfl (HeldL.refl _) (fun H' hH => OpOk.step (ok_load rfl ti_Luint8 (locA_held hH rfl) rfl)) ?_
          refine any_take 14 rfl (by first | rfl | decide +kernel) rfl (HeldL.refl _) (fun H' hH => OpOk.step (ok_fieldAddr rfl ti_api_Cmd rfl rfl ti_bool (by decide) rfl)) ?_
          refine any_take 15 rfl (by first | rfl | decide +kernel) rfl (HeldL.refl _) (fun H' hH => OpOk.step (ok_load rfl ti_bool (locA_held hH rfl) rfl)) ?_
          refine any_one 9 rfl (by first | rfl | decide +kernel) rfl rfl (OpOk.step (((ok_buildSlice (n := 4) (ps := #[(0, .tmp 47), (1, .tmp 49), (2, .tmp 51), (3, .tmp 53)]) rfl ti_Lint rfl ti_int (by decide) rfl rfl (by decide) rfl rfl rfl).frz rfl rfl).eq (x' := .fz 1 (ints .i64 [a.ck, a.cz, a.ca, a.cn])) (H'' := [some (AcB a), some (CmB a), some ⟨1, false, ints .i64 [a.kind, a.m, a.n]⟩, some ⟨1, false, ints .i64 [a.ck, a.cz, a.ca, a.cn]⟩]) rfl rfl)) (.inr (by first | (simp [HeldL]; done) | (simp only [HeldL, List.map_cons, List.map_nil, List.cons_append, List.nil_append, List.set_cons_zero, List.set_cons_succ]; (repeat' first | trivial | rfl | constructor)))) ?_
          refine any_one 10 rfl (by first | rfl | decide +kernel) rfl rfl (ok_call rfl rfl rfl ((cints_frz B2 [a.ck, a.cz, a.ca, a.cn] _ rfl (by omega) (by simp)).plain (by simp [renL, AV.ren, renL_ints]) (by simp [AV.ren, renL_ints]))) (.inr (by first | (simp [HeldL]; done) | (simp only [HeldL, List.map_cons, List.map_nil, List.cons_append, List.nil_append, List.set_cons_zero, List.set_cons_succ]; (repeat' first | trivial | rfl | constructor)))) ?_
          refine any_one 13 rfl (by first | rfl | decide +kernel) rfl rfl (ok_call rfl rfl rfl ((pkbytes_frz (l := B2 ++ encs [a.ck, a.cz, a.ca, a.cn]) (x := a.cd) rfl (by rw [List.length_append, encs_len]; simp; omega) (by omega)).plain (by simp [renL, AV.ren, renL_ints]) (by simp [AV.ren, renL_ints]))) (.inr (by first | (simp [HeldL]; done) | (simp only [HeldL, List.map_cons, List.map_nil, List.cons_append, List.nil_append, List.set_cons_zero, List.set_cons_succ]; (repeat' first | trivial | rfl | constructor)))) ?_
          refine any_one 16 rfl (by first | rfl | decide +kernel) rfl rfl (ok_call rfl rfl rfl ((pkflag_frz (l := ((B2 ++ encs [a.ck, a.cz, a.ca, a.cn]) ++ enc a.cd.length 8) ++ a.cd) (is := a.cf) (r := B ++ bodyA a) (by rw [← hB2]; simp [bodyA]) (by simp [encs_len]; omega)).plain (by simp [renL, AV.ren, renL_ints]) (by simp [AV.ren, renL_ints]))) (.inr (by first | (simp [HeldL]; done) | (simp only [HeldL, List.map_cons, List.map_nil, List.cons_append, List.nil_append, List.set_cons_zero, List.set_cons_succ]; (repeat' first | trivial | rfl | constructor)))) ?_
          refine any_take 17 rfl (by first | rfl | decide +kernel) rfl (by first | exact HeldL.refl _ | exact HeldL.append _ _ | simp [HeldL]) (fun H' hH => OpOk.step (ok_move (.inr rfl))) ?_
          refine any_done rfl ?_
          refine keepK hK13 [6, 22, 23, 24] (by dsimp) (by dsimp) ?_
          refine T.region ?_ -- region 14
          refine ro rfl rfl (OpOk.step (ok_add64 rfl ti_int rfl rfl (by omega) (by omega))) ?_
          refine ro rfl rfl (OpOk.step (ok_move (.inl rfl))) ?_
          refine ro_nil ?_
          exact ⟨i + 1, ⟨by omega, rightsA_step ha hRA hall⟩, by omega, TEnt.fin [] (by decide) (by simp) rfl ⟨by rw [hsn, ← List.append_assoc, hB0]; simp [AV.ren, renL_ints], by simp [AV.ren, Acs_ren], rfl, rfl, trivial⟩⟩
      · (try simp only [decide_eq_true_eq, decide_eq_false_iff_not, beq_iff_eq, beq_eq_false_iff_ne, bne_iff_ne, bne_eq_false_iff_eq, ne_eq, Bool.not_eq_true', Bool.not_eq_false'] at hc)
        have hil : i = l.length := by omega
        subst hil
        rw [List.take_length] at hall
        rw [cput_4 h1 h2 hall] at hQ
        rw [List.take_length]
        refine T.exit ?_
        refine keepK hK9 [6] (by dsimp) (by dsimp) ?_
        refine T.seq fun K20 hK20 => ?_
        refine T.region ?_ -- region 15
        refine ro rfl rfl (OpOk.step (ok_move (.inl rfl))) ?_
        refine ro rfl rfl (OpOk.step (ok_move (.inr rfl))) ?_
        refine ro rfl rfl (OpOk.step (ok_move (.inr rfl))) ?_
        refine ro_nil ?_
        refine keepK hK20 [4, 5] (by dsimp) (by dsimp) ?_
        refine T.ret (hQ _ _ _ rfl ?_).1 -- ret 4
        exact TEnt.fin [] (by decide) (by simp) rfl ⟨by show AV.ren (pos []) (.tup [.fz 1 (ints .u8 _), .int _]) = _; simp [AV.ren, renL, renL_ints], trivial⟩

end Go.Proofs.Ytmegpanmiagheaa.AmF
