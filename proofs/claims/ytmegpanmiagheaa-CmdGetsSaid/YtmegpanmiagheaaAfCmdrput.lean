/- Walks over the abstract machine: scripts put as bytes by the reference; steps that are the same. -/
import Derived.Test.YtmegpanmiagheaaAfCmdput
namespace Go.Proofs.Ytmegpanmiagheaa.AmF
open Go Go.AM
set_option maxRecDepth 100000
set_option linter.unusedSimpArgs false
set_option linter.unusedVariables false
attribute [local simp] tkeep tget tput ev cav argsTM pickA normT putA splice AV.cells ints_length rowsA_length enc_len
theorem rflagput_ok (b : Bool) : CSpec Try.prog 132 [] [.b b] [] (.fz 1 (ints .u8 [if b = true then 1 else 0])) := by
  refine CSpec.body Try.func132 rfl rfl rfl rfl rfl fun Q hQ => ?_
  refine T.seq fun K1 hK1 => ?_
  refine T.region ?_ -- region 0
  refine ro rfl rfl (OpOk.step (ok_move (.inr rfl))) ?_
  refine ro_nil ?_
  refine keepK hK1 [0] (by dsimp) (by dsimp) ?_
  refine T.seq fun K2 hK2 => ?_
  refine T.seq fun K3 hK3 => ?_
  refine T.region ?_ -- region 1
  refine ro rfl rfl (OpOk.step (ok_move (.inl rfl))) ?_
  refine ro_nil ?_
  refine keepK hK3 [3] (by dsimp) (by dsimp) ?_
  refine T.cond rfl (fun hc => ?_) (fun hc => ?_) -- cond 1
  · (try simp only [decide_eq_true_eq, decide_eq_false_iff_not, beq_iff_eq, beq_eq_false_iff_ne, bne_iff_ne, bne_eq_false_iff_eq, ne_eq, Bool.not_eq_true', Bool.not_eq_false'] at hc)
    subst hc
    refine T.seq fun K4 hK4 => ?_
    refine T.region ?_ -- region 2
    refine ro rfl rfl (OpOk.step (ok_buildSlice (n := 1) (ps := #[(0, .const (.int .u8 (1)))]) rfl ti_Luint8 rfl ti_uint8 (by decide) rfl rfl (by decide) rfl rfl rfl)) ?_
    refine ro rfl rfl (OpOk.step (ok_move (.inr rfl))) ?_
    refine ro_nil ?_
    refine keepK hK4 [2] (by dsimp) (by dsimp) ?_
    refine T.ret (hQ _ _ _ rfl ?_).1 -- ret 1
    exact (TEnt.freeze 0 (b := ⟨1, true, [.v (.int .u8 _)]⟩) rfl).trans ((TEnt.put1 0 (Ent.sl0 (b := ⟨1, false, [.v (.int .u8 _)]⟩) rfl rfl rfl)).trans (TEnt.fin [] (by decide) (by simp) rfl ⟨rfl, trivial⟩))
  · (try simp only [decide_eq_true_eq, decide_eq_false_iff_not, beq_iff_eq, beq_eq_false_iff_ne, bne_iff_ne, bne_eq_false_iff_eq, ne_eq, Bool.not_eq_true', Bool.not_eq_false'] at hc)
    subst hc
    refine T.skip ?_
    refine keepK hK2 [] (by dsimp) (by dsimp) ?_
    refine T.seq fun K5 hK5 => ?_
    refine T.region ?_ -- region 3
    refine ro rfl rfl (OpOk.step (ok_buildSlice (n := 1) (ps := #[(0, .const (.int .u8 (0)))]) rfl ti_Luint8 rfl ti_uint8 (by decide) rfl rfl (by decide) rfl rfl rfl)) ?_
    refine ro rfl rfl (OpOk.step (ok_move (.inr rfl))) ?_
    refine ro_nil ?_
    refine keepK hK5 [2] (by dsimp) (by dsimp) ?_
    refine T.ret (hQ _ _ _ rfl ?_).1 -- ret 2
    exact (TEnt.freeze 0 (b := ⟨1, true, [.v (.int .u8 _)]⟩) rfl).trans ((TEnt.put1 0 (Ent.sl0 (b := ⟨1, false, [.v (.int .u8 _)]⟩) rfl rfl rfl)).trans (TEnt.fin [] (by decide) (by simp) rfl ⟨rfl, trivial⟩))
set_option maxHeartbeats 1000000 in
theorem rcmdput_ok (c : Cf) (l : List Ac) (hT : (allB l).length ≤ 800000) (hl : l.length ≤ 140737488355328) : CSpec Try.prog 72 [] [.agg (CC c), .fz 10 (Acs l)] [] (.tup [.fz 1 (ints .u8 (cput c l).1), .int (cput c l).2]) := by
  have hH := headA_len c l
  refine CSpec.body Try.func72 rfl rfl rfl rfl rfl fun Q hQ => ?_
  refine T.seq fun K1 hK1 => ?_
  refine T.region ?_ -- region 0
  refine ro rfl rfl (OpOk.step (ok_box (n := 11) rfl rfl (by decide))) ?_
  refine ro rfl rfl (OpOk.step (ok_move (.inr rfl))) ?_
  refine ro rfl rfl (OpOk.step (ok_move (.inr rfl))) ?_
  refine ro_nil ?_
  refine keepK hK1 [1, 2] (by dsimp) (by dsimp) ?_
  refine T.seq fun K2 hK2 => ?_
  refine T.seq fun K3 hK3 => ?_
  refine T.region ?_ -- region 1
  refine ro rfl rfl (OpOk.step (ok_load rfl ti_api_Conf rfl rfl)) ?_
  refine ro rfl rfl (ok_call rfl rfl rfl ((rcconf_ok c).plain rfl rfl)) ?_
  refine ro rfl rfl (OpOk.step (ok_unOp rfl rfl)) ?_
  refine ro_nil ?_
  refine keepK hK3 [1, 2, 11] (by dsimp) (by dsimp) ?_
  refine T.cond rfl (fun hc => ?_) (fun hc => ?_) -- cond 1
  · (try simp only [decide_eq_true_eq, decide_eq_false_iff_not, beq_iff_eq, beq_eq_false_iff_ne, bne_iff_ne, bne_eq_false_iff_eq, ne_eq, Bool.not_eq_true', Bool.not_eq_false'] at hc)
    rw [cput_1 (by simpa using hc)] at hQ
    refine T.seq fun K4 hK4 => ?_
    refine T.region ?_ -- region 2
    refine ro rfl rfl (OpOk.step (ok_move (.inr rfl))) ?_
    refine ro rfl rfl (OpOk.step (ok_move (.inr rfl))) ?_
    refine ro_nil ?_
    refine keepK hK4 [4, 5] (by dsimp) (by dsimp) ?_
    refine T.ret (hQ _ _ _ rfl ?_).1 -- ret 1
    exact (TEnt.put1 0 (x' := .tup [.fz 1 (ints .u8 []), .int 4]) (by show Ent _ (.tup [.v (.slice none 0 0), .int _]) _; exact Ent.tup (EntL.cons (Ent.nil 1) (EntL.refl _)))).trans (TEnt.fin [] (by decide) (by simp) rfl ⟨by simp [AV.ren, renL, renL_ints], trivial⟩)
  · (try simp only [decide_eq_true_eq, decide_eq_false_iff_not, beq_iff_eq, beq_eq_false_iff_ne, bne_iff_ne, bne_eq_false_iff_eq, ne_eq, Bool.not_eq_true', Bool.not_eq_false'] at hc)
    have h1 : c.l.all farOk = true := by simpa using hc
    refine T.skip ?_
    refine keepK hK2 [1, 2] (by dsimp) (by dsimp) ?_
    refine T.seq fun K5 hK5 => ?_
    refine T.seq fun K6 hK6 => ?_
    refine T.region ?_ -- region 3
    refine ro rfl rfl (OpOk.step (ok_move (.inl rfl))) ?_
    refine ro rfl rfl (OpOk.step (ok_len' rfl rfl ti_Lapi_Act rfl (Acs_len l))) ?_
    refine ro rfl rfl (OpOk.step (ok_binOp rfl ti_int rfl)) ?_
    refine ro_nil ?_
    refine keepK hK6 [1, 2, 14] (by dsimp) (by dsimp) ?_
    refine T.cond rfl (fun hc => ?_) (fun hc => ?_) -- cond 2
    · (try simp only [decide_eq_true_eq, decide_eq_false_iff_not, beq_iff_eq, beq_eq_false_iff_ne, bne_iff_ne, bne_eq_false_iff_eq, ne_eq, Bool.not_eq_true', Bool.not_eq_false'] at hc)
      rw [cput_2 h1 (by omega)] at hQ
      refine T.seq fun K7 hK7 => ?_
      refine T.region ?_ -- region 4
      refine ro rfl rfl (OpOk.step (ok_move (.inr rfl))) ?_
      refine ro rfl rfl (OpOk.step (ok_move (.inr rfl))) ?_
      refine ro_nil ?_
      refine keepK hK7 [4, 5] (by dsimp) (by dsimp) ?_
      refine T.ret (hQ _ _ _ rfl ?_).1 -- ret 2
      exact (TEnt.put1 0 (x' := .tup [.fz 1 (ints .u8 []), .int 1]) (by show Ent _ (.tup [.v (.slice none 0 0), .int _]) _; exact Ent.tup (EntL.cons (Ent.nil 1) (EntL.refl _)))).trans (TEnt.fin [] (by decide) (by simp) rfl ⟨by simp [AV.ren, renL, renL_ints], trivial⟩)
    · (try simp only [decide_eq_true_eq, decide_eq_false_iff_not, beq_iff_eq, beq_eq_false_iff_ne, bne_iff_ne, bne_eq_false_iff_eq, ne_eq, Bool.not_eq_true', Bool.not_eq_false'] at hc)
      have h2 : ¬ l.length > 4096 := by omega
      refine T.skip ?_
      refine keepK hK5 [1, 2] (by dsimp) (by dsimp) ?_
      refine T.seq fun K8 hK8 => ?_
      refine T.region ?_ -- region 5
      refine ro rfl rfl (OpOk.step (ok_load rfl ti_api_Conf rfl rfl)) ?_
      refine ro rfl rfl (ok_call rfl rfl rfl ((rput_new c).fresh (x' := .sl 1 0 (encs c.l).length) (H' := [some ⟨1, true, ints .u8 (encs c.l)⟩]) rfl rfl (by simp [renH, Blk.ren, renL_ints]))) ?_
      refine ro rfl rfl (OpOk.step (ok_move (.inl rfl))) ?_
      refine ro rfl rfl (OpOk.step (ok_len' rfl rfl ti_Lapi_Act rfl (Acs_len l))) ?_
      refine ro rfl rfl (ok_call rfl rfl rfl ((rint_frz l.length).plain rfl (by simp [AV.ren, renL_ints]))) ?_
      refine ro rfl rfl (OpOk.step ((ok_append_ints (k := .u8) (xs := encs c.l) (ys := enc l.length 8) rfl ti_Luint8 rfl ti_uint8 rfl (by decide) rfl ti_Luint8 (by simp) rfl rfl rfl rfl rfl rfl rfl rfl rfl (by simp [encs_len, Cf.l])).eq (x' := .sl 2 0 (headA c l).length) (H'' := [some (CB c), none, some ⟨1, true, ints .u8 (headA c l)⟩]) rfl rfl)) ?_
      refine ro rfl rfl (OpOk.step (ok_move (.inr rfl))) ?_
      refine ro_nil ?_
      refine keepK hK8 [1, 6] (by dsimp) (by dsimp) ?_
      refine T.seq fun K9 hK9 => ?_
      refine T.seq fun K10 hK10 => ?_
      refine T.region ?_ -- region 6
      refine ro rfl rfl (OpOk.step (ok_move (.inr rfl))) ?_
      refine ro_nil ?_
      refine keepK hK10 [1, 6, 7] (by dsimp) (by dsimp) ?_
      refine T.block ?_
      refine T.loopI (ι := Nat) (fun i => i ≤ l.length ∧ rightsA (l.take i) = true) (fun i => l.length - i) (fun i => ([(1, .fz 10 (Acs l)), (6, .sl 0 0 (headA c l ++ allB (l.take i)).length), (7, .int i)], [some ⟨1, true, ints .u8 (headA c l ++ allB (l.take i))⟩])) 0 ⟨Nat.zero_le _, rfl⟩ (TEnt.fin [2] (by decide) (by simp) (by simp [normH, hget, IB_ren, allB]) ⟨by simp [AV.ren, Acs_ren], by simp [allB]; rfl, rfl, trivial⟩) (fun i hi => ?_) -- loop 1
      obtain ⟨hi, hall⟩ := hi
      refine T.seq fun K11 hK11 => ?_
      refine T.seq fun K12 hK12 => ?_
      refine T.region ?_ -- region 7
      refine ro rfl rfl (OpOk.step (ok_move (.inl rfl))) ?_
      refine ro rfl rfl (OpOk.step (ok_move (.inl rfl))) ?_
      refine ro rfl rfl (OpOk.step (ok_len' rfl rfl ti_Lapi_Act rfl (Acs_len l))) ?_
      refine ro rfl rfl (OpOk.step (ok_binOp rfl ti_int rfl)) ?_
      refine ro_nil ?_
      refine keepK hK12 [1, 6, 7, 24] (by dsimp) (by dsimp) ?_
      refine T.cond rfl (fun hc => ?_) (fun hc => ?_) -- cond 3
      · (try simp only [decide_eq_true_eq, decide_eq_false_iff_not, beq_iff_eq, beq_eq_false_iff_ne, bne_iff_ne, bne_eq_false_iff_eq, ne_eq, Bool.not_eq_true', Bool.not_eq_false'] at hc)
        obtain ⟨a, ha⟩ : ∃ a, l[i]? = some a := ⟨_, List.getElem?_eq_getElem (by omega)⟩
        have hle := allB_le ha
        have hbl := bodyA_len a
        have hsn := allB_snoc ha
        obtain ⟨B, hB0⟩ : ∃ B, headA c l ++ allB (l.take i) = B := ⟨_, rfl⟩
        have hBl : B.length + (bodyA a).length ≤ 800096 := by rw [← hB0, List.length_append]; omega
        rw [hB0]
        refine T.skip ?_
        refine keepK hK11 [1, 6, 7] (by dsimp) (by dsimp) ?_
        refine T.seq fun K13 hK13 => ?_
        refine T.block ?_
        refine T.seq fun K14 hK14 => ?_
        refine T.region ?_ -- region 9
        refine ro rfl rfl (OpOk.step (ok_move (.inl rfl))) ?_
        refine ro rfl rfl (OpOk.step (ok_move (.inl rfl))) ?_
        refine ro rfl rfl (OpOk.step (by exact ok_index_fz rfl ti_Lapi_Act rfl ti_api_Act rfl rfl rfl (by omega) (Acs_get ha) rfl)) ?_
        refine ro rfl rfl (OpOk.step (ok_load rfl ti_api_Act rfl rfl)) ?_
        refine ro rfl rfl (OpOk.step (ok_alloc rfl ti_api_Act rfl (by decide))) ?_
        refine ro rfl rfl (OpOk.step (ok_store rfl ti_api_Act (by decide) rfl rfl rfl rfl rfl (by first | exact Nat.le_of_ble_eq_true rfl | simp) (by first | exact .inl ⟨rfl, rfl⟩ | exact .inr rfl))) ?_
        refine ro_nil ?_
        refine keepK hK14 [1, 6, 7, 8] (by dsimp) (by dsimp) ?_
        refine T.seq fun K15 hK15 => ?_
        refine T.seq fun K16 hK16 => ?_
        refine T.region ?_ -- region 10
        refine ro rfl rfl (OpOk.step (ok_load rfl ti_api_Act rfl rfl)) ?_
        refine ro rfl rfl (ok_call rfl rfl rfl ((rcright_ok a (by omega) (by omega)).plain (by show renL (pos []) [.agg (AcC a)] = _; simp [renL, AV.ren, AcC_ren]) rfl)) ?_
        refine ro rfl rfl (OpOk.step (ok_unOp rfl rfl)) ?_
        refine ro_nil ?_
        refine keepK hK16 [1, 6, 7, 8, 33] (by dsimp) (by dsimp) ?_
        refine T.cond rfl (fun hc => ?_) (fun hc => ?_) -- cond 4
        · (try simp only [decide_eq_true_eq, decide_eq_false_iff_not, beq_iff_eq, beq_eq_false_iff_ne, bne_iff_ne, bne_eq_false_iff_eq, ne_eq, Bool.not_eq_true', Bool.not_eq_false'] at hc)
          have hbad := rightsA_bad ha (by simpa using hc)
          rw [cput_3 h1 h2 hbad] at hQ
          refine T.seq fun K17 hK17 => ?_
          refine T.region ?_ -- region 11
          refine ro rfl rfl (OpOk.step (ok_move (.inr rfl))) ?_
          refine ro rfl rfl (OpOk.step (ok_move (.inr rfl))) ?_
          refine ro_nil ?_
          refine keepK hK17 [4, 5] (by dsimp) (by dsimp) ?_
          refine T.ret (hQ _ _ _ rfl ?_).1 -- ret 3
          exact (TEnt.put1 0 (x' := .tup [.fz 1 (ints .u8 []), .int 1]) (by show Ent _ (.tup [.v (.slice none 0 0), .int _]) _; exact Ent.tup (EntL.cons (Ent.nil 1) (EntL.refl _)))).trans (TEnt.fin [] (by decide) (by simp) rfl ⟨by simp [AV.ren, renL, renL_ints], trivial⟩)
        · (try simp only [decide_eq_true_eq, decide_eq_false_iff_not, beq_iff_eq, beq_eq_false_iff_ne, bne_iff_ne, bne_eq_false_iff_eq, ne_eq, Bool.not_eq_true', Bool.not_eq_false'] at hc)
          have hRA : RA a := by simpa using hc
          have hRA' := hRA
          unfold RA at hRA'
          refine T.skip ?_
          refine keepK hK15 [1, 6, 7, 8] (by dsimp) (by dsimp) ?_
          refine T.seq fun K18 hK18 => ?_
          refine T.draw mixed (SH [] (HeldL ([none, some (AcB a)]))) ?_ -- region 12
          refine any_take 0 rfl (by first | rfl | decide +kernel) rfl (by first | (simp [HeldL]; done) | (simp only [HeldL, List.map_cons, List.map_nil, List.cons_append, List.nil_append, List.set_cons_zero, List.set_cons_succ]; (repeat' first | trivial | rfl | constructor))) (fun H' hH => OpOk.step (ok_move (.inl rfl))) ?_
          refine any_take 1 rfl (by first | rfl | decide +kernel) rfl (by first | (simp [HeldL]; done) | (simp only [HeldL, List.map_cons, List.map_nil, List.cons_append, List.nil_append, List.set_cons_zero, List.set_cons_succ]; (repeat' first | trivial | rfl | constructor))) (fun H' hH => OpOk.step (ok_fieldAddr rfl ti_api_Act rfl rfl ti_int (by decide) rfl)) ?_
          refine any_take 2 rfl (by first | rfl | decide +kernel) rfl (by first | (simp [HeldL]; done) | (simp only [HeldL, List.map_cons, List.map_nil, List.cons_append, List.nil_append, List.set_cons_zero, List.set_cons_succ]; (repeat' first | trivial | rfl | constructor))) (fun H' hH => OpOk.step (ok_load rfl ti_int (locA_held hH rfl) rfl)) ?_
          refine any_take 5 rfl (by first | rfl | decide +kernel) rfl (by first | (simp [HeldL]; done) | (simp only [HeldL, List.map_cons, List.map_nil, List.cons_append, List.nil_append, List.set_cons_zero, List.set_cons_succ]; (repeat' first | trivial | rfl | constructor))) (fun H' hH => OpOk.step (ok_fieldAddr rfl ti_api_Act rfl rfl ti_int (by decide) rfl)) ?_
          refine any_take 6 rfl (by first | rfl | decide +kernel) rfl (by first | (simp [HeldL]; done) | (simp only [HeldL, List.map_cons, List.map_nil, List.cons_append, List.nil_append, List.set_cons_zero, List.set_cons_succ]; (repeat' first | trivial | rfl | constructor))) (fun H' hH => OpOk.step (ok_load rfl ti_int (locA_held hH rfl) rfl)) ?_
          refine any_take 9 rfl (by first | rfl | decide +kernel) rfl (by first | (simp [HeldL]; done) | (simp only [HeldL, List.map_cons, List.map_nil, List.cons_append, List.nil_append, List.set_cons_zero, List.set_cons_succ]; (repeat' first | trivial | rfl | constructor))) (fun H' hH => OpOk.step (ok_fieldAddr rfl ti_api_Act rfl rfl ti_int (by decide) rfl)) ?_
          refine any_take 10 rfl (by first | rfl | decide +kernel) rfl (by first | (simp [HeldL]; done) | (simp only [HeldL, List.map_cons, List.map_nil, List.cons_append, List.nil_append, List.set_cons_zero, List.set_cons_succ]; (repeat' first | trivial | rfl | constructor))) (fun H' hH => OpOk.step (ok_load rfl ti_int (locA_held hH rfl) rfl)) ?_
          refine any_one 3 rfl (by first | rfl | decide +kernel) rfl rfl (ok_call rfl rfl rfl ((rint_frz a.kind).plain rfl (by simp [AV.ren, renL_ints]))) (.inr (by first | (simp [HeldL]; done) | (simp only [HeldL, List.map_cons, List.map_nil, List.cons_append, List.nil_append, List.set_cons_zero, List.set_cons_succ]; (repeat' first | trivial | rfl | constructor)))) ?_
          refine any_one 4 rfl (by first | rfl | decide +kernel) rfl rfl (OpOk.step ((ok_append_ints (k := .u8) (xs := B) (ys := enc a.kind 8) rfl ti_Luint8 rfl ti_uint8 rfl (by decide) rfl ti_Luint8 (by simp) rfl rfl rfl rfl rfl rfl rfl rfl rfl (by simp <;> omega)).eq (x' := .sl 2 0 (B ++ enc a.kind 8).length) (H'' := [none, some (AcB a), some ⟨1, true, ints .u8 (B ++ enc a.kind 8)⟩]) rfl rfl)) (.inr (by first | (simp [HeldL]; done) | (simp only [HeldL, List.map_cons, List.map_nil, List.cons_append, List.nil_append, List.set_cons_zero, List.set_cons_succ]; (repeat' first | trivial | rfl | constructor)))) ?_
          refine any_one 7 rfl (by first | rfl | decide +kernel) rfl rfl (ok_call rfl rfl rfl ((rint_frz a.m).plain rfl (by simp [AV.ren, renL_ints]))) (.inr (by first | (simp [HeldL]; done) | (simp only [HeldL, List.map_cons, List.map_nil, List.cons_append, List.nil_append, List.set_cons_zero, List.set_cons_succ]; (repeat' first | trivial | rfl | constructor)))) ?_
          refine any_one 8 rfl (by first | rfl | decide +kernel) rfl rfl (OpOk.step ((ok_append_ints (k := .u8) (xs := B ++ enc a.kind 8) (ys := enc a.m 8) rfl ti_Luint8 rfl ti_uint8 rfl (by decide) rfl ti_Luint8 (by simp) rfl rfl rfl rfl rfl rfl rfl rfl rfl (by simp <;> omega)).eq (x' := .sl 3 0 (B ++ enc a.kind 8 ++ enc a.m 8).length) (H'' := [none, some (AcB a), none, some ⟨1, true, ints .u8 (B ++ enc a.kind 8 ++ enc a.m 8)⟩]) rfl rfl)) (.inr (by first | (simp [HeldL]; done) | (simp only [HeldL, List.map_cons, List.map_nil, List.cons_append, List.nil_append, List.set_cons_zero, List.set_cons_succ]; (repeat' first | trivial | rfl | constructor)))) ?_
          refine any_one 11 rfl (by first | rfl | decide +kernel) rfl rfl (ok_call rfl rfl rfl ((rint_frz a.n).plain rfl (by simp [AV.ren, renL_ints]))) (.inr (by first | (simp [HeldL]; done) | (simp only [HeldL, List.map_cons, List.map_nil, List.cons_append, List.nil_append, List.set_cons_zero, List.set_cons_succ]; (repeat' first | trivial | rfl | constructor)))) ?_
          refine any_one 12 rfl (by first | rfl | decide +kernel) rfl rfl (OpOk.step ((ok_append_ints (k := .u8) (xs := B ++ enc a.kind 8 ++ enc a.m 8) (ys := enc a.n 8) rfl ti_Luint8 rfl ti_uint8 rfl (by decide) rfl ti_Luint8 (by simp) rfl rfl rfl rfl rfl rfl rfl rfl rfl (by simp <;> omega)).eq (x' := .sl 4 0 (B ++ enc a.kind 8 ++ enc a.m 8 ++ enc a.n 8).length) (H'' := [none, some (AcB a), none, none, some ⟨1, true, ints .u8 (B ++ enc a.kind 8 ++ enc a.m 8 ++ enc a.n 8)⟩]) rfl rfl)) (.inr (by first | (simp [HeldL]; done) | (simp only [HeldL, List.map_cons, List.map_nil, List.cons_append, List.nil_append, List.set_cons_zero, List.set_cons_succ]; (repeat' first | trivial | rfl | constructor)))) ?_
          refine any_take 13 rfl (by first | rfl | decide +kernel) rfl (by first | (simp [HeldL]; done) | (simp only [HeldL, List.map_cons, List.map_nil, List.cons_append, List.nil_append, List.set_cons_zero, List.set_cons_succ]; (repeat' first | trivial | rfl | constructor))) (fun H' hH => OpOk.step (ok_move (.inr rfl))) ?_
          refine any_done rfl ?_
          refine keepK hK18 [1, 6, 7, 8] (by dsimp) (by dsimp) ?_
          refine T.seq fun K19 hK19 => ?_
          obtain ⟨B1, hB1⟩ : ∃ B1, B ++ encs [a.kind, a.m, a.n] = B1 := ⟨_, rfl⟩
          have hB1l : B1.length = B.length + 24 := by rw [← hB1]; simp [encs_len]
          have hB1' : B ++ enc a.kind 8 ++ enc a.m 8 ++ enc a.n 8 = B1 := by rw [← hB1]; simp [encs]
          refine T.ent (TEnt.fin (tm' := [(1, .fz 10 (Acs l)), (6, .sl 1 0 B1.length), (7, .int i), (8, .ref 0 0 0)]) (H' := [some (AcB a), some ⟨1, true, ints .u8 B1⟩]) [1, 4] (by decide) (by simp) (by rw [← hB1']; show normH [1, 4] [none, some (AcB a), none, none, some ⟨1, true, ints .u8 _⟩] = _; simp [normH, hget, IB_ren, AcB_ren]) ⟨by simp [AV.ren, Acs_ren], by rw [← hB1']; simp [AV.ren]; rfl, rfl, rfl, trivial⟩) ?_
          refine T.region ?_ -- region 13
          refine ro rfl rfl (OpOk.step (ok_move (.inl rfl))) ?_
          refine ro rfl rfl (OpOk.step (ok_fieldAddr rfl ti_api_Act rfl rfl ti_Luint8 (by decide) rfl)) ?_
          refine ro rfl rfl (OpOk.step (ok_load rfl ti_Luint8 rfl rfl)) ?_
          refine ro rfl rfl (ok_call rfl rfl rfl ((rbytesput_frz (l := a.keep) rfl (by omega)).plain (by simp [renL, AV.ren, renL_ints]) (by simp [AV.ren, renL_ints]))) ?_
          refine ro rfl rfl (OpOk.step ((ok_append_ints (k := .u8) (xs := B1) (ys := enc a.keep.length 8 ++ a.keep) rfl ti_Luint8 rfl ti_uint8 rfl (by decide) rfl ti_Luint8 (by simp) rfl rfl rfl rfl rfl rfl rfl rfl rfl (by simp <;> omega)).eq (x' := .sl 2 0 (B1 ++ (enc a.keep.length 8 ++ a.keep)).length) (H'' := [some (AcB a), none, some ⟨1, true, ints .u8 (B1 ++ (enc a.keep.length 8 ++ a.keep))⟩]) rfl rfl)) ?_
          refine ro rfl rfl (OpOk.step (ok_move (.inr rfl))) ?_
          refine ro_nil ?_
          refine keepK hK19 [1, 6, 7, 8] (by dsimp) (by dsimp) ?_
          refine T.seq fun K20 hK20 => ?_
          refine T.draw mixed (SH [] (HeldL ([some (AcB a)]))) ?_ -- region 14
          refine any_take 0 rfl (by first | rfl | decide +kernel) rfl (by first | (simp [HeldL]; done) | (simp only [HeldL, List.map_cons, List.map_nil, List.cons_append, List.nil_append, List.set_cons_zero, List.set_cons_succ]; (repeat' first | trivial | rfl | constructor))) (fun H' hH => OpOk.step (ok_move (.inl rfl))) ?_
          refine any_take 1 rfl (by first | rfl | decide +kernel) rfl (by first | (simp [HeldL]; done) | (simp only [HeldL, List.map_cons, List.map_nil, List.cons_append, List.nil_append, List.set_cons_zero, List.set_cons_succ]; (repeat' first | trivial | rfl | constructor))) (fun H' hH => OpOk.step (ok_fieldAddr rfl ti_api_Act rfl rfl ti_api_Cmd (by decide) rfl)) ?_
          refine any_take 2 rfl (by first | rfl | decide +kernel) rfl (by first | (simp [HeldL]; done) | (simp only [HeldL, List.map_cons, List.map_nil, List.cons_append, List.nil_append, List.set_cons_zero, List.set_cons_succ]; (repeat' first | trivial | rfl | constructor))) (fun H' hH => OpOk.step (ok_fieldAddr rfl ti_api_Cmd rfl rfl ti_int (by decide) rfl)) ?_
          refine any_take 3 rfl (by first | rfl | decide +kernel) rfl (by first | (simp [HeldL]; done) | (simp only [HeldL, List.map_cons, List.map_nil, List.cons_append, List.nil_append, List.set_cons_zero, List.set_cons_succ]; (repeat' first | trivial | rfl | constructor))) (fun H' hH => OpOk.step (ok_load rfl ti_int (locA_held hH rfl) rfl)) ?_
          refine any_take 6 rfl (by first | rfl | decide +kernel) rfl (by first | (simp [HeldL]; done) | (simp only [HeldL, List.map_cons, List.map_nil, List.cons_append, List.nil_append, List.set_cons_zero, List.set_cons_succ]; (repeat' first | trivial | rfl | constructor))) (fun H' hH => OpOk.step (ok_fieldAddr rfl ti_api_Act rfl rfl ti_api_Cmd (by decide) rfl)) ?_
          refine any_take 7 rfl (by first | rfl | decide +kernel) rfl (by first | (simp [HeldL]; done) | (simp only [HeldL, List.map_cons, List.map_nil, List.cons_append, List.nil_append, List.set_cons_zero, List.set_cons_succ]; (repeat' first | trivial | rfl | constructor))) (fun H' hH => OpOk.step (ok_fieldAddr rfl ti_api_Cmd rfl rfl ti_int (by decide) rfl)) ?_
          refine any_take 8 rfl (by first | rfl | decide +kernel) rfl (by first | (simp [HeldL]; done) | (simp only [HeldL, List.map_cons, List.map_nil, List.cons_append, List.nil_append, List.set_cons_zero, List.set_cons_succ]; (repeat' first | trivial | rfl | constructor))) (fun H' hH => OpOk.step (ok_load rfl ti_int (locA_held hH rfl) rfl)) ?_
          refine any_take 11 rfl (by first | rfl | decide +kernel) rfl (by first | (simp [HeldL]; done) | (simp only [HeldL, List.map_cons, List.map_nil, List.cons_append, List.nil_append, List.set_cons_zero, List.set_cons_succ]; (repeat' first | trivial | rfl | constructor))) (fun H' hH => OpOk.step (ok_fieldAddr rfl ti_api_Act rfl rfl ti_api_Cmd (by decide) rfl)) ?_
          refine any_take 12 rfl (by first | rfl | decide +kernel) rfl (by first | (simp [HeldL]; done) | (simp only [HeldL, List.map_cons, List.map_nil, List.cons_append, List.nil_append, List.set_cons_zero, List.set_cons_succ]; (repeat' first | trivial | rfl | constructor))) (fun H' hH => OpOk.step (ok_fieldAddr rfl ti_api_Cmd rfl rfl ti_int (by decide) rfl)) ?_
          refine any_take 13 rfl (by first | rfl | decide +kernel) rfl (by first | (simp [HeldL]; done) | (simp only [HeldL, List.map_cons, List.map_nil, List.cons_append, List.nil_append, List.set_cons_zero, List.set_cons_succ]; (repeat' first | trivial | rfl | constructor))) (fun H' hH => OpOk.step (ok_load rfl ti_int (locA_held hH rfl) rfl)) ?_
          refine any_take 16 rfl (by first | rfl | decide +kernel) rfl (by first | (simp [HeldL]; done) | (simp only [HeldL, List.map_cons, List.map_nil, List.cons_append, List.nil_append, List.set_cons_zero, List.set_cons_succ]; (repeat' first | trivial | rfl | constructor))) (fun H' hH => OpOk.step (ok_fieldAddr rfl ti_api_Act rfl rfl ti_api_Cmd (by decide) rfl)) ?_
          refine any_take 17 rfl (by first | rfl | decide +kernel) rfl (by first | (simp [HeldL]; done) | (simp only [HeldL, List.map_cons, List.map_nil, List.cons_append, List.nil_append, List.set_cons_zero, List.set_cons_succ]; (repeat' first | trivial | rfl | constructor))) (fun H' hH => OpOk.step (ok_fieldAddr rfl ti_api_Cmd rfl rfl ti_int (by decide) rfl)) ?_
          refine any_take 18 rfl (by first | rfl | decide +kernel) rfl (by first | (simp [HeldL]; done) | (simp only [HeldL, List.map_cons, List.map_nil, List.cons_append, List.nil_append, List.set_cons_zero, List.set_cons_succ]; (repeat' first | trivial | rfl | constructor))) (fun H' hH => OpOk.step (ok_load rfl ti_int (locA_held hH rfl) rfl)) ?_
          refine any_one 4 rfl (by first | rfl | decide +kernel) rfl rfl (ok_call rfl rfl rfl ((rint_frz a.ck).plain rfl (by simp [AV.ren, renL_ints]))) (.inr (by first | (simp [HeldL]; done) | (simp only [HeldL, List.map_cons, List.map_nil, List.cons_append, List.nil_append, List.set_cons_zero, List.set_cons_succ]; (repeat' first | trivial | rfl | constructor)))) ?_
          refine any_one 5 rfl (by first | rfl | decide +kernel) rfl rfl (OpOk.step ((ok_append_ints (k := .u8) (xs := B1 ++ (enc a.keep.length 8 ++ a.keep)) (ys := enc a.ck 8) rfl ti_Luint8 rfl ti_uint8 rfl (by decide) rfl ti_Luint8 (by simp) rfl rfl rfl rfl rfl rfl rfl rfl rfl (by simp <;> omega)).eq (x' := .sl 3 0 (B1 ++ (enc a.keep.length 8 ++ a.keep) ++ enc a.ck 8).length) (H'' := [some (AcB a), none, none, some ⟨1, true, ints .u8 (B1 ++ (enc a.keep.length 8 ++ a.keep) ++ enc a.ck 8)⟩]) rfl rfl)) (.inr (by first | (simp [HeldL]; done) | (simp only [HeldL, List.map_cons, List.map_nil, List.cons_append, List.nil_append, List.set_cons_zero, List.set_cons_succ]; (repeat' first | trivial | rfl | constructor)))) ?_
          refine any_one 9 rfl (by first | rfl | decide +kernel) rfl rfl (ok_call rfl rfl rfl ((rint_frz a.cz).plain rfl (by simp [AV.ren, renL_ints]))) (.inr (by first | (simp [HeldL]; done) | (simp only [HeldL, List.map_cons, List.map_nil, List.cons_append, List.nil_append, List.set_cons_zero, List.set_cons_succ]; (repeat' first | trivial | rfl | constructor)))) ?_
          refine any_one 10 rfl (by first | rfl | decide +kernel) rfl rfl (OpOk.step ((ok_append_ints (k := .u8) (xs := B1 ++ (enc a.keep.length 8 ++ a.keep) ++ enc a.ck 8) (ys := enc a.cz 8) rfl ti_Luint8 rfl ti_uint8 rfl (by decide) rfl ti_Luint8 (by simp) rfl rfl rfl rfl rfl rfl rfl rfl rfl (by simp <;> omega)).eq (x' := .sl 4 0 (B1 ++ (enc a.keep.length 8 ++ a.keep) ++ enc a.ck 8 ++ enc a.cz 8).length) (H'' := [some (AcB a), none, none, none, some ⟨1, true, ints .u8 (B1 ++ (enc a.keep.length 8 ++ a.keep) ++ enc a.ck 8 ++ enc a.cz 8)⟩]) rfl rfl)) (.inr (by first | (simp [HeldL]; done) | (simp only [HeldL, List.map_cons, List.map_nil, List.cons_append, List.nil_append, List.set_cons_zero, List.set_cons_succ]; (repeat' first | trivial | rfl | constructor)))) ?_
          refine any_one 14 rfl (by first | rfl | decide +kernel) rfl rfl (ok_call rfl rfl rfl ((rint_frz a.ca).plain rfl (by simp [AV.ren, renL_ints]))) (.inr (by first | (simp [HeldL]; done) | (simp only [HeldL, List.map_cons, List.map_nil, List.cons_append, List.nil_append, List.set_cons_zero, List.set_cons_succ]; (repeat' first | trivial | rfl | constructor)))) ?_
          refine any_one 15 rfl (by first | rfl | decide +kernel) rfl rfl (OpOk.step ((ok_append_ints (k := .u8) (xs := B1 ++ (enc a.keep.length 8 ++ a.keep) ++ enc a.ck 8 ++ enc a.cz 8) (ys := enc a.ca 8) rfl ti_Luint8 rfl ti_uint8 rfl (by decide) rfl ti_Luint8 (by simp) rfl rfl rfl rfl rfl rfl rfl rfl rfl (by simp <;> omega)).eq (x' := .sl 5 0 (B1 ++ (enc a.keep.length 8 ++ a.keep) ++ enc a.ck 8 ++ enc a.cz 8 ++ enc a.ca 8).length) (H'' := [some (AcB a), none, none, none, none, some ⟨1, true, ints .u8 (B1 ++ (enc a.keep.length 8 ++ a.keep) ++ enc a.ck 8 ++ enc a.cz 8 ++ enc a.ca 8)⟩]) rfl rfl)) (.inr (by first | (simp [HeldL]; done) | (simp only [HeldL, List.map_cons, List.map_nil, List.cons_append, List.nil_append, List.set_cons_zero, List.set_cons_succ]; (repeat' first | trivial | rfl | constructor)))) ?_
          refine any_one 19 rfl (by first | rfl | decide +kernel) rfl rfl (ok_call rfl rfl rfl ((rint_frz a.cn).plain rfl (by simp [AV.ren, renL_ints]))) (.inr (by first | (simp [HeldL]; done) | (simp only [HeldL, List.map_cons, List.map_nil, List.cons_append, List.nil_append, List.set_cons_zero, List.set_cons_succ]; (repeat' first | trivial | rfl | constructor)))) ?_
          refine any_one 20 rfl (by first | rfl | decide +kernel) rfl rfl (OpOk.step ((ok_append_ints (k := .u8) (xs := B1 ++ (enc a.keep.length 8 ++ a.keep) ++ enc a.ck 8 ++ enc a.cz 8 ++ enc a.ca 8) (ys := enc a.cn 8) rfl ti_Luint8 rfl ti_uint8 rfl (by decide) rfl ti_Luint8 (by simp) rfl rfl rfl rfl rfl rfl rfl rfl rfl (by simp <;> omega)).eq (x' := .sl 6 0 (B1 ++ (enc a.keep.length 8 ++ a.keep) ++ enc a.ck 8 ++ enc a.cz 8 ++ enc a.ca 8 ++ enc a.cn 8).length) (H'' := [some (AcB a), none, none, none, none, none, some ⟨1, true, ints .u8 (B1 ++ (enc a.keep.length 8 ++ a.keep) ++ enc a.ck 8 ++ enc a.cz 8 ++ enc a.ca 8 ++ enc a.cn 8)⟩]) rfl rfl)) (.inr (by first | (simp [HeldL]; done) | (simp only [HeldL, List.map_cons, List.map_nil, List.cons_append, List.nil_append, List.set_cons_zero, List.set_cons_succ]; (repeat' first | trivial | rfl | constructor)))) ?_
          refine any_take 21 rfl (by first | rfl | decide +kernel) rfl (by first | (simp [HeldL]; done) | (simp only [HeldL, List.map_cons, List.map_nil, List.cons_append, List.nil_append, List.set_cons_zero, List.set_cons_succ]; (repeat' first | trivial | rfl | constructor))) (fun H' hH => OpOk.step (ok_move (.inr rfl))) ?_
          refine any_done rfl ?_
          refine keepK hK20 [1, 6, 7, 8] (by dsimp) (by dsimp) ?_
          obtain ⟨B3, hB3⟩ : ∃ B3, B1 ++ (enc a.keep.length 8 ++ a.keep) ++ encs [a.ck, a.cz, a.ca, a.cn] = B3 := ⟨_, rfl⟩
          have hB3l : B3.length = B1.length + 40 + a.keep.length := by rw [← hB3]; simp [encs_len]; omega
          have hB3' : B1 ++ (enc a.keep.length 8 ++ a.keep) ++ enc a.ck 8 ++ enc a.cz 8 ++ enc a.ca 8 ++ enc a.cn 8 = B3 := by rw [← hB3]; simp [encs]
          refine T.ent (TEnt.fin (tm' := [(1, .fz 10 (Acs l)), (6, .sl 1 0 B3.length), (7, .int i), (8, .ref 0 0 0)]) (H' := [some (AcB a), some ⟨1, true, ints .u8 B3⟩]) [0, 6] (by decide) (by simp) (by rw [← hB3']; show normH [0, 6] [some (AcB a), none, none, none, none, none, some ⟨1, true, ints .u8 _⟩] = _; simp [normH, hget, IB_ren, AcB_ren]) ⟨by simp [AV.ren, Acs_ren], by rw [← hB3']; simp [AV.ren]; rfl, rfl, rfl, trivial⟩) ?_
          refine T.draw mixed (SH [] (HeldL ([some (AcB a)]))) ?_ -- region 15
          refine any_take 0 rfl (by first | rfl | decide +kernel) rfl (by first | (simp [HeldL]; done) | (simp only [HeldL, List.map_cons, List.map_nil, List.cons_append, List.nil_append, List.set_cons_zero, List.set_cons_succ]; (repeat' first | trivial | rfl | constructor))) (fun H' hH => OpOk.step (ok_move (.inl rfl))) ?_
          refine any_take 1 rfl (by first | rfl | decide +kernel) rfl (by first | (simp [HeldL]; done) | (simp only [HeldL, List.map_cons, List.map_nil, List.cons_append, List.nil_append, List.set_cons_zero, List.set_cons_succ]; (repeat' first | trivial | rfl | constructor))) (fun H' hH => OpOk.step (ok_fieldAddr rfl ti_api_Act rfl rfl ti_api_Cmd (by decide) rfl)) ?_
          refine any_take 2 rfl (by first | rfl | decide +kernel) rfl (by first | (simp [HeldL]; done) | (simp only [HeldL, List.map_cons, List.map_nil, List.cons_append, List.nil_append, List.set_cons_zero, List.set_cons_succ]; (repeat' first | trivial | rfl | constructor))) (fun H' hH => OpOk.step (ok_fieldAddr rfl ti_api_Cmd rfl rfl ti_Luint8 (by decide) rfl)) ?_
          refine any_take 3 rfl (by first | rfl | decide +kernel) rfl (by first | (simp [HeldL]; done) | (simp only [HeldL, List.map_cons, List.map_nil, List.cons_append, List.nil_append, List.set_cons_zero, List.set_cons_succ]; (repeat' first | trivial | rfl | constructor))) (fun H' hH => OpOk.step (ok_load rfl ti_Luint8 (locA_held hH rfl) rfl)) ?_
          refine any_take 6 rfl (by first | rfl | decide +kernel) rfl (by first | (simp [HeldL]; done) | (simp only [HeldL, List.map_cons, List.map_nil, List.cons_append, List.nil_append, List.set_cons_zero, List.set_cons_succ]; (repeat' first | trivial | rfl | constructor))) (fun H' hH => OpOk.step (ok_fieldAddr rfl ti_api_Act rfl rfl ti_api_Cmd (by decide) rfl)) ?_
          refine any_take 7 rfl (by first | rfl | decide +kernel) rfl (by first | (simp [HeldL]; done) | (simp only [HeldL, List.map_cons, List.map_nil, List.cons_append, List.nil_append, List.set_cons_zero, List.set_cons_succ]; (repeat' first | trivial | rfl | constructor))) (fun H' hH => OpOk.step (ok_fieldAddr rfl ti_api_Cmd rfl rfl ti_bool (by decide) rfl)) ?_
          refine any_take 8 rfl (by first | rfl | decide +kernel) rfl (by first | (simp [HeldL]; done) | (simp only [HeldL, List.map_cons, List.map_nil, List.cons_append, List.nil_append, List.set_cons_zero, List.set_cons_succ]; (repeat' first | trivial | rfl | constructor))) (fun H' hH => OpOk.step (ok_load rfl ti_bool (locA_held hH rfl) rfl)) ?_
          refine any_one 4 rfl (by first | rfl | decide +kernel) rfl rfl (ok_call rfl rfl rfl ((rbytesput_frz (l := a.cd) rfl (by omega)).plain (by simp [renL, AV.ren, renL_ints]) (by simp [AV.ren, renL_ints]))) (.inr (by first | (simp [HeldL]; done) | (simp only [HeldL, List.map_cons, List.map_nil, List.cons_append, List.nil_append, List.set_cons_zero, List.set_cons_succ]; (repeat' first | trivial | rfl | constructor)))) ?_
          refine any_one 5 rfl (by first | rfl | decide +kernel) rfl rfl (OpOk.step ((ok_append_ints (k := .u8) (xs := B3) (ys := enc a.cd.length 8 ++ a.cd) rfl ti_Luint8 rfl ti_uint8 rfl (by decide) rfl ti_Luint8 (by simp) rfl rfl rfl rfl rfl rfl rfl rfl rfl (by simp <;> omega)).eq (x' := .sl 2 0 (B3 ++ (enc a.cd.length 8 ++ a.cd)).length) (H'' := [some (AcB a), none, some ⟨1, true, ints .u8 (B3 ++ (enc a.cd.length 8 ++ a.cd))⟩]) rfl rfl)) (.inr (by first | (simp [HeldL]; done) | (simp only [HeldL, List.map_cons, List.map_nil, List.cons_append, List.nil_append, List.set_cons_zero, List.set_cons_succ]; (repeat' first | trivial | rfl | constructor)))) ?_
          refine any_one 9 rfl (by first | rfl | decide +kernel) rfl rfl (ok_call rfl rfl rfl ((rflagput_ok a.cf).plain rfl (by simp [AV.ren, renL_ints]))) (.inr (by first | (simp [HeldL]; done) | (simp only [HeldL, List.map_cons, List.map_nil, List.cons_append, List.nil_append, List.set_cons_zero, List.set_cons_succ]; (repeat' first | trivial | rfl | constructor)))) ?_
          refine any_one 10 rfl (by first | rfl | decide +kernel) rfl rfl (OpOk.step ((ok_append_ints (k := .u8) (xs := B3 ++ (enc a.cd.length 8 ++ a.cd)) (ys := [if a.cf = true then 1 else 0]) rfl ti_Luint8 rfl ti_uint8 rfl (by decide) rfl ti_Luint8 (by simp) rfl rfl rfl rfl rfl rfl rfl rfl rfl (by simp <;> omega)).eq (x' := .sl 3 0 (B3 ++ (enc a.cd.length 8 ++ a.cd) ++ [if a.cf = true then 1 else 0]).length) (H'' := [some (AcB a), none, none, some ⟨1, true, ints .u8 (B3 ++ (enc a.cd.length 8 ++ a.cd) ++ [if a.cf = true then 1 else 0])⟩]) rfl rfl)) (.inr (by first | (simp [HeldL]; done) | (simp only [HeldL, List.map_cons, List.map_nil, List.cons_append, List.nil_append, List.set_cons_zero, List.set_cons_succ]; (repeat' first | trivial | rfl | constructor)))) ?_
          refine any_take 11 rfl (by first | rfl | decide +kernel) rfl (by first | (simp [HeldL]; done) | (simp only [HeldL, List.map_cons, List.map_nil, List.cons_append, List.nil_append, List.set_cons_zero, List.set_cons_succ]; (repeat' first | trivial | rfl | constructor))) (fun H' hH => OpOk.step (ok_move (.inr rfl))) ?_
          refine any_done rfl ?_
          refine keepK hK13 [1, 6, 7] (by dsimp) (by dsimp) ?_
          refine T.region ?_ -- region 8
          refine ro rfl rfl (OpOk.step (ok_move (.inl rfl))) ?_
          refine ro rfl rfl (OpOk.step (ok_add64 rfl ti_int rfl rfl (by omega) (by omega))) ?_
          refine ro rfl rfl (OpOk.step (ok_move (.inr rfl))) ?_
          refine ro_nil ?_
          refine ⟨i + 1, ⟨by omega, rightsA_step ha hRA hall⟩, by omega, ?_⟩
          have hE : headA c l ++ allB (l.take (i + 1)) = B3 ++ (enc a.cd.length 8 ++ a.cd) ++ [if a.cf = true then 1 else 0] := by rw [hsn, ← List.append_assoc, hB0, ← hB3, ← hB1]; simp [bodyA]
          rw [hE]
          exact TEnt.fin [3] (by decide) (by simp) (by simp [normH, hget, IB_ren]) ⟨by simp [AV.ren, Acs_ren], by simp [AV.ren]; rfl, rfl, trivial⟩
      · (try simp only [decide_eq_true_eq, decide_eq_false_iff_not, beq_iff_eq, beq_eq_false_iff_ne, bne_iff_ne, bne_eq_false_iff_eq, ne_eq, Bool.not_eq_true', Bool.not_eq_false'] at hc)
        have hil : i = l.length := by omega
        subst hil
        rw [List.take_length] at hall
        rw [cput_4 h1 h2 hall] at hQ
        rw [List.take_length]
        refine T.exit ?_
        refine keepK hK9 [6] (by dsimp) (by dsimp) ?_
        refine T.seq fun K21 hK21 => ?_
        refine T.region ?_ -- region 16
        refine ro rfl rfl (OpOk.step (ok_move (.inl rfl))) ?_
        refine ro rfl rfl (OpOk.step (ok_move (.inr rfl))) ?_
        refine ro rfl rfl (OpOk.step (ok_move (.inr rfl))) ?_
        refine ro_nil ?_
        refine keepK hK21 [4, 5] (by dsimp) (by dsimp) ?_
        refine T.ret (hQ _ _ _ rfl ?_).1 -- ret 4
        exact (TEnt.freeze 0 (b := ⟨1, true, ints .u8 (headA c l ++ allB l)⟩) rfl).trans ((TEnt.put1 0 (x' := .tup [.fz 1 (ints .u8 (headA c l ++ allB l)), .int 0]) (by show Ent _ (.tup [.sl 0 0 _, .int 0]) _; exact Ent.tup (EntL.cons (Ent.sl0 (b := ⟨1, false, ints .u8 (headA c l ++ allB l)⟩) rfl rfl (by simp)) (EntL.refl _)))).trans (TEnt.fin [] (by decide) (by simp) rfl ⟨by simp [AV.ren, renL, renL_ints], trivial⟩))

end Go.Proofs.Ytmegpanmiagheaa.AmF
