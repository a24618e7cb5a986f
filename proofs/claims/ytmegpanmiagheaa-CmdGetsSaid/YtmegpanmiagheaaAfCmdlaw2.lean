/- Scripts put and got again: what reading makes of what was laid, and what was laid where something is read. -/
import Derived.Test.YtmegpanmiagheaaAfCmdlaw1
import Derived.Test.YtmegpanmiagheaaAfCmdget
namespace Go.Proofs.Ytmegpanmiagheaa.AmF
open Go Go.AM
set_option maxRecDepth 100000
set_option linter.unusedSimpArgs false
set_option linter.unusedVariables false
attribute [local simp] tkeep tget tput ev cav argsTM pickA normT putA splice AV.cells ints_length rowsA_length enc_len
theorem farOk_iff {x : Int} : farOk x = true ↔ -1099511627776 ≤ x ∧ x ≤ 1099511627776 := by simp [farOk]
theorem encs_split {L : List Int} {n : Nat} {x : Int} (hx : L[n]? = some x) : encs L = encs (L.take n) ++ (enc x 8 ++ encs (L.drop (n + 1))) := by
  have hn := (List.getElem?_eq_some_iff.1 hx).1
  have hxx : L[n] = x := (List.getElem?_eq_some_iff.1 hx).2
  have hL : L = L.take n ++ x :: L.drop (n + 1) := by rw [← hxx, ← List.drop_eq_getElem_cons hn, List.take_append_drop]
  conv => lhs; rw [hL]
  rw [encs_append]
  simp [encs]
theorem rdK_encs {l pre L rest : List Int} {p : Nat} (hl : l = pre ++ (encs L ++ rest)) (hp : p = pre.length) (hr : L.all farOk = true) : ∀ n, n ≤ L.length → rdK l (p, 0) n = (p + 8 * n, 0) ∧ ∀ j, j < n → rdKV l (p, 0) j = L.getD j 0
  | 0, _ => ⟨rfl, fun j hj => absurd hj (Nat.not_lt_zero _)⟩
  | n + 1, h => by
    obtain ⟨h1, h2⟩ := rdK_encs hl hp hr n (by omega)
    obtain ⟨x, hx⟩ : ∃ x, L[n]? = some x := ⟨_, List.getElem?_eq_getElem (by omega)⟩
    have hx2 := farOk_iff.1 (List.all_eq_true.1 hr x (List.mem_of_getElem? hx))
    have hre := ri_enc (l := l) (a := pre ++ encs (L.take n)) (b := encs (L.drop (n + 1)) ++ rest) (v := x) (lo := mA) (hi := mB) (p := p + 8 * n) (by rw [List.length_append, encs_len, List.length_take, ← hp]; omega) (by rw [hl, encs_split hx]; simp) ⟨by omega, by omega⟩
    have hc : ¬ (x < mA ∨ mB < x) := by unfold mA mB; omega
    rw [if_neg hc, if_neg hc] at hre
    refine ⟨?_, fun j hj => ?_⟩
    · show ((ri l (rdK l (p, 0) n).1 (rdK l (p, 0) n).2 mA mB).1, (ri l (rdK l (p, 0) n).1 (rdK l (p, 0) n).2 mA mB).2.1) = _
      rw [h1, hre]
      rfl
    · rcases Nat.lt_or_ge j n with hjn | hjn
      · exact h2 j hjn
      · obtain rfl : j = n := by omega
        show (ri l (rdK l (p, 0) j).1 (rdK l (p, 0) j).2 mA mB).2.2 = _
        rw [h1, hre, List.getD_eq_getElem?_getD, hx]
        rfl
theorem rdA_enc {l pre rest : List Int} {a : Ac} {p : Nat} (hl : l = pre ++ (bodyA a ++ rest)) (hp : p = pre.length) (ha : RA a) : rdA l (p, 0) = (a, p + (bodyA a).length, 0) := by
  obtain ⟨hf, hk, hd⟩ := ha
  simp only [Ac.nums, List.all_cons, List.all_nil, Bool.and_true, Bool.and_eq_true] at hf
  obtain ⟨f0, f1, f2, f3, f4, f5, f6⟩ := hf
  have e3 : (encs [a.kind, a.m, a.n]).length = 24 := by rw [encs_len]; rfl
  have e4 : (encs [a.ck, a.cz, a.ca, a.cn]).length = 32 := by rw [encs_len]; rfl
  have hb : bodyA a = encs [a.kind, a.m, a.n] ++ (enc a.keep.length 8 ++ (a.keep ++ (encs [a.ck, a.cz, a.ca, a.cn] ++ (enc a.cd.length 8 ++ (a.cd ++ [if a.cf = true then 1 else 0]))))) := by simp [bodyA]
  obtain ⟨k1, k2⟩ := rdK_encs (l := l) (pre := pre) (L := [a.kind, a.m, a.n]) (rest := enc a.keep.length 8 ++ (a.keep ++ (encs [a.ck, a.cz, a.ca, a.cn] ++ (enc a.cd.length 8 ++ (a.cd ++ [if a.cf = true then 1 else 0])))) ++ rest) (p := p) (by rw [hl, hb]; simp) hp (by simp [f0, f1, f2]) 3 (by simp)
  have q1 := rb_enc (l := l) (a := pre ++ encs [a.kind, a.m, a.n]) (x := a.keep) (b := encs [a.ck, a.cz, a.ca, a.cn] ++ (enc a.cd.length 8 ++ (a.cd ++ [if a.cf = true then 1 else 0])) ++ rest) (m := 1048576) (p := p + 8 * 3) (by rw [List.length_append, e3, hp]) (by rw [hl, hb]; simp) (by omega) (by omega)
  obtain ⟨k3, k4⟩ := rdK_encs (l := l) (pre := pre ++ encs [a.kind, a.m, a.n] ++ (enc a.keep.length 8 ++ a.keep)) (L := [a.ck, a.cz, a.ca, a.cn]) (rest := enc a.cd.length 8 ++ (a.cd ++ [if a.cf = true then 1 else 0]) ++ rest) (p := p + 8 * 3 + 8 + a.keep.length) (by rw [hl, hb]; simp) (by simp [e3, hp]; omega) (by simp [f3, f4, f5, f6]) 4 (by simp)
  have q2 := rb_enc (l := l) (a := pre ++ encs [a.kind, a.m, a.n] ++ (enc a.keep.length 8 ++ a.keep) ++ encs [a.ck, a.cz, a.ca, a.cn]) (x := a.cd) (b := [if a.cf = true then 1 else 0] ++ rest) (m := 1048576) (p := p + 8 * 3 + 8 + a.keep.length + 8 * 4) (by simp [e3, e4, hp]; omega) (by rw [hl, hb]; simp) (by omega) (by omega)
  have q3 := rf_enc (l := l) (a := pre ++ encs [a.kind, a.m, a.n] ++ (enc a.keep.length 8 ++ a.keep) ++ encs [a.ck, a.cz, a.ca, a.cn] ++ (enc a.cd.length 8 ++ a.cd)) (c := if a.cf = true then 1 else 0) (b := rest) (p := p + 8 * 3 + 8 + a.keep.length + 8 * 4 + 8 + a.cd.length) (by simp [e3, e4, hp]; omega) (by rw [hl, hb]; simp)
  have hbl := bodyA_len a
  have g0 := k2 0 (by decide)
  have g1 := k2 1 (by decide)
  have g2 := k2 2 (by decide)
  have h0 := k4 0 (by decide)
  have h1 := k4 1 (by decide)
  have h2 := k4 2 (by decide)
  have h3 := k4 3 (by decide)
  simp only [rdA, k1, q1, k3, q2, q3, g0, g1, g2, h0, h1, h2, h3]
  have hpp : p + 8 * 3 + 8 + a.keep.length + 8 * 4 + 8 + a.cd.length + 1 = p + (bodyA a).length := by omega
  rw [hpp]
  cases a with
  | mk kind ck cz ca cn cd cf m n keep => cases cf <;> rfl
theorem getAs_enc {l rest : List Int} : ∀ (ac : List Ac) (pre : List Int) (p : Nat), l = pre ++ (allB ac ++ rest) → p = pre.length → rightsA ac = true → getAs l ac.length (p, 0) = (ac, p + (allB ac).length, 0)
  | [], pre, p, _, _, _ => by simp [getAs, allB]
  | a :: ac, pre, p, hl, hp, hr => by
    simp only [rightsA, List.all_cons, Bool.and_eq_true, decide_eq_true_eq] at hr
    have h1 := rdA_enc (l := l) (pre := pre) (rest := allB ac ++ rest) (a := a) (p := p) (by rw [hl]; simp [allB]) hp hr.1
    have h2 := getAs_enc (l := l) (rest := rest) ac (pre ++ bodyA a) (p + (bodyA a).length) (by rw [hl]; simp [allB]) (by rw [List.length_append, hp]) hr.2
    simp only [List.length_cons, getAs, h1]
    rw [if_neg (by simp), h2]
    simp [allB]
    omega
theorem getS_put {c : Cf} {l : List Ac} (h1 : c.l.all farOk = true) (h2 : ¬ l.length > 4096) (h3 : rightsA l = true) : getS (headA c l ++ allB l) = (c, l, 0) := by
  obtain ⟨b, hb⟩ : ∃ b, headA c l ++ allB l = b := ⟨_, rfl⟩
  obtain ⟨kk, hkk⟩ : ∃ kk, c.l.length = kk := ⟨_, rfl⟩
  have hkk11 : 11 = kk := hkk
  have hel : (encs c.l).length = 8 * kk := by rw [encs_len, hkk]
  have hbl : b.length = 8 * kk + 8 + (allB l).length := by rw [← hb, headA]; simp [hel]; omega
  obtain ⟨k1, k2⟩ := rdK_encs (l := b) (pre := []) (L := c.l) (rest := enc l.length 8 ++ allB l) (p := 0) (by rw [← hb]; simp [headA]) rfl h1 kk (Nat.le_of_eq hkk.symm)
  have q := ri_enc (l := b) (a := encs c.l) (b := allB l) (v := l.length) (lo := 0) (hi := 4096) (p := 0 + 8 * kk) (by rw [hel]; omega) (by rw [← hb]; simp [headA]) ⟨by omega, by omega⟩
  have hc : ¬ ((l.length : Int) < 0 ∨ 4096 < (l.length : Int)) := by omega
  rw [if_neg hc, if_neg hc] at q
  have g := getAs_enc (l := b) (rest := []) l (headA c l) (0 + 8 * kk + 8) (by rw [← hb]; simp) (by simp [headA, hel]) h3
  have hcf : cf11 (rdKV b (0, 0)) = c := cf11_eq (fun j hj => k2 j (by omega))
  have hgC : gC b = (0 + 8 * kk + 8, 0, (l.length : Int)) := by
    unfold gC
    rw [hkk11, k1]
    exact q
  have hgA : gAs b = (l, 0 + 8 * kk + 8 + (allB l).length, 0) := by
    unfold gAs
    rw [hgC]
    exact g
  rw [hb, getS_3 (by rw [hgA]; simp) (by rw [hgA, hbl]; simp), hcf, hgA]
theorem sameall_refl (l : List Ac) (hl : l.length ≤ 140737488355328) : CSpec Try.prog 75 [] [.fz 10 (Acs l), .fz 10 (Acs l)] [] (.b true) := by
  refine CSpec.body Try.func75 rfl rfl rfl rfl rfl fun Q hQ => ?_
  refine T.seq fun K1 hK1 => ?_
  refine T.region ?_ -- region 0
  refine ro rfl rfl (OpOk.step (ok_moveb (c := false) (.inr rfl) rfl)) ?_
  refine ro_nil ?_
  refine keepK hK1 [0, 1] (by dsimp) (by dsimp) ?_
  refine T.seq fun K2 hK2 => ?_
  refine T.seq fun K3 hK3 => ?_
  refine T.region ?_ -- region 1
  refine ro rfl rfl (OpOk.step (ok_move (.inl rfl))) ?_
  refine ro rfl rfl (OpOk.step (ok_len' rfl rfl ti_Lapi_Act rfl (Acs_len l))) ?_
  refine ro rfl rfl (OpOk.step (ok_move (.inl rfl))) ?_
  refine ro rfl rfl (OpOk.step (ok_len' rfl rfl ti_Lapi_Act rfl (Acs_len l))) ?_
  refine ro rfl rfl (OpOk.step (OpOk.bool (d := false) (ok_binOp rfl ti_int rfl) (by simp))) ?_
  refine ro_nil ?_
  refine keepK hK3 [0, 1, 10] (by dsimp) (by dsimp) ?_
  refine T.cond_false rfl ?_
  refine T.skip ?_
  refine keepK hK2 [0, 1] (by dsimp) (by dsimp) ?_
  refine T.seq fun K4 hK4 => ?_
  refine T.seq fun K5 hK5 => ?_
  refine T.region ?_ -- region 3
  refine ro rfl rfl (OpOk.step (ok_move (.inr rfl))) ?_
  refine ro_nil ?_
  refine keepK hK5 [0, 1, 5] (by dsimp) (by dsimp) ?_
  refine T.block ?_
  refine T.loopI (ι := Nat) (fun i => i ≤ l.length) (fun i => l.length - i) (fun i => ([(0, .fz 10 (Acs l)), (1, .fz 10 (Acs l)), (5, .int i)], [])) 0 (Nat.zero_le _) (TEnt.toH rfl ⟨rfl, rfl, rfl, trivial⟩) (fun i hi => ?_) -- loop 1
  refine T.seq fun K6 hK6 => ?_
  refine T.seq fun K7 hK7 => ?_
  refine T.region ?_ -- region 4
  refine ro rfl rfl (OpOk.step (ok_move (.inl rfl))) ?_
  refine ro rfl rfl (OpOk.step (ok_move (.inl rfl))) ?_
  refine ro rfl rfl (OpOk.step (ok_len' rfl rfl ti_Lapi_Act rfl (Acs_len l))) ?_
  refine ro rfl rfl (OpOk.step (ok_binOp rfl ti_int rfl)) ?_
  refine ro_nil ?_
  refine keepK hK7 [0, 1, 5, 14] (by dsimp) (by dsimp) ?_
  refine T.cond rfl (fun hc => ?_) (fun hc => ?_) -- cond 1
  · (try simp only [decide_eq_true_eq, decide_eq_false_iff_not, beq_iff_eq, beq_eq_false_iff_ne, bne_iff_ne, bne_eq_false_iff_eq, ne_eq, Bool.not_eq_true', Bool.not_eq_false'] at hc)
    obtain ⟨a, ha⟩ : ∃ a, l[i]? = some a := ⟨_, List.getElem?_eq_getElem (by omega)⟩
    refine T.skip ?_
    refine keepK hK6 [0, 1, 5] (by dsimp) (by dsimp) ?_
    refine T.seq fun K8 hK8 => ?_
    refine T.block ?_
    refine T.seq fun K9 hK9 => ?_
    refine T.drawH mixed [] ?_ -- region 6
    refine any_take 0 rfl (by first | rfl | decide +kernel) rfl (HeldL.refl _) (fun H' hH => OpOk.step (ok_move (.inl rfl))) ?_
    refine any_take 1 rfl (by first | rfl | decide +kernel) rfl (HeldL.refl _) (fun H' hH => OpOk.step (ok_move (.inl rfl))) ?_
    refine any_take 2 rfl (by first | rfl | decide +kernel) rfl (HeldL.refl _) (fun H' hH => OpOk.step (by exact ok_index_fz rfl ti_Lapi_Act rfl ti_api_Act rfl rfl rfl (by omega) (Acs_get ha) rfl)) ?_
    refine any_take 3 rfl (by first | rfl | decide +kernel) rfl (HeldL.refl _) (fun H' hH => OpOk.step (ok_load rfl ti_api_Act (locA_held hH rfl) rfl)) ?_
    refine any_take 4 rfl (by first | rfl | decide +kernel) rfl (HeldL.refl _) (fun H' hH => OpOk.step (ok_move (.inl rfl))) ?_
    refine any_take 5 rfl (by first | rfl | decide +kernel) rfl (HeldL.refl _) (fun H' hH => OpOk.step (ok_move (.inl rfl))) ?_
    refine any_take 6 rfl (by first | rfl | decide +kernel) rfl (HeldL.refl _) (fun H' hH => OpOk.step (by exact ok_index_fz rfl ti_Lapi_Act rfl ti_api_Act rfl rfl rfl (by omega) (Acs_get ha) rfl)) ?_
    refine any_take 7 rfl (by first | rfl | decide +kernel) rfl (HeldL.refl _) (fun H' hH => OpOk.step (ok_load rfl ti_api_Act (locA_held hH rfl) rfl)) ?_
    refine any_one 8 rfl (by first | rfl | decide +kernel) rfl rfl (ok_call rfl rfl rfl (((rcsame_ok a a).plain (by show renL (pos []) [.agg (AcC a), .agg (AcC a)] = _; simp [renL, AV.ren, AcC_ren]) rfl).eq (x' := .b true) (by rw [decide_eq_true (SA_refl a)]) rfl)) (.inr (by first | (simp [HeldL]; done) | (simp only [HeldL, List.map_cons, List.map_nil, List.cons_append, List.nil_append, List.set_cons_zero, List.set_cons_succ]; (repeat' first | trivial | rfl | constructor)))) ?_
    refine any_take 9 rfl (by first | rfl | decide +kernel) rfl (by first | exact HeldL.refl _ | exact HeldL.append _ _ | simp [HeldL]) (fun H' hH => OpOk.step (OpOk.bool (d := false) (ok_unOp rfl rfl) (rfl))) ?_
    refine any_done rfl ?_
    refine keepK hK9 [0, 1, 5, 26] (by dsimp) (by dsimp) ?_
    refine T.cond_false rfl ?_
    refine T.skip ?_
    refine keepK hK8 [0, 1, 5] (by dsimp) (by dsimp) ?_
    refine T.region ?_ -- region 5
    refine ro rfl rfl (OpOk.step (ok_move (.inl rfl))) ?_
    refine ro rfl rfl (OpOk.step (ok_add64 rfl ti_int rfl rfl (by omega) (by omega))) ?_
    refine ro rfl rfl (OpOk.step (ok_move (.inr rfl))) ?_
    refine ro_nil ?_
    exact ⟨i + 1, by omega, by omega, TEnt.toH rfl ⟨rfl, rfl, rfl, trivial⟩⟩
  · (try simp only [decide_eq_true_eq, decide_eq_false_iff_not, beq_iff_eq, beq_eq_false_iff_ne, bne_iff_ne, bne_eq_false_iff_eq, ne_eq, Bool.not_eq_true', Bool.not_eq_false'] at hc)
    refine T.exit ?_
    refine keepK hK4 [] (by dsimp) (by dsimp) ?_
    refine T.seq fun K10 hK10 => ?_
    refine T.region ?_ -- region 8
    refine ro rfl rfl (OpOk.step (ok_moveb (c := true) (.inr rfl) rfl)) ?_
    refine ro_nil ?_
    refine keepK hK10 [4] (by dsimp) (by dsimp) ?_
    refine T.ret (hQ _ _ _ rfl ?_).1 -- ret 1
    exact TEnt.fin [] (by decide) (by simp) rfl ⟨rfl, trivial⟩
theorem cput_err {c : Cf} {l : List Ac} (h : ¬ (cput c l).2 ≠ 0) : c.l.all farOk = true ∧ ¬ l.length > 4096 ∧ rightsA l = true := by
  unfold cput at h
  split at h
  · exact absurd (by decide) h
  · split at h
    · exact absurd (by decide) h
    · split at h
      · exact absurd (by decide) h
      · simp_all
theorem allB_bytes {l : List Ac} (h : ∀ a ∈ l, Bytes a.keep ∧ Bytes a.cd) : Bytes (allB l) := by
  induction l with
  | nil => exact Bytes.nil
  | cons a l ih =>
    obtain ⟨h1, h2⟩ := h a (by simp)
    refine Bytes.append ?_ (ih fun x hx => h x (by simp [hx]))
    refine ((((encs_bytes _).append ((enc_bytes _ _).append h1)).append (encs_bytes _)).append ((enc_bytes _ _).append h2)).append ?_
    cases a.cf <;> exact Bytes.cons (by decide) Bytes.nil
theorem cput_bytes {c : Cf} {l : List Ac} (h : ∀ a ∈ l, Bytes a.keep ∧ Bytes a.cd) : Bytes (cput c l).1 := by
  unfold cput
  split
  · exact Bytes.nil
  · split
    · exact Bytes.nil
    · split
      · exact Bytes.nil
      · exact ((encs_bytes _).append (enc_bytes _ _)).append (allB_bytes h)
theorem cput_len {c : Cf} {l : List Ac} : (cput c l).1.length ≤ 96 + (allB l).length := by
  have := headA_len c l
  unfold cput
  split
  · simp
  · split
    · simp
    · split
      · simp
      · simp [this]
theorem cmdPuts_ok (c : Cf) (l : List Ac) (hl : l.length ≤ 140737488355328) (hs : ∀ a ∈ l, a.keep.length ≤ 140737488355328 ∧ a.cd.length ≤ 140737488355328) (hB : ∀ a ∈ l, Bytes a.keep ∧ Bytes a.cd) : CSpec Try.prog 12 [] [.agg (CC c), .fz 10 (Acs l)] [] (.b true) := by
  refine CSpec.body Try.func12 rfl rfl rfl rfl rfl fun Q hQ => ?_
  refine T.seq fun K1 hK1 => ?_
  refine T.region ?_ -- region 0
  refine ro rfl rfl (OpOk.step (ok_box (n := 11) rfl rfl (by decide))) ?_
  refine ro rfl rfl (OpOk.step (ok_moveb (c := false) (.inr rfl) rfl)) ?_
  refine ro_nil ?_
  refine keepK hK1 [1, 2] (by dsimp) (by dsimp) ?_
  refine T.seq fun K2 hK2 => ?_
  refine T.seq fun K3 hK3 => ?_
  refine T.region ?_ -- region 1
  refine ro rfl rfl (OpOk.step (ok_move (.inl rfl))) ?_
  refine ro rfl rfl (ok_call rfl rfl rfl ((much27_ok l hl hs).plain (by simp [renL, AV.ren, Acs_ren]) rfl)) ?_
  refine ro_nil ?_
  refine keepK hK3 [1, 2, 13] (by dsimp) (by dsimp) ?_
  refine T.cond rfl (fun hc => ?_) (fun hc => ?_) -- cond 1
  · (try simp only [decide_eq_true_eq, decide_eq_false_iff_not, beq_iff_eq, beq_eq_false_iff_ne, bne_iff_ne, bne_eq_false_iff_eq, ne_eq, Bool.not_eq_true', Bool.not_eq_false'] at hc)
    refine T.seq fun K4 hK4 => ?_
    refine T.region ?_ -- region 2
    refine ro rfl rfl (ok_call rfl rfl rfl (live27_ok.plain rfl rfl)) ?_
    refine ro rfl rfl (OpOk.step (ok_move (.inr rfl))) ?_
    refine ro_nil ?_
    refine keepK hK4 [4] (by dsimp) (by dsimp) ?_
    refine T.ret (hQ _ _ _ rfl ?_).1 -- ret 1
    exact TEnt.fin [] (by decide) (by simp) rfl ⟨rfl, trivial⟩
  · (try simp only [decide_eq_true_eq, decide_eq_false_iff_not, beq_iff_eq, beq_eq_false_iff_ne, bne_iff_ne, bne_eq_false_iff_eq, ne_eq, Bool.not_eq_true', Bool.not_eq_false'] at hc)
    have hmu := much_bd (muchV_no hc)
    have hal := allB_len l
    have hT : (allB l).length ≤ 800000 := by omega
    obtain ⟨b, hb⟩ : ∃ b, (cput c l).1 = b := ⟨_, rfl⟩
    have hbl : b.length ≤ 140737488355328 := by have := cput_len (c := c) (l := l); rw [hb] at this; omega
    have hbB : Bytes b := hb ▸ cput_bytes hB
    refine T.skip ?_
    refine keepK hK2 [1, 2] (by dsimp) (by dsimp) ?_
    refine T.seq fun K5 hK5 => ?_
    refine T.region ?_ -- region 3
    refine ro rfl rfl (OpOk.step (ok_load rfl ti_api_Conf rfl rfl)) ?_
    refine ro rfl rfl (OpOk.step (ok_move (.inl rfl))) ?_
    refine ro rfl rfl (ok_call rfl rfl rfl (((cmdput_ok c l hT hl).plain (by show renL (pos []) [.agg (CC c), .fz 10 (Acs l)] = _; simp [renL, AV.ren, CC_ren, Acs_ren]) (by simp [AV.ren, renL, renL_ints])).eq (x' := .tup [.fz 1 (ints .u8 b), .int (cput c l).2]) (by rw [hb]) rfl)) ?_
    refine ro rfl rfl (OpOk.step (ok_move (.inl rfl))) ?_
    refine ro rfl rfl (OpOk.step (ok_extract rfl rfl rfl)) ?_
    refine ro rfl rfl (OpOk.step (ok_extract rfl rfl rfl)) ?_
    refine ro rfl rfl (OpOk.step (ok_move (.inr rfl))) ?_
    refine ro rfl rfl (OpOk.step (ok_move (.inr rfl))) ?_
    refine ro_nil ?_
    refine keepK hK5 [1, 2, 5, 6] (by dsimp) (by dsimp) ?_
    refine T.seq fun K6 hK6 => ?_
    refine T.region ?_ -- region 4
    refine ro rfl rfl (OpOk.step (ok_load rfl ti_api_Conf rfl rfl)) ?_
    refine ro rfl rfl (OpOk.step (ok_move (.inl rfl))) ?_
    refine ro rfl rfl (ok_call rfl rfl rfl (((rcmdput_ok c l hT hl).plain (by show renL (pos []) [.agg (CC c), .fz 10 (Acs l)] = _; simp [renL, AV.ren, CC_ren, Acs_ren]) (by simp [AV.ren, renL, renL_ints])).eq (x' := .tup [.fz 1 (ints .u8 b), .int (cput c l).2]) (by rw [hb]) rfl)) ?_
    refine ro rfl rfl (OpOk.step (ok_move (.inl rfl))) ?_
    refine ro rfl rfl (OpOk.step (ok_extract rfl rfl rfl)) ?_
    refine ro rfl rfl (OpOk.step (ok_extract rfl rfl rfl)) ?_
    refine ro rfl rfl (OpOk.step (ok_move (.inr rfl))) ?_
    refine ro rfl rfl (OpOk.step (ok_move (.inr rfl))) ?_
    refine ro_nil ?_
    refine keepK hK6 [1, 2, 5, 6, 7, 8] (by dsimp) (by dsimp) ?_
    refine T.seq fun K7 hK7 => ?_
    refine T.seq fun K8 hK8 => ?_
    refine T.region ?_ -- region 5
    refine ro rfl rfl (OpOk.step (ok_move (.inl rfl))) ?_
    refine ro rfl rfl (OpOk.step (ok_conv_str rfl ti_Luint8 ti_string rfl ti_uint8 rfl rfl rfl rfl (bytesOf_ints _))) ?_
    refine ro rfl rfl (OpOk.step (ok_move (.inl rfl))) ?_
    refine ro rfl rfl (OpOk.step (ok_conv_str rfl ti_Luint8 ti_string rfl ti_uint8 rfl rfl rfl rfl (bytesOf_ints _))) ?_
    refine ro rfl rfl (OpOk.step (OpOk.bool (d := false) (ok_binOp rfl ti_string rfl) (by simp))) ?_
    refine ro rfl rfl (OpOk.step (ok_moveb (c := false) (.inl rfl) rfl)) ?_
    refine ro rfl rfl (OpOk.step (ok_move (.inl rfl))) ?_
    refine ro rfl rfl (ok_call rfl rfl rfl ((code27_ok (cput c l).2).plain rfl rfl)) ?_
    refine ro rfl rfl (OpOk.step (ok_move (.inl rfl))) ?_
    refine ro rfl rfl (OpOk.step (OpOk.bool (d := false) (ok_binOp rfl ti_int rfl) (by simp))) ?_
    refine ro rfl rfl (OpOk.step (ok_pickb (t := false) (d := false) rfl rfl rfl)) ?_
    refine ro_nil ?_
    refine keepK hK8 [1, 2, 5, 8, 37] (by dsimp) (by dsimp) ?_
    refine T.cond_false rfl ?_
    refine T.skip ?_
    refine keepK hK7 [1, 2, 5, 8] (by dsimp) (by dsimp) ?_
    refine T.seq fun K9 hK9 => ?_
    refine T.seq fun K10 hK10 => ?_
    refine T.region ?_ -- region 7
    refine ro rfl rfl (OpOk.step (ok_move (.inl rfl))) ?_
    refine ro rfl rfl (OpOk.step (ok_binOp rfl ti_int rfl)) ?_
    refine ro_nil ?_
    refine keepK hK10 [1, 2, 5, 39] (by dsimp) (by dsimp) ?_
    refine T.cond rfl (fun hc => ?_) (fun hc => ?_) -- cond 2
    · (try simp only [decide_eq_true_eq, decide_eq_false_iff_not, beq_iff_eq, beq_eq_false_iff_ne, bne_iff_ne, bne_eq_false_iff_eq, ne_eq, Bool.not_eq_true', Bool.not_eq_false'] at hc)
      refine T.seq fun K11 hK11 => ?_
      refine T.region ?_ -- region 8
      refine ro rfl rfl (ok_call rfl rfl rfl (live27_ok.plain rfl rfl)) ?_
      refine ro rfl rfl (OpOk.step (ok_move (.inr rfl))) ?_
      refine ro_nil ?_
      refine keepK hK11 [4] (by dsimp) (by dsimp) ?_
      refine T.ret (hQ _ _ _ rfl ?_).1 -- ret 2
      exact TEnt.fin [] (by decide) (by simp) rfl ⟨rfl, trivial⟩
    · (try simp only [decide_eq_true_eq, decide_eq_false_iff_not, beq_iff_eq, beq_eq_false_iff_ne, bne_iff_ne, bne_eq_false_iff_eq, ne_eq, Bool.not_eq_true', Bool.not_eq_false'] at hc)
      obtain ⟨h1, h2, h3⟩ := cput_err (c := c) (l := l) (by simpa using hc)
      have hgs : getS b = (c, l, 0) := by rw [← hb, cput_4 h1 h2 h3]; exact getS_put h1 h2 h3
      refine T.skip ?_
      refine keepK hK9 [1, 2, 5] (by dsimp) (by dsimp) ?_
      refine T.seq fun K12 hK12 => ?_
      refine T.region ?_ -- region 9
      refine ro rfl rfl (OpOk.step (ok_move (.inl rfl))) ?_
      refine ro rfl rfl (ok_call rfl rfl rfl (((get27_ok b hbB hbl).plain (by simp [renL, AV.ren, renL_ints]) (by simp [AV.ren, renL, CC_ren, Acs_ren])).eq (x' := .tup [.agg (CC c), .fz 10 (Acs l), .int 0]) (by rw [hgs]) rfl)) ?_
      refine ro rfl rfl (OpOk.step (ok_move (.inl rfl))) ?_
      refine ro rfl rfl (OpOk.step (ok_extract rfl rfl rfl)) ?_
      refine ro rfl rfl (OpOk.step (ok_extract rfl rfl rfl)) ?_
      refine ro rfl rfl (OpOk.step (ok_extract rfl rfl rfl)) ?_
      refine ro rfl rfl (OpOk.step (ok_alloc rfl ti_api_Conf rfl (by decide))) ?_
      refine ro rfl rfl (OpOk.step (ok_store rfl ti_api_Conf (by decide) rfl rfl rfl rfl rfl (by first | exact Nat.le_of_ble_eq_true rfl | simp) (by first | exact .inl ⟨rfl, rfl⟩ | exact .inr rfl))) ?_
      refine ro rfl rfl (OpOk.step (ok_move (.inr rfl))) ?_
      refine ro rfl rfl (OpOk.step (ok_move (.inr rfl))) ?_
      refine ro_nil ?_
      refine keepK hK12 [1, 2, 9, 10, 11] (by dsimp) (by dsimp) ?_
      refine T.seq fun K13 hK13 => ?_
      refine T.region ?_ -- region 10
      refine ro rfl rfl (OpOk.step (ok_load rfl ti_api_Conf rfl rfl)) ?_
      refine ro rfl rfl (OpOk.step (ok_load rfl ti_api_Conf rfl rfl)) ?_
      refine ro rfl rfl (OpOk.step (OpOk.bool (d := true) (eq_conf (c := c) (d := c) rfl (.inl rfl) rfl rfl) (by simp))) ?_
      refine ro rfl rfl (OpOk.step (ok_moveb (c := true) (.inl rfl) rfl)) ?_
      refine ro rfl rfl (OpOk.step (ok_move (.inl rfl))) ?_
      refine ro rfl rfl (OpOk.step (ok_move (.inl rfl))) ?_
      refine ro rfl rfl (ok_call rfl rfl rfl ((sameall_refl l hl).plain (by simp [renL, AV.ren, Acs_ren]) rfl)) ?_
      refine ro rfl rfl (OpOk.step (OpOk.bool (d := true) (ok_pickb rfl rfl rfl) (rfl))) ?_
      refine ro rfl rfl (OpOk.step (ok_moveb (c := true) (.inl rfl) rfl)) ?_
      refine ro rfl rfl (OpOk.step (ok_move (.inl rfl))) ?_
      refine ro rfl rfl (ok_call rfl rfl rfl ((code27_ok 0).plain rfl rfl)) ?_
      refine ro rfl rfl (OpOk.step (OpOk.bool (d := true) (ok_binOp rfl ti_int rfl) (rfl))) ?_
      refine ro rfl rfl (OpOk.step (ok_pickb (t := true) (d := true) rfl rfl rfl)) ?_
      refine ro rfl rfl (OpOk.step (ok_moveb (c := true) (.inl rfl) rfl)) ?_
      refine ro rfl rfl (ok_call rfl rfl rfl (live27_ok.plain rfl rfl)) ?_
      refine ro rfl rfl (OpOk.step (ok_pick rfl rfl)) ?_
      refine ro rfl rfl (OpOk.step (ok_move (.inr rfl))) ?_
      refine ro_nil ?_
      refine keepK hK13 [4] (by dsimp) (by dsimp) ?_
      refine T.ret (hQ _ _ _ rfl ?_).1 -- ret 3
      exact TEnt.fin [] (by decide) (by simp) rfl ⟨rfl, trivial⟩
theorem cmdPuts_row (a : Cf11) (l : List AcT) (hl : l.length ≤ 140737488355328) (hs : ∀ x ∈ l, ((acOf x).keep.length ≤ 140737488355328 ∧ (acOf x).cd.length ≤ 140737488355328) ∧ (Bytes (acOf x).keep ∧ Bytes (acOf x).cd)) : CSpec Try.prog 12 [] [.agg (CC (cfOf a)), .fz 10 (l.map fun x => .agg (AcC (acOf x)))] [] (.b true) := by
  rw [← Acs_map]
  refine cmdPuts_ok (cfOf a) (l.map acOf) (by simpa using hl) ?_ ?_
  · intro x hx
    obtain ⟨y, hy, rfl⟩ := List.mem_map.1 hx
    exact (hs y hy).1
  · intro x hx
    obtain ⟨y, hy, rfl⟩ := List.mem_map.1 hx
    exact (hs y hy).2
theorem row_len {l : List Int} (h : l.length * 1 ≤ 140737488351232 ∧ ∀ x ∈ l, (Lit.int .u8 x).wf = true) : l.length ≤ 140737488355328 := by omega
theorem row_bytes {l : List Int} (h : l.length * 1 ≤ 140737488351232 ∧ ∀ x ∈ l, (Lit.int .u8 x).wf = true) : Bytes l := bytes_of h.2
end Go.Proofs.Ytmegpanmiagheaa.AmF
