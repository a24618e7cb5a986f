/- Scripts got of any bytes: they are put as these bytes. -/
import Derived.Test.YtmegpanmiagheaaAfCmdlaw2
namespace Go.Proofs.Ytmegpanmiagheaa.AmF
open Go Go.AM
set_option maxRecDepth 100000
set_option linter.unusedSimpArgs false
set_option linter.unusedVariables false
attribute [local simp] tkeep tget tput ev cav argsTM pickA normT putA splice AV.cells ints_length rowsA_length enc_len
theorem wrap_emod (n : Int) : IntKind.i64.wrap n % 18446744073709551616 = n % 18446744073709551616 := wrap64_mod n
/-- Eight bytes are those of the number that they tell. -/
theorem enc_num {r : List Int} (hB : Bytes r) (hl : r.length = 8) : enc (IntKind.i64.wrap (num r 8 : Nat)) 8 = r := by
  have hN := fun j => pk_nat hB j
  have hlt : num r 8 < 18446744073709551616 := num_lt hN 8
  apply List.ext_getElem?
  intro j
  by_cases hj : j < 8
  · obtain ⟨c, hc⟩ : ∃ c, r[j]? = some c := ⟨_, List.getElem?_eq_getElem (by omega)⟩
    have hcb := hB c (List.mem_of_getElem? hc)
    have hcd : r.getD j 0 = c := by rw [List.getD_eq_getElem?_getD, hc]; rfl
    have hd := num_digit hN (l := r) (i := j) (n := 8) (by omega)
    rw [hcd] at hd
    rw [hc]
    simp only [enc, List.getElem?_map, List.getElem?_range hj, Option.map_some, wrap_u8]
    congr 1
    rw [← byte_u64 _ j hj, wrap_emod]
    generalize num r 8 = N at hd hlt ⊢
    have e1 : ((N : Nat) : Int) % 18446744073709551616 = ((N : Nat) : Int) := by omega
    have e2 : ((N : Nat) : Int) / 2 ^ (8 * j) = ((N / 2 ^ (8 * j) : Nat) : Int) := by simp
    rw [e1, e2, hd]
    omega
  · rw [List.getElem?_eq_none (by simp; omega), List.getElem?_eq_none (by omega)]
theorem ri_good {l : List Int} {p : Nat} {e a b : Int} (h : (ri l p e a b).2.1 = 0) : e = 0 ∧ a ≤ (ri l p e a b).2.2 ∧ (ri l p e a b).2.2 ≤ b := by
  unfold ri at h ⊢
  split at h
  · rename_i h1; exact absurd h h1
  · rename_i h1
    rw [if_neg h1]
    split at h
    · cases h
    · rename_i h2
      rw [if_neg h2]
      split at h
      · cases h
      · rename_i h3
        rw [if_neg h3]
        dsimp only
        omega
theorem ri_inv {l : List Int} {p : Nat} {e a b : Int} (hB : Bytes l) (h : (ri l p e a b).2.1 = 0) : e = 0 ∧ a ≤ (ri l p e a b).2.2 ∧ (ri l p e a b).2.2 ≤ b ∧ l.drop p = enc (ri l p e a b).2.2 8 ++ l.drop (ri l p e a b).1 := by
  obtain ⟨h1, h2, h3⟩ := ri_good h
  refine ⟨h1, h2, h3, ?_⟩
  have hlen : ¬ l.length < p + 8 := by
    intro h4
    unfold ri at h
    rw [if_neg (by simpa using h1), if_pos h4] at h
    cases h
  have hv : ¬ (val8 l p < a ∨ b < val8 l p) := by
    intro h4
    unfold ri at h
    rw [if_neg (by simpa using h1), if_neg hlen, if_pos h4] at h
    cases h
  have hri : ri l p e a b = (p + 8, 0, val8 l p) := by
    unfold ri
    rw [if_neg (by simpa using h1), if_neg hlen, if_neg hv]
  rw [hri]
  have hen := enc_num (r := (l.drop p).take 8) ((hB.drop p).take 8) (by simp; omega)
  have : enc (val8 l p) 8 = (l.drop p).take 8 := hen
  rw [this, ← List.drop_drop, List.take_append_drop]
theorem rb_inv {l : List Int} {p : Nat} {e m : Int} (hB : Bytes l) (h : (rb l p e m).2.1 = 0) : e = 0 ∧ ((rb l p e m).2.2.length : Int) ≤ m ∧ l.drop p = enc (rb l p e m).2.2.length 8 ++ ((rb l p e m).2.2 ++ l.drop (rb l p e m).1) := by
  by_cases he : (ri l p e 0 m).2.1 ≠ 0
  · have : rb l p e m = ((ri l p e 0 m).1, (ri l p e 0 m).2.1, []) := by unfold rb; rw [if_pos he]
    rw [this] at h
    exact absurd h he
  · obtain ⟨h1, h2, h3, h4⟩ := ri_inv hB (by simpa using he)
    obtain ⟨q, hq⟩ : ∃ q, ri l p e 0 m = q := ⟨_, rfl⟩
    rw [hq] at h2 h3 h4 he
    by_cases hn : l.length < q.1 + q.2.2.toNat
    · have : rb l p e m = (q.1, 14, []) := by unfold rb; rw [hq, if_neg he, if_pos hn]
      rw [this] at h
      cases h
    · have hrb : rb l p e m = (q.1 + q.2.2.toNat, 0, (l.drop q.1).take q.2.2.toNat) := by unfold rb; rw [hq, if_neg he, if_neg hn]
      rw [hrb]
      have hlen : ((l.drop q.1).take q.2.2.toNat).length = q.2.2.toNat := by simp; omega
      have hcast : ((((l.drop q.1).take q.2.2.toNat).length : Nat) : Int) = q.2.2 := by rw [hlen]; omega
      refine ⟨h1, by dsimp only; omega, ?_⟩
      dsimp only
      rw [hcast, h4, ← List.drop_drop, List.take_append_drop]
theorem rf_inv {l : List Int} {p : Nat} {e : Int} (hB : Bytes l) (h : (rf l p e).2.1 = 0) : e = 0 ∧ l.drop p = [if (rf l p e).2.2 = true then 1 else 0] ++ l.drop (rf l p e).1 := by
  by_cases he : e ≠ 0
  · have : rf l p e = (p, e, false) := by unfold rf; rw [if_pos he]
    rw [this] at h
    exact absurd h he
  · have h0 : e = 0 := by omega
    cases hp : l[p]? with
    | none =>
      have : rf l p e = (p, 14, false) := by unfold rf; rw [if_neg he, hp]
      rw [this] at h
      cases h
    | some c =>
      have hrf : rf l p e = (p + 1, if 1 < c then 13 else 0, c == 1) := by unfold rf; rw [if_neg he, hp]
      rw [hrf] at h ⊢
      dsimp only at h ⊢
      have hc1 : ¬ 1 < c := by
        intro h1
        rw [if_pos h1] at h
        cases h
      have hcb := hB c (List.mem_of_getElem? hp)
      have hlt := (List.getElem?_eq_some_iff.1 hp).1
      have hcc : l[p] = c := (List.getElem?_eq_some_iff.1 hp).2
      refine ⟨h0, ?_⟩
      rw [List.drop_eq_getElem_cons hlt, hcc]
      have : c = 0 ∨ c = 1 := by omega
      rcases this with rfl | rfl <;> rfl
def rdKL (l : List Int) (s : Nat × Int) (n : Nat) : List Int := (List.range n).map (rdKV l s)
theorem rdK_inv {l : List Int} {s : Nat × Int} (hB : Bytes l) : ∀ n, (rdK l s n).2 = 0 → s.2 = 0 ∧ (rdKL l s n).all farOk = true ∧ l.drop s.1 = encs (rdKL l s n) ++ l.drop (rdK l s n).1
  | 0, h => ⟨h, rfl, rfl⟩
  | n + 1, h => by
    obtain ⟨h1, h2, h3, h4⟩ := ri_inv (l := l) (p := (rdK l s n).1) (e := (rdK l s n).2) (a := mA) (b := mB) hB h
    obtain ⟨g1, g2, g3⟩ := rdK_inv hB n h1
    have hL : rdKL l s (n + 1) = rdKL l s n ++ [rdKV l s n] := by simp [rdKL, List.range_succ]
    refine ⟨g1, ?_, ?_⟩
    · rw [hL, List.all_append, g2]
      simp only [List.all_cons, List.all_nil, Bool.and_true, Bool.true_and]
      exact farOk_iff.2 ⟨h2, h3⟩
    · rw [hL, encs_snoc, g3, List.append_assoc]
      exact congrArg (encs (rdKL l s n) ++ ·) h4
theorem rdA_inv {l : List Int} {s : Nat × Int} (hB : Bytes l) (h : (rdA l s).2.2 = 0) : s.2 = 0 ∧ RA (rdA l s).1 ∧ l.drop s.1 = bodyA (rdA l s).1 ++ l.drop (rdA l s).2.1 := by
  obtain ⟨k, hk⟩ : ∃ k, rb l (rdK l s 3).1 (rdK l s 3).2 1048576 = k := ⟨_, rfl⟩
  obtain ⟨d, hd⟩ : ∃ d, rb l (rdK l (k.1, k.2.1) 4).1 (rdK l (k.1, k.2.1) 4).2 1048576 = d := ⟨_, rfl⟩
  obtain ⟨f, hf⟩ : ∃ f, rf l d.1 d.2.1 = f := ⟨_, rfl⟩
  have hrd : rdA l s = (⟨rdKV l s 0, rdKV l (k.1, k.2.1) 0, rdKV l (k.1, k.2.1) 1, rdKV l (k.1, k.2.1) 2, rdKV l (k.1, k.2.1) 3, d.2.2, f.2.2, rdKV l s 1, rdKV l s 2, k.2.2⟩, f.1, f.2.1) := by
    simp only [rdA, hk, hd, hf]
  rw [hrd] at h ⊢
  dsimp only at h ⊢
  have i1 := rf_inv (l := l) (p := d.1) (e := d.2.1) hB (by rw [hf]; exact h)
  rw [hf] at i1
  have i2 := rb_inv (l := l) (p := (rdK l (k.1, k.2.1) 4).1) (e := (rdK l (k.1, k.2.1) 4).2) (m := 1048576) hB (by rw [hd]; exact i1.1)
  rw [hd] at i2
  have i3 := rdK_inv (l := l) (s := (k.1, k.2.1)) hB 4 i2.1
  have i4 := rb_inv (l := l) (p := (rdK l s 3).1) (e := (rdK l s 3).2) (m := 1048576) hB (by rw [hk]; exact i3.1)
  rw [hk] at i4
  have i5 := rdK_inv (l := l) (s := s) hB 3 i4.1
  have e3 : rdKL l s 3 = [rdKV l s 0, rdKV l s 1, rdKV l s 2] := rfl
  have e4 : rdKL l (k.1, k.2.1) 4 = [rdKV l (k.1, k.2.1) 0, rdKV l (k.1, k.2.1) 1, rdKV l (k.1, k.2.1) 2, rdKV l (k.1, k.2.1) 3] := rfl
  rw [e4] at i3
  rw [e3] at i5
  refine ⟨i5.1, ⟨?_, by have := i4.2.1; dsimp only; omega, by have := i2.2.1; dsimp only; omega⟩, ?_⟩
  · have a1 := i3.2.1
    have a2 := i5.2.1
    simp only [List.all_cons, List.all_nil, Bool.and_true, Bool.and_eq_true] at a1 a2
    simp [Ac.nums, a1, a2]
  · rw [i5.2.2, i4.2.2, i3.2.2, i2.2.2, i1.2]
    simp [bodyA]
theorem getAs_inv {l : List Int} (hB : Bytes l) : ∀ (n : Nat) (s : Nat × Int), (getAs l n s).2.2 = 0 → s.2 = 0 ∧ (getAs l n s).1.length = n ∧ rightsA (getAs l n s).1 = true ∧ l.drop s.1 = allB (getAs l n s).1 ++ l.drop (getAs l n s).2.1
  | 0, s, h => ⟨h, rfl, rfl, rfl⟩
  | n + 1, s, h => by
    by_cases he : (rdA l s).2.2 ≠ 0
    · have : getAs l (n + 1) s = ([], (rdA l s).2) := by simp only [getAs]; rw [if_pos he]
      rw [this] at h
      exact absurd h he
    · have hg : getAs l (n + 1) s = ((rdA l s).1 :: (getAs l n (rdA l s).2).1, (getAs l n (rdA l s).2).2) := by simp only [getAs]; rw [if_neg he]
      obtain ⟨g1, g2, g3⟩ := rdA_inv hB (by simpa using he)
      rw [hg] at h ⊢
      obtain ⟨k1, k2, k3, k4⟩ := getAs_inv hB n (rdA l s).2 h
      refine ⟨g1, by simp [k2], ?_, ?_⟩
      · simp only [rightsA, List.all_cons] at k3 ⊢
        rw [k3]
        simp [g2]
      · dsimp only
        rw [g3, k4]
        simp [allB]
theorem getS_inv {b : List Int} (hB : Bytes b) (h : (getS b).2.2 = 0) : cput (getS b).1 (getS b).2.1 = (b, 0) := by
  by_cases h1 : (gAs b).2.2 ≠ 0
  · rw [getS_1 h1] at h; exact absurd h h1
  · by_cases h2 : (gAs b).2.1 < b.length
    · rw [getS_2 h1 h2] at h; cases h
    · rw [getS_3 h1 h2]
      have h1' : (gAs b).2.2 = 0 := by simpa using h1
      obtain ⟨k1, k2, k3, k4⟩ := getAs_inv hB _ _ h1'
      obtain ⟨q1, q2, q3, q4⟩ := ri_inv (l := b) (p := (rdK b (0, 0) 11).1) (e := (rdK b (0, 0) 11).2) (a := 0) (b := 4096) hB k1
      obtain ⟨r1, r2, r3⟩ := rdK_inv (l := b) (s := (0, 0)) hB 11 q1
      have hgl : (gAs b).1.length = (gC b).2.2.toNat := k2
      have hgd : b.drop (gC b).1 = allB (gAs b).1 ++ b.drop (gAs b).2.1 := k4
      have q2' : 0 ≤ (gC b).2.2 := q2
      have q3' : (gC b).2.2 ≤ 4096 := q3
      have q4' : b.drop (rdK b (0, 0) 11).1 = enc (gC b).2.2 8 ++ b.drop (gC b).1 := q4
      have r3' : b.drop 0 = encs (rdKL b (0, 0) 11) ++ b.drop (rdK b (0, 0) 11).1 := r3
      have hcl : (cf11 (rdKV b (0, 0))).l = rdKL b (0, 0) 11 := rfl
      have hlen : (((gAs b).1.length : Nat) : Int) = (gC b).2.2 := by rw [hgl]; omega
      have k3' : rightsA (gAs b).1 = true := k3
      show cput (cf11 (rdKV b (0, 0))) (gAs b).1 = (b, 0)
      rw [cput_4 (by rw [hcl]; exact r2) (by omega) k3']
      have hb0 : b = headA (cf11 (rdKV b (0, 0))) (gAs b).1 ++ allB (gAs b).1 := by
        have hd0 : b.drop (gAs b).2.1 = [] := List.drop_eq_nil_of_le (by omega)
        conv => lhs; rw [← List.drop_zero (l := b), r3', q4', hgd, hd0, List.append_nil]
        unfold headA
        rw [hcl, hlen, List.append_assoc]
      rw [← hb0]
/-- Which errors reading has. -/
def okE (e : Int) : Prop := e = 0 ∨ e = 13 ∨ e = 14
theorem ri_okE {l : List Int} {p : Nat} {e a b : Int} (h : okE e) : okE (ri l p e a b).2.1 := by
  unfold ri
  split
  · exact h
  · split
    · exact .inr (.inr rfl)
    · split
      · exact .inr (.inl rfl)
      · exact .inl rfl
theorem rb_okE {l : List Int} {p : Nat} {e m : Int} (h : okE e) : okE (rb l p e m).2.1 := by
  have := ri_okE (l := l) (p := p) (a := 0) (b := m) h
  unfold rb
  split
  · exact this
  · split
    · exact .inr (.inr rfl)
    · exact .inl rfl
theorem rf_okE {l : List Int} {p : Nat} {e : Int} (h : okE e) : okE (rf l p e).2.1 := by
  unfold rf
  split
  · exact h
  · split
    · exact .inr (.inr rfl)
    · dsimp only
      split
      · exact .inr (.inl rfl)
      · exact .inl rfl
theorem rdK_okE {l : List Int} {s : Nat × Int} (h : okE s.2) : ∀ n, okE (rdK l s n).2
  | 0 => h
  | n + 1 => ri_okE (rdK_okE h n)
theorem rdA_okE {l : List Int} {s : Nat × Int} (h : okE s.2) : okE (rdA l s).2.2 := rf_okE (rb_okE (rdK_okE (s := (_, _)) (rb_okE (rdK_okE h 3)) 4))
theorem getAs_okE {l : List Int} : ∀ (n : Nat) (s : Nat × Int), okE s.2 → okE (getAs l n s).2.2
  | 0, s, h => h
  | n + 1, s, h => by
    have h1 := rdA_okE (l := l) h
    simp only [getAs]
    split
    · exact h1
    · exact getAs_okE n _ h1
theorem getS_err {b : List Int} (h : (getS b).2.2 ≠ 0) : ((getS b).2.2 = 13 ∨ (getS b).2.2 = 14) ∧ (getS b).1 = cf0 ∧ (getS b).2.1 = [] := by
  have hk : okE (gAs b).2.2 := getAs_okE _ _ (ri_okE (rdK_okE (s := (0, 0)) (.inl rfl) 11))
  by_cases h1 : (gAs b).2.2 ≠ 0
  · rw [getS_1 h1] at h ⊢
    exact ⟨hk.resolve_left h1, rfl, rfl⟩
  · by_cases h2 : (gAs b).2.1 < b.length
    · rw [getS_2 h1 h2]
      exact ⟨.inl rfl, rfl, rfl⟩
    · rw [getS_3 h1 h2] at h
      exact absurd rfl h
set_option maxHeartbeats 1000000 in
theorem cmdGets_ok (b : List Int) (hB : Bytes b) (hl : b.length ≤ 140737488355328) : CSpec Try.prog 13 [] [.fz 1 (ints .u8 b)] [] (.b true) := by
  obtain ⟨g, hg⟩ : ∃ g, getS b = g := ⟨_, rfl⟩
  have hinv := getS_inv (b := b) hB
  have herr := getS_err (b := b)
  rw [hg] at hinv herr
  refine CSpec.body Try.func13 rfl rfl rfl rfl rfl fun Q hQ => ?_
  refine T.seq fun K1 hK1 => ?_
  refine T.region ?_ -- region 0
  refine ro rfl rfl (OpOk.step (ok_moveb (c := false) (.inr rfl) rfl)) ?_
  refine ro_nil ?_
  refine keepK hK1 [0] (by dsimp) (by dsimp) ?_
  refine T.seq fun K2 hK2 => ?_
  refine T.seq fun K3 hK3 => ?_
  refine T.region ?_ -- region 1
  refine ro rfl rfl (OpOk.step (ok_move (.inl rfl))) ?_
  refine ro rfl rfl (OpOk.step (ok_len' rfl rfl ti_Luint8 rfl (by first | exact ints_length _ _ | exact rowsA_length _ _ | rfl))) ?_
  refine ro rfl rfl (OpOk.step (ok_binOp rfl ti_int rfl)) ?_
  refine ro_nil ?_
  refine keepK hK3 [0, 10] (by dsimp) (by dsimp) ?_
  refine T.cond rfl (fun hc => ?_) (fun hc => ?_) -- cond 1
  · (try simp only [decide_eq_true_eq, decide_eq_false_iff_not, beq_iff_eq, beq_eq_false_iff_ne, bne_iff_ne, bne_eq_false_iff_eq, ne_eq, Bool.not_eq_true', Bool.not_eq_false'] at hc)
    refine T.seq fun K4 hK4 => ?_
    refine T.region ?_ -- region 2
    refine ro rfl rfl (ok_call rfl rfl rfl (live27_ok.plain rfl rfl)) ?_
    refine ro rfl rfl (OpOk.step (ok_move (.inr rfl))) ?_
    refine ro_nil ?_
    refine keepK hK4 [2] (by dsimp) (by dsimp) ?_
    refine T.ret (hQ _ _ _ rfl ?_).1 -- ret 1
    exact TEnt.fin [] (by decide) (by simp) rfl ⟨rfl, trivial⟩
  · (try simp only [decide_eq_true_eq, decide_eq_false_iff_not, beq_iff_eq, beq_eq_false_iff_ne, bne_iff_ne, bne_eq_false_iff_eq, ne_eq, Bool.not_eq_true', Bool.not_eq_false'] at hc)
    have hb4 : b.length ≤ 4000 := by omega
    refine T.skip ?_
    refine keepK hK2 [0] (by dsimp) (by dsimp) ?_
    refine T.seq fun K5 hK5 => ?_
    refine T.region ?_ -- region 3
    refine ro rfl rfl (OpOk.step (ok_move (.inl rfl))) ?_
    refine ro rfl rfl (ok_call rfl rfl rfl (((get27_ok b hB hl).plain (by simp [renL, AV.ren, renL_ints]) (by simp [AV.ren, renL, CC_ren, Acs_ren])).eq (x' := .tup [.agg (CC g.1), .fz 10 (Acs g.2.1), .int g.2.2]) (by rw [hg]) rfl)) ?_
    refine ro rfl rfl (OpOk.step (ok_move (.inl rfl))) ?_
    refine ro rfl rfl (OpOk.step (ok_extract rfl rfl rfl)) ?_
    refine ro rfl rfl (OpOk.step (ok_extract rfl rfl rfl)) ?_
    refine ro rfl rfl (OpOk.step (ok_extract rfl rfl rfl)) ?_
    refine ro rfl rfl (OpOk.step (ok_alloc rfl ti_api_Conf rfl (by decide))) ?_
    refine ro rfl rfl (OpOk.step (ok_store rfl ti_api_Conf (by decide) rfl rfl rfl rfl rfl (by first | exact Nat.le_of_ble_eq_true rfl | simp) (by first | exact .inl ⟨rfl, rfl⟩ | exact .inr rfl))) ?_
    refine ro rfl rfl (OpOk.step (ok_move (.inr rfl))) ?_
    refine ro rfl rfl (OpOk.step (ok_move (.inr rfl))) ?_
    refine ro_nil ?_
    refine keepK hK5 [0, 3, 4, 5] (by dsimp) (by dsimp) ?_
    refine T.seq fun K6 hK6 => ?_
    refine T.seq fun K7 hK7 => ?_
    refine T.region ?_ -- region 4
    refine ro rfl rfl (OpOk.step (ok_move (.inl rfl))) ?_
    refine ro rfl rfl (ok_call rfl rfl rfl ((code27_ok g.2.2).plain rfl rfl)) ?_
    refine ro rfl rfl (OpOk.step (ok_binOp rfl ti_int rfl)) ?_
    refine ro_nil ?_
    refine keepK hK7 [0, 3, 4, 5, 20] (by dsimp) (by dsimp) ?_
    refine T.cond rfl (fun hc => ?_) (fun hc => ?_) -- cond 2
    · (try simp only [decide_eq_true_eq, decide_eq_false_iff_not, beq_iff_eq, beq_eq_false_iff_ne, bne_iff_ne, bne_eq_false_iff_eq, ne_eq, Bool.not_eq_true', Bool.not_eq_false'] at hc)
      obtain ⟨e1, e2, e3⟩ := herr hc
      refine T.seq fun K8 hK8 => ?_
      refine T.region ?_ -- region 5
      refine ro rfl rfl (OpOk.step (ok_move (.inl rfl))) ?_
      refine ro rfl rfl (ok_call rfl rfl rfl ((code27_ok g.2.2).plain rfl rfl)) ?_
      refine ro rfl rfl (OpOk.step (ok_binOp rfl ti_int rfl)) ?_
      refine ro_case rfl rfl (OpOk.step (ok_moveb (.inl rfl) rfl)) (fun hb => ?_) (fun hb => ?_)
      · (try simp only [decide_eq_true_eq, decide_eq_false_iff_not, beq_iff_eq, beq_eq_false_iff_ne, bne_iff_ne, bne_eq_false_iff_eq, ne_eq, Bool.not_eq_true', Bool.not_eq_false'] at hb)
        refine ro_skip rfl rfl ?_
        refine ro_skip rfl rfl ?_
        refine ro_skip rfl rfl ?_
        refine ro rfl rfl (OpOk.step (ok_pickb (t := true) (d := true) rfl rfl rfl)) ?_
        refine ro rfl rfl (OpOk.step (ok_moveb (c := true) (.inl rfl) rfl)) ?_
        refine ro rfl rfl (OpOk.step (ok_move (.inl rfl))) ?_
        refine ro rfl rfl (OpOk.step (ok_len' rfl rfl ti_Lapi_Act rfl (m := 0) (by rw [Acs_len, e3]; rfl))) ?_
        refine ro rfl rfl (OpOk.step (OpOk.bool (d := true) (ok_binOp rfl ti_int rfl) (rfl))) ?_
        refine ro rfl rfl (OpOk.step (ok_pickb (t := true) (d := true) rfl rfl rfl)) ?_
        refine ro rfl rfl (OpOk.step (ok_moveb (c := true) (.inl rfl) rfl)) ?_
        refine ro rfl rfl (OpOk.step (ok_load rfl ti_api_Conf rfl rfl)) ?_
        refine ro rfl rfl (OpOk.step ((ok_build rfl ti_api_Conf rfl).eq (x' := .agg (CC cf0)) rfl rfl)) ?_
        refine ro rfl rfl (OpOk.step (OpOk.bool (d := true) (eq_conf (c := g.1) (d := cf0) rfl (.inl rfl) rfl rfl) (by rw [e2]; simp))) ?_
        refine ro rfl rfl (OpOk.step (ok_pickb (t := true) (d := true) rfl rfl rfl)) ?_
        refine ro rfl rfl (OpOk.step (ok_moveb (c := true) (.inl rfl) rfl)) ?_
        refine ro rfl rfl (ok_call rfl rfl rfl (live27_ok.plain rfl rfl)) ?_
        refine ro rfl rfl (OpOk.step (ok_pick rfl rfl)) ?_
        refine ro rfl rfl (OpOk.step (ok_move (.inr rfl))) ?_
        refine ro_nil ?_
        refine keepK hK8 [2] (by dsimp) (by dsimp) ?_
        refine T.ret (hQ _ _ _ rfl ?_).1 -- ret 2
        exact TEnt.fin [] (by decide) (by simp) rfl ⟨rfl, trivial⟩
      · (try simp only [decide_eq_true_eq, decide_eq_false_iff_not, beq_iff_eq, beq_eq_false_iff_ne, bne_iff_ne, bne_eq_false_iff_eq, ne_eq, Bool.not_eq_true', Bool.not_eq_false'] at hb)
        refine ro rfl rfl (OpOk.step (ok_move (.inl rfl))) ?_
        refine ro rfl rfl (ok_call rfl rfl rfl ((code27_ok g.2.2).plain rfl rfl)) ?_
        refine ro rfl rfl (OpOk.step (OpOk.bool (d := true) (ok_binOp rfl ti_int rfl) (by simp; omega))) ?_
        refine ro rfl rfl (OpOk.step (ok_pickb (t := false) (d := true) rfl rfl rfl)) ?_
        refine ro rfl rfl (OpOk.step (ok_moveb (c := true) (.inl rfl) rfl)) ?_
        refine ro rfl rfl (OpOk.step (ok_move (.inl rfl))) ?_
        refine ro rfl rfl (OpOk.step (ok_len' rfl rfl ti_Lapi_Act rfl (m := 0) (by rw [Acs_len, e3]; rfl))) ?_
        refine ro rfl rfl (OpOk.step (OpOk.bool (d := true) (ok_binOp rfl ti_int rfl) (rfl))) ?_
        refine ro rfl rfl (OpOk.step (ok_pickb (t := true) (d := true) rfl rfl rfl)) ?_
        refine ro rfl rfl (OpOk.step (ok_moveb (c := true) (.inl rfl) rfl)) ?_
        refine ro rfl rfl (OpOk.step (ok_load rfl ti_api_Conf rfl rfl)) ?_
        refine ro rfl rfl (OpOk.step ((ok_build rfl ti_api_Conf rfl).eq (x' := .agg (CC cf0)) rfl rfl)) ?_
        refine ro rfl rfl (OpOk.step (OpOk.bool (d := true) (eq_conf (c := g.1) (d := cf0) rfl (.inl rfl) rfl rfl) (by rw [e2]; simp))) ?_
        refine ro rfl rfl (OpOk.step (ok_pickb (t := true) (d := true) rfl rfl rfl)) ?_
        refine ro rfl rfl (OpOk.step (ok_moveb (c := true) (.inl rfl) rfl)) ?_
        refine ro rfl rfl (ok_call rfl rfl rfl (live27_ok.plain rfl rfl)) ?_
        refine ro rfl rfl (OpOk.step (ok_pick rfl rfl)) ?_
        refine ro rfl rfl (OpOk.step (ok_move (.inr rfl))) ?_
        refine ro_nil ?_
        refine keepK hK8 [2] (by dsimp) (by dsimp) ?_
        refine T.ret (hQ _ _ _ rfl ?_).1 -- ret 3
        exact TEnt.fin [] (by decide) (by simp) rfl ⟨rfl, trivial⟩
    · (try simp only [decide_eq_true_eq, decide_eq_false_iff_not, beq_iff_eq, beq_eq_false_iff_ne, bne_iff_ne, bne_eq_false_iff_eq, ne_eq, Bool.not_eq_true', Bool.not_eq_false'] at hc)
      have hput := hinv (by simpa using hc)
      have hne := cput_err (c := g.1) (l := g.2.1) (by rw [hput]; simp)
      have hlen : (allB g.2.1).length ≤ 800000 := by
        have h1 := cput_4 (c := g.1) (l := g.2.1) hne.1 hne.2.1 hne.2.2
        rw [h1] at hput
        have h2 : headA g.1 g.2.1 ++ allB g.2.1 = b := congrArg Prod.fst hput
        have h3 := congrArg List.length h2
        rw [List.length_append] at h3
        omega
      refine T.skip ?_
      refine keepK hK6 [0, 3, 4] (by dsimp) (by dsimp) ?_
      refine T.seq fun K9 hK9 => ?_
      refine T.region ?_ -- region 6
      refine ro rfl rfl (OpOk.step (ok_load rfl ti_api_Conf rfl rfl)) ?_
      refine ro rfl rfl (OpOk.step (ok_move (.inl rfl))) ?_
      refine ro rfl rfl (ok_call rfl rfl rfl (((rcmdput_ok g.1 g.2.1 hlen (by omega)).plain (by show renL (pos []) [.agg (CC g.1), .fz 10 (Acs g.2.1)] = _; simp [renL, AV.ren, CC_ren, Acs_ren]) (by simp [AV.ren, renL, renL_ints])).eq (x' := .tup [.fz 1 (ints .u8 b), .int 0]) (by rw [hput]) rfl)) ?_
      refine ro rfl rfl (OpOk.step (ok_move (.inl rfl))) ?_
      refine ro rfl rfl (OpOk.step (ok_extract rfl rfl rfl)) ?_
      refine ro rfl rfl (OpOk.step (ok_extract rfl rfl rfl)) ?_
      refine ro rfl rfl (OpOk.step (ok_move (.inr rfl))) ?_
      refine ro rfl rfl (OpOk.step (ok_move (.inr rfl))) ?_
      refine ro_nil ?_
      refine keepK hK9 [0, 6, 7] (by dsimp) (by dsimp) ?_
      refine T.seq fun K10 hK10 => ?_
      refine T.region ?_ -- region 7
      refine ro rfl rfl (OpOk.step (ok_move (.inl rfl))) ?_
      refine ro rfl rfl (OpOk.step (OpOk.bool (d := true) (ok_binOp rfl ti_int rfl) (rfl))) ?_
      refine ro rfl rfl (OpOk.step (ok_moveb (c := true) (.inl rfl) rfl)) ?_
      refine ro rfl rfl (OpOk.step (ok_move (.inl rfl))) ?_
      refine ro rfl rfl (OpOk.step (ok_conv_str rfl ti_Luint8 ti_string rfl ti_uint8 rfl rfl rfl rfl (bytesOf_ints _))) ?_
      refine ro rfl rfl (OpOk.step (ok_move (.inl rfl))) ?_
      refine ro rfl rfl (OpOk.step (ok_conv_str rfl ti_Luint8 ti_string rfl ti_uint8 rfl rfl rfl rfl (bytesOf_ints _))) ?_
      refine ro rfl rfl (OpOk.step (OpOk.bool (d := true) (ok_binOp rfl ti_string rfl) (by simp))) ?_
      refine ro rfl rfl (OpOk.step (ok_pickb (t := true) (d := true) rfl rfl rfl)) ?_
      refine ro rfl rfl (OpOk.step (ok_moveb (c := true) (.inl rfl) rfl)) ?_
      refine ro rfl rfl (ok_call rfl rfl rfl (live27_ok.plain rfl rfl)) ?_
      refine ro rfl rfl (OpOk.step (ok_pick rfl rfl)) ?_
      refine ro rfl rfl (OpOk.step (ok_move (.inr rfl))) ?_
      refine ro_nil ?_
      refine keepK hK10 [2] (by dsimp) (by dsimp) ?_
      refine T.ret (hQ _ _ _ rfl ?_).1 -- ret 4
      exact TEnt.fin [] (by decide) (by simp) rfl ⟨rfl, trivial⟩

end Go.Proofs.Ytmegpanmiagheaa.AmF
