/- Walks over the abstract machine: records of which blocks are wanting. -/
import Derived.Test.YteonkbgfpocplaaAfRecputs
namespace Go.Proofs.Yteonkbgfpocplaa.AmF
open Go Go.AM
set_option maxRecDepth 100000
set_option linter.unusedSimpArgs false
set_option linter.unusedVariables false
attribute [local simp] tkeep tget tput ev cav argsTM pickA normT putA splice AV.cells ints_length rowsA_length enc_len
theorem putR_shape {x : Rc} {n : Nat} (h : PR x) (hk : 1 ≤ n ∧ n ≤ 4096) : ∃ z, putR x n = (headR (payR x) ++ payR x) ++ List.replicate z 0 ∧ (16 + (payR x).length) + z = (16 + (payR x).length + n - 1) / n * n := by
  rw [putR_good ⟨h, by omega⟩]
  have hhl := headR_len (payR x)
  generalize payR x = p at hhl
  refine ⟨(n - (headR p ++ p).length % n) % n, ?_, ?_⟩
  · unfold padL
    rw [Int.toNat_natCast]
  · rw [List.length_append, hhl]
    exact pad_len (by omega)
theorem getR_short {x : Rc} {n m : Nat} (h : PR x) (hk : 1 ≤ n ∧ n ≤ 4096) (hm : m * n < (putR x n).length) : getR ((putR x n).take (m * n)) n = (rc0, 0, 14) := by
  obtain ⟨z, hz, hlen⟩ := putR_shape h hk
  have hpl := payR_len x
  have hbl : x.body.length ≤ 1048576 := by unfold PR at h; omega
  rw [hz] at hm ⊢
  have hhl := headR_len (payR x)
  generalize payR x = p at hpl hm hhl hlen
  have hcb := crcV_bd p
  have hbl2 : ((headR p ++ p) ++ List.replicate z 0).length = 16 + p.length + z := by simp [hhl]; omega
  rw [hbl2] at hm
  obtain ⟨l, hl⟩ : ∃ l, ((headR p ++ p) ++ List.replicate z 0).take (m * n) = l := ⟨_, rfl⟩
  have hll : l.length = m * n := by rw [← hl, List.length_take, hbl2]; omega
  rw [hl]
  by_cases h16 : l.length < 16
  · exact getR_2 (by omega) h16
  have ht16 : l.take 16 = headR p := by
    rw [← hl, List.take_take, Nat.min_eq_left (by omega), List.append_assoc]
    exact List.take_left' hhl
  have q0 : gQ0 l = (8, 0, (p.length : Int)) := by
    have := ri_enc (l := headR p) (a := []) (b := enc (crcV p) 8) (v := p.length) (lo := 0) (hi := 1048656) (p := 0) rfl rfl ⟨by omega, by omega⟩
    unfold gQ0
    rw [ht16, this]
    have hc : ¬ ((p.length : Int) < 0 ∨ 1048656 < (p.length : Int)) := by omega
    rw [if_neg hc, if_neg hc]
  have q1 : gQ1 l = (16, 0, crcV p) := by
    have := ri_enc (l := headR p) (a := enc p.length 8) (b := []) (v := crcV p) (lo := -9223372036854775808) (hi := 9223372036854775807) (p := 8) (by simp) (by simp [headR]) ⟨by omega, by omega⟩
    unfold gQ1
    rw [ht16, q0, this]
    have hc : ¬ (crcV p < -9223372036854775808 ∨ 9223372036854775807 < crcV p) := by omega
    rw [if_neg hc, if_neg hc]
  have hgN : gN l = p.length := by unfold gN; rw [q0]
  have hgM : gM l n = ((16 + p.length + n - 1) / n : Nat) := by
    unfold gM
    rw [hgN]
    have : (16 : Int) + p.length + n - 1 = ((16 + p.length + n - 1 : Nat) : Int) := by omega
    rw [this]
    simp
  have hmk : gM l n * n = (16 + p.length + z : Nat) := by
    rw [hgM, ← Int.natCast_mul, ← hlen]
  exact getR_4 (by omega) h16 (by rw [q1]; simp) (by rw [hmk]; omega)
theorem code10s_ok (e : Int) : CSpec Try.prog 10 [] [.int e] [] (.int e) := by
  refine CSpec.body Try.func10 rfl rfl rfl rfl rfl fun Q hQ => ?_
  refine T.seq fun K1 hK1 => ?_
  refine T.region ?_ -- region 0
  refine ro rfl rfl (OpOk.step (ok_move (.inr rfl))) ?_
  refine ro_nil ?_
  refine keepK hK1 [0] (by dsimp) (by dsimp) ?_
  refine T.seq fun K2 hK2 => ?_
  refine T.region ?_ -- region 1
  refine ro rfl rfl (OpOk.step (ok_move (.inl rfl))) ?_
  refine ro rfl rfl (OpOk.step (ok_move (.inr rfl))) ?_
  refine ro_nil ?_
  refine keepK hK2 [2] (by dsimp) (by dsimp) ?_
  refine T.ret (hQ _ _ _ rfl ?_).1 -- ret 1
  exact TEnt.toH rfl ⟨rfl, trivial⟩
theorem recShort_ok (x : Rc) (B c : Int) (hB : Bytes x.body) (hl : x.body.length ≤ 140737488355328) (hb : 0 ≤ B ∧ B < 256) (hc0 : 0 ≤ c ∧ c < 256) : CSpec Try.prog 4 [] [.agg (RcC x), .v (.int .u8 B), .v (.int .u8 c)] [] (.b true) := by
  obtain ⟨n, hn⟩ : ∃ n : Nat, B + 1 = n := ⟨(B + 1).toNat, by omega⟩
  obtain ⟨c, rfl⟩ := Int.eq_ofNat_of_zero_le hc0.1
  obtain ⟨b, hb0⟩ : ∃ b, putR x n = b := ⟨_, rfl⟩
  have hbl : b.length ≤ 2000000 := hb0 ▸ putR_len x n
  have hbB : Bytes b := by
    rw [← hb0]
    unfold putR
    split
    · refine ((((enc_bytes _ _).append (enc_bytes _ _)).append (payR_bytes hB)).append ?_)
      intro y hy
      rw [List.eq_of_mem_replicate hy]
      decide
    · exact Bytes.nil
  refine CSpec.body Try.func4 rfl rfl rfl rfl rfl fun Q hQ => ?_
  refine T.seq fun K1 hK1 => ?_
  refine T.region ?_ -- region 0
  refine ro rfl rfl (OpOk.step (ok_box (n := 10) rfl rfl (by decide))) ?_
  refine ro rfl rfl (OpOk.step (ok_moveb (c := false) (.inr rfl) rfl)) ?_
  refine ro_nil ?_
  refine keepK hK1 [1, 2, 3] (by dsimp) (by dsimp) ?_
  refine T.seq fun K2 hK2 => ?_
  refine T.region ?_ -- region 1
  refine ro rfl rfl (OpOk.step (ok_move (.inl rfl))) ?_
  refine ro rfl rfl (OpOk.step ((ok_conv_int rfl ti_uint8 ti_int rfl rfl).eq (x' := .int B) (by rw [wrap_i64 (by omega) (by omega)]) rfl)) ?_
  refine ro rfl rfl (OpOk.step ((ok_add64 rfl ti_int rfl rfl (by omega) (by omega)).eq (x' := .int n) (by rw [hn]) rfl)) ?_
  refine ro rfl rfl (OpOk.step (ok_move (.inr rfl))) ?_
  refine ro_nil ?_
  refine keepK hK2 [2, 3, 7] (by dsimp) (by dsimp) ?_
  refine T.seq fun K3 hK3 => ?_
  refine T.region ?_ -- region 2
  refine ro rfl rfl (OpOk.step (ok_load rfl ti_api_Rec rfl rfl)) ?_
  refine ro rfl rfl (OpOk.step (ok_move (.inl rfl))) ?_
  refine ro rfl rfl (ok_call rfl rfl rfl (((rrput_ok x n hB hl).plain (by show renL (pos []) [.agg (RcC x), .int n] = _; simp [renL, AV.ren, RcC_ren]) (by simp [AV.ren, renL_ints])).eq (x' := .fz 1 (ints .u8 b)) (by rw [hb0]) rfl)) ?_
  refine ro rfl rfl (OpOk.step (ok_move (.inr rfl))) ?_
  refine ro_nil ?_
  refine keepK hK3 [2, 3, 7, 8] (by dsimp) (by dsimp) ?_
  refine T.seq fun K4 hK4 => ?_
  refine T.seq fun K5 hK5 => ?_
  refine T.region ?_ -- region 3
  refine ro rfl rfl (OpOk.step (ok_fieldAddr rfl ti_api_Rec rfl rfl ti_Luint8 (by decide) rfl)) ?_
  refine ro rfl rfl (OpOk.step (ok_load rfl ti_Luint8 rfl rfl)) ?_
  refine ro rfl rfl (OpOk.step (ok_len' rfl rfl ti_Luint8 rfl (by first | exact ints_length _ _ | exact rowsA_length _ _ | rfl))) ?_
  refine ro rfl rfl (OpOk.step (ok_binOp rfl ti_int rfl)) ?_
  refine ro_case rfl rfl (OpOk.step (ok_moveb (.inl rfl) rfl)) (fun hb => ?_) (fun hb => ?_)
  · (try simp only [decide_eq_true_eq, decide_eq_false_iff_not, beq_iff_eq, beq_eq_false_iff_ne, bne_iff_ne, bne_eq_false_iff_eq, ne_eq, Bool.not_eq_true', Bool.not_eq_false'] at hb)
    refine ro_skip rfl rfl ?_
    refine ro_skip rfl rfl ?_
    refine ro_skip rfl rfl ?_
    refine ro rfl rfl (OpOk.step (ok_pickb (t := true) (d := true) rfl rfl rfl)) ?_
    refine ro_nil ?_
    refine keepK hK5 [2, 7, 8, 27] (by dsimp) (by dsimp) ?_
    refine T.cond_true rfl ?_
    refine T.seq fun K6 hK6 => ?_
    refine T.region ?_ -- region 4
    refine ro rfl rfl (ok_call rfl rfl rfl (live10_ok.plain rfl rfl)) ?_
    refine ro rfl rfl (OpOk.step (ok_move (.inr rfl))) ?_
    refine ro_nil ?_
    refine keepK hK6 [6] (by dsimp) (by dsimp) ?_
    refine T.ret (hQ _ _ _ rfl ?_).1
    exact TEnt.fin [] (by decide) (by simp) rfl ⟨rfl, trivial⟩ -- ?? ret 1
  · (try simp only [decide_eq_true_eq, decide_eq_false_iff_not, beq_iff_eq, beq_eq_false_iff_ne, bne_iff_ne, bne_eq_false_iff_eq, ne_eq, Bool.not_eq_true', Bool.not_eq_false'] at hb)
    refine ro rfl rfl (OpOk.step (ok_move (.inl rfl))) ?_
    refine ro rfl rfl (OpOk.step (ok_len' rfl rfl ti_Luint8 rfl (by first | exact ints_length _ _ | exact rowsA_length _ _ | rfl))) ?_
    refine ro rfl rfl (OpOk.step (ok_binOp rfl ti_int rfl)) ?_
    refine ro rfl rfl (OpOk.step (ok_pick rfl rfl)) ?_
    refine ro_nil ?_
    refine keepK hK5 [2, 7, 8, 27] (by dsimp) (by dsimp) ?_
    refine T.cond rfl (fun hc => ?_) (fun hc => ?_) -- cond 1
    · (try simp only [decide_eq_true_eq, decide_eq_false_iff_not, beq_iff_eq, beq_eq_false_iff_ne, bne_iff_ne, bne_eq_false_iff_eq, ne_eq, Bool.not_eq_true', Bool.not_eq_false'] at hc)
      refine T.seq fun K7 hK7 => ?_
      refine T.region ?_ -- region 4
      refine ro rfl rfl (ok_call rfl rfl rfl (live10_ok.plain rfl rfl)) ?_
      refine ro rfl rfl (OpOk.step (ok_move (.inr rfl))) ?_
      refine ro_nil ?_
      refine keepK hK7 [6] (by dsimp) (by dsimp) ?_
      refine T.ret (hQ _ _ _ rfl ?_).1
      exact TEnt.fin [] (by decide) (by simp) rfl ⟨rfl, trivial⟩ -- ?? ret 2
    · (try simp only [decide_eq_true_eq, decide_eq_false_iff_not, beq_iff_eq, beq_eq_false_iff_ne, bne_iff_ne, bne_eq_false_iff_eq, ne_eq, Bool.not_eq_true', Bool.not_eq_false'] at hc)
      have hg : PR x ∧ 1 ≤ (n : Int) ∧ (n : Int) ≤ 4096 := by
        rcases Decidable.em (PR x ∧ 1 ≤ (n : Int) ∧ (n : Int) ≤ 4096) with h | h
        · exact h
        · rw [putR_bad h] at hb0
          rw [← hb0] at hc
          exact absurd rfl hc
      have hn1 : 1 ≤ n ∧ n ≤ 256 := by omega
      obtain ⟨z, hz, hzl⟩ := putR_shape hg.1 ⟨hn1.1, by omega⟩
      have hlen : b.length = (16 + (payR x).length + n - 1) / n * n := by
        rw [← hzl, ← hb0, hz]
        simp [headR_len]
        omega
      obtain ⟨q, hq⟩ : ∃ q, (16 + (payR x).length + n - 1) / n = q := ⟨_, rfl⟩
      rw [hq] at hlen
      have hq1 : 1 ≤ q := by
        rw [← hq]
        exact (Nat.le_div_iff_mul_le (by omega)).2 (by omega)
      have hdiv : (b.length : Int) / n = q := by
        rw [hlen]
        have : ((q * n : Nat) : Int) = (q : Int) * n := by simp
        rw [this]
        exact Int.mul_ediv_cancel _ (by omega)
      obtain ⟨k, hk⟩ : ∃ k, c % q = k := ⟨_, rfl⟩
      have hkq : k < q := hk ▸ Nat.mod_lt _ (by omega)
      have hk256 : k < 256 := by
        have := Nat.mod_le c q
        omega
      have hkn : k * n < b.length := by
        rw [hlen]
        exact Nat.mul_lt_mul_of_pos_right hkq (by omega)
      have hget := getR_short (m := k) hg.1 ⟨hn1.1, by omega⟩ (by rw [hb0]; exact hkn)
      rw [hb0] at hget
      obtain ⟨M, hM⟩ : ∃ M, k * n = M := ⟨_, rfl⟩
      rw [hM] at hkn hget
      refine T.skip ?_
      refine keepK hK4 [2, 7, 8] (by dsimp) (by dsimp) ?_
      refine T.seq fun K8 hK8 => ?_
      refine T.region ?_ -- region 5
      refine ro rfl rfl (OpOk.step (ok_move (.inl rfl))) ?_
      refine ro rfl rfl (OpOk.step ((ok_conv_int rfl ti_uint8 ti_int rfl rfl).eq (x' := .int c) (by rw [wrap_i64 (by omega) (by omega)]) rfl)) ?_
      refine ro rfl rfl (OpOk.step (ok_move (.inl rfl))) ?_
      refine ro rfl rfl (OpOk.step (ok_len' rfl rfl ti_Luint8 rfl (by first | exact ints_length _ _ | exact rowsA_length _ _ | rfl))) ?_
      refine ro rfl rfl (OpOk.step (ok_move (.inl rfl))) ?_
      refine ro rfl rfl (OpOk.step ((ok_quo64 rfl ti_int rfl rfl (by omega) (by omega) (by omega)).eq (x' := .int q) (by rw [hdiv]) rfl)) ?_
      refine ro rfl rfl (OpOk.step ((ok_rem64 rfl ti_int rfl rfl (by omega) (by omega)).eq (x' := .int k) (by rw [← hk]; simp) rfl)) ?_
      refine ro rfl rfl (OpOk.step (ok_move (.inr rfl))) ?_
      refine ro_nil ?_
      refine keepK hK8 [7, 8, 9] (by dsimp) (by dsimp) ?_
      refine T.seq fun K9 hK9 => ?_
      refine T.region ?_ -- region 6
      refine ro rfl rfl (OpOk.step (ok_move (.inl rfl))) ?_
      refine ro rfl rfl (OpOk.step (ok_move (.inl rfl))) ?_
      refine ro rfl rfl (OpOk.step (ok_move (.inl rfl))) ?_
      refine ro rfl rfl (OpOk.step ((ok_mul64 rfl ti_int rfl rfl (by rw [← Int.natCast_mul, hM]; omega) (by rw [← Int.natCast_mul, hM]; omega)).eq (x' := .int M) (by rw [← hM]; simp) rfl)) ?_
      refine ro rfl rfl (OpOk.step ((ok_slice rfl ti_Luint8 (.inl ⟨_, _, rfl, ti_uint8, rfl⟩) (zl := none) (zh := some (M : Int)) rfl rfl rfl (r := .fz 1 (ints .u8 (b.take M))) (by
  have h1 : (M : Int) ≤ b.length := by omega
  simp [sliceA, h1, ints, List.map_take])))) ?_
      refine ro rfl rfl (OpOk.step (ok_move (.inl rfl))) ?_
      refine ro rfl rfl (ok_call rfl rfl rfl (((get_ok (b.take M) n (hbB.take _) (by simp; omega)).plain (by simp [renL, AV.ren, renL_ints]) (by simp [AV.ren, renL, RcC_ren])).eq (x' := .tup [.agg (RcC rc0), .int 0, .int 14]) (by rw [hget]) rfl)) ?_
      refine ro rfl rfl (OpOk.step (ok_move (.inl rfl))) ?_
      refine ro rfl rfl (OpOk.step (ok_extract rfl rfl rfl)) ?_
      refine ro rfl rfl (OpOk.step (ok_extract rfl rfl rfl)) ?_
      refine ro rfl rfl (OpOk.step (ok_extract rfl rfl rfl)) ?_
      refine ro rfl rfl (OpOk.step (ok_alloc rfl ti_api_Rec rfl (by decide))) ?_
      refine ro rfl rfl (OpOk.step (ok_store rfl ti_api_Rec (by decide) rfl rfl rfl rfl rfl (by first | exact Nat.le_of_ble_eq_true rfl | simp) (by first | exact .inl ⟨rfl, rfl⟩ | exact .inr rfl))) ?_
      refine ro rfl rfl (OpOk.step (ok_move (.inr rfl))) ?_
      refine ro rfl rfl (OpOk.step (ok_move (.inr rfl))) ?_
      refine ro_nil ?_
      refine keepK hK9 [10, 11, 12] (by dsimp) (by dsimp) ?_
      refine T.seq fun K10 hK10 => ?_
      refine T.region ?_ -- region 7
      refine ro rfl rfl (OpOk.step (ok_move (.inl rfl))) ?_
      refine ro rfl rfl (ok_call rfl rfl rfl ((code10s_ok 14).plain rfl rfl)) ?_
      refine ro rfl rfl (OpOk.step (ok_binOp rfl ti_int rfl)) ?_
      refine ro rfl rfl (OpOk.step (OpOk.bool (d := true) (ok_moveb (.inl rfl) rfl) (rfl))) ?_
      refine ro rfl rfl (OpOk.step (ok_move (.inl rfl))) ?_
      refine ro rfl rfl (OpOk.step (ok_binOp rfl ti_int rfl)) ?_
      refine ro rfl rfl (OpOk.step (ok_pick rfl rfl)) ?_
      refine ro rfl rfl (OpOk.step (OpOk.bool (d := true) (ok_moveb (.inl rfl) rfl) (rfl))) ?_
      refine ro rfl rfl (OpOk.step (ok_load rfl ti_api_Rec rfl rfl)) ?_
      refine ro rfl rfl (OpOk.step (ok_build rfl ti_api_Rec rfl)) ?_
      refine ro rfl rfl (ok_call rfl rfl rfl ((((rsame_ok rc0 rc0).plain (by show renL (pos []) [.agg (RcC rc0), .agg (RcC rc0)] = _; simp [renL, AV.ren, RcC_ren]) rfl).view (EntL.cons (Ent.refl _) (EntL.cons rc0_view EntL.nil))).eq (x' := .b true) (by rw [sameR_refl]) rfl)) ?_
      refine ro rfl rfl (OpOk.step (ok_pick rfl rfl)) ?_
      refine ro rfl rfl (OpOk.step (OpOk.bool (d := true) (ok_moveb (.inl rfl) rfl) (rfl))) ?_
      refine ro rfl rfl (ok_call rfl rfl rfl (live10_ok.plain rfl rfl)) ?_
      refine ro rfl rfl (OpOk.step (ok_pick rfl rfl)) ?_
      refine ro rfl rfl (OpOk.step (ok_move (.inr rfl))) ?_
      refine ro_nil ?_
      refine keepK hK10 [6] (by dsimp) (by dsimp) ?_
      refine T.ret (hQ _ _ _ rfl ?_).1
      exact TEnt.fin [] (by decide) (by simp) rfl ⟨rfl, trivial⟩ -- ?? ret 3
end Go.Proofs.Yteonkbgfpocplaa.AmF
