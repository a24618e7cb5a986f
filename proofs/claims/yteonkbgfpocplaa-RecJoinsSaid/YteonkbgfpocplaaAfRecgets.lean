/- Walks over the abstract machine: any bytes as a record. -/
import Derived.Test.YteonkbgfpocplaaAfRecputs
namespace Go.Proofs.Yteonkbgfpocplaa.AmF
open Go Go.AM
set_option maxRecDepth 100000
set_option linter.unusedSimpArgs false
set_option linter.unusedVariables false
attribute [local simp] tkeep tget tput ev cav argsTM pickA normT putA splice AV.cells ints_length rowsA_length enc_len
theorem ri_take {l : List Int} {p m : Nat} {e a b : Int} (h : p + 8 ≤ m) (hm : m ≤ l.length) : ri (l.take m) p e a b = ri l p e a b := by
  have hv : val8 (l.take m) p = val8 l p := by
    unfold val8
    rw [List.drop_take, List.take_take, Nat.min_eq_left (by omega)]
  have hl : (l.take m).length = m := by rw [List.length_take]; omega
  unfold ri
  rw [hv, hl]
  have h1 : ¬ m < p + 8 := by omega
  have h2 : ¬ l.length < p + 8 := by omega
  rw [if_neg h1, if_neg h2]
theorem gQ0_at {l : List Int} (h : (gQ0 l).2.1 = 0) : (gQ0 l).1 = 8 := by
  unfold gQ0 ri at h ⊢
  rw [if_neg (by simp)] at h ⊢
  split at h
  · simp at h
  · rename_i h2
    rw [if_neg h2]
    split <;> rfl
theorem gQ0_eq {l : List Int} (h : 16 ≤ l.length) : ri l 0 0 0 1048656 = gQ0 l := (ri_take (by omega) h).symm
theorem gQ1_eq {l : List Int} (h : 16 ≤ l.length) (h0 : (gQ0 l).2.1 = 0) : ri l (gQ0 l).1 (gQ0 l).2.1 (-9223372036854775808) 9223372036854775807 = gQ1 l := (ri_take (by rw [gQ0_at h0]; omega) h).symm
theorem val8_I64 (l : List Int) (p : Nat) : -9223372036854775808 ≤ val8 l p ∧ val8 l p ≤ 9223372036854775807 := by
  unfold val8 IntKind.wrap
  simp [IntKind.bits, IntKind.signed]
  omega
theorem gQ1_err {l : List Int} (h : 16 ≤ l.length) : (gQ1 l).2.1 ≠ 0 ↔ (gQ0 l).2.1 ≠ 0 := by
  have hl : (l.take 16).length = 16 := by rw [List.length_take]; omega
  by_cases h0 : (gQ0 l).2.1 = 0
  · have hv := val8_I64 (l.take 16) 8
    have : (gQ1 l).2.1 = 0 := by
      unfold gQ1
      rw [h0, gQ0_at h0]
      unfold ri
      rw [if_neg (by simp), if_neg (by omega), if_neg (by omega)]
    simp [this, h0]
  · have : (gQ1 l).2.1 = (gQ0 l).2.1 := by
      unfold gQ1
      rw [ri, if_pos h0]
    rw [this]
theorem gM_iff {l : List Int} {k j : Int} (hk : 1 ≤ k ∧ k ≤ 4096) : j * k < 16 + gN l ↔ j < gM l k := by
  have hm := gM_bd (l := l) hk
  constructor
  · intro h
    exact Int.lt_of_mul_lt_mul_right (a := k) (by omega) (by omega)
  · intro h
    have : j * k ≤ (gM l k - 1) * k := Int.mul_le_mul_of_nonneg_right (by omega) (by omega)
    rw [Int.sub_mul] at this
    omega
def rdLF (f : Nat → Int) (i n : Nat) : List Int := (List.range i).map f ++ List.replicate n 0
theorem rdLF_len (f : Nat → Int) (i n : Nat) : (rdLF f i n).length = i + n := by simp [rdLF]
theorem rdLF_put (f : Nat → Int) (i n : Nat) : splice (ints .i64 (rdLF f i (n + 1))) i [.int (f i)] = ints .i64 (rdLF f (i + 1) n) := by
  have h1 : (rdLF f i (n + 1)).take i = (List.range i).map f := by unfold rdLF; exact List.take_left' (by simp)
  have h2 : (rdLF f i (n + 1)).drop (i + 1) = List.replicate n 0 := by
    unfold rdLF
    rw [List.replicate_succ]
    have : (List.range i).map f ++ 0 :: List.replicate n 0 = ((List.range i).map f ++ [0]) ++ List.replicate n 0 := by simp
    rw [this]
    exact List.drop_left' (by simp)
  unfold splice
  rw [ints_take, h1]
  simp only [List.length_cons, List.length_nil, Nat.zero_add]
  rw [ints_drop, h2]
  simp [ints, rdLF, List.range_succ]
theorem zeroB_step {T : List Int} {m : Nat} (h : zeroB (T.take m) = true) (hm : T[m]? = some 0) : zeroB (T.take (m + 1)) = true := by
  rw [take_succ_get hm]
  unfold zeroB at h ⊢
  rw [List.all_append, h]
  rfl
theorem zeroB_hit {T : List Int} {m : Nat} {c : Int} (hm : T[m]? = some c) (hc : c ≠ 0) : ¬ zeroB T = true := by
  intro h
  have := List.all_eq_true.1 h c (List.mem_of_getElem? hm)
  exact hc (by simpa using this)
set_option maxHeartbeats 1000000 in
theorem r10get_ok (l : List Int) (k : Int) (hB : Bytes l) (hl : l.length ≤ 140737488355328) : CSpec Try.prog 8 [] [.fz 1 (ints .u8 l), .int k] [] (.tup [.agg (RcC (getR l k).1), .int (getR l k).2.1, .int (getR l k).2.2]) := by
  refine CSpec.body Try.func8 rfl rfl rfl rfl rfl fun Q hQ => ?_
  refine T.seq fun K1 hK1 => ?_
  refine T.region ?_ -- region 0
  refine ro rfl rfl (OpOk.step (ok_alloc rfl ti_api_Rec rfl (by decide))) ?_
  refine ro rfl rfl (OpOk.step (ok_move (.inr rfl))) ?_
  refine ro rfl rfl (OpOk.step (ok_move (.inr rfl))) ?_
  refine ro_nil ?_
  refine keepK hK1 [0, 1, 4] (by dsimp) (by dsimp) ?_
  refine T.seq fun K2 hK2 => ?_
  refine T.seq fun K3 hK3 => ?_
  refine T.region ?_ -- region 1
  refine ro rfl rfl (OpOk.step (ok_move (.inl rfl))) ?_
  refine ro rfl rfl (OpOk.step (ok_binOp rfl ti_int rfl)) ?_
  refine ro_case rfl rfl (OpOk.step (ok_moveb (.inl rfl) rfl)) (fun hb => ?_) (fun hb => ?_)
  · (try simp only [decide_eq_true_eq, decide_eq_false_iff_not, beq_iff_eq, beq_eq_false_iff_ne, bne_iff_ne, bne_eq_false_iff_eq, ne_eq, Bool.not_eq_true', Bool.not_eq_false'] at hb)
    refine ro_skip rfl rfl ?_
    refine ro_skip rfl rfl ?_
    refine ro rfl rfl (OpOk.step (ok_pickb (t := true) (d := true) rfl rfl rfl)) ?_
    refine ro_nil ?_
    refine keepK hK3 [0, 1, 4, 24] (by dsimp) (by dsimp) ?_
    refine T.cond_true rfl ?_
    refine T.seq fun K4 hK4 => ?_
    refine T.region ?_ -- region 2
    refine ro rfl rfl (OpOk.step (ok_build rfl ti_api_Rec rfl)) ?_
    refine ro rfl rfl (OpOk.step (ok_store rfl ti_api_Rec (by decide) rfl rfl rfl rfl rfl (by first | exact Nat.le_of_ble_eq_true rfl | simp) (by first | exact .inl ⟨rfl, rfl⟩ | exact .inr rfl))) ?_
    refine ro rfl rfl (OpOk.step (ok_move (.inr rfl))) ?_
    refine ro rfl rfl (OpOk.step (ok_move (.inr rfl))) ?_
    refine ro_nil ?_
    refine keepK hK4 [4, 5, 6] (by dsimp) (by dsimp) ?_
    refine T.ret (hQ _ _ _ rfl ?_).1 -- ret 1
    exact by first | (rw [getR_1 (by omega)]; exact ((TEnt.put1 0 (x' := .tup [.agg (RcC rc0), .int 0, .int 1]) (by show Ent _ (.tup [.agg [.int 0, .int 0, .int 0, .int 0, .int 0, .int 0, .int 0, .int 0, .int 0, .v (.slice none 0 0)], .int 0, .int _]) _; exact Ent.tup (EntL.cons rc0_view (EntL.refl _)))).trans (TEnt.fin [] (by decide) (by simp) rfl ⟨by simp [AV.ren, renL, RcC_ren], trivial⟩))) | (rw [getR_2 (by assumption) (by omega)]; exact ((TEnt.put1 0 (x' := .tup [.agg (RcC rc0), .int 0, .int 14]) (by show Ent _ (.tup [.agg [.int 0, .int 0, .int 0, .int 0, .int 0, .int 0, .int 0, .int 0, .int 0, .v (.slice none 0 0)], .int 0, .int _]) _; exact Ent.tup (EntL.cons rc0_view (EntL.refl _)))).trans (TEnt.fin [] (by decide) (by simp) rfl ⟨by simp [AV.ren, renL, RcC_ren], trivial⟩))) | (rw [getR_3 (by assumption) (by assumption) (by assumption)]; exact ((TEnt.put1 0 (x' := .tup [.agg (RcC rc0), .int 0, .int 13]) (by show Ent _ (.tup [.agg [.int 0, .int 0, .int 0, .int 0, .int 0, .int 0, .int 0, .int 0, .int 0, .v (.slice none 0 0)], .int 0, .int _]) _; exact Ent.tup (EntL.cons rc0_view (EntL.refl _)))).trans (TEnt.fin [] (by decide) (by simp) rfl ⟨by simp [AV.ren, renL, RcC_ren], trivial⟩))) | (rw [getR_4 (by assumption) (by assumption) (by assumption) (by assumption)]; exact ((TEnt.put1 0 (x' := .tup [.agg (RcC rc0), .int 0, .int 14]) (by show Ent _ (.tup [.agg [.int 0, .int 0, .int 0, .int 0, .int 0, .int 0, .int 0, .int 0, .int 0, .v (.slice none 0 0)], .int 0, .int _]) _; exact Ent.tup (EntL.cons rc0_view (EntL.refl _)))).trans (TEnt.fin [] (by decide) (by simp) rfl ⟨by simp [AV.ren, renL, RcC_ren], trivial⟩))) | (rw [getR_5 (by assumption) (by assumption) (by assumption) (by assumption) (by assumption)]; exact ((TEnt.put1 0 (x' := .tup [.agg (RcC rc0), .int 0, .int 15]) (by show Ent _ (.tup [.agg [.int 0, .int 0, .int 0, .int 0, .int 0, .int 0, .int 0, .int 0, .int 0, .v (.slice none 0 0)], .int 0, .int _]) _; exact Ent.tup (EntL.cons rc0_view (EntL.refl _)))).trans (TEnt.fin [] (by decide) (by simp) rfl ⟨by simp [AV.ren, renL, RcC_ren], trivial⟩))) | (rw [getR_6 (by assumption) (by assumption) (by assumption) (by assumption) (by assumption) (fun h => absurd h.2 (by assumption))]; exact ((TEnt.put1 0 (x' := .tup [.agg (RcC rc0), .int 0, .int 13]) (by show Ent _ (.tup [.agg [.int 0, .int 0, .int 0, .int 0, .int 0, .int 0, .int 0, .int 0, .int 0, .v (.slice none 0 0)], .int 0, .int _]) _; exact Ent.tup (EntL.cons rc0_view (EntL.refl _)))).trans (TEnt.fin [] (by decide) (by simp) rfl ⟨by simp [AV.ren, renL, RcC_ren], trivial⟩))) | (rw [getR_6 (by assumption) (by assumption) (by assumption) (by assumption) (by assumption) (fun h => by have h1 := h.1; unfold parOk at h1; omega)]; exact ((TEnt.put1 0 (x' := .tup [.agg (RcC rc0), .int 0, .int 13]) (by show Ent _ (.tup [.agg [.int 0, .int 0, .int 0, .int 0, .int 0, .int 0, .int 0, .int 0, .int 0, .v (.slice none 0 0)], .int 0, .int _]) _; exact Ent.tup (EntL.cons rc0_view (EntL.refl _)))).trans (TEnt.fin [] (by decide) (by simp) rfl ⟨by simp [AV.ren, renL, RcC_ren], trivial⟩))) | (rw [getR_7 (by assumption) (by assumption) (by assumption) (by assumption) (by assumption) ⟨by assumption, by assumption⟩]; exact TEnt.fin [] (by decide) (by simp) rfl ⟨by show AV.ren (pos []) (.tup [.agg (RcC (xr (gP l))), .int _, .int _]) = _; simp [AV.ren, renL, RcC_ren], trivial⟩)
  · (try simp only [decide_eq_true_eq, decide_eq_false_iff_not, beq_iff_eq, beq_eq_false_iff_ne, bne_iff_ne, bne_eq_false_iff_eq, ne_eq, Bool.not_eq_true', Bool.not_eq_false'] at hb)
    refine ro rfl rfl (OpOk.step (ok_move (.inl rfl))) ?_
    refine ro rfl rfl (OpOk.step (ok_binOp rfl ti_int rfl)) ?_
    refine ro rfl rfl (OpOk.step (ok_pick rfl rfl)) ?_
    refine ro_nil ?_
    refine keepK hK3 [0, 1, 4, 24] (by dsimp) (by dsimp) ?_
    refine T.cond rfl (fun hc => ?_) (fun hc => ?_) -- cond 1
    · (try simp only [decide_eq_true_eq, decide_eq_false_iff_not, beq_iff_eq, beq_eq_false_iff_ne, bne_iff_ne, bne_eq_false_iff_eq, ne_eq, Bool.not_eq_true', Bool.not_eq_false'] at hc)
      refine T.seq fun K5 hK5 => ?_
      refine T.region ?_ -- region 2
      refine ro rfl rfl (OpOk.step (ok_build rfl ti_api_Rec rfl)) ?_
      refine ro rfl rfl (OpOk.step (ok_store rfl ti_api_Rec (by decide) rfl rfl rfl rfl rfl (by first | exact Nat.le_of_ble_eq_true rfl | simp) (by first | exact .inl ⟨rfl, rfl⟩ | exact .inr rfl))) ?_
      refine ro rfl rfl (OpOk.step (ok_move (.inr rfl))) ?_
      refine ro rfl rfl (OpOk.step (ok_move (.inr rfl))) ?_
      refine ro_nil ?_
      refine keepK hK5 [4, 5, 6] (by dsimp) (by dsimp) ?_
      refine T.ret (hQ _ _ _ rfl ?_).1 -- ret 2
      exact by first | (rw [getR_1 (by omega)]; exact ((TEnt.put1 0 (x' := .tup [.agg (RcC rc0), .int 0, .int 1]) (by show Ent _ (.tup [.agg [.int 0, .int 0, .int 0, .int 0, .int 0, .int 0, .int 0, .int 0, .int 0, .v (.slice none 0 0)], .int 0, .int _]) _; exact Ent.tup (EntL.cons rc0_view (EntL.refl _)))).trans (TEnt.fin [] (by decide) (by simp) rfl ⟨by simp [AV.ren, renL, RcC_ren], trivial⟩))) | (rw [getR_2 (by assumption) (by omega)]; exact ((TEnt.put1 0 (x' := .tup [.agg (RcC rc0), .int 0, .int 14]) (by show Ent _ (.tup [.agg [.int 0, .int 0, .int 0, .int 0, .int 0, .int 0, .int 0, .int 0, .int 0, .v (.slice none 0 0)], .int 0, .int _]) _; exact Ent.tup (EntL.cons rc0_view (EntL.refl _)))).trans (TEnt.fin [] (by decide) (by simp) rfl ⟨by simp [AV.ren, renL, RcC_ren], trivial⟩))) | (rw [getR_3 (by assumption) (by assumption) (by assumption)]; exact ((TEnt.put1 0 (x' := .tup [.agg (RcC rc0), .int 0, .int 13]) (by show Ent _ (.tup [.agg [.int 0, .int 0, .int 0, .int 0, .int 0, .int 0, .int 0, .int 0, .int 0, .v (.slice none 0 0)], .int 0, .int _]) _; exact Ent.tup (EntL.cons rc0_view (EntL.refl _)))).trans (TEnt.fin [] (by decide) (by simp) rfl ⟨by simp [AV.ren, renL, RcC_ren], trivial⟩))) | (rw [getR_4 (by assumption) (by assumption) (by assumption) (by assumption)]; exact ((TEnt.put1 0 (x' := .tup [.agg (RcC rc0), .int 0, .int 14]) (by show Ent _ (.tup [.agg [.int 0, .int 0, .int 0, .int 0, .int 0, .int 0, .int 0, .int 0, .int 0, .v (.slice none 0 0)], .int 0, .int _]) _; exact Ent.tup (EntL.cons rc0_view (EntL.refl _)))).trans (TEnt.fin [] (by decide) (by simp) rfl ⟨by simp [AV.ren, renL, RcC_ren], trivial⟩))) | (rw [getR_5 (by assumption) (by assumption) (by assumption) (by assumption) (by assumption)]; exact ((TEnt.put1 0 (x' := .tup [.agg (RcC rc0), .int 0, .int 15]) (by show Ent _ (.tup [.agg [.int 0, .int 0, .int 0, .int 0, .int 0, .int 0, .int 0, .int 0, .int 0, .v (.slice none 0 0)], .int 0, .int _]) _; exact Ent.tup (EntL.cons rc0_view (EntL.refl _)))).trans (TEnt.fin [] (by decide) (by simp) rfl ⟨by simp [AV.ren, renL, RcC_ren], trivial⟩))) | (rw [getR_6 (by assumption) (by assumption) (by assumption) (by assumption) (by assumption) (fun h => absurd h.2 (by assumption))]; exact ((TEnt.put1 0 (x' := .tup [.agg (RcC rc0), .int 0, .int 13]) (by show Ent _ (.tup [.agg [.int 0, .int 0, .int 0, .int 0, .int 0, .int 0, .int 0, .int 0, .int 0, .v (.slice none 0 0)], .int 0, .int _]) _; exact Ent.tup (EntL.cons rc0_view (EntL.refl _)))).trans (TEnt.fin [] (by decide) (by simp) rfl ⟨by simp [AV.ren, renL, RcC_ren], trivial⟩))) | (rw [getR_6 (by assumption) (by assumption) (by assumption) (by assumption) (by assumption) (fun h => by have h1 := h.1; unfold parOk at h1; omega)]; exact ((TEnt.put1 0 (x' := .tup [.agg (RcC rc0), .int 0, .int 13]) (by show Ent _ (.tup [.agg [.int 0, .int 0, .int 0, .int 0, .int 0, .int 0, .int 0, .int 0, .int 0, .v (.slice none 0 0)], .int 0, .int _]) _; exact Ent.tup (EntL.cons rc0_view (EntL.refl _)))).trans (TEnt.fin [] (by decide) (by simp) rfl ⟨by simp [AV.ren, renL, RcC_ren], trivial⟩))) | (rw [getR_7 (by assumption) (by assumption) (by assumption) (by assumption) (by assumption) ⟨by assumption, by assumption⟩]; exact TEnt.fin [] (by decide) (by simp) rfl ⟨by show AV.ren (pos []) (.tup [.agg (RcC (xr (gP l))), .int _, .int _]) = _; simp [AV.ren, renL, RcC_ren], trivial⟩)
    · (try simp only [decide_eq_true_eq, decide_eq_false_iff_not, beq_iff_eq, beq_eq_false_iff_ne, bne_iff_ne, bne_eq_false_iff_eq, ne_eq, Bool.not_eq_true', Bool.not_eq_false'] at hc)
      have hk : 1 ≤ k ∧ k ≤ 4096 := by omega
      refine T.skip ?_
      refine keepK hK2 [0, 1, 4] (by dsimp) (by dsimp) ?_
      refine T.seq fun K6 hK6 => ?_
      refine T.seq fun K7 hK7 => ?_
      refine T.region ?_ -- region 3
      refine ro rfl rfl (OpOk.step (ok_move (.inl rfl))) ?_
      refine ro rfl rfl (OpOk.step (ok_len' rfl rfl ti_Luint8 rfl (by first | exact ints_length _ _ | exact rowsA_length _ _ | rfl))) ?_
      refine ro rfl rfl (OpOk.step (ok_binOp rfl ti_int rfl)) ?_
      refine ro_nil ?_
      refine keepK hK7 [0, 1, 4, 28] (by dsimp) (by dsimp) ?_
      refine T.cond rfl (fun hc => ?_) (fun hc => ?_) -- cond 2
      · (try simp only [decide_eq_true_eq, decide_eq_false_iff_not, beq_iff_eq, beq_eq_false_iff_ne, bne_iff_ne, bne_eq_false_iff_eq, ne_eq, Bool.not_eq_true', Bool.not_eq_false'] at hc)
        refine T.seq fun K8 hK8 => ?_
        refine T.region ?_ -- region 4
        refine ro rfl rfl (OpOk.step (ok_build rfl ti_api_Rec rfl)) ?_
        refine ro rfl rfl (OpOk.step (ok_store rfl ti_api_Rec (by decide) rfl rfl rfl rfl rfl (by first | exact Nat.le_of_ble_eq_true rfl | simp) (by first | exact .inl ⟨rfl, rfl⟩ | exact .inr rfl))) ?_
        refine ro rfl rfl (OpOk.step (ok_move (.inr rfl))) ?_
        refine ro rfl rfl (OpOk.step (ok_move (.inr rfl))) ?_
        refine ro_nil ?_
        refine keepK hK8 [4, 5, 6] (by dsimp) (by dsimp) ?_
        refine T.ret (hQ _ _ _ rfl ?_).1 -- ret 3
        exact by first | (rw [getR_1 (by omega)]; exact ((TEnt.put1 0 (x' := .tup [.agg (RcC rc0), .int 0, .int 1]) (by show Ent _ (.tup [.agg [.int 0, .int 0, .int 0, .int 0, .int 0, .int 0, .int 0, .int 0, .int 0, .v (.slice none 0 0)], .int 0, .int _]) _; exact Ent.tup (EntL.cons rc0_view (EntL.refl _)))).trans (TEnt.fin [] (by decide) (by simp) rfl ⟨by simp [AV.ren, renL, RcC_ren], trivial⟩))) | (rw [getR_2 (by assumption) (by omega)]; exact ((TEnt.put1 0 (x' := .tup [.agg (RcC rc0), .int 0, .int 14]) (by show Ent _ (.tup [.agg [.int 0, .int 0, .int 0, .int 0, .int 0, .int 0, .int 0, .int 0, .int 0, .v (.slice none 0 0)], .int 0, .int _]) _; exact Ent.tup (EntL.cons rc0_view (EntL.refl _)))).trans (TEnt.fin [] (by decide) (by simp) rfl ⟨by simp [AV.ren, renL, RcC_ren], trivial⟩))) | (rw [getR_3 (by assumption) (by assumption) (by assumption)]; exact ((TEnt.put1 0 (x' := .tup [.agg (RcC rc0), .int 0, .int 13]) (by show Ent _ (.tup [.agg [.int 0, .int 0, .int 0, .int 0, .int 0, .int 0, .int 0, .int 0, .int 0, .v (.slice none 0 0)], .int 0, .int _]) _; exact Ent.tup (EntL.cons rc0_view (EntL.refl _)))).trans (TEnt.fin [] (by decide) (by simp) rfl ⟨by simp [AV.ren, renL, RcC_ren], trivial⟩))) | (rw [getR_4 (by assumption) (by assumption) (by assumption) (by assumption)]; exact ((TEnt.put1 0 (x' := .tup [.agg (RcC rc0), .int 0, .int 14]) (by show Ent _ (.tup [.agg [.int 0, .int 0, .int 0, .int 0, .int 0, .int 0, .int 0, .int 0, .int 0, .v (.slice none 0 0)], .int 0, .int _]) _; exact Ent.tup (EntL.cons rc0_view (EntL.refl _)))).trans (TEnt.fin [] (by decide) (by simp) rfl ⟨by simp [AV.ren, renL, RcC_ren], trivial⟩))) | (rw [getR_5 (by assumption) (by assumption) (by assumption) (by assumption) (by assumption)]; exact ((TEnt.put1 0 (x' := .tup [.agg (RcC rc0), .int 0, .int 15]) (by show Ent _ (.tup [.agg [.int 0, .int 0, .int 0, .int 0, .int 0, .int 0, .int 0, .int 0, .int 0, .v (.slice none 0 0)], .int 0, .int _]) _; exact Ent.tup (EntL.cons rc0_view (EntL.refl _)))).trans (TEnt.fin [] (by decide) (by simp) rfl ⟨by simp [AV.ren, renL, RcC_ren], trivial⟩))) | (rw [getR_6 (by assumption) (by assumption) (by assumption) (by assumption) (by assumption) (fun h => absurd h.2 (by assumption))]; exact ((TEnt.put1 0 (x' := .tup [.agg (RcC rc0), .int 0, .int 13]) (by show Ent _ (.tup [.agg [.int 0, .int 0, .int 0, .int 0, .int 0, .int 0, .int 0, .int 0, .int 0, .v (.slice none 0 0)], .int 0, .int _]) _; exact Ent.tup (EntL.cons rc0_view (EntL.refl _)))).trans (TEnt.fin [] (by decide) (by simp) rfl ⟨by simp [AV.ren, renL, RcC_ren], trivial⟩))) | (rw [getR_6 (by assumption) (by assumption) (by assumption) (by assumption) (by assumption) (fun h => by have h1 := h.1; unfold parOk at h1; omega)]; exact ((TEnt.put1 0 (x' := .tup [.agg (RcC rc0), .int 0, .int 13]) (by show Ent _ (.tup [.agg [.int 0, .int 0, .int 0, .int 0, .int 0, .int 0, .int 0, .int 0, .int 0, .v (.slice none 0 0)], .int 0, .int _]) _; exact Ent.tup (EntL.cons rc0_view (EntL.refl _)))).trans (TEnt.fin [] (by decide) (by simp) rfl ⟨by simp [AV.ren, renL, RcC_ren], trivial⟩))) | (rw [getR_7 (by assumption) (by assumption) (by assumption) (by assumption) (by assumption) ⟨by assumption, by assumption⟩]; exact TEnt.fin [] (by decide) (by simp) rfl ⟨by show AV.ren (pos []) (.tup [.agg (RcC (xr (gP l))), .int _, .int _]) = _; simp [AV.ren, renL, RcC_ren], trivial⟩)
      · (try simp only [decide_eq_true_eq, decide_eq_false_iff_not, beq_iff_eq, beq_eq_false_iff_ne, bne_iff_ne, bne_eq_false_iff_eq, ne_eq, Bool.not_eq_true', Bool.not_eq_false'] at hc)
        have h16 : ¬ l.length < 16 := by omega
        have hn := gN_bd (l := l)
        have hm := gM_bd (l := l) hk
        refine T.skip ?_
        refine keepK hK6 [0, 1, 4] (by dsimp) (by dsimp) ?_
        refine T.seq fun K9 hK9 => ?_
        refine T.region ?_ -- region 5
        refine ro rfl rfl (OpOk.step (ok_move (.inl rfl))) ?_
        refine ro rfl rfl (OpOk.step (ok_build rfl ti_revetmentref01_Reader rfl)) ?_
        refine ro rfl rfl (OpOk.step (ok_alloc rfl ti_revetmentref01_Reader rfl (by decide))) ?_
        refine ro rfl rfl (OpOk.step (ok_store rfl ti_revetmentref01_Reader (by decide) rfl rfl rfl rfl rfl (by first | exact Nat.le_of_ble_eq_true rfl | simp) (by first | exact .inl ⟨rfl, rfl⟩ | exact .inr rfl))) ?_
        refine ro_nil ?_
        refine keepK hK9 [0, 1, 4, 7] (by dsimp) (by dsimp) ?_
        refine T.seq fun K10 hK10 => ?_
        refine T.region ?_ -- region 6
        refine ro rfl rfl (OpOk.step (ok_load rfl ti_revetmentref01_Reader rfl rfl)) ?_
        refine ro rfl rfl (ok_call rfl rfl rfl (((rint_ok l 0 0 0 1048656 hB (by omega) hl).plain (by show renL (pos []) [.agg [.fz 1 (ints .u8 l), .int 0, .int 0], .int 0, .int 1048656] = _; simp [RC, renL, AV.ren, renL_ints]) (by simp [RC, AV.ren, renL, renL_ints])).eq (x' := .tup [.agg [.fz 1 (ints .u8 l), .int (gQ0 l).1, .int (gQ0 l).2.1], .int (gN l)]) (by rw [gQ0_eq (by omega)]; rfl) rfl)) ?_
        refine ro rfl rfl (OpOk.step (ok_move (.inl rfl))) ?_
        refine ro rfl rfl (OpOk.step (ok_extract rfl rfl rfl)) ?_
        refine ro rfl rfl (OpOk.step (ok_extract rfl rfl rfl)) ?_
        refine ro rfl rfl (OpOk.step ((ok_store rfl ti_revetmentref01_Reader (by decide) rfl rfl rfl rfl rfl (Nat.le_of_ble_eq_true rfl) (.inl ⟨rfl, rfl⟩)).eq (H'' := [some ZB, some (R l (gQ0 l).1 (gQ0 l).2.1)]) rfl rfl)) ?_
        refine ro rfl rfl (OpOk.step (ok_move (.inr rfl))) ?_
        refine ro_nil ?_
        refine keepK hK10 [0, 1, 4, 7, 8] (by dsimp) (by dsimp) ?_
        refine T.seq fun K11 hK11 => ?_
        refine T.seq fun K12 hK12 => ?_
        refine T.region ?_ -- region 7
        refine ro rfl rfl (OpOk.step (ok_fieldAddr rfl ti_revetmentref01_Reader rfl rfl ti_int (by decide) rfl)) ?_
        refine ro rfl rfl (OpOk.step (ok_load rfl ti_int rfl rfl)) ?_
        refine ro rfl rfl (OpOk.step (ok_binOp rfl ti_int rfl)) ?_
        refine ro_nil ?_
        refine keepK hK12 [0, 1, 4, 7, 8, 39] (by dsimp) (by dsimp) ?_
        refine T.cond rfl (fun hc => ?_) (fun hc => ?_) -- cond 3
        · (try simp only [decide_eq_true_eq, decide_eq_false_iff_not, beq_iff_eq, beq_eq_false_iff_ne, bne_iff_ne, bne_eq_false_iff_eq, ne_eq, Bool.not_eq_true', Bool.not_eq_false'] at hc)
          have h3 : (gQ1 l).2.1 ≠ 0 := (gQ1_err (by omega)).2 hc
          refine T.seq fun K13 hK13 => ?_
          refine T.region ?_ -- region 8
          refine ro rfl rfl (OpOk.step (ok_build rfl ti_api_Rec rfl)) ?_
          refine ro rfl rfl (OpOk.step (ok_store rfl ti_api_Rec (by decide) rfl rfl rfl rfl rfl (by first | exact Nat.le_of_ble_eq_true rfl | simp) (by first | exact .inl ⟨rfl, rfl⟩ | exact .inr rfl))) ?_
          refine ro rfl rfl (OpOk.step (ok_move (.inr rfl))) ?_
          refine ro rfl rfl (OpOk.step (ok_move (.inr rfl))) ?_
          refine ro_nil ?_
          refine keepK hK13 [4, 5, 6] (by dsimp) (by dsimp) ?_
          refine T.ret (hQ _ _ _ rfl ?_).1 -- ret 4
          exact by first | (rw [getR_1 (by omega)]; exact ((TEnt.put1 0 (x' := .tup [.agg (RcC rc0), .int 0, .int 1]) (by show Ent _ (.tup [.agg [.int 0, .int 0, .int 0, .int 0, .int 0, .int 0, .int 0, .int 0, .int 0, .v (.slice none 0 0)], .int 0, .int _]) _; exact Ent.tup (EntL.cons rc0_view (EntL.refl _)))).trans (TEnt.fin [] (by decide) (by simp) rfl ⟨by simp [AV.ren, renL, RcC_ren], trivial⟩))) | (rw [getR_2 (by assumption) (by omega)]; exact ((TEnt.put1 0 (x' := .tup [.agg (RcC rc0), .int 0, .int 14]) (by show Ent _ (.tup [.agg [.int 0, .int 0, .int 0, .int 0, .int 0, .int 0, .int 0, .int 0, .int 0, .v (.slice none 0 0)], .int 0, .int _]) _; exact Ent.tup (EntL.cons rc0_view (EntL.refl _)))).trans (TEnt.fin [] (by decide) (by simp) rfl ⟨by simp [AV.ren, renL, RcC_ren], trivial⟩))) | (rw [getR_3 (by assumption) (by assumption) (by assumption)]; exact ((TEnt.put1 0 (x' := .tup [.agg (RcC rc0), .int 0, .int 13]) (by show Ent _ (.tup [.agg [.int 0, .int 0, .int 0, .int 0, .int 0, .int 0, .int 0, .int 0, .int 0, .v (.slice none 0 0)], .int 0, .int _]) _; exact Ent.tup (EntL.cons rc0_view (EntL.refl _)))).trans (TEnt.fin [] (by decide) (by simp) rfl ⟨by simp [AV.ren, renL, RcC_ren], trivial⟩))) | (rw [getR_4 (by assumption) (by assumption) (by assumption) (by assumption)]; exact ((TEnt.put1 0 (x' := .tup [.agg (RcC rc0), .int 0, .int 14]) (by show Ent _ (.tup [.agg [.int 0, .int 0, .int 0, .int 0, .int 0, .int 0, .int 0, .int 0, .int 0, .v (.slice none 0 0)], .int 0, .int _]) _; exact Ent.tup (EntL.cons rc0_view (EntL.refl _)))).trans (TEnt.fin [] (by decide) (by simp) rfl ⟨by simp [AV.ren, renL, RcC_ren], trivial⟩))) | (rw [getR_5 (by assumption) (by assumption) (by assumption) (by assumption) (by assumption)]; exact ((TEnt.put1 0 (x' := .tup [.agg (RcC rc0), .int 0, .int 15]) (by show Ent _ (.tup [.agg [.int 0, .int 0, .int 0, .int 0, .int 0, .int 0, .int 0, .int 0, .int 0, .v (.slice none 0 0)], .int 0, .int _]) _; exact Ent.tup (EntL.cons rc0_view (EntL.refl _)))).trans (TEnt.fin [] (by decide) (by simp) rfl ⟨by simp [AV.ren, renL, RcC_ren], trivial⟩))) | (rw [getR_6 (by assumption) (by assumption) (by assumption) (by assumption) (by assumption) (fun h => absurd h.2 (by assumption))]; exact ((TEnt.put1 0 (x' := .tup [.agg (RcC rc0), .int 0, .int 13]) (by show Ent _ (.tup [.agg [.int 0, .int 0, .int 0, .int 0, .int 0, .int 0, .int 0, .int 0, .int 0, .v (.slice none 0 0)], .int 0, .int _]) _; exact Ent.tup (EntL.cons rc0_view (EntL.refl _)))).trans (TEnt.fin [] (by decide) (by simp) rfl ⟨by simp [AV.ren, renL, RcC_ren], trivial⟩))) | (rw [getR_6 (by assumption) (by assumption) (by assumption) (by assumption) (by assumption) (fun h => by have h1 := h.1; unfold parOk at h1; omega)]; exact ((TEnt.put1 0 (x' := .tup [.agg (RcC rc0), .int 0, .int 13]) (by show Ent _ (.tup [.agg [.int 0, .int 0, .int 0, .int 0, .int 0, .int 0, .int 0, .int 0, .int 0, .v (.slice none 0 0)], .int 0, .int _]) _; exact Ent.tup (EntL.cons rc0_view (EntL.refl _)))).trans (TEnt.fin [] (by decide) (by simp) rfl ⟨by simp [AV.ren, renL, RcC_ren], trivial⟩))) | (rw [getR_7 (by assumption) (by assumption) (by assumption) (by assumption) (by assumption) ⟨by assumption, by assumption⟩]; exact TEnt.fin [] (by decide) (by simp) rfl ⟨by show AV.ren (pos []) (.tup [.agg (RcC (xr (gP l))), .int _, .int _]) = _; simp [AV.ren, renL, RcC_ren], trivial⟩)
        · (try simp only [decide_eq_true_eq, decide_eq_false_iff_not, beq_iff_eq, beq_eq_false_iff_ne, bne_iff_ne, bne_eq_false_iff_eq, ne_eq, Bool.not_eq_true', Bool.not_eq_false'] at hc)
          have h3 : ¬ (gQ1 l).2.1 ≠ 0 := fun h => (gQ1_err (by omega)).1 h (by simpa using hc)
          have h0 : (gQ0 l).2.1 = 0 := by simpa using hc
          refine T.skip ?_
          refine keepK hK11 [0, 1, 4, 7, 8] (by dsimp) (by dsimp) ?_
          refine T.seq fun K14 hK14 => ?_
          refine T.region ?_ -- region 9
          refine ro rfl rfl (OpOk.step (ok_load rfl ti_revetmentref01_Reader rfl rfl)) ?_
          refine ro rfl rfl (ok_call rfl rfl rfl (((rint_ok l (gQ0 l).1 (gQ0 l).2.1 (-9223372036854775808) 9223372036854775807 hB (by rw [gQ0_at h0]; omega) hl).plain (by show renL (pos []) [.agg [.fz 1 (ints .u8 l), .int _, .int _], .int _, .int _] = _; simp [RC, renL, AV.ren, renL_ints]) (by simp [RC, AV.ren, renL, renL_ints])).eq (x' := .tup [.agg [.fz 1 (ints .u8 l), .int (gQ1 l).1, .int (gQ1 l).2.1], .int (gQ1 l).2.2]) (by rw [gQ1_eq (by omega) h0]; rfl) rfl)) ?_
          refine ro rfl rfl (OpOk.step (ok_move (.inl rfl))) ?_
          refine ro rfl rfl (OpOk.step (ok_extract rfl rfl rfl)) ?_
          refine ro rfl rfl (OpOk.step (ok_extract rfl rfl rfl)) ?_
          refine ro rfl rfl (OpOk.step ((ok_store rfl ti_revetmentref01_Reader (by decide) rfl rfl rfl rfl rfl (Nat.le_of_ble_eq_true rfl) (.inl ⟨rfl, rfl⟩)).eq (H'' := [some ZB, some (R l (gQ1 l).1 (gQ1 l).2.1)]) rfl rfl)) ?_
          refine ro rfl rfl (OpOk.step (ok_move (.inr rfl))) ?_
          refine ro_nil ?_
          refine keepK hK14 [0, 1, 4, 8, 9] (by dsimp) (by dsimp) ?_
          refine T.seq fun K15 hK15 => ?_
          refine T.region ?_ -- region 10
          refine ro rfl rfl (OpOk.step (ok_move (.inr rfl))) ?_
          refine ro_nil ?_
          refine keepK hK15 [0, 1, 4, 8, 9, 10] (by dsimp) (by dsimp) ?_
          refine T.seq fun K16 hK16 => ?_
          refine T.block ?_
          refine T.loopI (ι := Nat) (fun i => (i : Int) ≤ gM l k) (fun i => (gM l k).toNat - i) (fun i => ([(0, .fz 1 (ints .u8 l)), (1, .int k), (4, .ref 0 0 0), (8, .int (gN l)), (9, .int (gQ1 l).2.2), (10, .int i)], [some ZB, some (R l (gQ1 l).1 (gQ1 l).2.1)])) 0 (by simp; omega) (TEnt.toH rfl ⟨rfl, rfl, rfl, rfl, rfl, rfl, trivial⟩) (fun i hi => ?_) -- loop 1
          have hik := mul_bd (a := (i : Int)) (b := k) (A := 1052767) (B := 4096) (by omega) (by omega) (by omega) (by omega)
          refine T.seq fun K17 hK17 => ?_
          refine T.seq fun K18 hK18 => ?_
          refine T.region ?_ -- region 11
          refine ro rfl rfl (OpOk.step (ok_move (.inl rfl))) ?_
          refine ro rfl rfl (OpOk.step (ok_move (.inl rfl))) ?_
          refine ro rfl rfl (OpOk.step (ok_mul64 rfl ti_int rfl rfl (by omega) (by omega))) ?_
          refine ro rfl rfl (OpOk.step (ok_move (.inl rfl))) ?_
          refine ro rfl rfl (OpOk.step (ok_add64 rfl ti_int rfl rfl (by omega) (by omega))) ?_
          refine ro rfl rfl (OpOk.step (ok_binOp rfl ti_int rfl)) ?_
          refine ro_nil ?_
          refine keepK hK18 [0, 1, 4, 8, 9, 10, 51] (by dsimp) (by dsimp) ?_
          refine T.cond rfl (fun hc => ?_) (fun hc => ?_) -- cond 4
          · (try simp only [decide_eq_true_eq, decide_eq_false_iff_not, beq_iff_eq, beq_eq_false_iff_ne, bne_iff_ne, bne_eq_false_iff_eq, ne_eq, Bool.not_eq_true', Bool.not_eq_false'] at hc)
            have hlt : (i : Int) < gM l k := (gM_iff hk).1 hc
            refine T.skip ?_
            refine keepK hK17 [0, 1, 4, 8, 9, 10] (by dsimp) (by dsimp) ?_
            refine T.block ?_
            refine T.region ?_ -- region 12
            refine ro rfl rfl (OpOk.step (ok_move (.inl rfl))) ?_
            refine ro rfl rfl (OpOk.step (ok_add64 rfl ti_int rfl rfl (by omega) (by omega))) ?_
            refine ro rfl rfl (OpOk.step (ok_move (.inr rfl))) ?_
            refine ro_nil ?_
            exact ⟨i + 1, by omega, by omega, TEnt.toH rfl ⟨rfl, rfl, rfl, rfl, rfl, rfl, trivial⟩⟩
          · (try simp only [decide_eq_true_eq, decide_eq_false_iff_not, beq_iff_eq, beq_eq_false_iff_ne, bne_iff_ne, bne_eq_false_iff_eq, ne_eq, Bool.not_eq_true', Bool.not_eq_false'] at hc)
            have him : (i : Int) = gM l k := by
              have : ¬ (i : Int) < gM l k := fun h => hc ((gM_iff hk).2 h)
              omega
            rw [him]
            refine T.exit ?_
            refine keepK hK16 [0, 1, 4, 8, 9, 10] (by dsimp) (by dsimp) ?_
            refine T.seq fun K19 hK19 => ?_
            refine T.seq fun K20 hK20 => ?_
            refine T.region ?_ -- region 13
            refine ro rfl rfl (OpOk.step (ok_move (.inl rfl))) ?_
            refine ro rfl rfl (OpOk.step (ok_move (.inl rfl))) ?_
            refine ro rfl rfl (OpOk.step (ok_mul64 rfl ti_int rfl rfl (by omega) (by omega))) ?_
            refine ro rfl rfl (OpOk.step (ok_move (.inl rfl))) ?_
            refine ro rfl rfl (OpOk.step (ok_len' rfl rfl ti_Luint8 rfl (by first | exact ints_length _ _ | exact rowsA_length _ _ | rfl))) ?_
            refine ro rfl rfl (OpOk.step (ok_binOp rfl ti_int rfl)) ?_
            refine ro_nil ?_
            refine keepK hK20 [0, 1, 4, 8, 9, 10, 59] (by dsimp) (by dsimp) ?_
            refine T.cond rfl (fun hc => ?_) (fun hc => ?_) -- cond 5
            · (try simp only [decide_eq_true_eq, decide_eq_false_iff_not, beq_iff_eq, beq_eq_false_iff_ne, bne_iff_ne, bne_eq_false_iff_eq, ne_eq, Bool.not_eq_true', Bool.not_eq_false'] at hc)
              have h4 : gM l k * k > l.length := hc
              refine T.seq fun K21 hK21 => ?_
              refine T.region ?_ -- region 14
              refine ro rfl rfl (OpOk.step (ok_build rfl ti_api_Rec rfl)) ?_
              refine ro rfl rfl (OpOk.step (ok_store rfl ti_api_Rec (by decide) rfl rfl rfl rfl rfl (by first | exact Nat.le_of_ble_eq_true rfl | simp) (by first | exact .inl ⟨rfl, rfl⟩ | exact .inr rfl))) ?_
              refine ro rfl rfl (OpOk.step (ok_move (.inr rfl))) ?_
              refine ro rfl rfl (OpOk.step (ok_move (.inr rfl))) ?_
              refine ro_nil ?_
              refine keepK hK21 [4, 5, 6] (by dsimp) (by dsimp) ?_
              refine T.ret (hQ _ _ _ rfl ?_).1 -- ret 5
              exact by first | (rw [getR_1 (by omega)]; exact ((TEnt.put1 0 (x' := .tup [.agg (RcC rc0), .int 0, .int 1]) (by show Ent _ (.tup [.agg [.int 0, .int 0, .int 0, .int 0, .int 0, .int 0, .int 0, .int 0, .int 0, .v (.slice none 0 0)], .int 0, .int _]) _; exact Ent.tup (EntL.cons rc0_view (EntL.refl _)))).trans (TEnt.fin [] (by decide) (by simp) rfl ⟨by simp [AV.ren, renL, RcC_ren], trivial⟩))) | (rw [getR_2 (by assumption) (by omega)]; exact ((TEnt.put1 0 (x' := .tup [.agg (RcC rc0), .int 0, .int 14]) (by show Ent _ (.tup [.agg [.int 0, .int 0, .int 0, .int 0, .int 0, .int 0, .int 0, .int 0, .int 0, .v (.slice none 0 0)], .int 0, .int _]) _; exact Ent.tup (EntL.cons rc0_view (EntL.refl _)))).trans (TEnt.fin [] (by decide) (by simp) rfl ⟨by simp [AV.ren, renL, RcC_ren], trivial⟩))) | (rw [getR_3 (by assumption) (by assumption) (by assumption)]; exact ((TEnt.put1 0 (x' := .tup [.agg (RcC rc0), .int 0, .int 13]) (by show Ent _ (.tup [.agg [.int 0, .int 0, .int 0, .int 0, .int 0, .int 0, .int 0, .int 0, .int 0, .v (.slice none 0 0)], .int 0, .int _]) _; exact Ent.tup (EntL.cons rc0_view (EntL.refl _)))).trans (TEnt.fin [] (by decide) (by simp) rfl ⟨by simp [AV.ren, renL, RcC_ren], trivial⟩))) | (rw [getR_4 (by assumption) (by assumption) (by assumption) (by assumption)]; exact ((TEnt.put1 0 (x' := .tup [.agg (RcC rc0), .int 0, .int 14]) (by show Ent _ (.tup [.agg [.int 0, .int 0, .int 0, .int 0, .int 0, .int 0, .int 0, .int 0, .int 0, .v (.slice none 0 0)], .int 0, .int _]) _; exact Ent.tup (EntL.cons rc0_view (EntL.refl _)))).trans (TEnt.fin [] (by decide) (by simp) rfl ⟨by simp [AV.ren, renL, RcC_ren], trivial⟩))) | (rw [getR_5 (by assumption) (by assumption) (by assumption) (by assumption) (by assumption)]; exact ((TEnt.put1 0 (x' := .tup [.agg (RcC rc0), .int 0, .int 15]) (by show Ent _ (.tup [.agg [.int 0, .int 0, .int 0, .int 0, .int 0, .int 0, .int 0, .int 0, .int 0, .v (.slice none 0 0)], .int 0, .int _]) _; exact Ent.tup (EntL.cons rc0_view (EntL.refl _)))).trans (TEnt.fin [] (by decide) (by simp) rfl ⟨by simp [AV.ren, renL, RcC_ren], trivial⟩))) | (rw [getR_6 (by assumption) (by assumption) (by assumption) (by assumption) (by assumption) (fun h => absurd h.2 (by assumption))]; exact ((TEnt.put1 0 (x' := .tup [.agg (RcC rc0), .int 0, .int 13]) (by show Ent _ (.tup [.agg [.int 0, .int 0, .int 0, .int 0, .int 0, .int 0, .int 0, .int 0, .int 0, .v (.slice none 0 0)], .int 0, .int _]) _; exact Ent.tup (EntL.cons rc0_view (EntL.refl _)))).trans (TEnt.fin [] (by decide) (by simp) rfl ⟨by simp [AV.ren, renL, RcC_ren], trivial⟩))) | (rw [getR_6 (by assumption) (by assumption) (by assumption) (by assumption) (by assumption) (fun h => by have h1 := h.1; unfold parOk at h1; omega)]; exact ((TEnt.put1 0 (x' := .tup [.agg (RcC rc0), .int 0, .int 13]) (by show Ent _ (.tup [.agg [.int 0, .int 0, .int 0, .int 0, .int 0, .int 0, .int 0, .int 0, .int 0, .v (.slice none 0 0)], .int 0, .int _]) _; exact Ent.tup (EntL.cons rc0_view (EntL.refl _)))).trans (TEnt.fin [] (by decide) (by simp) rfl ⟨by simp [AV.ren, renL, RcC_ren], trivial⟩))) | (rw [getR_7 (by assumption) (by assumption) (by assumption) (by assumption) (by assumption) ⟨by assumption, by assumption⟩]; exact TEnt.fin [] (by decide) (by simp) rfl ⟨by show AV.ren (pos []) (.tup [.agg (RcC (xr (gP l))), .int _, .int _]) = _; simp [AV.ren, renL, RcC_ren], trivial⟩)
            · (try simp only [decide_eq_true_eq, decide_eq_false_iff_not, beq_iff_eq, beq_eq_false_iff_ne, bne_iff_ne, bne_eq_false_iff_eq, ne_eq, Bool.not_eq_true', Bool.not_eq_false'] at hc)
              have h4 : ¬ gM l k * k > l.length := hc
              have hPl : (gP l).length ≤ l.length := by simp [gP]; omega
              have hPB : Bytes (gP l) := (hB.take _).drop _
              refine T.skip ?_
              refine keepK hK19 [0, 1, 4, 8, 9, 10] (by dsimp) (by dsimp) ?_
              refine T.seq fun K22 hK22 => ?_
              refine T.region ?_ -- region 15
              refine ro rfl rfl (OpOk.step (ok_move (.inl rfl))) ?_
              refine ro rfl rfl (OpOk.step (ok_move (.inl rfl))) ?_
              refine ro rfl rfl (OpOk.step (ok_add64 rfl ti_int rfl rfl (by omega) (by omega))) ?_
              refine ro rfl rfl (OpOk.step ((ok_slice rfl ti_Luint8 (.inl ⟨_, _, rfl, ti_uint8, rfl⟩) (zl := some 16) (zh := some (16 + gN l)) rfl rfl rfl (r := .fz 1 (ints .u8 (gP l))) (by
  have h1 : (16 : Int) ≤ 16 + gN l := by omega
  have h2 : 16 + gN l ≤ l.length := by omega
  have h3 : (16 : Int).toNat = 16 := rfl
  simp [sliceA, h1, h2, gP, ints, List.map_take, List.map_drop, h3])))) ?_
              refine ro rfl rfl (OpOk.step (ok_move (.inr rfl))) ?_
              refine ro_nil ?_
              refine keepK hK22 [0, 1, 4, 8, 9, 10, 11] (by dsimp) (by dsimp) ?_
              refine T.seq fun K23 hK23 => ?_
              refine T.seq fun K24 hK24 => ?_
              refine T.region ?_ -- region 16
              refine ro rfl rfl (OpOk.step (ok_move (.inl rfl))) ?_
              refine ro rfl rfl (OpOk.step (ok_move (.inl rfl))) ?_
              refine ro rfl rfl (ok_call rfl rfl rfl ((refOf_ok hPB (by omega)).plain (by simp [renL, AV.ren, renL_ints]) rfl)) ?_
              refine ro rfl rfl (OpOk.step ((ok_conv_int rfl ti_uint32 ti_int rfl rfl).eq (x' := .int (crcV (gP l))) (by rw [wrap_crc]) rfl)) ?_
              refine ro rfl rfl (OpOk.step (ok_binOp rfl ti_int rfl)) ?_
              refine ro_nil ?_
              refine keepK hK24 [0, 1, 4, 8, 10, 11, 69] (by dsimp) (by dsimp) ?_
              refine T.cond rfl (fun hc => ?_) (fun hc => ?_) -- cond 6
              · (try simp only [decide_eq_true_eq, decide_eq_false_iff_not, beq_iff_eq, beq_eq_false_iff_ne, bne_iff_ne, bne_eq_false_iff_eq, ne_eq, Bool.not_eq_true', Bool.not_eq_false'] at hc)
                have h5 : (gQ1 l).2.2 ≠ crcV (gP l) := by simpa using hc
                refine T.seq fun K25 hK25 => ?_
                refine T.region ?_ -- region 17
                refine ro rfl rfl (OpOk.step (ok_build rfl ti_api_Rec rfl)) ?_
                refine ro rfl rfl (OpOk.step (ok_store rfl ti_api_Rec (by decide) rfl rfl rfl rfl rfl (by first | exact Nat.le_of_ble_eq_true rfl | simp) (by first | exact .inl ⟨rfl, rfl⟩ | exact .inr rfl))) ?_
                refine ro rfl rfl (OpOk.step (ok_move (.inr rfl))) ?_
                refine ro rfl rfl (OpOk.step (ok_move (.inr rfl))) ?_
                refine ro_nil ?_
                refine keepK hK25 [4, 5, 6] (by dsimp) (by dsimp) ?_
                refine T.ret (hQ _ _ _ rfl ?_).1 -- ret 6
                exact by first | (rw [getR_1 (by omega)]; exact ((TEnt.put1 0 (x' := .tup [.agg (RcC rc0), .int 0, .int 1]) (by show Ent _ (.tup [.agg [.int 0, .int 0, .int 0, .int 0, .int 0, .int 0, .int 0, .int 0, .int 0, .v (.slice none 0 0)], .int 0, .int _]) _; exact Ent.tup (EntL.cons rc0_view (EntL.refl _)))).trans (TEnt.fin [] (by decide) (by simp) rfl ⟨by simp [AV.ren, renL, RcC_ren], trivial⟩))) | (rw [getR_2 (by assumption) (by omega)]; exact ((TEnt.put1 0 (x' := .tup [.agg (RcC rc0), .int 0, .int 14]) (by show Ent _ (.tup [.agg [.int 0, .int 0, .int 0, .int 0, .int 0, .int 0, .int 0, .int 0, .int 0, .v (.slice none 0 0)], .int 0, .int _]) _; exact Ent.tup (EntL.cons rc0_view (EntL.refl _)))).trans (TEnt.fin [] (by decide) (by simp) rfl ⟨by simp [AV.ren, renL, RcC_ren], trivial⟩))) | (rw [getR_3 (by assumption) (by assumption) (by assumption)]; exact ((TEnt.put1 0 (x' := .tup [.agg (RcC rc0), .int 0, .int 13]) (by show Ent _ (.tup [.agg [.int 0, .int 0, .int 0, .int 0, .int 0, .int 0, .int 0, .int 0, .int 0, .v (.slice none 0 0)], .int 0, .int _]) _; exact Ent.tup (EntL.cons rc0_view (EntL.refl _)))).trans (TEnt.fin [] (by decide) (by simp) rfl ⟨by simp [AV.ren, renL, RcC_ren], trivial⟩))) | (rw [getR_4 (by assumption) (by assumption) (by assumption) (by assumption)]; exact ((TEnt.put1 0 (x' := .tup [.agg (RcC rc0), .int 0, .int 14]) (by show Ent _ (.tup [.agg [.int 0, .int 0, .int 0, .int 0, .int 0, .int 0, .int 0, .int 0, .int 0, .v (.slice none 0 0)], .int 0, .int _]) _; exact Ent.tup (EntL.cons rc0_view (EntL.refl _)))).trans (TEnt.fin [] (by decide) (by simp) rfl ⟨by simp [AV.ren, renL, RcC_ren], trivial⟩))) | (rw [getR_5 (by assumption) (by assumption) (by assumption) (by assumption) (by assumption)]; exact ((TEnt.put1 0 (x' := .tup [.agg (RcC rc0), .int 0, .int 15]) (by show Ent _ (.tup [.agg [.int 0, .int 0, .int 0, .int 0, .int 0, .int 0, .int 0, .int 0, .int 0, .v (.slice none 0 0)], .int 0, .int _]) _; exact Ent.tup (EntL.cons rc0_view (EntL.refl _)))).trans (TEnt.fin [] (by decide) (by simp) rfl ⟨by simp [AV.ren, renL, RcC_ren], trivial⟩))) | (rw [getR_6 (by assumption) (by assumption) (by assumption) (by assumption) (by assumption) (fun h => absurd h.2 (by assumption))]; exact ((TEnt.put1 0 (x' := .tup [.agg (RcC rc0), .int 0, .int 13]) (by show Ent _ (.tup [.agg [.int 0, .int 0, .int 0, .int 0, .int 0, .int 0, .int 0, .int 0, .int 0, .v (.slice none 0 0)], .int 0, .int _]) _; exact Ent.tup (EntL.cons rc0_view (EntL.refl _)))).trans (TEnt.fin [] (by decide) (by simp) rfl ⟨by simp [AV.ren, renL, RcC_ren], trivial⟩))) | (rw [getR_6 (by assumption) (by assumption) (by assumption) (by assumption) (by assumption) (fun h => by have h1 := h.1; unfold parOk at h1; omega)]; exact ((TEnt.put1 0 (x' := .tup [.agg (RcC rc0), .int 0, .int 13]) (by show Ent _ (.tup [.agg [.int 0, .int 0, .int 0, .int 0, .int 0, .int 0, .int 0, .int 0, .int 0, .v (.slice none 0 0)], .int 0, .int _]) _; exact Ent.tup (EntL.cons rc0_view (EntL.refl _)))).trans (TEnt.fin [] (by decide) (by simp) rfl ⟨by simp [AV.ren, renL, RcC_ren], trivial⟩))) | (rw [getR_7 (by assumption) (by assumption) (by assumption) (by assumption) (by assumption) ⟨by assumption, by assumption⟩]; exact TEnt.fin [] (by decide) (by simp) rfl ⟨by show AV.ren (pos []) (.tup [.agg (RcC (xr (gP l))), .int _, .int _]) = _; simp [AV.ren, renL, RcC_ren], trivial⟩)
              · (try simp only [decide_eq_true_eq, decide_eq_false_iff_not, beq_iff_eq, beq_eq_false_iff_ne, bne_iff_ne, bne_eq_false_iff_eq, ne_eq, Bool.not_eq_true', Bool.not_eq_false'] at hc)
                have h5 : ¬ (gQ1 l).2.2 ≠ crcV (gP l) := by simpa using hc
                have hp := rdF_le (gP l) rLo rHi
                have hb9 : (rBody (gP l)).1 ≤ (gP l).length := rb_le (l := gP l) (e := (rdF (gP l) rLo rHi 9).2) (m := 1048576) (hp 9)
                refine T.skip ?_
                refine keepK hK23 [0, 1, 4, 8, 10, 11] (by dsimp) (by dsimp) ?_
                refine T.seq fun K26 hK26 => ?_
                refine T.region ?_ -- region 18
                refine ro rfl rfl (OpOk.step (ok_move (.inl rfl))) ?_
                refine ro rfl rfl (OpOk.step (ok_build rfl ti_revetmentref01_Reader rfl)) ?_
                refine ro rfl rfl (OpOk.step (ok_alloc rfl ti_revetmentref01_Reader rfl (by decide))) ?_
                refine ro rfl rfl (OpOk.step (ok_store rfl ti_revetmentref01_Reader (by decide) rfl rfl rfl rfl rfl (by first | exact Nat.le_of_ble_eq_true rfl | simp) (by first | exact .inl ⟨rfl, rfl⟩ | exact .inr rfl))) ?_
                refine ro_nil ?_
                refine keepK hK26 [0, 1, 4, 8, 10, 11, 12] (by dsimp) (by dsimp) ?_
                refine T.seq fun K27 hK27 => ?_
                refine T.region ?_ -- region 19
                refine ro rfl rfl (OpOk.step (ok_alloc rfl ti_A9int rfl (by decide))) ?_
                refine ro_nil ?_
                refine keepK hK27 [0, 1, 4, 8, 10, 11, 12, 13] (by dsimp) (by dsimp) ?_
                refine T.seq fun K28 hK28 => ?_
                refine T.seq fun K29 hK29 => ?_
                refine T.region ?_ -- region 20
                refine ro rfl rfl (OpOk.step (ok_move (.inr rfl))) ?_
                refine ro_nil ?_
                refine keepK hK29 [0, 1, 4, 8, 10, 11, 12, 13, 14] (by dsimp) (by dsimp) ?_
                refine T.block ?_
                refine T.loopI (ι := Nat) (fun i => i ≤ 9) (fun i => 9 - i) (fun i => ([(0, .fz 1 (ints .u8 l)), (1, .int k), (4, .ref 0 0 0), (8, .int (gN l)), (10, .int (gM l k)), (11, .fz 1 (ints .u8 (gP l))), (12, .ref 2 0 0), (13, .ref 3 0 0), (14, .int i)], [some ZB, some (R l (gQ1 l).1 (gQ1 l).2.1), some (R (gP l) (rdF (gP l) rLo rHi i).1 (rdF (gP l) rLo rHi i).2), some ⟨9, true, [.agg (ints .i64 (rdLF (rdFV (gP l) rLo rHi) i (9 - i)))]⟩])) 0 (Nat.zero_le _) (TEnt.toH rfl ⟨rfl, rfl, rfl, rfl, rfl, rfl, rfl, rfl, rfl, trivial⟩) (fun i hi => ?_) -- loop 2
                refine T.seq fun K30 hK30 => ?_
                refine T.seq fun K31 hK31 => ?_
                refine T.region ?_ -- region 21
                refine ro rfl rfl (OpOk.step (ok_move (.inl rfl))) ?_
                refine ro rfl rfl (OpOk.step (ok_binOp rfl ti_int rfl)) ?_
                refine ro_nil ?_
                refine keepK hK31 [0, 1, 4, 8, 10, 11, 12, 13, 14, 74] (by dsimp) (by dsimp) ?_
                refine T.cond rfl (fun hc => ?_) (fun hc => ?_) -- cond 7
                · (try simp only [decide_eq_true_eq, decide_eq_false_iff_not, beq_iff_eq, beq_eq_false_iff_ne, bne_iff_ne, bne_eq_false_iff_eq, ne_eq, Bool.not_eq_true', Bool.not_eq_false'] at hc)
                  have hi9 : i < 9 := by omega
                  obtain ⟨m, hm9⟩ : ∃ m, 9 - i = m + 1 := ⟨8 - i, by omega⟩
                  have hm' : 9 - (i + 1) = m := by omega
                  rw [hm9]
                  refine T.skip ?_
                  refine keepK hK30 [0, 1, 4, 8, 10, 11, 12, 13, 14] (by dsimp) (by dsimp) ?_
                  refine T.seq fun K32 hK32 => ?_
                  refine T.block ?_
                  refine T.seq fun K33 hK33 => ?_
                  refine T.region ?_ -- region 23
                  refine ro rfl rfl (OpOk.step (ok_move (.inr rfl))) ?_
                  refine ro rfl rfl (OpOk.step (ok_move (.inr rfl))) ?_
                  refine ro_nil ?_
                  refine keepK hK33 [0, 1, 4, 8, 10, 11, 12, 13, 14, 15, 16] (by dsimp) (by dsimp) ?_
                  refine T.seq fun K34 hK34 => ?_
                  refine T.seq fun K35 hK35 => ?_
                  refine T.region ?_ -- region 24
                  refine ro rfl rfl (OpOk.step (ok_move (.inl rfl))) ?_
                  refine ro rfl rfl (OpOk.step (ok_binOp rfl ti_int rfl)) ?_
                  refine ro_nil ?_
                  refine keepK hK35 [0, 1, 4, 8, 10, 11, 12, 13, 14, 15, 16, 78] (by dsimp) (by dsimp) ?_
                  refine T.cond rfl (fun hc => ?_) (fun hc => ?_) -- cond 8
                  · (try simp only [decide_eq_true_eq, decide_eq_false_iff_not, beq_iff_eq, beq_eq_false_iff_ne, bne_iff_ne, bne_eq_false_iff_eq, ne_eq, Bool.not_eq_true', Bool.not_eq_false'] at hc)
                    refine T.region ?_ -- region 25
                    refine ro rfl rfl (OpOk.step (ok_move (.inr rfl))) ?_
                    refine ro_nil ?_
                    refine keepK hK34 [0, 1, 4, 8, 10, 11, 12, 13, 14, 15, 16] (by dsimp) (by dsimp) ?_
                    refine T.seq fun K36 hK36 => ?_
                    refine T.seq fun K37 hK37 => ?_
                    refine T.region ?_ -- region 26
                    refine ro rfl rfl (OpOk.step (ok_move (.inl rfl))) ?_
                    refine ro rfl rfl (OpOk.step (ok_binOp rfl ti_int rfl)) ?_
                    refine ro_nil ?_
                    refine keepK hK37 [0, 1, 4, 8, 10, 11, 12, 13, 14, 15, 16, 80] (by dsimp) (by dsimp) ?_
                    refine T.cond rfl (fun hc => ?_) (fun hc => ?_) -- cond 9
                    · (try simp only [decide_eq_true_eq, decide_eq_false_iff_not, beq_iff_eq, beq_eq_false_iff_ne, bne_iff_ne, bne_eq_false_iff_eq, ne_eq, Bool.not_eq_true', Bool.not_eq_false'] at hc)
                      refine T.region ?_ -- region 27
                      refine ro rfl rfl (OpOk.step (ok_move (.inr rfl))) ?_
                      refine ro_nil ?_
                      refine keepK hK36 [0, 1, 4, 8, 10, 11, 12, 13, 14, 15, 16] (by dsimp) (by dsimp) ?_
                      refine T.region ?_ -- region 28
                      refine ro rfl rfl (OpOk.step (ok_move (.inl rfl))) ?_
                      refine ro rfl rfl (OpOk.step (ok_load rfl ti_revetmentref01_Reader rfl rfl)) ?_
                      refine ro rfl rfl (OpOk.step (ok_move (.inl rfl))) ?_
                      refine ro rfl rfl (OpOk.step (ok_move (.inl rfl))) ?_
                      refine ro rfl rfl (ok_call rfl rfl rfl (((rint_ok (gP l) (rdF (gP l) rLo rHi i).1 (rdF (gP l) rLo rHi i).2 (rLo i) (rHi i) hPB (hp _) (by omega)).plain (by
  have h1 : rLo i = rLo i := rfl
  unfold rLo rHi
  show renL (pos []) [.agg [.fz 1 (ints .u8 (gP l)), .int _, .int _], .int _, .int _] = _
  simp only [RC, renL, AV.ren, renL_ints]
  repeat' split
  all_goals first | rfl | (exfalso; omega)) (by simp [RC, AV.ren, renL, renL_ints])).eq (x' := .tup [.agg [.fz 1 (ints .u8 (gP l)), .int (rdF (gP l) rLo rHi (i + 1)).1, .int (rdF (gP l) rLo rHi (i + 1)).2], .int (rdFV (gP l) rLo rHi i)]) rfl rfl)) ?_
                      refine ro rfl rfl (OpOk.step (ok_move (.inl rfl))) ?_
                      refine ro rfl rfl (OpOk.step (ok_extract rfl rfl rfl)) ?_
                      refine ro rfl rfl (OpOk.step (ok_extract rfl rfl rfl)) ?_
                      refine ro rfl rfl (OpOk.step ((ok_store rfl ti_revetmentref01_Reader (by decide) rfl rfl rfl rfl rfl (Nat.le_of_ble_eq_true rfl) (.inl ⟨rfl, rfl⟩)).eq (H'' := [some ZB, some (R l (gQ1 l).1 (gQ1 l).2.1), some (R (gP l) (rdF (gP l) rLo rHi (i + 1)).1 (rdF (gP l) rLo rHi (i + 1)).2), some ⟨9, true, [.agg (ints .i64 (rdLF (rdFV (gP l) rLo rHi) i (m + 1)))]⟩]) rfl rfl)) ?_
                      refine ro rfl rfl (OpOk.step (by exact ok_indexAddr rfl ti_A9int (.inr ⟨_, rfl⟩) ti_int rfl (by omega) (r := .ref 3 0 i) (by show elemA _ (.array 9 3) (.ref 3 0 0) 1 (i : Int).toNat = _; simp [elemA, shiftA, hi9]))) ?_
                      refine ro rfl rfl (OpOk.step ((ok_store rfl ti_int (by decide) (id := 3) (j := 0) (f := i) rfl rfl rfl rfl rfl (by show i + 1 ≤ 9; omega) (.inr (by show (ints .i64 (rdLF (rdFV (gP l) rLo rHi) i (m + 1))).length = 9; rw [ints_length, rdLF_len]; omega))).eq (H'' := [some ZB, some (R l (gQ1 l).1 (gQ1 l).2.1), some (R (gP l) (rdF (gP l) rLo rHi (i + 1)).1 (rdF (gP l) rLo rHi (i + 1)).2), some ⟨9, true, [.agg (ints .i64 (rdLF (rdFV (gP l) rLo rHi) (i + 1) m))]⟩]) rfl (by show [_, _, _, some (⟨9, true, [putA 9 (.agg (ints .i64 (rdLF (rdFV (gP l) rLo rHi) i (m + 1)))) i (.int (rdFV (gP l) rLo rHi i)) 1]⟩ : Blk)] = _; rw [putA_ne (by decide), ← rdLF_put (rdFV (gP l) rLo rHi) i m]; rfl))) ?_
                      refine ro_nil ?_
                      refine keepK hK32 [0, 1, 4, 8, 10, 11, 12, 13, 14] (by dsimp) (by dsimp) ?_
                      refine T.region ?_ -- region 22
                      refine ro rfl rfl (OpOk.step (ok_move (.inl rfl))) ?_
                      refine ro rfl rfl (OpOk.step (ok_add64 rfl ti_int rfl rfl (by omega) (by omega))) ?_
                      refine ro rfl rfl (OpOk.step (ok_move (.inr rfl))) ?_
                      refine ro_nil ?_
                      exact ⟨i + 1, by omega, by omega, TEnt.toH (by rw [hm']) ⟨rfl, rfl, rfl, rfl, rfl, rfl, rfl, rfl, rfl, trivial⟩⟩
                    · (try simp only [decide_eq_true_eq, decide_eq_false_iff_not, beq_iff_eq, beq_eq_false_iff_ne, bne_iff_ne, bne_eq_false_iff_eq, ne_eq, Bool.not_eq_true', Bool.not_eq_false'] at hc)
                      refine T.skip ?_
                      refine keepK hK36 [0, 1, 4, 8, 10, 11, 12, 13, 14, 15, 16] (by dsimp) (by dsimp) ?_
                      refine T.region ?_ -- region 28
                      refine ro rfl rfl (OpOk.step (ok_move (.inl rfl))) ?_
                      refine ro rfl rfl (OpOk.step (ok_load rfl ti_revetmentref01_Reader rfl rfl)) ?_
                      refine ro rfl rfl (OpOk.step (ok_move (.inl rfl))) ?_
                      refine ro rfl rfl (OpOk.step (ok_move (.inl rfl))) ?_
                      refine ro rfl rfl (ok_call rfl rfl rfl (((rint_ok (gP l) (rdF (gP l) rLo rHi i).1 (rdF (gP l) rLo rHi i).2 (rLo i) (rHi i) hPB (hp _) (by omega)).plain (by
  have h1 : rLo i = rLo i := rfl
  unfold rLo rHi
  show renL (pos []) [.agg [.fz 1 (ints .u8 (gP l)), .int _, .int _], .int _, .int _] = _
  simp only [RC, renL, AV.ren, renL_ints]
  repeat' split
  all_goals first | rfl | (exfalso; omega)) (by simp [RC, AV.ren, renL, renL_ints])).eq (x' := .tup [.agg [.fz 1 (ints .u8 (gP l)), .int (rdF (gP l) rLo rHi (i + 1)).1, .int (rdF (gP l) rLo rHi (i + 1)).2], .int (rdFV (gP l) rLo rHi i)]) rfl rfl)) ?_
                      refine ro rfl rfl (OpOk.step (ok_move (.inl rfl))) ?_
                      refine ro rfl rfl (OpOk.step (ok_extract rfl rfl rfl)) ?_
                      refine ro rfl rfl (OpOk.step (ok_extract rfl rfl rfl)) ?_
                      refine ro rfl rfl (OpOk.step ((ok_store rfl ti_revetmentref01_Reader (by decide) rfl rfl rfl rfl rfl (Nat.le_of_ble_eq_true rfl) (.inl ⟨rfl, rfl⟩)).eq (H'' := [some ZB, some (R l (gQ1 l).1 (gQ1 l).2.1), some (R (gP l) (rdF (gP l) rLo rHi (i + 1)).1 (rdF (gP l) rLo rHi (i + 1)).2), some ⟨9, true, [.agg (ints .i64 (rdLF (rdFV (gP l) rLo rHi) i (m + 1)))]⟩]) rfl rfl)) ?_
                      refine ro rfl rfl (OpOk.step (by exact ok_indexAddr rfl ti_A9int (.inr ⟨_, rfl⟩) ti_int rfl (by omega) (r := .ref 3 0 i) (by show elemA _ (.array 9 3) (.ref 3 0 0) 1 (i : Int).toNat = _; simp [elemA, shiftA, hi9]))) ?_
                      refine ro rfl rfl (OpOk.step ((ok_store rfl ti_int (by decide) (id := 3) (j := 0) (f := i) rfl rfl rfl rfl rfl (by show i + 1 ≤ 9; omega) (.inr (by show (ints .i64 (rdLF (rdFV (gP l) rLo rHi) i (m + 1))).length = 9; rw [ints_length, rdLF_len]; omega))).eq (H'' := [some ZB, some (R l (gQ1 l).1 (gQ1 l).2.1), some (R (gP l) (rdF (gP l) rLo rHi (i + 1)).1 (rdF (gP l) rLo rHi (i + 1)).2), some ⟨9, true, [.agg (ints .i64 (rdLF (rdFV (gP l) rLo rHi) (i + 1) m))]⟩]) rfl (by show [_, _, _, some (⟨9, true, [putA 9 (.agg (ints .i64 (rdLF (rdFV (gP l) rLo rHi) i (m + 1)))) i (.int (rdFV (gP l) rLo rHi i)) 1]⟩ : Blk)] = _; rw [putA_ne (by decide), ← rdLF_put (rdFV (gP l) rLo rHi) i m]; rfl))) ?_
                      refine ro_nil ?_
                      refine keepK hK32 [0, 1, 4, 8, 10, 11, 12, 13, 14] (by dsimp) (by dsimp) ?_
                      refine T.region ?_ -- region 22
                      refine ro rfl rfl (OpOk.step (ok_move (.inl rfl))) ?_
                      refine ro rfl rfl (OpOk.step (ok_add64 rfl ti_int rfl rfl (by omega) (by omega))) ?_
                      refine ro rfl rfl (OpOk.step (ok_move (.inr rfl))) ?_
                      refine ro_nil ?_
                      exact ⟨i + 1, by omega, by omega, TEnt.toH (by rw [hm']) ⟨rfl, rfl, rfl, rfl, rfl, rfl, rfl, rfl, rfl, trivial⟩⟩
                  · (try simp only [decide_eq_true_eq, decide_eq_false_iff_not, beq_iff_eq, beq_eq_false_iff_ne, bne_iff_ne, bne_eq_false_iff_eq, ne_eq, Bool.not_eq_true', Bool.not_eq_false'] at hc)
                    refine T.skip ?_
                    refine keepK hK34 [0, 1, 4, 8, 10, 11, 12, 13, 14, 15, 16] (by dsimp) (by dsimp) ?_
                    refine T.seq fun K38 hK38 => ?_
                    refine T.seq fun K39 hK39 => ?_
                    refine T.region ?_ -- region 26
                    refine ro rfl rfl (OpOk.step (ok_move (.inl rfl))) ?_
                    refine ro rfl rfl (OpOk.step (ok_binOp rfl ti_int rfl)) ?_
                    refine ro_nil ?_
                    refine keepK hK39 [0, 1, 4, 8, 10, 11, 12, 13, 14, 15, 16, 80] (by dsimp) (by dsimp) ?_
                    refine T.cond rfl (fun hc => ?_) (fun hc => ?_) -- cond 10
                    · (try simp only [decide_eq_true_eq, decide_eq_false_iff_not, beq_iff_eq, beq_eq_false_iff_ne, bne_iff_ne, bne_eq_false_iff_eq, ne_eq, Bool.not_eq_true', Bool.not_eq_false'] at hc)
                      refine T.region ?_ -- region 27
                      refine ro rfl rfl (OpOk.step (ok_move (.inr rfl))) ?_
                      refine ro_nil ?_
                      refine keepK hK38 [0, 1, 4, 8, 10, 11, 12, 13, 14, 15, 16] (by dsimp) (by dsimp) ?_
                      refine T.region ?_ -- region 28
                      refine ro rfl rfl (OpOk.step (ok_move (.inl rfl))) ?_
                      refine ro rfl rfl (OpOk.step (ok_load rfl ti_revetmentref01_Reader rfl rfl)) ?_
                      refine ro rfl rfl (OpOk.step (ok_move (.inl rfl))) ?_
                      refine ro rfl rfl (OpOk.step (ok_move (.inl rfl))) ?_
                      refine ro rfl rfl (ok_call rfl rfl rfl (((rint_ok (gP l) (rdF (gP l) rLo rHi i).1 (rdF (gP l) rLo rHi i).2 (rLo i) (rHi i) hPB (hp _) (by omega)).plain (by
  have h1 : rLo i = rLo i := rfl
  unfold rLo rHi
  show renL (pos []) [.agg [.fz 1 (ints .u8 (gP l)), .int _, .int _], .int _, .int _] = _
  simp only [RC, renL, AV.ren, renL_ints]
  repeat' split
  all_goals first | rfl | (exfalso; omega)) (by simp [RC, AV.ren, renL, renL_ints])).eq (x' := .tup [.agg [.fz 1 (ints .u8 (gP l)), .int (rdF (gP l) rLo rHi (i + 1)).1, .int (rdF (gP l) rLo rHi (i + 1)).2], .int (rdFV (gP l) rLo rHi i)]) rfl rfl)) ?_
                      refine ro rfl rfl (OpOk.step (ok_move (.inl rfl))) ?_
                      refine ro rfl rfl (OpOk.step (ok_extract rfl rfl rfl)) ?_
                      refine ro rfl rfl (OpOk.step (ok_extract rfl rfl rfl)) ?_
                      refine ro rfl rfl (OpOk.step ((ok_store rfl ti_revetmentref01_Reader (by decide) rfl rfl rfl rfl rfl (Nat.le_of_ble_eq_true rfl) (.inl ⟨rfl, rfl⟩)).eq (H'' := [some ZB, some (R l (gQ1 l).1 (gQ1 l).2.1), some (R (gP l) (rdF (gP l) rLo rHi (i + 1)).1 (rdF (gP l) rLo rHi (i + 1)).2), some ⟨9, true, [.agg (ints .i64 (rdLF (rdFV (gP l) rLo rHi) i (m + 1)))]⟩]) rfl rfl)) ?_
                      refine ro rfl rfl (OpOk.step (by exact ok_indexAddr rfl ti_A9int (.inr ⟨_, rfl⟩) ti_int rfl (by omega) (r := .ref 3 0 i) (by show elemA _ (.array 9 3) (.ref 3 0 0) 1 (i : Int).toNat = _; simp [elemA, shiftA, hi9]))) ?_
                      refine ro rfl rfl (OpOk.step ((ok_store rfl ti_int (by decide) (id := 3) (j := 0) (f := i) rfl rfl rfl rfl rfl (by show i + 1 ≤ 9; omega) (.inr (by show (ints .i64 (rdLF (rdFV (gP l) rLo rHi) i (m + 1))).length = 9; rw [ints_length, rdLF_len]; omega))).eq (H'' := [some ZB, some (R l (gQ1 l).1 (gQ1 l).2.1), some (R (gP l) (rdF (gP l) rLo rHi (i + 1)).1 (rdF (gP l) rLo rHi (i + 1)).2), some ⟨9, true, [.agg (ints .i64 (rdLF (rdFV (gP l) rLo rHi) (i + 1) m))]⟩]) rfl (by show [_, _, _, some (⟨9, true, [putA 9 (.agg (ints .i64 (rdLF (rdFV (gP l) rLo rHi) i (m + 1)))) i (.int (rdFV (gP l) rLo rHi i)) 1]⟩ : Blk)] = _; rw [putA_ne (by decide), ← rdLF_put (rdFV (gP l) rLo rHi) i m]; rfl))) ?_
                      refine ro_nil ?_
                      refine keepK hK32 [0, 1, 4, 8, 10, 11, 12, 13, 14] (by dsimp) (by dsimp) ?_
                      refine T.region ?_ -- region 22
                      refine ro rfl rfl (OpOk.step (ok_move (.inl rfl))) ?_
                      refine ro rfl rfl (OpOk.step (ok_add64 rfl ti_int rfl rfl (by omega) (by omega))) ?_
                      refine ro rfl rfl (OpOk.step (ok_move (.inr rfl))) ?_
                      refine ro_nil ?_
                      exact ⟨i + 1, by omega, by omega, TEnt.toH (by rw [hm']) ⟨rfl, rfl, rfl, rfl, rfl, rfl, rfl, rfl, rfl, trivial⟩⟩
                    · (try simp only [decide_eq_true_eq, decide_eq_false_iff_not, beq_iff_eq, beq_eq_false_iff_ne, bne_iff_ne, bne_eq_false_iff_eq, ne_eq, Bool.not_eq_true', Bool.not_eq_false'] at hc)
                      refine T.skip ?_
                      refine keepK hK38 [0, 1, 4, 8, 10, 11, 12, 13, 14, 15, 16] (by dsimp) (by dsimp) ?_
                      refine T.region ?_ -- region 28
                      refine ro rfl rfl (OpOk.step (ok_move (.inl rfl))) ?_
                      refine ro rfl rfl (OpOk.step (ok_load rfl ti_revetmentref01_Reader rfl rfl)) ?_
                      refine ro rfl rfl (OpOk.step (ok_move (.inl rfl))) ?_
                      refine ro rfl rfl (OpOk.step (ok_move (.inl rfl))) ?_
                      refine ro rfl rfl (ok_call rfl rfl rfl (((rint_ok (gP l) (rdF (gP l) rLo rHi i).1 (rdF (gP l) rLo rHi i).2 (rLo i) (rHi i) hPB (hp _) (by omega)).plain (by
  have h1 : rLo i = rLo i := rfl
  unfold rLo rHi
  show renL (pos []) [.agg [.fz 1 (ints .u8 (gP l)), .int _, .int _], .int _, .int _] = _
  simp only [RC, renL, AV.ren, renL_ints]
  repeat' split
  all_goals first | rfl | (exfalso; omega)) (by simp [RC, AV.ren, renL, renL_ints])).eq (x' := .tup [.agg [.fz 1 (ints .u8 (gP l)), .int (rdF (gP l) rLo rHi (i + 1)).1, .int (rdF (gP l) rLo rHi (i + 1)).2], .int (rdFV (gP l) rLo rHi i)]) rfl rfl)) ?_
                      refine ro rfl rfl (OpOk.step (ok_move (.inl rfl))) ?_
                      refine ro rfl rfl (OpOk.step (ok_extract rfl rfl rfl)) ?_
                      refine ro rfl rfl (OpOk.step (ok_extract rfl rfl rfl)) ?_
                      refine ro rfl rfl (OpOk.step ((ok_store rfl ti_revetmentref01_Reader (by decide) rfl rfl rfl rfl rfl (Nat.le_of_ble_eq_true rfl) (.inl ⟨rfl, rfl⟩)).eq (H'' := [some ZB, some (R l (gQ1 l).1 (gQ1 l).2.1), some (R (gP l) (rdF (gP l) rLo rHi (i + 1)).1 (rdF (gP l) rLo rHi (i + 1)).2), some ⟨9, true, [.agg (ints .i64 (rdLF (rdFV (gP l) rLo rHi) i (m + 1)))]⟩]) rfl rfl)) ?_
                      refine ro rfl rfl (OpOk.step (by exact ok_indexAddr rfl ti_A9int (.inr ⟨_, rfl⟩) ti_int rfl (by omega) (r := .ref 3 0 i) (by show elemA _ (.array 9 3) (.ref 3 0 0) 1 (i : Int).toNat = _; simp [elemA, shiftA, hi9]))) ?_
                      refine ro rfl rfl (OpOk.step ((ok_store rfl ti_int (by decide) (id := 3) (j := 0) (f := i) rfl rfl rfl rfl rfl (by show i + 1 ≤ 9; omega) (.inr (by show (ints .i64 (rdLF (rdFV (gP l) rLo rHi) i (m + 1))).length = 9; rw [ints_length, rdLF_len]; omega))).eq (H'' := [some ZB, some (R l (gQ1 l).1 (gQ1 l).2.1), some (R (gP l) (rdF (gP l) rLo rHi (i + 1)).1 (rdF (gP l) rLo rHi (i + 1)).2), some ⟨9, true, [.agg (ints .i64 (rdLF (rdFV (gP l) rLo rHi) (i + 1) m))]⟩]) rfl (by show [_, _, _, some (⟨9, true, [putA 9 (.agg (ints .i64 (rdLF (rdFV (gP l) rLo rHi) i (m + 1)))) i (.int (rdFV (gP l) rLo rHi i)) 1]⟩ : Blk)] = _; rw [putA_ne (by decide), ← rdLF_put (rdFV (gP l) rLo rHi) i m]; rfl))) ?_
                      refine ro_nil ?_
                      refine keepK hK32 [0, 1, 4, 8, 10, 11, 12, 13, 14] (by dsimp) (by dsimp) ?_
                      refine T.region ?_ -- region 22
                      refine ro rfl rfl (OpOk.step (ok_move (.inl rfl))) ?_
                      refine ro rfl rfl (OpOk.step (ok_add64 rfl ti_int rfl rfl (by omega) (by omega))) ?_
                      refine ro rfl rfl (OpOk.step (ok_move (.inr rfl))) ?_
                      refine ro_nil ?_
                      exact ⟨i + 1, by omega, by omega, TEnt.toH (by rw [hm']) ⟨rfl, rfl, rfl, rfl, rfl, rfl, rfl, rfl, rfl, trivial⟩⟩
                · (try simp only [decide_eq_true_eq, decide_eq_false_iff_not, beq_iff_eq, beq_eq_false_iff_ne, bne_iff_ne, bne_eq_false_iff_eq, ne_eq, Bool.not_eq_true', Bool.not_eq_false'] at hc)
                  have hi9 : i = 9 := by omega
                  subst hi9
                  refine T.exit ?_
                  refine keepK hK28 [0, 1, 4, 8, 10, 11, 12, 13] (by dsimp) (by dsimp) ?_
                  refine T.seq fun K40 hK40 => ?_
                  refine T.region ?_ -- region 29
                  refine ro rfl rfl (OpOk.step (ok_load rfl ti_revetmentref01_Reader rfl rfl)) ?_
                  refine ro rfl rfl (ok_call rfl rfl rfl (((rbytes_ok (gP l) (rdF (gP l) rLo rHi 9).1 (rdF (gP l) rLo rHi 9).2 1048576 hPB (hp 9) (by omega)).plain (by show renL (pos []) [.agg [.fz 1 (ints .u8 (gP l)), .int _, .int _], .int _] = _; simp [RC, renL, AV.ren, renL_ints]) (by simp [RC, AV.ren, renL, renL_ints])).eq (x' := .tup [.agg [.fz 1 (ints .u8 (gP l)), .int (rBody (gP l)).1, .int (rBody (gP l)).2.1], .fz 1 (ints .u8 (rBody (gP l)).2.2)]) rfl rfl)) ?_
                  refine ro rfl rfl (OpOk.step (ok_move (.inl rfl))) ?_
                  refine ro rfl rfl (OpOk.step (ok_extract rfl rfl rfl)) ?_
                  refine ro rfl rfl (OpOk.step (ok_extract rfl rfl rfl)) ?_
                  refine ro rfl rfl (OpOk.step ((ok_store rfl ti_revetmentref01_Reader (by decide) rfl rfl rfl rfl rfl (Nat.le_of_ble_eq_true rfl) (.inl ⟨rfl, rfl⟩)).eq (H'' := [some ZB, some (R l (gQ1 l).1 (gQ1 l).2.1), some (R (gP l) (rBody (gP l)).1 (rBody (gP l)).2.1), some ⟨9, true, [.agg (ints .i64 (rdLF (rdFV (gP l) rLo rHi) 9 0))]⟩]) rfl rfl)) ?_
                  refine ro rfl rfl (OpOk.step (ok_move (.inr rfl))) ?_
                  refine ro_nil ?_
                  refine keepK hK40 [0, 1, 4, 8, 10, 11, 12, 13, 17] (by dsimp) (by dsimp) ?_
                  refine T.seq fun K41 hK41 => ?_
                  refine T.seq fun K42 hK42 => ?_
                  refine T.region ?_ -- region 30
                  refine ro rfl rfl (OpOk.step (ok_fieldAddr rfl ti_revetmentref01_Reader rfl rfl ti_int (by decide) rfl)) ?_
                  refine ro rfl rfl (OpOk.step (ok_load rfl ti_int rfl rfl)) ?_
                  refine ro rfl rfl (OpOk.step (ok_binOp rfl ti_int rfl)) ?_
                  refine ro_case rfl rfl (OpOk.step (ok_moveb (.inl rfl) rfl)) (fun hb => ?_) (fun hb => ?_)
                  · (try simp only [decide_eq_true_eq, decide_eq_false_iff_not, beq_iff_eq, beq_eq_false_iff_ne, bne_iff_ne, bne_eq_false_iff_eq, ne_eq, Bool.not_eq_true', Bool.not_eq_false'] at hb)
                    refine ro_skip rfl rfl ?_
                    refine ro_skip rfl rfl ?_
                    refine ro_skip rfl rfl ?_
                    refine ro_skip rfl rfl ?_
                    refine ro_skip rfl rfl ?_
                    refine ro rfl rfl (OpOk.step (ok_pickb (t := true) (d := true) rfl rfl rfl)) ?_
                    refine ro_nil ?_
                    refine keepK hK42 [0, 1, 4, 8, 10, 13, 17, 104] (by dsimp) (by dsimp) ?_
                    refine T.cond_true rfl ?_
                    refine T.seq fun K43 hK43 => ?_
                    refine T.region ?_ -- region 31
                    refine ro rfl rfl (OpOk.step (ok_build rfl ti_api_Rec rfl)) ?_
                    refine ro rfl rfl (OpOk.step (ok_store rfl ti_api_Rec (by decide) rfl rfl rfl rfl rfl (by first | exact Nat.le_of_ble_eq_true rfl | simp) (by first | exact .inl ⟨rfl, rfl⟩ | exact .inr rfl))) ?_
                    refine ro rfl rfl (OpOk.step (ok_move (.inr rfl))) ?_
                    refine ro rfl rfl (OpOk.step (ok_move (.inr rfl))) ?_
                    refine ro_nil ?_
                    refine keepK hK43 [4, 5, 6] (by dsimp) (by dsimp) ?_
                    refine T.ret (hQ _ _ _ rfl ?_).1 -- ret 7
                    exact by first | (rw [getR_1 (by omega)]; exact ((TEnt.put1 0 (x' := .tup [.agg (RcC rc0), .int 0, .int 1]) (by show Ent _ (.tup [.agg [.int 0, .int 0, .int 0, .int 0, .int 0, .int 0, .int 0, .int 0, .int 0, .v (.slice none 0 0)], .int 0, .int _]) _; exact Ent.tup (EntL.cons rc0_view (EntL.refl _)))).trans (TEnt.fin [] (by decide) (by simp) rfl ⟨by simp [AV.ren, renL, RcC_ren], trivial⟩))) | (rw [getR_2 (by assumption) (by omega)]; exact ((TEnt.put1 0 (x' := .tup [.agg (RcC rc0), .int 0, .int 14]) (by show Ent _ (.tup [.agg [.int 0, .int 0, .int 0, .int 0, .int 0, .int 0, .int 0, .int 0, .int 0, .v (.slice none 0 0)], .int 0, .int _]) _; exact Ent.tup (EntL.cons rc0_view (EntL.refl _)))).trans (TEnt.fin [] (by decide) (by simp) rfl ⟨by simp [AV.ren, renL, RcC_ren], trivial⟩))) | (rw [getR_3 (by assumption) (by assumption) (by assumption)]; exact ((TEnt.put1 0 (x' := .tup [.agg (RcC rc0), .int 0, .int 13]) (by show Ent _ (.tup [.agg [.int 0, .int 0, .int 0, .int 0, .int 0, .int 0, .int 0, .int 0, .int 0, .v (.slice none 0 0)], .int 0, .int _]) _; exact Ent.tup (EntL.cons rc0_view (EntL.refl _)))).trans (TEnt.fin [] (by decide) (by simp) rfl ⟨by simp [AV.ren, renL, RcC_ren], trivial⟩))) | (rw [getR_4 (by assumption) (by assumption) (by assumption) (by assumption)]; exact ((TEnt.put1 0 (x' := .tup [.agg (RcC rc0), .int 0, .int 14]) (by show Ent _ (.tup [.agg [.int 0, .int 0, .int 0, .int 0, .int 0, .int 0, .int 0, .int 0, .int 0, .v (.slice none 0 0)], .int 0, .int _]) _; exact Ent.tup (EntL.cons rc0_view (EntL.refl _)))).trans (TEnt.fin [] (by decide) (by simp) rfl ⟨by simp [AV.ren, renL, RcC_ren], trivial⟩))) | (rw [getR_5 (by assumption) (by assumption) (by assumption) (by assumption) (by assumption)]; exact ((TEnt.put1 0 (x' := .tup [.agg (RcC rc0), .int 0, .int 15]) (by show Ent _ (.tup [.agg [.int 0, .int 0, .int 0, .int 0, .int 0, .int 0, .int 0, .int 0, .int 0, .v (.slice none 0 0)], .int 0, .int _]) _; exact Ent.tup (EntL.cons rc0_view (EntL.refl _)))).trans (TEnt.fin [] (by decide) (by simp) rfl ⟨by simp [AV.ren, renL, RcC_ren], trivial⟩))) | (rw [getR_6 (by assumption) (by assumption) (by assumption) (by assumption) (by assumption) (fun h => absurd h.2 (by assumption))]; exact ((TEnt.put1 0 (x' := .tup [.agg (RcC rc0), .int 0, .int 13]) (by show Ent _ (.tup [.agg [.int 0, .int 0, .int 0, .int 0, .int 0, .int 0, .int 0, .int 0, .int 0, .v (.slice none 0 0)], .int 0, .int _]) _; exact Ent.tup (EntL.cons rc0_view (EntL.refl _)))).trans (TEnt.fin [] (by decide) (by simp) rfl ⟨by simp [AV.ren, renL, RcC_ren], trivial⟩))) | (rw [getR_6 (by assumption) (by assumption) (by assumption) (by assumption) (by assumption) (fun h => by have h1 := h.1; unfold parOk at h1; omega)]; exact ((TEnt.put1 0 (x' := .tup [.agg (RcC rc0), .int 0, .int 13]) (by show Ent _ (.tup [.agg [.int 0, .int 0, .int 0, .int 0, .int 0, .int 0, .int 0, .int 0, .int 0, .v (.slice none 0 0)], .int 0, .int _]) _; exact Ent.tup (EntL.cons rc0_view (EntL.refl _)))).trans (TEnt.fin [] (by decide) (by simp) rfl ⟨by simp [AV.ren, renL, RcC_ren], trivial⟩))) | (rw [getR_7 (by assumption) (by assumption) (by assumption) (by assumption) (by assumption) ⟨by assumption, by assumption⟩]; exact TEnt.fin [] (by decide) (by simp) rfl ⟨by show AV.ren (pos []) (.tup [.agg (RcC (xr (gP l))), .int _, .int _]) = _; simp [AV.ren, renL, RcC_ren], trivial⟩)
                  · (try simp only [decide_eq_true_eq, decide_eq_false_iff_not, beq_iff_eq, beq_eq_false_iff_ne, bne_iff_ne, bne_eq_false_iff_eq, ne_eq, Bool.not_eq_true', Bool.not_eq_false'] at hb)
                    refine ro rfl rfl (OpOk.step (ok_fieldAddr rfl ti_revetmentref01_Reader rfl rfl ti_int (by decide) rfl)) ?_
                    refine ro rfl rfl (OpOk.step (ok_load rfl ti_int rfl rfl)) ?_
                    refine ro rfl rfl (OpOk.step (ok_move (.inl rfl))) ?_
                    refine ro rfl rfl (OpOk.step (ok_len' rfl rfl ti_Luint8 rfl (by first | exact ints_length _ _ | exact rowsA_length _ _ | rfl))) ?_
                    refine ro rfl rfl (OpOk.step (ok_binOp rfl ti_int rfl)) ?_
                    refine ro rfl rfl (OpOk.step (ok_pick rfl rfl)) ?_
                    refine ro_nil ?_
                    refine keepK hK42 [0, 1, 4, 8, 10, 13, 17, 104] (by dsimp) (by dsimp) ?_
                    refine T.cond rfl (fun hc => ?_) (fun hc => ?_) -- cond 11
                    · (try simp only [decide_eq_true_eq, decide_eq_false_iff_not, beq_iff_eq, beq_eq_false_iff_ne, bne_iff_ne, bne_eq_false_iff_eq, ne_eq, Bool.not_eq_true', Bool.not_eq_false'] at hc)
                      refine T.seq fun K44 hK44 => ?_
                      refine T.region ?_ -- region 31
                      refine ro rfl rfl (OpOk.step (ok_build rfl ti_api_Rec rfl)) ?_
                      refine ro rfl rfl (OpOk.step (ok_store rfl ti_api_Rec (by decide) rfl rfl rfl rfl rfl (by first | exact Nat.le_of_ble_eq_true rfl | simp) (by first | exact .inl ⟨rfl, rfl⟩ | exact .inr rfl))) ?_
                      refine ro rfl rfl (OpOk.step (ok_move (.inr rfl))) ?_
                      refine ro rfl rfl (OpOk.step (ok_move (.inr rfl))) ?_
                      refine ro_nil ?_
                      refine keepK hK44 [4, 5, 6] (by dsimp) (by dsimp) ?_
                      refine T.ret (hQ _ _ _ rfl ?_).1 -- ret 8
                      exact by first | (rw [getR_1 (by omega)]; exact ((TEnt.put1 0 (x' := .tup [.agg (RcC rc0), .int 0, .int 1]) (by show Ent _ (.tup [.agg [.int 0, .int 0, .int 0, .int 0, .int 0, .int 0, .int 0, .int 0, .int 0, .v (.slice none 0 0)], .int 0, .int _]) _; exact Ent.tup (EntL.cons rc0_view (EntL.refl _)))).trans (TEnt.fin [] (by decide) (by simp) rfl ⟨by simp [AV.ren, renL, RcC_ren], trivial⟩))) | (rw [getR_2 (by assumption) (by omega)]; exact ((TEnt.put1 0 (x' := .tup [.agg (RcC rc0), .int 0, .int 14]) (by show Ent _ (.tup [.agg [.int 0, .int 0, .int 0, .int 0, .int 0, .int 0, .int 0, .int 0, .int 0, .v (.slice none 0 0)], .int 0, .int _]) _; exact Ent.tup (EntL.cons rc0_view (EntL.refl _)))).trans (TEnt.fin [] (by decide) (by simp) rfl ⟨by simp [AV.ren, renL, RcC_ren], trivial⟩))) | (rw [getR_3 (by assumption) (by assumption) (by assumption)]; exact ((TEnt.put1 0 (x' := .tup [.agg (RcC rc0), .int 0, .int 13]) (by show Ent _ (.tup [.agg [.int 0, .int 0, .int 0, .int 0, .int 0, .int 0, .int 0, .int 0, .int 0, .v (.slice none 0 0)], .int 0, .int _]) _; exact Ent.tup (EntL.cons rc0_view (EntL.refl _)))).trans (TEnt.fin [] (by decide) (by simp) rfl ⟨by simp [AV.ren, renL, RcC_ren], trivial⟩))) | (rw [getR_4 (by assumption) (by assumption) (by assumption) (by assumption)]; exact ((TEnt.put1 0 (x' := .tup [.agg (RcC rc0), .int 0, .int 14]) (by show Ent _ (.tup [.agg [.int 0, .int 0, .int 0, .int 0, .int 0, .int 0, .int 0, .int 0, .int 0, .v (.slice none 0 0)], .int 0, .int _]) _; exact Ent.tup (EntL.cons rc0_view (EntL.refl _)))).trans (TEnt.fin [] (by decide) (by simp) rfl ⟨by simp [AV.ren, renL, RcC_ren], trivial⟩))) | (rw [getR_5 (by assumption) (by assumption) (by assumption) (by assumption) (by assumption)]; exact ((TEnt.put1 0 (x' := .tup [.agg (RcC rc0), .int 0, .int 15]) (by show Ent _ (.tup [.agg [.int 0, .int 0, .int 0, .int 0, .int 0, .int 0, .int 0, .int 0, .int 0, .v (.slice none 0 0)], .int 0, .int _]) _; exact Ent.tup (EntL.cons rc0_view (EntL.refl _)))).trans (TEnt.fin [] (by decide) (by simp) rfl ⟨by simp [AV.ren, renL, RcC_ren], trivial⟩))) | (rw [getR_6 (by assumption) (by assumption) (by assumption) (by assumption) (by assumption) (fun h => absurd h.2 (by assumption))]; exact ((TEnt.put1 0 (x' := .tup [.agg (RcC rc0), .int 0, .int 13]) (by show Ent _ (.tup [.agg [.int 0, .int 0, .int 0, .int 0, .int 0, .int 0, .int 0, .int 0, .int 0, .v (.slice none 0 0)], .int 0, .int _]) _; exact Ent.tup (EntL.cons rc0_view (EntL.refl _)))).trans (TEnt.fin [] (by decide) (by simp) rfl ⟨by simp [AV.ren, renL, RcC_ren], trivial⟩))) | (rw [getR_6 (by assumption) (by assumption) (by assumption) (by assumption) (by assumption) (fun h => by have h1 := h.1; unfold parOk at h1; omega)]; exact ((TEnt.put1 0 (x' := .tup [.agg (RcC rc0), .int 0, .int 13]) (by show Ent _ (.tup [.agg [.int 0, .int 0, .int 0, .int 0, .int 0, .int 0, .int 0, .int 0, .int 0, .v (.slice none 0 0)], .int 0, .int _]) _; exact Ent.tup (EntL.cons rc0_view (EntL.refl _)))).trans (TEnt.fin [] (by decide) (by simp) rfl ⟨by simp [AV.ren, renL, RcC_ren], trivial⟩))) | (rw [getR_7 (by assumption) (by assumption) (by assumption) (by assumption) (by assumption) ⟨by assumption, by assumption⟩]; exact TEnt.fin [] (by decide) (by simp) rfl ⟨by show AV.ren (pos []) (.tup [.agg (RcC (xr (gP l))), .int _, .int _]) = _; simp [AV.ren, renL, RcC_ren], trivial⟩)
                    · (try simp only [decide_eq_true_eq, decide_eq_false_iff_not, beq_iff_eq, beq_eq_false_iff_ne, bne_iff_ne, bne_eq_false_iff_eq, ne_eq, Bool.not_eq_true', Bool.not_eq_false'] at hc)
                      have hpar : parOk (gP l) := by unfold parOk; omega
                      have hTl : ((gT l k).length : Int) = gM l k * k - (16 + gN l) := by unfold gT; simp; omega
                      refine T.skip ?_
                      refine keepK hK41 [0, 1, 4, 8, 10, 13, 17] (by dsimp) (by dsimp) ?_
                      refine T.seq fun K45 hK45 => ?_
                      refine T.seq fun K46 hK46 => ?_
                      refine T.region ?_ -- region 32
                      refine ro rfl rfl (OpOk.step (ok_move (.inl rfl))) ?_
                      refine ro rfl rfl (OpOk.step (ok_add64 rfl ti_int rfl rfl (by omega) (by omega))) ?_
                      refine ro rfl rfl (OpOk.step (ok_move (.inr rfl))) ?_
                      refine ro_nil ?_
                      refine keepK hK46 [0, 1, 4, 10, 13, 17, 18] (by dsimp) (by dsimp) ?_
                      refine T.block ?_
                      refine T.loopI (ι := Nat) (fun m => (m : Int) ≤ gM l k * k - (16 + gN l) ∧ zeroB ((gT l k).take m) = true) (fun m => (gM l k * k - (16 + gN l)).toNat - m) (fun m => ([(0, .fz 1 (ints .u8 l)), (1, .int k), (4, .ref 0 0 0), (10, .int (gM l k)), (13, .ref 3 0 0), (17, .fz 1 (ints .u8 (rBody (gP l)).2.2)), (18, .int (16 + gN l + m))], [some ZB, some (R l (gQ1 l).1 (gQ1 l).2.1), some (R (gP l) (rBody (gP l)).1 (rBody (gP l)).2.1), some ⟨9, true, [.agg (ints .i64 (rdLF (rdFV (gP l) rLo rHi) 9 0))]⟩])) 0 ⟨by simp; omega, rfl⟩ (TEnt.toH rfl ⟨rfl, rfl, rfl, rfl, rfl, rfl, by simp, trivial⟩) (fun i hi => ?_) -- loop 3
                      obtain ⟨hi, hz⟩ := hi
                      refine T.seq fun K47 hK47 => ?_
                      refine T.seq fun K48 hK48 => ?_
                      refine T.region ?_ -- region 33
                      refine ro rfl rfl (OpOk.step (ok_move (.inl rfl))) ?_
                      refine ro rfl rfl (OpOk.step (ok_move (.inl rfl))) ?_
                      refine ro rfl rfl (OpOk.step (ok_move (.inl rfl))) ?_
                      refine ro rfl rfl (OpOk.step (ok_mul64 rfl ti_int rfl rfl (by omega) (by omega))) ?_
                      refine ro rfl rfl (OpOk.step (ok_binOp rfl ti_int rfl)) ?_
                      refine ro_nil ?_
                      refine keepK hK48 [0, 1, 4, 10, 13, 17, 18, 112] (by dsimp) (by dsimp) ?_
                      refine T.cond rfl (fun hc => ?_) (fun hc => ?_) -- cond 12
                      · (try simp only [decide_eq_true_eq, decide_eq_false_iff_not, beq_iff_eq, beq_eq_false_iff_ne, bne_iff_ne, bne_eq_false_iff_eq, ne_eq, Bool.not_eq_true', Bool.not_eq_false'] at hc)
                        obtain ⟨c, hc0⟩ : ∃ c, l[(16 + gN l).toNat + i]? = some c := ⟨_, List.getElem?_eq_getElem (by omega)⟩
                        have hT : (gT l k)[i]? = some c := by
                          unfold gT
                          rw [List.getElem?_drop, List.getElem?_take, if_pos (by omega), hc0]
                        refine T.skip ?_
                        refine keepK hK47 [0, 1, 4, 10, 13, 17, 18] (by dsimp) (by dsimp) ?_
                        refine T.seq fun K49 hK49 => ?_
                        refine T.block ?_
                        refine T.seq fun K50 hK50 => ?_
                        refine T.region ?_ -- region 35
                        refine ro rfl rfl (OpOk.step (ok_move (.inl rfl))) ?_
                        refine ro rfl rfl (OpOk.step (ok_move (.inl rfl))) ?_
                        refine ro rfl rfl (OpOk.step (by exact ok_index_ints rfl ti_Luint8 rfl ti_uint8 rfl rfl rfl (by omega) (by rw [← hc0]; congr 1; omega))) ?_
                        refine ro rfl rfl (OpOk.step (ok_load rfl ti_uint8 rfl rfl)) ?_
                        refine ro rfl rfl (OpOk.step (ok_binOp rfl ti_uint8 rfl)) ?_
                        refine ro_nil ?_
                        refine keepK hK50 [0, 1, 4, 10, 13, 17, 18, 119] (by dsimp) (by dsimp) ?_
                        refine T.cond rfl (fun hc => ?_) (fun hc => ?_) -- cond 13
                        · (try simp only [decide_eq_true_eq, decide_eq_false_iff_not, beq_iff_eq, beq_eq_false_iff_ne, bne_iff_ne, bne_eq_false_iff_eq, ne_eq, Bool.not_eq_true', Bool.not_eq_false'] at hc)
                          have hnz : ¬ zeroB (gT l k) = true := zeroB_hit hT (by simpa using hc)
                          refine T.seq fun K51 hK51 => ?_
                          refine T.region ?_ -- region 36
                          refine ro rfl rfl (OpOk.step (ok_build rfl ti_api_Rec rfl)) ?_
                          refine ro rfl rfl (OpOk.step (ok_store rfl ti_api_Rec (by decide) rfl rfl rfl rfl rfl (by first | exact Nat.le_of_ble_eq_true rfl | simp) (by first | exact .inl ⟨rfl, rfl⟩ | exact .inr rfl))) ?_
                          refine ro rfl rfl (OpOk.step (ok_move (.inr rfl))) ?_
                          refine ro rfl rfl (OpOk.step (ok_move (.inr rfl))) ?_
                          refine ro_nil ?_
                          refine keepK hK51 [4, 5, 6] (by dsimp) (by dsimp) ?_
                          refine T.ret (hQ _ _ _ rfl ?_).1 -- ret 9
                          exact by first | (rw [getR_1 (by omega)]; exact ((TEnt.put1 0 (x' := .tup [.agg (RcC rc0), .int 0, .int 1]) (by show Ent _ (.tup [.agg [.int 0, .int 0, .int 0, .int 0, .int 0, .int 0, .int 0, .int 0, .int 0, .v (.slice none 0 0)], .int 0, .int _]) _; exact Ent.tup (EntL.cons rc0_view (EntL.refl _)))).trans (TEnt.fin [] (by decide) (by simp) rfl ⟨by simp [AV.ren, renL, RcC_ren], trivial⟩))) | (rw [getR_2 (by assumption) (by omega)]; exact ((TEnt.put1 0 (x' := .tup [.agg (RcC rc0), .int 0, .int 14]) (by show Ent _ (.tup [.agg [.int 0, .int 0, .int 0, .int 0, .int 0, .int 0, .int 0, .int 0, .int 0, .v (.slice none 0 0)], .int 0, .int _]) _; exact Ent.tup (EntL.cons rc0_view (EntL.refl _)))).trans (TEnt.fin [] (by decide) (by simp) rfl ⟨by simp [AV.ren, renL, RcC_ren], trivial⟩))) | (rw [getR_3 (by assumption) (by assumption) (by assumption)]; exact ((TEnt.put1 0 (x' := .tup [.agg (RcC rc0), .int 0, .int 13]) (by show Ent _ (.tup [.agg [.int 0, .int 0, .int 0, .int 0, .int 0, .int 0, .int 0, .int 0, .int 0, .v (.slice none 0 0)], .int 0, .int _]) _; exact Ent.tup (EntL.cons rc0_view (EntL.refl _)))).trans (TEnt.fin [] (by decide) (by simp) rfl ⟨by simp [AV.ren, renL, RcC_ren], trivial⟩))) | (rw [getR_4 (by assumption) (by assumption) (by assumption) (by assumption)]; exact ((TEnt.put1 0 (x' := .tup [.agg (RcC rc0), .int 0, .int 14]) (by show Ent _ (.tup [.agg [.int 0, .int 0, .int 0, .int 0, .int 0, .int 0, .int 0, .int 0, .int 0, .v (.slice none 0 0)], .int 0, .int _]) _; exact Ent.tup (EntL.cons rc0_view (EntL.refl _)))).trans (TEnt.fin [] (by decide) (by simp) rfl ⟨by simp [AV.ren, renL, RcC_ren], trivial⟩))) | (rw [getR_5 (by assumption) (by assumption) (by assumption) (by assumption) (by assumption)]; exact ((TEnt.put1 0 (x' := .tup [.agg (RcC rc0), .int 0, .int 15]) (by show Ent _ (.tup [.agg [.int 0, .int 0, .int 0, .int 0, .int 0, .int 0, .int 0, .int 0, .int 0, .v (.slice none 0 0)], .int 0, .int _]) _; exact Ent.tup (EntL.cons rc0_view (EntL.refl _)))).trans (TEnt.fin [] (by decide) (by simp) rfl ⟨by simp [AV.ren, renL, RcC_ren], trivial⟩))) | (rw [getR_6 (by assumption) (by assumption) (by assumption) (by assumption) (by assumption) (fun h => absurd h.2 (by assumption))]; exact ((TEnt.put1 0 (x' := .tup [.agg (RcC rc0), .int 0, .int 13]) (by show Ent _ (.tup [.agg [.int 0, .int 0, .int 0, .int 0, .int 0, .int 0, .int 0, .int 0, .int 0, .v (.slice none 0 0)], .int 0, .int _]) _; exact Ent.tup (EntL.cons rc0_view (EntL.refl _)))).trans (TEnt.fin [] (by decide) (by simp) rfl ⟨by simp [AV.ren, renL, RcC_ren], trivial⟩))) | (rw [getR_6 (by assumption) (by assumption) (by assumption) (by assumption) (by assumption) (fun h => by have h1 := h.1; unfold parOk at h1; omega)]; exact ((TEnt.put1 0 (x' := .tup [.agg (RcC rc0), .int 0, .int 13]) (by show Ent _ (.tup [.agg [.int 0, .int 0, .int 0, .int 0, .int 0, .int 0, .int 0, .int 0, .int 0, .v (.slice none 0 0)], .int 0, .int _]) _; exact Ent.tup (EntL.cons rc0_view (EntL.refl _)))).trans (TEnt.fin [] (by decide) (by simp) rfl ⟨by simp [AV.ren, renL, RcC_ren], trivial⟩))) | (rw [getR_7 (by assumption) (by assumption) (by assumption) (by assumption) (by assumption) ⟨by assumption, by assumption⟩]; exact TEnt.fin [] (by decide) (by simp) rfl ⟨by show AV.ren (pos []) (.tup [.agg (RcC (xr (gP l))), .int _, .int _]) = _; simp [AV.ren, renL, RcC_ren], trivial⟩)
                        · (try simp only [decide_eq_true_eq, decide_eq_false_iff_not, beq_iff_eq, beq_eq_false_iff_ne, bne_iff_ne, bne_eq_false_iff_eq, ne_eq, Bool.not_eq_true', Bool.not_eq_false'] at hc)
                          refine T.skip ?_
                          refine keepK hK49 [0, 1, 4, 10, 13, 17, 18] (by dsimp) (by dsimp) ?_
                          refine T.region ?_ -- region 34
                          refine ro rfl rfl (OpOk.step (ok_move (.inl rfl))) ?_
                          refine ro rfl rfl (OpOk.step (ok_add64 rfl ti_int rfl rfl (by omega) (by omega))) ?_
                          refine ro rfl rfl (OpOk.step (ok_move (.inr rfl))) ?_
                          refine ro_nil ?_
                          exact ⟨i + 1, ⟨by omega, zeroB_step hz (by rw [hT]; simpa using hc)⟩, by omega, TEnt.toH rfl ⟨rfl, rfl, rfl, rfl, rfl, rfl, by simp; omega, trivial⟩⟩
                      · (try simp only [decide_eq_true_eq, decide_eq_false_iff_not, beq_iff_eq, beq_eq_false_iff_ne, bne_iff_ne, bne_eq_false_iff_eq, ne_eq, Bool.not_eq_true', Bool.not_eq_false'] at hc)
                        have hzz : zeroB (gT l k) = true := by
                          rw [List.take_of_length_le (by omega)] at hz
                          exact hz
                        refine T.exit ?_
                        refine keepK hK45 [4, 10, 13, 17] (by dsimp) (by dsimp) ?_
                        refine T.seq fun K52 hK52 => ?_
                        refine T.region ?_ -- region 37
                        refine ro rfl rfl (OpOk.step (ok_indexAddr rfl ti_A9int (.inr ⟨_, rfl⟩) ti_int rfl (by omega) rfl)) ?_
                        refine ro rfl rfl (OpOk.step (ok_load rfl ti_int rfl rfl)) ?_
                        refine ro rfl rfl (OpOk.step (ok_indexAddr rfl ti_A9int (.inr ⟨_, rfl⟩) ti_int rfl (by omega) rfl)) ?_
                        refine ro rfl rfl (OpOk.step (ok_load rfl ti_int rfl rfl)) ?_
                        refine ro rfl rfl (OpOk.step (ok_indexAddr rfl ti_A9int (.inr ⟨_, rfl⟩) ti_int rfl (by omega) rfl)) ?_
                        refine ro rfl rfl (OpOk.step (ok_load rfl ti_int rfl rfl)) ?_
                        refine ro rfl rfl (OpOk.step (ok_indexAddr rfl ti_A9int (.inr ⟨_, rfl⟩) ti_int rfl (by omega) rfl)) ?_
                        refine ro rfl rfl (OpOk.step (ok_load rfl ti_int rfl rfl)) ?_
                        refine ro rfl rfl (OpOk.step (ok_indexAddr rfl ti_A9int (.inr ⟨_, rfl⟩) ti_int rfl (by omega) rfl)) ?_
                        refine ro rfl rfl (OpOk.step (ok_load rfl ti_int rfl rfl)) ?_
                        refine ro rfl rfl (OpOk.step (ok_indexAddr rfl ti_A9int (.inr ⟨_, rfl⟩) ti_int rfl (by omega) rfl)) ?_
                        refine ro rfl rfl (OpOk.step (ok_load rfl ti_int rfl rfl)) ?_
                        refine ro rfl rfl (OpOk.step (ok_indexAddr rfl ti_A9int (.inr ⟨_, rfl⟩) ti_int rfl (by omega) rfl)) ?_
                        refine ro rfl rfl (OpOk.step (ok_load rfl ti_int rfl rfl)) ?_
                        refine ro rfl rfl (OpOk.step (ok_indexAddr rfl ti_A9int (.inr ⟨_, rfl⟩) ti_int rfl (by omega) rfl)) ?_
                        refine ro rfl rfl (OpOk.step (ok_load rfl ti_int rfl rfl)) ?_
                        refine ro rfl rfl (OpOk.step (ok_indexAddr rfl ti_A9int (.inr ⟨_, rfl⟩) ti_int rfl (by omega) rfl)) ?_
                        refine ro rfl rfl (OpOk.step (ok_load rfl ti_int rfl rfl)) ?_
                        refine ro rfl rfl (OpOk.step (ok_move (.inl rfl))) ?_
                        refine ro rfl rfl (OpOk.step (ok_build_flat 10 rfl ti_api_Rec rfl rfl rfl rfl rfl)) ?_
                        refine ro rfl rfl (OpOk.step (ok_move (.inl rfl))) ?_
                        refine ro rfl rfl (OpOk.step (ok_store rfl ti_api_Rec (by decide) rfl rfl rfl rfl rfl (by first | exact Nat.le_of_ble_eq_true rfl | simp) (by first | exact .inl ⟨rfl, rfl⟩ | exact .inr rfl))) ?_
                        refine ro rfl rfl (OpOk.step (ok_move (.inr rfl))) ?_
                        refine ro rfl rfl (OpOk.step (ok_move (.inr rfl))) ?_
                        refine ro_nil ?_
                        refine keepK hK52 [4, 5, 6] (by dsimp) (by dsimp) ?_
                        refine T.ret (hQ _ _ _ rfl ?_).1 -- ret 10
                        exact by first | (rw [getR_1 (by omega)]; exact ((TEnt.put1 0 (x' := .tup [.agg (RcC rc0), .int 0, .int 1]) (by show Ent _ (.tup [.agg [.int 0, .int 0, .int 0, .int 0, .int 0, .int 0, .int 0, .int 0, .int 0, .v (.slice none 0 0)], .int 0, .int _]) _; exact Ent.tup (EntL.cons rc0_view (EntL.refl _)))).trans (TEnt.fin [] (by decide) (by simp) rfl ⟨by simp [AV.ren, renL, RcC_ren], trivial⟩))) | (rw [getR_2 (by assumption) (by omega)]; exact ((TEnt.put1 0 (x' := .tup [.agg (RcC rc0), .int 0, .int 14]) (by show Ent _ (.tup [.agg [.int 0, .int 0, .int 0, .int 0, .int 0, .int 0, .int 0, .int 0, .int 0, .v (.slice none 0 0)], .int 0, .int _]) _; exact Ent.tup (EntL.cons rc0_view (EntL.refl _)))).trans (TEnt.fin [] (by decide) (by simp) rfl ⟨by simp [AV.ren, renL, RcC_ren], trivial⟩))) | (rw [getR_3 (by assumption) (by assumption) (by assumption)]; exact ((TEnt.put1 0 (x' := .tup [.agg (RcC rc0), .int 0, .int 13]) (by show Ent _ (.tup [.agg [.int 0, .int 0, .int 0, .int 0, .int 0, .int 0, .int 0, .int 0, .int 0, .v (.slice none 0 0)], .int 0, .int _]) _; exact Ent.tup (EntL.cons rc0_view (EntL.refl _)))).trans (TEnt.fin [] (by decide) (by simp) rfl ⟨by simp [AV.ren, renL, RcC_ren], trivial⟩))) | (rw [getR_4 (by assumption) (by assumption) (by assumption) (by assumption)]; exact ((TEnt.put1 0 (x' := .tup [.agg (RcC rc0), .int 0, .int 14]) (by show Ent _ (.tup [.agg [.int 0, .int 0, .int 0, .int 0, .int 0, .int 0, .int 0, .int 0, .int 0, .v (.slice none 0 0)], .int 0, .int _]) _; exact Ent.tup (EntL.cons rc0_view (EntL.refl _)))).trans (TEnt.fin [] (by decide) (by simp) rfl ⟨by simp [AV.ren, renL, RcC_ren], trivial⟩))) | (rw [getR_5 (by assumption) (by assumption) (by assumption) (by assumption) (by assumption)]; exact ((TEnt.put1 0 (x' := .tup [.agg (RcC rc0), .int 0, .int 15]) (by show Ent _ (.tup [.agg [.int 0, .int 0, .int 0, .int 0, .int 0, .int 0, .int 0, .int 0, .int 0, .v (.slice none 0 0)], .int 0, .int _]) _; exact Ent.tup (EntL.cons rc0_view (EntL.refl _)))).trans (TEnt.fin [] (by decide) (by simp) rfl ⟨by simp [AV.ren, renL, RcC_ren], trivial⟩))) | (rw [getR_6 (by assumption) (by assumption) (by assumption) (by assumption) (by assumption) (fun h => absurd h.2 (by assumption))]; exact ((TEnt.put1 0 (x' := .tup [.agg (RcC rc0), .int 0, .int 13]) (by show Ent _ (.tup [.agg [.int 0, .int 0, .int 0, .int 0, .int 0, .int 0, .int 0, .int 0, .int 0, .v (.slice none 0 0)], .int 0, .int _]) _; exact Ent.tup (EntL.cons rc0_view (EntL.refl _)))).trans (TEnt.fin [] (by decide) (by simp) rfl ⟨by simp [AV.ren, renL, RcC_ren], trivial⟩))) | (rw [getR_6 (by assumption) (by assumption) (by assumption) (by assumption) (by assumption) (fun h => by have h1 := h.1; unfold parOk at h1; omega)]; exact ((TEnt.put1 0 (x' := .tup [.agg (RcC rc0), .int 0, .int 13]) (by show Ent _ (.tup [.agg [.int 0, .int 0, .int 0, .int 0, .int 0, .int 0, .int 0, .int 0, .int 0, .v (.slice none 0 0)], .int 0, .int _]) _; exact Ent.tup (EntL.cons rc0_view (EntL.refl _)))).trans (TEnt.fin [] (by decide) (by simp) rfl ⟨by simp [AV.ren, renL, RcC_ren], trivial⟩))) | (rw [getR_7 (by assumption) (by assumption) (by assumption) (by assumption) (by assumption) ⟨by assumption, by assumption⟩]; exact TEnt.fin [] (by decide) (by simp) rfl ⟨by show AV.ren (pos []) (.tup [.agg (RcC (xr (gP l))), .int _, .int _]) = _; simp [AV.ren, renL, RcC_ren], trivial⟩)
theorem code10g_ok (e : Int) : CSpec Try.prog 10 [] [.int e] [] (.int e) := by
  refine CSpec.body Try.func10 rfl rfl rfl rfl rfl fun Q hQ => ?_
  refine T.seq fun K1 hK1 => ?_
  refine T.region ?_ -- region 0
  refine ro rfl rfl (OpOk.step (ok_move (.inr rfl))) ?_
  refine ro_nil ?_
  refine keepK hK1 [0] (by dsimp) (by dsimp) ?_
  refine T.seq fun K2 hK2 => ?_
  refine T.region ?_ -- region 1
  refine ro rfl rfl (OpOk.step (ok_move (.inl rfl))) ?_
  refine ro rfl rfl (OpOk.step (ok_move (.inr rfl))) ?_
  refine ro_nil ?_
  refine keepK hK2 [2] (by dsimp) (by dsimp) ?_
  refine T.ret (hQ _ _ _ rfl ?_).1 -- ret 1
  exact TEnt.toH rfl ⟨rfl, trivial⟩
theorem recGets_ok (b : List Int) (k : Int) (hB : Bytes b) (hl : b.length ≤ 140737488355328) : CSpec Try.prog 3 [] [.fz 1 (ints .u8 b), .int k] [] (.b true) := by
  refine CSpec.body Try.func3 rfl rfl rfl rfl rfl fun Q hQ => ?_
  refine T.seq fun K1 hK1 => ?_
  refine T.region ?_ -- region 0
  refine ro rfl rfl (OpOk.step (ok_moveb (c := false) (.inr rfl) rfl)) ?_
  refine ro_nil ?_
  refine keepK hK1 [0, 1] (by dsimp) (by dsimp) ?_
  refine T.seq fun K2 hK2 => ?_
  refine T.seq fun K3 hK3 => ?_
  refine T.region ?_ -- region 1
  refine ro rfl rfl (OpOk.step (ok_move (.inl rfl))) ?_
  refine ro rfl rfl (OpOk.step (ok_len' rfl rfl ti_Luint8 rfl (by first | exact ints_length _ _ | exact rowsA_length _ _ | rfl))) ?_
  refine ro rfl rfl (OpOk.step (ok_binOp rfl ti_int rfl)) ?_
  refine ro_nil ?_
  refine keepK hK3 [0, 1, 13] (by dsimp) (by dsimp) ?_
  refine T.cond rfl (fun hc => ?_) (fun hc => ?_) -- cond 1
  · (try simp only [decide_eq_true_eq, decide_eq_false_iff_not, beq_iff_eq, beq_eq_false_iff_ne, bne_iff_ne, bne_eq_false_iff_eq, ne_eq, Bool.not_eq_true', Bool.not_eq_false'] at hc)
    refine T.seq fun K4 hK4 => ?_
    refine T.region ?_ -- region 2
    refine ro rfl rfl (ok_call rfl rfl rfl (live10_ok.plain rfl rfl)) ?_
    refine ro rfl rfl (OpOk.step (ok_move (.inr rfl))) ?_
    refine ro_nil ?_
    refine keepK hK4 [4] (by dsimp) (by dsimp) ?_
    refine T.ret (hQ _ _ _ rfl ?_).1
    exact TEnt.fin [] (by decide) (by simp) rfl ⟨rfl, trivial⟩ -- ?? ret 1
  · (try simp only [decide_eq_true_eq, decide_eq_false_iff_not, beq_iff_eq, beq_eq_false_iff_ne, bne_iff_ne, bne_eq_false_iff_eq, ne_eq, Bool.not_eq_true', Bool.not_eq_false'] at hc)
    refine T.skip ?_
    refine keepK hK2 [0, 1] (by dsimp) (by dsimp) ?_
    refine T.seq fun K5 hK5 => ?_
    refine T.region ?_ -- region 3
    refine ro rfl rfl (OpOk.step (ok_move (.inl rfl))) ?_
    refine ro rfl rfl (OpOk.step (ok_move (.inl rfl))) ?_
    refine ro rfl rfl (ok_call rfl rfl rfl ((get_ok b k hB hl).plain (by simp [renL, AV.ren, renL_ints]) (by simp [AV.ren, renL, RcC_ren]))) ?_
    refine ro rfl rfl (OpOk.step (ok_move (.inl rfl))) ?_
    refine ro rfl rfl (OpOk.step (ok_extract rfl rfl rfl)) ?_
    refine ro rfl rfl (OpOk.step (ok_extract rfl rfl rfl)) ?_
    refine ro rfl rfl (OpOk.step (ok_extract rfl rfl rfl)) ?_
    refine ro rfl rfl (OpOk.step (ok_alloc rfl ti_api_Rec rfl (by decide))) ?_
    refine ro rfl rfl (OpOk.step (ok_store rfl ti_api_Rec (by decide) rfl rfl rfl rfl rfl (by first | exact Nat.le_of_ble_eq_true rfl | simp) (by first | exact .inl ⟨rfl, rfl⟩ | exact .inr rfl))) ?_
    refine ro rfl rfl (OpOk.step (ok_move (.inr rfl))) ?_
    refine ro rfl rfl (OpOk.step (ok_move (.inr rfl))) ?_
    refine ro_nil ?_
    refine keepK hK5 [0, 1, 5, 6, 7] (by dsimp) (by dsimp) ?_
    refine T.seq fun K6 hK6 => ?_
    refine T.region ?_ -- region 4
    refine ro rfl rfl (OpOk.step (ok_move (.inl rfl))) ?_
    refine ro rfl rfl (OpOk.step (ok_move (.inl rfl))) ?_
    refine ro rfl rfl (ok_call rfl rfl rfl ((r10get_ok b k hB hl).plain (by simp [renL, AV.ren, renL_ints]) (by simp [AV.ren, renL, RcC_ren]))) ?_
    refine ro rfl rfl (OpOk.step (ok_move (.inl rfl))) ?_
    refine ro rfl rfl (OpOk.step (ok_extract rfl rfl rfl)) ?_
    refine ro rfl rfl (OpOk.step (ok_extract rfl rfl rfl)) ?_
    refine ro rfl rfl (OpOk.step (ok_extract rfl rfl rfl)) ?_
    refine ro rfl rfl (OpOk.step (ok_alloc rfl ti_api_Rec rfl (by decide))) ?_
    refine ro rfl rfl (OpOk.step (ok_store rfl ti_api_Rec (by decide) rfl rfl rfl rfl rfl (by first | exact Nat.le_of_ble_eq_true rfl | simp) (by first | exact .inl ⟨rfl, rfl⟩ | exact .inr rfl))) ?_
    refine ro rfl rfl (OpOk.step (ok_move (.inr rfl))) ?_
    refine ro rfl rfl (OpOk.step (ok_move (.inr rfl))) ?_
    refine ro_nil ?_
    refine keepK hK6 [5, 6, 7, 8, 9, 10] (by dsimp) (by dsimp) ?_
    refine T.seq fun K7 hK7 => ?_
    refine T.region ?_ -- region 5
    refine ro rfl rfl (OpOk.step (ok_load rfl ti_api_Rec rfl rfl)) ?_
    refine ro rfl rfl (OpOk.step (ok_load rfl ti_api_Rec rfl rfl)) ?_
    refine ro rfl rfl (ok_call rfl rfl rfl (((rsame_ok (getR b k).1 (getR b k).1).plain (by show renL (pos []) [.agg (RcC (getR b k).1), .agg (RcC (getR b k).1)] = _; simp [renL, AV.ren, RcC_ren]) rfl).eq (x' := .b true) (by rw [sameR_refl]) rfl)) ?_
    refine ro rfl rfl (OpOk.step (OpOk.bool (d := true) (ok_moveb (.inl rfl) rfl) (rfl))) ?_
    refine ro rfl rfl (OpOk.step (ok_move (.inl rfl))) ?_
    refine ro rfl rfl (OpOk.step (ok_move (.inl rfl))) ?_
    refine ro rfl rfl (OpOk.step (ok_binOp rfl ti_int rfl)) ?_
    refine ro rfl rfl (OpOk.step (ok_pick rfl rfl)) ?_
    refine ro rfl rfl (OpOk.step (OpOk.bool (d := true) (ok_moveb (.inl rfl) rfl) (by simp))) ?_
    refine ro rfl rfl (OpOk.step (ok_move (.inl rfl))) ?_
    refine ro rfl rfl (ok_call rfl rfl rfl ((code10g_ok (getR b k).2.2).plain rfl rfl)) ?_
    refine ro rfl rfl (OpOk.step (ok_move (.inl rfl))) ?_
    refine ro rfl rfl (OpOk.step (ok_binOp rfl ti_int rfl)) ?_
    refine ro rfl rfl (OpOk.step (ok_pick rfl rfl)) ?_
    refine ro rfl rfl (OpOk.step (OpOk.bool (d := true) (ok_moveb (.inl rfl) rfl) (by simp))) ?_
    refine ro rfl rfl (ok_call rfl rfl rfl (live10_ok.plain rfl rfl)) ?_
    refine ro rfl rfl (OpOk.step (ok_pick rfl rfl)) ?_
    refine ro rfl rfl (OpOk.step (ok_move (.inr rfl))) ?_
    refine ro_nil ?_
    refine keepK hK7 [4] (by dsimp) (by dsimp) ?_
    refine T.ret (hQ _ _ _ rfl ?_).1
    exact TEnt.fin [] (by decide) (by simp) rfl ⟨rfl, trivial⟩ -- ?? ret 2
end Go.Proofs.Yteonkbgfpocplaa.AmF
