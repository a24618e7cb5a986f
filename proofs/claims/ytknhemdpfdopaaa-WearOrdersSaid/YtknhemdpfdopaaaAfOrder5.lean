/- Walks over the abstract machine: slots in order, by the reference; and the law. -/
import Derived.Test.YtknhemdpfdopaaaAfOrder4
namespace Go.Proofs.Ytknhemdpfdopaaa.AmF
open Go Go.AM
set_option maxRecDepth 100000
set_option linter.unusedSimpArgs false
set_option linter.unusedVariables false
attribute [local simp] tkeep tget tput ev cav argsTM pickA normT putA splice AV.cells ints_length rowsA_length nI_length
/-- In a row in order, what stands ahead of one that is not greater is not greater. -/
theorem ahead_le {t : Nat → Int} {O : List Nat} (hs : O.Pairwise (ltO t)) {k m : Nat} {v : Int} (hk : O[k]? = some m) (h : t m ≤ v) : ∀ x ∈ O.take (k + 1), t x ≤ v := by
  have hkl := (List.getElem?_eq_some_iff.1 hk).1
  have hp : (O.take (k + 1)).Pairwise (ltO t) := hs.sublist (List.take_sublist _ _)
  rw [take_succ_get hk, List.pairwise_append] at hp
  intro x hx
  rw [take_succ_get hk] at hx
  rcases List.mem_append.1 hx with hx | hx
  · have := hp.2.2 x hx m (by simp)
    unfold ltO at this
    omega
  · rw [List.mem_singleton.1 hx]; exact h
theorem tf_get {tb : List Int} {j : Nat} {x : Int} (h : tb[j]? = some x) : tf tb j = x := by
  unfold tf
  rw [List.getD_eq_getElem?_getD, h]; rfl
set_option maxHeartbeats 2000000 in
theorem rorder_ok (tb : List Int) (slots : List Int) (hT : tb.length = 64) (hl : slots.length ≤ 100000000) : CSpec Try.prog 13 [] [.agg (ints .i64 tb), .fz 1 (ints .i64 slots)] [some ⟨1, true, ints .i64 (nI (ordL (tf tb) slots 64))⟩] (.sl 0 0 (nI (ordL (tf tb) slots 64)).length) := by
  have hTne : tb ≠ [] := fun h => by rw [h] at hT; cases hT
  refine CSpec.body Try.func13 rfl rfl rfl rfl rfl fun Q hQ => ?_
  refine T.seq fun K1 hK1 => ?_
  refine T.region ?_ -- region 0
  refine ro rfl rfl (OpOk.step (by exact ok_box (x := .tmp 0) (n := 64) rfl (fits_ints hT) (by decide))) ?_
  refine ro rfl rfl (OpOk.step (ok_move (.inr rfl))) ?_
  refine ro_nil ?_
  refine keepK hK1 [1, 2] (by dsimp) (by dsimp) ?_
  refine T.seq fun K2 hK2 => ?_
  refine T.region ?_ -- region 1
  refine ro rfl rfl (OpOk.step (ok_move (.inr rfl))) ?_
  refine ro_nil ?_
  refine keepK hK2 [1, 2, 5] (by dsimp) (by dsimp) ?_
  refine T.seq fun K3 hK3 => ?_
  refine T.seq fun K4 hK4 => ?_
  refine T.region ?_ -- region 2
  refine ro rfl rfl (OpOk.step (ok_move (.inr rfl))) ?_
  refine ro_nil ?_
  refine keepK hK4 [1, 2, 5, 6] (by dsimp) (by dsimp) ?_
  refine T.block ?_
  refine T.loopI (ι := Nat) (fun i => i ≤ 64) (fun i => 64 - i) (fun i => ([(1, .fz 1 (ints .i64 slots)), (2, .ref 0 0 0), (5, .sl 1 0 (nI (ordL (tf tb) slots i)).length), (6, .int i)], [some ⟨64, true, [.agg (ints .i64 tb)]⟩, some ⟨1, true, ints .i64 (nI (ordL (tf tb) slots i))⟩])) 0 (Nat.zero_le _) ((TEnt.empty 5 1 (by decide) (.inr rfl)).trans (TEnt.toH rfl ⟨rfl, rfl, rfl, rfl, trivial⟩)) (fun i hi => ?_) -- loop 1
  rename Nat => s
  rename s ≤ 64 => hs64
  obtain ⟨hOs, hOm⟩ := ordL_spec (tf tb) slots s
  have hOl := ordL_len (tf tb) slots s
  have hnext : ordL (tf tb) slots (s + 1) = if (s : Int) ∈ slots then insO (tf tb) s (ordL (tf tb) slots s) else ordL (tf tb) slots s := rfl
  refine T.seq fun K5 hK5 => ?_
  refine T.seq fun K6 hK6 => ?_
  refine T.region ?_ -- region 3
  refine ro rfl rfl (OpOk.step (ok_move (.inl rfl))) ?_
  refine ro rfl rfl (OpOk.step (ok_binOp rfl ti_int rfl)) ?_
  refine ro_nil ?_
  refine keepK hK6 [1, 2, 5, 6, 12] (by dsimp) (by dsimp) ?_
  refine T.cond rfl (fun hc => ?_) (fun hc => ?_) -- cond 1
  · (try simp only [decide_eq_true_eq, decide_eq_false_iff_not, beq_iff_eq, beq_eq_false_iff_ne, bne_iff_ne, bne_eq_false_iff_eq, ne_eq, Bool.not_eq_true', Bool.not_eq_false'] at hc)
    refine T.skip ?_
    refine keepK hK5 [1, 2, 5, 6] (by dsimp) (by dsimp) ?_
    refine T.seq fun K7 hK7 => ?_
    refine T.block ?_
    refine T.seq fun K8 hK8 => ?_
    refine T.region ?_ -- region 5
    refine ro rfl rfl (OpOk.step (ok_moveb (c := false) (.inr rfl) rfl)) ?_
    refine ro_nil ?_
    refine keepK hK8 [1, 2, 5, 6, 7] (by dsimp) (by dsimp) ?_
    refine T.seq fun K9 hK9 => ?_
    refine T.seq fun K10 hK10 => ?_
    refine T.region ?_ -- region 6
    refine ro rfl rfl (OpOk.step (ok_move (.inr rfl))) ?_
    refine ro_nil ?_
    refine keepK hK10 [1, 2, 5, 6, 7, 8] (by dsimp) (by dsimp) ?_
    refine T.block ?_
    refine T.loopI (ι := Nat) (fun i => i ≤ slots.length) (fun i => slots.length - i) (fun i => ([(1, .fz 1 (ints .i64 slots)), (2, .ref 0 0 0), (5, .sl 1 0 (nI (ordL (tf tb) slots s)).length), (6, .int s), (7, .b (inS slots i s)), (8, .int i)], [some ⟨64, true, [.agg (ints .i64 tb)]⟩, some ⟨1, true, ints .i64 (nI (ordL (tf tb) slots s))⟩])) 0 (Nat.zero_le _) (TEnt.toH rfl ⟨rfl, rfl, rfl, rfl, rfl, rfl, trivial⟩) (fun i hi => ?_) -- loop 2
    refine T.seq fun K11 hK11 => ?_
    refine T.seq fun K12 hK12 => ?_
    refine T.region ?_ -- region 7
    refine ro rfl rfl (OpOk.step (ok_move (.inl rfl))) ?_
    refine ro rfl rfl (OpOk.step (ok_move (.inl rfl))) ?_
    refine ro rfl rfl (OpOk.step (ok_len' rfl rfl ti_Lint rfl (by first | exact ints_length _ _ | exact rowsA_length _ _ | rfl))) ?_
    refine ro rfl rfl (OpOk.step (ok_binOp rfl ti_int rfl)) ?_
    refine ro_nil ?_
    refine keepK hK12 [1, 2, 5, 6, 7, 8, 18] (by dsimp) (by dsimp) ?_
    refine T.cond rfl (fun hc => ?_) (fun hc => ?_) -- cond 2
    · (try simp only [decide_eq_true_eq, decide_eq_false_iff_not, beq_iff_eq, beq_eq_false_iff_ne, bne_iff_ne, bne_eq_false_iff_eq, ne_eq, Bool.not_eq_true', Bool.not_eq_false'] at hc)
      obtain ⟨y, hy0⟩ : ∃ y, slots[i]? = some y := ⟨_, List.getElem?_eq_getElem (by omega)⟩
      have hy := inS_succ hy0 s
      refine T.skip ?_
      refine keepK hK11 [1, 2, 5, 6, 7, 8] (by dsimp) (by dsimp) ?_
      refine T.seq fun K13 hK13 => ?_
      refine T.block ?_
      refine T.region ?_ -- region 9
      refine ro rfl rfl (OpOk.step (ok_move (.inl rfl))) ?_
      refine ro_case rfl rfl (OpOk.step (ok_moveb (.inl rfl) rfl)) (fun hb => ?_) (fun hb => ?_)
      · (try simp only [decide_eq_true_eq, decide_eq_false_iff_not, beq_iff_eq, beq_eq_false_iff_ne, bne_iff_ne, bne_eq_false_iff_eq, ne_eq, Bool.not_eq_true', Bool.not_eq_false'] at hb)
        refine ro_skip rfl rfl ?_
        refine ro_skip rfl rfl ?_
        refine ro_skip rfl rfl ?_
        refine ro_skip rfl rfl ?_
        refine ro_skip rfl rfl ?_
        refine ro_skip rfl rfl ?_
        refine ro rfl rfl (OpOk.step (ok_pickb (t := true) (d := true) rfl rfl rfl)) ?_
        refine ro rfl rfl (OpOk.step (ok_moveb (c := true) (.inr rfl) rfl)) ?_
        refine ro_nil ?_
        refine keepK hK13 [1, 2, 5, 6, 7, 8] (by dsimp) (by dsimp) ?_
        refine T.region ?_ -- region 8
        refine ro rfl rfl (OpOk.step (ok_move (.inl rfl))) ?_
        refine ro rfl rfl (OpOk.step (ok_add64 rfl ti_int rfl rfl (by omega) (by omega))) ?_
        refine ro rfl rfl (OpOk.step (ok_move (.inr rfl))) ?_
        refine ro_nil ?_
        first
          | exact ⟨i + 1, by omega, by omega, TEnt.toH rfl ⟨rfl, rfl, rfl, rfl, by (try dsimp); rw [hy, hb, Bool.or_true], rfl, trivial⟩⟩
          | exact ⟨i + 1, by omega, by omega, TEnt.toH rfl ⟨rfl, rfl, rfl, rfl, by (try dsimp); rw [hy, hb, Bool.or_false]; exact congrArg AV.b (by rw [Bool.eq_iff_iff, beq_iff_eq, decide_eq_true_eq]; exact eq_comm), rfl, trivial⟩⟩
      · (try simp only [decide_eq_true_eq, decide_eq_false_iff_not, beq_iff_eq, beq_eq_false_iff_ne, bne_iff_ne, bne_eq_false_iff_eq, ne_eq, Bool.not_eq_true', Bool.not_eq_false'] at hb)
        refine ro rfl rfl (OpOk.step (ok_move (.inl rfl))) ?_
        refine ro rfl rfl (OpOk.step (ok_move (.inl rfl))) ?_
        refine ro rfl rfl (OpOk.step (by exact ok_index_ints rfl ti_Lint rfl ti_int rfl rfl rfl (by omega) (by simpa using hy0))) ?_
        refine ro rfl rfl (OpOk.step (ok_load rfl ti_int rfl rfl)) ?_
        refine ro rfl rfl (OpOk.step (ok_move (.inl rfl))) ?_
        refine ro rfl rfl (OpOk.step (ok_binOp rfl ti_int rfl)) ?_
        refine ro rfl rfl (OpOk.step (ok_pick rfl rfl)) ?_
        refine ro rfl rfl (OpOk.step (ok_move (.inr rfl))) ?_
        refine ro_nil ?_
        refine keepK hK13 [1, 2, 5, 6, 7, 8] (by dsimp) (by dsimp) ?_
        refine T.region ?_ -- region 8
        refine ro rfl rfl (OpOk.step (ok_move (.inl rfl))) ?_
        refine ro rfl rfl (OpOk.step (ok_add64 rfl ti_int rfl rfl (by omega) (by omega))) ?_
        refine ro rfl rfl (OpOk.step (ok_move (.inr rfl))) ?_
        refine ro_nil ?_
        first
          | exact ⟨i + 1, by omega, by omega, TEnt.toH rfl ⟨rfl, rfl, rfl, rfl, by (try dsimp); rw [hy, hb, Bool.or_true], rfl, trivial⟩⟩
          | exact ⟨i + 1, by omega, by omega, TEnt.toH rfl ⟨rfl, rfl, rfl, rfl, by (try dsimp); rw [hy, hb, Bool.or_false]; exact congrArg AV.b (by rw [Bool.eq_iff_iff, beq_iff_eq, decide_eq_true_eq]; exact eq_comm), rfl, trivial⟩⟩
    · (try simp only [decide_eq_true_eq, decide_eq_false_iff_not, beq_iff_eq, beq_eq_false_iff_ne, bne_iff_ne, bne_eq_false_iff_eq, ne_eq, Bool.not_eq_true', Bool.not_eq_false'] at hc)
      have hin : i = slots.length := by omega
      subst hin
      have hall : inS slots slots.length s = decide ((s : Int) ∈ slots) := by unfold inS; rw [List.take_length]
      refine T.exit ?_
      refine keepK hK9 [1, 2, 5, 6, 7] (by dsimp) (by dsimp) ?_
      refine T.seq fun K14 hK14 => ?_
      refine T.seq fun K15 hK15 => ?_
      refine T.region ?_ -- region 10
      refine ro rfl rfl (OpOk.step (ok_move (.inl rfl))) ?_
      refine ro rfl rfl (OpOk.step (ok_unOp rfl rfl)) ?_
      refine ro_nil ?_
      refine keepK hK15 [1, 2, 5, 6, 31] (by dsimp) (by dsimp) ?_
      refine T.cond rfl (fun hc => ?_) (fun hc => ?_) -- cond 3
      · (try simp only [decide_eq_true_eq, decide_eq_false_iff_not, beq_iff_eq, beq_eq_false_iff_ne, bne_iff_ne, bne_eq_false_iff_eq, ne_eq, Bool.not_eq_true', Bool.not_eq_false'] at hc)
        have hno : ¬ (s : Int) ∈ slots := by rw [hall] at hc; simpa using hc
        rw [if_neg hno] at hnext
        refine T.exit ?_
        refine keepK hK7 [1, 2, 5, 6] (by dsimp) (by dsimp) ?_
        refine T.region ?_ -- region 4
        refine ro rfl rfl (OpOk.step (ok_move (.inl rfl))) ?_
        refine ro rfl rfl (OpOk.step (ok_add64 rfl ti_int rfl rfl (by omega) (by omega))) ?_
        refine ro rfl rfl (OpOk.step (ok_move (.inr rfl))) ?_
        refine ro_nil ?_
        first
          | exact ⟨s + 1, by omega, by omega, TEnt.toH (by rw [hnext]) ⟨rfl, rfl, by rw [hnext]; rfl, rfl, trivial⟩⟩
          | exact ⟨s + 1, by omega, by omega, TEnt.fin [0, 6] (by decide) (by simp) (by rw [← hins]; simp [normH, hget, Blk.ren, renL, AV.ren, renL_ints, nI_take, nI_drop, nI]) ⟨by simp [AV.ren, renL_ints], rfl, by rw [← hins]; simp; rfl, rfl, trivial⟩⟩
      · (try simp only [decide_eq_true_eq, decide_eq_false_iff_not, beq_iff_eq, beq_eq_false_iff_ne, bne_iff_ne, bne_eq_false_iff_eq, ne_eq, Bool.not_eq_true', Bool.not_eq_false'] at hc)
        have hyes : (s : Int) ∈ slots := by rw [hall] at hc; simpa using hc
        obtain ⟨ts, hts⟩ : ∃ x, tb[s]? = some x := ⟨_, List.getElem?_eq_getElem (by omega)⟩
        have htfs := tf_get hts
        refine T.skip ?_
        refine keepK hK14 [1, 2, 5, 6] (by dsimp) (by dsimp) ?_
        refine T.seq fun K16 hK16 => ?_
        refine T.region ?_ -- region 11
        refine ro rfl rfl (OpOk.step (ok_move (.inl rfl))) ?_
        refine ro rfl rfl (OpOk.step (ok_len' rfl rfl ti_Lint rfl (by first | exact ints_length _ _ | exact rowsA_length _ _ | rfl))) ?_
        refine ro rfl rfl (OpOk.step (ok_move (.inr rfl))) ?_
        refine ro_nil ?_
        refine keepK hK16 [1, 2, 5, 6, 9] (by dsimp) (by dsimp) ?_
        refine T.seq fun K17 hK17 => ?_
        refine T.block ?_
        refine T.loopI (ι := Nat) (fun i => i ≤ (ordL (tf tb) slots s).length ∧ ∀ x ∈ (ordL (tf tb) slots s).drop i, tf tb s < tf tb x) (fun i => i) (fun i => ([(1, .fz 1 (ints .i64 slots)), (2, .ref 0 0 0), (5, .sl 1 0 (nI (ordL (tf tb) slots s)).length), (6, .int s), (9, .int i)], [some ⟨64, true, [.agg (ints .i64 tb)]⟩, some ⟨1, true, ints .i64 (nI (ordL (tf tb) slots s))⟩])) (ordL (tf tb) slots s).length ⟨Nat.le_refl _, fun x hx => by rw [List.drop_length] at hx; cases hx⟩ (TEnt.toH rfl ⟨rfl, rfl, rfl, rfl, by simp, trivial⟩) (fun i hi => ?_) -- loop 3
        refine T.seq fun K18 hK18 => ?_
        refine T.seq fun K19 hK19 => ?_
        refine T.drawH mixed [] ?_ -- region 12
        refine any_take 0 rfl (by first | rfl | decide +kernel) rfl (HeldL.refl _) (fun H' hH => OpOk.step (ok_move (.inl rfl))) ?_
        refine any_take 1 rfl (by first | rfl | decide +kernel) rfl (HeldL.refl _) (fun H' hH => OpOk.step (ok_binOp rfl ti_int rfl)) ?_
        refine any_take_case 2 rfl (by first | rfl | decide +kernel) rfl (HeldL.refl _) (fun H' hH => OpOk.step (ok_moveb (.inl rfl) rfl)) (fun hb => ?_) (fun hb => ?_)
        · (try simp only [decide_eq_true_eq, decide_eq_false_iff_not, beq_iff_eq, beq_eq_false_iff_ne, bne_iff_ne, bne_eq_false_iff_eq, ne_eq, Bool.not_eq_true', Bool.not_eq_false'] at hb)
          have hi0 : 0 < i := by first | omega | (simp at hb; omega)
          obtain ⟨k, rfl⟩ : ∃ k, i = k + 1 := ⟨i - 1, by omega⟩
          obtain ⟨m, hm⟩ : ∃ m, (ordL (tf tb) slots s)[k]? = some m := ⟨_, List.getElem?_eq_getElem (by omega)⟩
          have hm64 : m < 64 := by have := ((hOm m).1 (List.mem_of_getElem? hm)).1; omega
          obtain ⟨xm, hxm⟩ : ∃ x, tb[m]? = some x := ⟨_, List.getElem?_eq_getElem (by omega)⟩
          have htfm := tf_get hxm
          have hkl : k < (ordL (tf tb) slots s).length := by omega
          refine any_take 3 rfl (by first | rfl | decide +kernel) rfl (HeldL.refl _) (fun H' hH => OpOk.step (ok_move (.inl rfl))) ?_
          refine any_take 4 rfl (by first | rfl | decide +kernel) rfl (HeldL.refl _) (fun H' hH => OpOk.step (ok_move (.inl rfl))) ?_
          refine any_take 5 rfl (by first | rfl | decide +kernel) rfl (HeldL.refl _) (fun H' hH => OpOk.step ((ok_sub64 rfl ti_int rfl rfl (by omega) (by omega)).eq (x' := .int k) (congrArg AV.int (by omega)) rfl)) ?_
          refine any_take 6 rfl (by first | rfl | decide +kernel) rfl (HeldL.refl _) (fun H' hH => OpOk.step (by exact ok_index_sl rfl ti_Lint rfl ti_int rfl (hH.get rfl) rfl rfl (by omega) (by simp; omega))) ?_
          refine any_take 7 rfl (by first | rfl | decide +kernel) rfl (HeldL.refl _) (fun H' hH => OpOk.step (by exact ok_load_ints (b := ⟨1, true, ints .i64 (nI (ordL (tf tb) slots s))⟩) (k := .i64) rfl ti_int rfl rfl (hH.get rfl) rfl (nI_get (by simpa using hm)))) ?_
          refine any_take 8 rfl (by first | rfl | decide +kernel) rfl (HeldL.refl _) (fun H' hH => OpOk.step (by exact ok_index_arr rfl ti_A64int rfl ti_int rfl rfl rfl rfl hm64)) ?_
          refine any_take 9 rfl (by first | rfl | decide +kernel) rfl (HeldL.refl _) (fun H' hH => OpOk.step (by exact ok_load rfl ti_int (locA_held hH (locA_arr rfl rfl rfl hTne)) (loadA_ints rfl hxm))) ?_
          refine any_take 10 rfl (by first | rfl | decide +kernel) rfl (HeldL.refl _) (fun H' hH => OpOk.step (ok_move (.inl rfl))) ?_
          refine any_take 11 rfl (by first | rfl | decide +kernel) rfl (HeldL.refl _) (fun H' hH => OpOk.step (by exact ok_index_arr rfl ti_A64int rfl ti_int rfl rfl rfl rfl (show s < 64 by omega))) ?_
          refine any_take 12 rfl (by first | rfl | decide +kernel) rfl (HeldL.refl _) (fun H' hH => OpOk.step (by exact ok_load rfl ti_int (locA_held hH (locA_arr rfl rfl rfl hTne)) (loadA_ints rfl hts))) ?_
          refine any_take 13 rfl (by first | rfl | decide +kernel) rfl (HeldL.refl _) (fun H' hH => OpOk.step (ok_binOp rfl ti_int rfl)) ?_
          refine any_take 14 rfl (by first | rfl | decide +kernel) rfl (HeldL.refl _) (fun H' hH => OpOk.step (ok_pick rfl rfl)) ?_
          refine any_done rfl ?_
          refine keepK hK19 [1, 2, 5, 6, 9, 48] (by dsimp) (by dsimp) ?_
          refine T.cond rfl (fun hc => ?_) (fun hc => ?_) -- cond 4
          · (try simp only [decide_eq_true_eq, decide_eq_false_iff_not, beq_iff_eq, beq_eq_false_iff_ne, bne_iff_ne, bne_eq_false_iff_eq, ne_eq, Bool.not_eq_true', Bool.not_eq_false'] at hc)
            have hd : (ordL (tf tb) slots s).drop k = m :: (ordL (tf tb) slots s).drop (k + 1) := by
              rw [List.drop_eq_getElem_cons hkl]
              congr 1
              rw [List.getElem?_eq_getElem hkl] at hm
              exact Option.some.inj hm
            refine T.skip ?_
            refine keepK hK18 [1, 2, 5, 6, 9] (by dsimp) (by dsimp) ?_
            refine T.block ?_
            refine T.region ?_ -- region 13
            refine ro rfl rfl (OpOk.step (ok_move (.inl rfl))) ?_
            refine ro rfl rfl (OpOk.step (ok_sub64 rfl ti_int rfl rfl (by omega) (by omega))) ?_
            refine ro rfl rfl (OpOk.step (ok_move (.inr rfl))) ?_
            refine ro_nil ?_
            exact ⟨k, ⟨by omega, fun x hx => by
              rw [hd] at hx
              rcases List.mem_cons.1 hx with e | hx
              · subst e; rw [htfm, htfs]; omega
              · exact hi.2 x hx⟩, by omega, TEnt.toH rfl ⟨rfl, rfl, rfl, rfl, congrArg AV.int (by omega), trivial⟩⟩
          · (try simp only [decide_eq_true_eq, decide_eq_false_iff_not, beq_iff_eq, beq_eq_false_iff_ne, bne_iff_ne, bne_eq_false_iff_eq, ne_eq, Bool.not_eq_true', Bool.not_eq_false'] at hc)
            obtain ⟨kk, hkk⟩ : ∃ kk, k + 1 = kk := ⟨_, rfl⟩
            have hkk' : ((k : Int) + 1) = (kk : Int) := by omega
            have hle : ∀ x ∈ (ordL (tf tb) slots s).take kk, tf tb x ≤ tf tb s := hkk ▸ ahead_le hOs hm (by rw [htfm, htfs]; omega)
            have hgt := hi.2
            have hkl2 : kk ≤ (ordL (tf tb) slots s).length := by omega
            have hsub : ((k + 1 : Nat) : Int) = (kk : Int) := by omega
            rw [hkk] at hgt
            clear hi hkl
            have hins := ins_at hyes hle hgt
            refine T.exit ?_
            refine keepK hK17 [1, 2, 5, 6, 9] (by dsimp) (by dsimp) ?_
            refine T.seq fun K20 hK20 => ?_
            refine T.ent (TEnt.toH (tm' := [(1, .fz 1 (ints .i64 slots)), (2, .ref 0 0 0), (5, .sl 1 0 (nI (ordL (tf tb) slots s)).length), (6, .int s), (9, .int kk)]) rfl ⟨rfl, rfl, rfl, rfl, by first | exact congrArg AV.int hsub.symm | exact congrArg AV.int hsub | exact congrArg AV.int hkk', trivial⟩) ?_
            generalize ordL (tf tb) slots s = O at hins hkl2 hle hgt hnext hOl ⊢
            refine T.region ?_ -- region 14
            refine ro rfl rfl (OpOk.step (ok_buildSlice (n := 0) (ps := #[]) rfl ti_Lint rfl ti_int (by decide) rfl rfl (by decide) rfl rfl rfl)) ?_
            refine ro rfl rfl (OpOk.step (ok_move (.inl rfl))) ?_
            refine ro rfl rfl (OpOk.step (ok_move (.inl rfl))) ?_
            refine ro rfl rfl (OpOk.step (by exact ok_slice (r := .sl 1 0 kk) rfl ti_Lint (.inl ⟨_, _, rfl, ti_int, rfl⟩) rfl rfl rfl (by simp [sliceA, hget]; omega))) ?_
            refine ro rfl rfl (OpOk.step (by exact ok_append_ints (k := .i64) (xs := []) (ys := (nI O).take kk) rfl ti_Lint rfl ti_int rfl (by decide) rfl ti_Lint (by simp) (by simp [rowA, hget, ints_take, hkl2]) rfl rfl rfl rfl rfl rfl rfl (by simp) (by simp <;> omega))) ?_
            refine ro rfl rfl (OpOk.step (ok_move (.inr rfl))) ?_
            refine ro_nil ?_
            refine keepK hK20 [1, 2, 5, 6, 9, 10] (by dsimp) (by dsimp) ?_
            refine T.seq fun K21 hK21 => ?_
            refine T.region ?_ -- region 15
            refine ro rfl rfl (OpOk.step (ok_move (.inl rfl))) ?_
            refine ro rfl rfl (OpOk.step (ok_move (.inl rfl))) ?_
            refine ro rfl rfl (OpOk.step (ok_buildSlice (n := 1) (ps := #[(0, .tmp 57)]) rfl ti_Lint rfl ti_int (by decide) rfl rfl (by decide) rfl rfl rfl)) ?_
            refine ro rfl rfl (OpOk.step (by exact ok_append_ints (k := .i64) (xs := (nI O).take kk) (ys := [(s : Int)]) rfl ti_Lint rfl ti_int rfl (by decide) rfl ti_Lint (by simp) rfl rfl rfl rfl rfl rfl rfl rfl (by simp) (by simp <;> omega))) ?_
            refine ro rfl rfl (OpOk.step (ok_move (.inr rfl))) ?_
            refine ro_nil ?_
            refine keepK hK21 [1, 2, 5, 6, 9, 10] (by dsimp) (by dsimp) ?_
            refine T.region ?_ -- region 16
            refine ro rfl rfl (OpOk.step (ok_move (.inl rfl))) ?_
            refine ro rfl rfl (OpOk.step (ok_move (.inl rfl))) ?_
            refine ro rfl rfl (OpOk.step (ok_move (.inl rfl))) ?_
            refine ro rfl rfl (OpOk.step (by exact ok_slice (r := .sl 1 kk ((nI O).length - kk)) rfl ti_Lint (.inl ⟨_, _, rfl, ti_int, rfl⟩) rfl rfl rfl (by simp [sliceA, hget]; omega))) ?_
            refine ro rfl rfl (OpOk.step (by exact ok_append_ints (k := .i64) (xs := (nI O).take kk ++ [(s : Int)]) (ys := (nI O).drop kk) rfl ti_Lint rfl ti_int rfl (by decide) rfl ti_Lint (by simp) (by simp [rowA, hget, ints_drop, hkl2, List.take_of_length_le]) rfl rfl rfl rfl rfl rfl rfl (by simp) (by simp <;> omega))) ?_
            refine ro rfl rfl (OpOk.step (ok_move (.inr rfl))) ?_
            refine ro_nil ?_
            refine keepK hK7 [1, 2, 5, 6] (by dsimp) (by dsimp) ?_
            refine T.region ?_ -- region 4
            refine ro rfl rfl (OpOk.step (ok_move (.inl rfl))) ?_
            refine ro rfl rfl (OpOk.step (ok_add64 rfl ti_int rfl rfl (by omega) (by omega))) ?_
            refine ro rfl rfl (OpOk.step (ok_move (.inr rfl))) ?_
            refine ro_nil ?_
            first
              | exact ⟨s + 1, by omega, by omega, TEnt.toH (by rw [hnext]) ⟨rfl, rfl, by rw [hnext]; rfl, rfl, trivial⟩⟩
              | exact ⟨s + 1, by omega, by omega, TEnt.fin [0, 6] (by decide) (by simp) (by rw [← hins]; simp [normH, hget, Blk.ren, renL, AV.ren, renL_ints, nI_take, nI_drop, nI]) ⟨by simp [AV.ren, renL_ints], rfl, by rw [← hins]; simp; rfl, rfl, trivial⟩⟩
        · (try simp only [decide_eq_true_eq, decide_eq_false_iff_not, beq_iff_eq, beq_eq_false_iff_ne, bne_iff_ne, bne_eq_false_iff_eq, ne_eq, Bool.not_eq_true', Bool.not_eq_false'] at hb)
          have hi0 : i = 0 := by first | omega | (simp at hb; omega)
          subst hi0
          obtain ⟨kk, hkk⟩ : ∃ kk, 0 = kk := ⟨_, rfl⟩
          have hle : ∀ x ∈ (ordL (tf tb) slots s).take kk, tf tb x ≤ tf tb s := fun x hx => by rw [← hkk] at hx; simp at hx
          have hgt := hi.2
          have hkl2 : kk ≤ (ordL (tf tb) slots s).length := by omega
          have hsub : ((0 : Nat) : Int) = (kk : Int) := by omega
          rw [hkk] at hgt
          have hins := ins_at hyes hle hgt
          refine any_skip 3 rfl (by first | rfl | decide +kernel) rfl (HeldL.refl _) ?_
          refine any_skip 4 rfl (by first | rfl | decide +kernel) rfl (HeldL.refl _) ?_
          refine any_skip 5 rfl (by first | rfl | decide +kernel) rfl (HeldL.refl _) ?_
          refine any_skip 6 rfl (by first | rfl | decide +kernel) rfl (HeldL.refl _) ?_
          refine any_skip 7 rfl (by first | rfl | decide +kernel) rfl (HeldL.refl _) ?_
          refine any_skip 8 rfl (by first | rfl | decide +kernel) rfl (HeldL.refl _) ?_
          refine any_skip 9 rfl (by first | rfl | decide +kernel) rfl (HeldL.refl _) ?_
          refine any_skip 10 rfl (by first | rfl | decide +kernel) rfl (HeldL.refl _) ?_
          refine any_skip 11 rfl (by first | rfl | decide +kernel) rfl (HeldL.refl _) ?_
          refine any_skip 12 rfl (by first | rfl | decide +kernel) rfl (HeldL.refl _) ?_
          refine any_skip 13 rfl (by first | rfl | decide +kernel) rfl (HeldL.refl _) ?_
          refine any_take 14 rfl (by first | rfl | decide +kernel) rfl (HeldL.refl _) (fun H' hH => OpOk.step (ok_pickb (t := false) (d := false) rfl rfl rfl)) ?_
          refine any_done rfl ?_
          refine keepK hK19 [1, 2, 5, 6, 9, 48] (by dsimp) (by dsimp) ?_
          refine T.cond_false rfl ?_
          refine T.exit ?_
          refine keepK hK17 [1, 2, 5, 6, 9] (by dsimp) (by dsimp) ?_
          refine T.seq fun K22 hK22 => ?_
          refine T.ent (TEnt.toH (tm' := [(1, .fz 1 (ints .i64 slots)), (2, .ref 0 0 0), (5, .sl 1 0 (nI (ordL (tf tb) slots s)).length), (6, .int s), (9, .int kk)]) rfl ⟨rfl, rfl, rfl, rfl, by first | exact congrArg AV.int hsub.symm | exact congrArg AV.int hsub | exact congrArg AV.int hkk', trivial⟩) ?_
          generalize ordL (tf tb) slots s = O at hins hkl2 hle hgt hnext hOl ⊢
          refine T.region ?_ -- region 14
          refine ro rfl rfl (OpOk.step (ok_buildSlice (n := 0) (ps := #[]) rfl ti_Lint rfl ti_int (by decide) rfl rfl (by decide) rfl rfl rfl)) ?_
          refine ro rfl rfl (OpOk.step (ok_move (.inl rfl))) ?_
          refine ro rfl rfl (OpOk.step (ok_move (.inl rfl))) ?_
          refine ro rfl rfl (OpOk.step (by exact ok_slice (r := .sl 1 0 kk) rfl ti_Lint (.inl ⟨_, _, rfl, ti_int, rfl⟩) rfl rfl rfl (by simp [sliceA, hget]; omega))) ?_
          refine ro rfl rfl (OpOk.step (by exact ok_append_ints (k := .i64) (xs := []) (ys := (nI O).take kk) rfl ti_Lint rfl ti_int rfl (by decide) rfl ti_Lint (by simp) (by simp [rowA, hget, ints_take, hkl2]) rfl rfl rfl rfl rfl rfl rfl (by simp) (by simp <;> omega))) ?_
          refine ro rfl rfl (OpOk.step (ok_move (.inr rfl))) ?_
          refine ro_nil ?_
          refine keepK hK22 [1, 2, 5, 6, 9, 10] (by dsimp) (by dsimp) ?_
          refine T.seq fun K23 hK23 => ?_
          refine T.region ?_ -- region 15
          refine ro rfl rfl (OpOk.step (ok_move (.inl rfl))) ?_
          refine ro rfl rfl (OpOk.step (ok_move (.inl rfl))) ?_
          refine ro rfl rfl (OpOk.step (ok_buildSlice (n := 1) (ps := #[(0, .tmp 57)]) rfl ti_Lint rfl ti_int (by decide) rfl rfl (by decide) rfl rfl rfl)) ?_
          refine ro rfl rfl (OpOk.step (by exact ok_append_ints (k := .i64) (xs := (nI O).take kk) (ys := [(s : Int)]) rfl ti_Lint rfl ti_int rfl (by decide) rfl ti_Lint (by simp) rfl rfl rfl rfl rfl rfl rfl rfl (by simp) (by simp <;> omega))) ?_
          refine ro rfl rfl (OpOk.step (ok_move (.inr rfl))) ?_
          refine ro_nil ?_
          refine keepK hK23 [1, 2, 5, 6, 9, 10] (by dsimp) (by dsimp) ?_
          refine T.region ?_ -- region 16
          refine ro rfl rfl (OpOk.step (ok_move (.inl rfl))) ?_
          refine ro rfl rfl (OpOk.step (ok_move (.inl rfl))) ?_
          refine ro rfl rfl (OpOk.step (ok_move (.inl rfl))) ?_
          refine ro rfl rfl (OpOk.step (by exact ok_slice (r := .sl 1 kk ((nI O).length - kk)) rfl ti_Lint (.inl ⟨_, _, rfl, ti_int, rfl⟩) rfl rfl rfl (by simp [sliceA, hget]; omega))) ?_
          refine ro rfl rfl (OpOk.step (by exact ok_append_ints (k := .i64) (xs := (nI O).take kk ++ [(s : Int)]) (ys := (nI O).drop kk) rfl ti_Lint rfl ti_int rfl (by decide) rfl ti_Lint (by simp) (by simp [rowA, hget, ints_drop, hkl2, List.take_of_length_le]) rfl rfl rfl rfl rfl rfl rfl (by simp) (by simp <;> omega))) ?_
          refine ro rfl rfl (OpOk.step (ok_move (.inr rfl))) ?_
          refine ro_nil ?_
          refine keepK hK7 [1, 2, 5, 6] (by dsimp) (by dsimp) ?_
          refine T.region ?_ -- region 4
          refine ro rfl rfl (OpOk.step (ok_move (.inl rfl))) ?_
          refine ro rfl rfl (OpOk.step (ok_add64 rfl ti_int rfl rfl (by omega) (by omega))) ?_
          refine ro rfl rfl (OpOk.step (ok_move (.inr rfl))) ?_
          refine ro_nil ?_
          first
            | exact ⟨s + 1, by omega, by omega, TEnt.toH (by rw [hnext]) ⟨rfl, rfl, by rw [hnext]; rfl, rfl, trivial⟩⟩
            | exact ⟨s + 1, by omega, by omega, TEnt.fin [0, 6] (by decide) (by simp) (by rw [← hins]; simp [normH, hget, Blk.ren, renL, AV.ren, renL_ints, nI_take, nI_drop, nI]) ⟨by simp [AV.ren, renL_ints], rfl, by rw [← hins]; simp; rfl, rfl, trivial⟩⟩
  · (try simp only [decide_eq_true_eq, decide_eq_false_iff_not, beq_iff_eq, beq_eq_false_iff_ne, bne_iff_ne, bne_eq_false_iff_eq, ne_eq, Bool.not_eq_true', Bool.not_eq_false'] at hc)
    have hin : s = 64 := by omega
    subst hin
    refine T.exit ?_
    refine keepK hK3 [5] (by dsimp) (by dsimp) ?_
    refine T.seq fun K24 hK24 => ?_
    refine T.region ?_ -- region 17
    refine ro rfl rfl (OpOk.step (ok_move (.inl rfl))) ?_
    refine ro rfl rfl (OpOk.step (ok_move (.inr rfl))) ?_
    refine ro_nil ?_
    refine keepK hK24 [4] (by dsimp) (by dsimp) ?_
    refine T.ret (hQ _ _ _ rfl ?_).1 -- ret 1
    exact TEnt.fin [1] (by decide) (by simp) (by simp [normH, hget, Blk.ren, renL_ints]) ⟨rfl, trivial⟩
end Go.Proofs.Ytknhemdpfdopaaa.AmF
