/- Walks over the abstract machine: the least of any slots. -/
import Derived.Test.YtknhemdpfdopaaaAfOrder
import Derived.Test.YtknhemdpfdopaaaAfWear
namespace Go.Proofs.Ytknhemdpfdopaaa.AmF
open Go Go.AM
set_option maxRecDepth 100000
set_option linter.unusedSimpArgs false
set_option linter.unusedVariables false
attribute [local simp] tkeep tget tput ev cav argsTM pickA normT putA splice AV.cells ints_length rowsA_length
theorem thereG_ok (s : Int) : CSpec Try.prog 58 [] [.int s] [] (.b (decide (0 ≤ s ∧ s < 64))) := by
  refine CSpec.body Try.func58 rfl rfl rfl rfl rfl fun Q hQ => ?_
  refine T.seq fun K1 hK1 => ?_
  refine T.region ?_ -- region 0
  refine ro rfl rfl (OpOk.step (ok_moveb (c := false) (.inr rfl) rfl)) ?_
  refine ro_nil ?_
  refine keepK hK1 [0] (by dsimp) (by dsimp) ?_
  refine T.seq fun K2 hK2 => ?_
  refine T.region ?_ -- region 1
  refine ro rfl rfl (OpOk.step (ok_move (.inl rfl))) ?_
  refine ro rfl rfl (OpOk.step (ok_binOp rfl ti_int rfl)) ?_
  refine ro_case rfl rfl (OpOk.step (ok_moveb (.inl rfl) rfl)) (fun hb => ?_) (fun hb => ?_)
  · (try simp only [decide_eq_true_eq, decide_eq_false_iff_not, beq_iff_eq, beq_eq_false_iff_ne, bne_iff_ne, bne_eq_false_iff_eq, ne_eq, Bool.not_eq_true', Bool.not_eq_false'] at hb)
    refine ro rfl rfl (OpOk.step (ok_move (.inl rfl))) ?_
    refine ro rfl rfl (OpOk.step (ok_binOp rfl ti_int rfl)) ?_
    refine ro rfl rfl (OpOk.step (ok_pick rfl rfl)) ?_
    refine ro rfl rfl (OpOk.step (ok_move (.inr rfl))) ?_
    refine ro_nil ?_
    refine keepK hK2 [2] (by dsimp) (by dsimp) ?_
    refine T.ret (hQ _ _ _ rfl ?_).1 -- ret 1
    exact by first | (have e : decide (0 ≤ s ∧ s < 64) = false := decide_eq_false (by omega); rw [e]; exact TEnt.toH rfl ⟨rfl, trivial⟩) | (have e : decide (0 ≤ s ∧ s < 64) = decide (s < 64) := decide_eq_decide.2 (by omega); rw [e]; exact TEnt.toH rfl ⟨rfl, trivial⟩)
  · (try simp only [decide_eq_true_eq, decide_eq_false_iff_not, beq_iff_eq, beq_eq_false_iff_ne, bne_iff_ne, bne_eq_false_iff_eq, ne_eq, Bool.not_eq_true', Bool.not_eq_false'] at hb)
    refine ro_skip rfl rfl ?_
    refine ro_skip rfl rfl ?_
    refine ro rfl rfl (OpOk.step (ok_pickb (t := false) (d := false) rfl rfl rfl)) ?_
    refine ro rfl rfl (OpOk.step (ok_moveb (c := false) (.inr rfl) rfl)) ?_
    refine ro_nil ?_
    refine keepK hK2 [2] (by dsimp) (by dsimp) ?_
    refine T.ret (hQ _ _ _ rfl ?_).1 -- ret 2
    exact by first | (have e : decide (0 ≤ s ∧ s < 64) = false := decide_eq_false (by omega); rw [e]; exact TEnt.toH rfl ⟨rfl, trivial⟩) | (have e : decide (0 ≤ s ∧ s < 64) = decide (s < 64) := decide_eq_decide.2 (by omega); rw [e]; exact TEnt.toH rfl ⟨rfl, trivial⟩)
def lstep (tb : List Int) (p : Nat × Bool) (s : Int) : Nat × Bool :=
  if 0 ≤ s ∧ s < 64 then (if p.2 = false ∨ tb.getD s.toNat 0 < tb.getD p.1 0 ∨ (tb.getD s.toNat 0 = tb.getD p.1 0 ∧ s.toNat < p.1) then (s.toNat, true) else p) else p
def lst (tb : List Int) (l : List Int) : Nat × Bool := l.foldl (lstep tb) (0, false)
theorem lst_snoc {tb l : List Int} {i : Nat} {s : Int} (h : l[i]? = some s) : lst tb (l.take (i + 1)) = lstep tb (lst tb (l.take i)) s := by
  rw [take_succ_get h]
  simp [lst, List.foldl_append]
theorem lstep_bd {tb : List Int} {p : Nat × Bool} {s : Int} (h : p.1 < 64) : (lstep tb p s).1 < 64 := by
  unfold lstep
  split
  · split
    · dsimp only; omega
    · exact h
  · exact h
theorem lst_bd {tb : List Int} : ∀ (l : List Int) (p : Nat × Bool), p.1 < 64 → (l.foldl (lstep tb) p).1 < 64
  | [], p, h => h
  | s :: l, p, h => lst_bd l (lstep tb p s) (lstep_bd h)
set_option maxHeartbeats 1000000 in
theorem leastG_ok (tb : List Int) (l : List Int) (hT : tb.length = 64) (hl : l.length ≤ 140737488355328) : CSpec Try.prog 14 [] [.agg (ints .i64 tb), .fz 1 (ints .i64 l)] [] (.tup [.int (lst tb l).1, .b (lst tb l).2]) := by
  have hTne : tb ≠ [] := fun h => by rw [h] at hT; cases hT
  refine CSpec.body Try.func14 rfl rfl rfl rfl rfl fun Q hQ => ?_
  refine T.seq fun K1 hK1 => ?_
  refine T.region ?_ -- region 0
  refine ro rfl rfl (OpOk.step (by exact ok_box (x := .tmp 0) (n := 64) rfl (fits_ints hT) (by decide))) ?_
  refine ro rfl rfl (OpOk.step (ok_move (.inr rfl))) ?_
  refine ro rfl rfl (OpOk.step (ok_moveb (c := false) (.inr rfl) rfl)) ?_
  refine ro_nil ?_
  refine keepK hK1 [1, 2] (by dsimp) (by dsimp) ?_
  refine T.seq fun K2 hK2 => ?_
  refine T.region ?_ -- region 1
  refine ro rfl rfl (OpOk.step (ok_move (.inr rfl))) ?_
  refine ro rfl rfl (OpOk.step (ok_moveb (c := false) (.inr rfl) rfl)) ?_
  refine ro_nil ?_
  refine keepK hK2 [1, 2, 6, 7] (by dsimp) (by dsimp) ?_
  refine T.seq fun K3 hK3 => ?_
  refine T.seq fun K4 hK4 => ?_
  refine T.region ?_ -- region 2
  refine ro rfl rfl (OpOk.step (ok_move (.inl rfl))) ?_
  refine ro rfl rfl (OpOk.step (ok_len' rfl rfl ti_Lint rfl (by first | exact ints_length _ _ | exact rowsA_length _ _ | rfl))) ?_
  refine ro rfl rfl (OpOk.step (ok_move (.inl rfl))) ?_
  refine ro_nil ?_
  refine keepK hK4 [2, 6, 7, 10, 11, 12] (by dsimp) (by dsimp) ?_
  refine T.block ?_
  refine T.loopI (ι := Nat) (fun i => i ≤ l.length) (fun i => l.length - i) (fun i => ([(2, .ref 0 0 0), (6, .int (lst tb (l.take i)).1), (7, .b (lst tb (l.take i)).2), (10, .fz 1 (ints .i64 l)), (11, .int l.length), (12, .int i)], [some ⟨64, true, [.agg (ints .i64 tb)]⟩])) 0 (Nat.zero_le _) (TEnt.toH rfl ⟨rfl, rfl, rfl, rfl, rfl, rfl, trivial⟩) (fun i hi => ?_) -- loop 1
  refine T.seq fun K5 hK5 => ?_
  refine T.region ?_ -- region 3
  refine ro rfl rfl (OpOk.step (ok_binOp rfl ti_int rfl)) ?_
  refine ro_nil ?_
  refine keepK hK5 [2, 6, 7, 10, 11, 12, 13] (by dsimp) (by dsimp) ?_
  refine T.seq fun K6 hK6 => ?_
  refine T.cond rfl (fun hc => ?_) (fun hc => ?_) -- cond 1
  · (try simp only [decide_eq_true_eq, decide_eq_false_iff_not, beq_iff_eq, beq_eq_false_iff_ne, bne_iff_ne, bne_eq_false_iff_eq, ne_eq, Bool.not_eq_true', Bool.not_eq_false'] at hc)
    obtain ⟨s, hs0⟩ : ∃ s, l[i]? = some s := ⟨_, List.getElem?_eq_getElem (by omega)⟩
    have hs := lst_snoc (tb := tb) hs0
    have hb64 : (lst tb (l.take i)).1 < 64 := lst_bd _ _ (by decide)
    generalize hL : lst tb (l.take i) = L at hs hb64 ⊢
    obtain ⟨b, f⟩ := L
    dsimp only at hs hb64 ⊢
    refine T.skip ?_
    refine keepK hK6 [2, 6, 7, 10, 11, 12] (by dsimp) (by dsimp) ?_
    refine T.seq fun K7 hK7 => ?_
    refine T.block ?_
    refine T.seq fun K8 hK8 => ?_
    refine T.region ?_ -- region 4
    refine ro rfl rfl (OpOk.step (by exact ok_index_ints rfl ti_Lint rfl ti_int rfl rfl rfl (by omega) (by simpa using hs0))) ?_
    refine ro rfl rfl (OpOk.step (ok_load rfl ti_int rfl rfl)) ?_
    refine ro rfl rfl (OpOk.step (ok_move (.inr rfl))) ?_
    refine ro_nil ?_
    refine keepK hK8 [2, 6, 7, 9, 10, 11, 12] (by dsimp) (by dsimp) ?_
    refine T.seq fun K9 hK9 => ?_
    refine T.seq fun K10 hK10 => ?_
    refine T.region ?_ -- region 5
    refine ro rfl rfl (OpOk.step (ok_move (.inl rfl))) ?_
    refine ro rfl rfl (ok_call rfl rfl rfl ((thereG_ok s).plain rfl rfl)) ?_
    refine ro rfl rfl (OpOk.step (ok_unOp rfl rfl)) ?_
    refine ro_nil ?_
    refine keepK hK10 [2, 6, 7, 9, 10, 11, 12, 18] (by dsimp) (by dsimp) ?_
    refine T.cond rfl (fun hc => ?_) (fun hc => ?_) -- cond 2
    · (try simp only [decide_eq_true_eq, decide_eq_false_iff_not, beq_iff_eq, beq_eq_false_iff_ne, bne_iff_ne, bne_eq_false_iff_eq, ne_eq, Bool.not_eq_true', Bool.not_eq_false'] at hc)
      have hno : ¬ (0 ≤ s ∧ s < 64) := by first | omega | (simp at hc; omega)
      have key : lst tb (l.take (i + 1)) = (b, f) := by rw [hs]; exact if_neg hno
      refine T.exit ?_
      refine keepK hK7 [2, 6, 7, 10, 11, 12] (by dsimp) (by dsimp) ?_
      refine T.region ?_ -- region 8
      refine ro rfl rfl (OpOk.step (ok_add64 rfl ti_int rfl rfl (by omega) (by omega))) ?_
      refine ro rfl rfl (OpOk.step (ok_move (.inl rfl))) ?_
      refine ro_nil ?_
      first
        | exact ⟨i + 1, by omega, by omega, TEnt.toH rfl ⟨rfl, by (try dsimp); rw [key], by (try dsimp); rw [key], rfl, rfl, rfl, trivial⟩⟩
        | (have e : lst tb (l.take (i + 1)) = (s, true) := by
             rw [hk]
             first
               | exact if_pos (.inl (by assumption))
               | exact if_pos (.inr (by omega))
               | (exfalso; omega)
           exact ⟨i + 1, by omega, by omega, TEnt.toH rfl ⟨rfl, by (try dsimp); rw [e], by (try dsimp); rw [e], rfl, rfl, rfl, trivial⟩⟩)
        | (have e : lst tb (l.take (i + 1)) = (b, f) := by
             rw [hk]
             refine if_neg ?_
             rintro (h | h)
             · first | exact absurd h (by assumption) | exact absurd (h.symm.trans (by assumption : f = true)) (by decide)
             · omega
           exact ⟨i + 1, by omega, by omega, TEnt.toH rfl ⟨rfl, by (try dsimp); rw [e], by (try dsimp); rw [e], rfl, rfl, rfl, trivial⟩⟩)
    · (try simp only [decide_eq_true_eq, decide_eq_false_iff_not, beq_iff_eq, beq_eq_false_iff_ne, bne_iff_ne, bne_eq_false_iff_eq, ne_eq, Bool.not_eq_true', Bool.not_eq_false'] at hc)
      have hin : 0 ≤ s ∧ s < 64 := by first | omega | (simp at hc; omega)
      obtain ⟨s, rfl⟩ := Int.eq_ofNat_of_zero_le hin.1
      have hs64 : s < 64 := by omega
      have hk : lst tb (l.take (i + 1)) = if f = false ∨ tb.getD s 0 < tb.getD b 0 ∨ (tb.getD s 0 = tb.getD b 0 ∧ s < b) then (s, true) else (b, f) := by rw [hs]; exact if_pos hin
      obtain ⟨xs, hxs⟩ : ∃ x, tb[s]? = some x := ⟨_, List.getElem?_eq_getElem (by omega)⟩
      obtain ⟨xb, hxb⟩ : ∃ x, tb[b]? = some x := ⟨_, List.getElem?_eq_getElem (by omega)⟩
      have e1 : tb.getD s 0 = xs := by rw [List.getD_eq_getElem?_getD, hxs]; rfl
      have e2 : tb.getD b 0 = xb := by rw [List.getD_eq_getElem?_getD, hxb]; rfl
      rw [e1, e2] at hk
      refine T.skip ?_
      refine keepK hK9 [2, 6, 7, 9, 10, 11, 12] (by dsimp) (by dsimp) ?_
      refine T.seq fun K11 hK11 => ?_
      refine T.drawH mixed [] ?_ -- region 6
      refine any_take 0 rfl (by first | rfl | decide +kernel) rfl (HeldL.refl _) (fun H' hH => OpOk.step (ok_move (.inl rfl))) ?_
      refine any_take 1 rfl (by first | rfl | decide +kernel) rfl (HeldL.refl _) (fun H' hH => OpOk.step (ok_unOp rfl rfl)) ?_
      refine any_take_case 2 rfl (by first | rfl | decide +kernel) rfl (HeldL.refl _) (fun H' hH => OpOk.step (ok_moveb (.inl rfl) rfl)) (fun hb => ?_) (fun hb => ?_)
      · (try simp only [decide_eq_true_eq, decide_eq_false_iff_not, beq_iff_eq, beq_eq_false_iff_ne, bne_iff_ne, bne_eq_false_iff_eq, ne_eq, Bool.not_eq_true', Bool.not_eq_false'] at hb)
        refine any_skip 3 rfl (by first | rfl | decide +kernel) rfl (HeldL.refl _) ?_
        refine any_skip 4 rfl (by first | rfl | decide +kernel) rfl (HeldL.refl _) ?_
        refine any_skip 5 rfl (by first | rfl | decide +kernel) rfl (HeldL.refl _) ?_
        refine any_skip 6 rfl (by first | rfl | decide +kernel) rfl (HeldL.refl _) ?_
        refine any_skip 7 rfl (by first | rfl | decide +kernel) rfl (HeldL.refl _) ?_
        refine any_skip 8 rfl (by first | rfl | decide +kernel) rfl (HeldL.refl _) ?_
        refine any_skip 9 rfl (by first | rfl | decide +kernel) rfl (HeldL.refl _) ?_
        refine any_take 10 rfl (by first | rfl | decide +kernel) rfl (HeldL.refl _) (fun H' hH => OpOk.step (ok_pickb (t := true) (d := true) rfl rfl rfl)) ?_
        refine any_take 11 rfl (by first | rfl | decide +kernel) rfl (HeldL.refl _) (fun H' hH => OpOk.step (ok_moveb (c := true) (.inl rfl) rfl)) ?_
        refine any_skip 12 rfl (by first | rfl | decide +kernel) rfl (HeldL.refl _) ?_
        refine any_skip 13 rfl (by first | rfl | decide +kernel) rfl (HeldL.refl _) ?_
        refine any_skip 14 rfl (by first | rfl | decide +kernel) rfl (HeldL.refl _) ?_
        refine any_skip 15 rfl (by first | rfl | decide +kernel) rfl (HeldL.refl _) ?_
        refine any_skip 16 rfl (by first | rfl | decide +kernel) rfl (HeldL.refl _) ?_
        refine any_skip 17 rfl (by first | rfl | decide +kernel) rfl (HeldL.refl _) ?_
        refine any_skip 18 rfl (by first | rfl | decide +kernel) rfl (HeldL.refl _) ?_
        refine any_skip 19 rfl (by first | rfl | decide +kernel) rfl (HeldL.refl _) ?_
        refine any_skip 20 rfl (by first | rfl | decide +kernel) rfl (HeldL.refl _) ?_
        refine any_skip 21 rfl (by first | rfl | decide +kernel) rfl (HeldL.refl _) ?_
        refine any_skip 22 rfl (by first | rfl | decide +kernel) rfl (HeldL.refl _) ?_
        refine any_skip 23 rfl (by first | rfl | decide +kernel) rfl (HeldL.refl _) ?_
        refine any_take 24 rfl (by first | rfl | decide +kernel) rfl (HeldL.refl _) (fun H' hH => OpOk.step (ok_pickb (t := true) (d := true) rfl rfl rfl)) ?_
        refine any_done rfl ?_
        refine keepK hK11 [2, 6, 7, 9, 10, 11, 12, 43] (by dsimp) (by dsimp) ?_
        refine T.cond_true rfl ?_
        refine T.region ?_ -- region 7
        refine ro rfl rfl (OpOk.step (ok_move (.inl rfl))) ?_
        refine ro rfl rfl (OpOk.step (ok_move (.inr rfl))) ?_
        refine ro rfl rfl (OpOk.step (ok_moveb (c := true) (.inr rfl) rfl)) ?_
        refine ro_nil ?_
        refine keepK hK7 [2, 6, 7, 10, 11, 12] (by dsimp) (by dsimp) ?_
        refine T.region ?_ -- region 8
        refine ro rfl rfl (OpOk.step (ok_add64 rfl ti_int rfl rfl (by omega) (by omega))) ?_
        refine ro rfl rfl (OpOk.step (ok_move (.inl rfl))) ?_
        refine ro_nil ?_
        first
          | exact ⟨i + 1, by omega, by omega, TEnt.toH rfl ⟨rfl, by (try dsimp); rw [key], by (try dsimp); rw [key], rfl, rfl, rfl, trivial⟩⟩
          | (have e : lst tb (l.take (i + 1)) = (s, true) := by
               rw [hk]
               first
                 | exact if_pos (.inl (by assumption))
                 | exact if_pos (.inr (by omega))
                 | (exfalso; omega)
             exact ⟨i + 1, by omega, by omega, TEnt.toH rfl ⟨rfl, by (try dsimp); rw [e], by (try dsimp); rw [e], rfl, rfl, rfl, trivial⟩⟩)
          | (have e : lst tb (l.take (i + 1)) = (b, f) := by
               rw [hk]
               refine if_neg ?_
               rintro (h | h)
               · first | exact absurd h (by assumption) | exact absurd (h.symm.trans (by assumption : f = true)) (by decide)
               · omega
             exact ⟨i + 1, by omega, by omega, TEnt.toH rfl ⟨rfl, by (try dsimp); rw [e], by (try dsimp); rw [e], rfl, rfl, rfl, trivial⟩⟩)
      · (try simp only [decide_eq_true_eq, decide_eq_false_iff_not, beq_iff_eq, beq_eq_false_iff_ne, bne_iff_ne, bne_eq_false_iff_eq, ne_eq, Bool.not_eq_true', Bool.not_eq_false'] at hb)
        refine any_take 3 rfl (by first | rfl | decide +kernel) rfl (HeldL.refl _) (fun H' hH => OpOk.step (ok_move (.inl rfl))) ?_
        refine any_take 4 rfl (by first | rfl | decide +kernel) rfl (HeldL.refl _) (fun H' hH => OpOk.step (by exact ok_index_arr rfl ti_wear_Table rfl ti_int rfl rfl rfl rfl hs64)) ?_
        refine any_take 5 rfl (by first | rfl | decide +kernel) rfl (HeldL.refl _) (fun H' hH => OpOk.step (by exact ok_load rfl ti_int (locA_held hH (locA_arr rfl rfl rfl hTne)) (loadA_ints rfl hxs))) ?_
        refine any_take 6 rfl (by first | rfl | decide +kernel) rfl (HeldL.refl _) (fun H' hH => OpOk.step (ok_move (.inl rfl))) ?_
        refine any_take 7 rfl (by first | rfl | decide +kernel) rfl (HeldL.refl _) (fun H' hH => OpOk.step (by exact ok_index_arr rfl ti_wear_Table rfl ti_int rfl rfl rfl rfl hb64)) ?_
        refine any_take 8 rfl (by first | rfl | decide +kernel) rfl (HeldL.refl _) (fun H' hH => OpOk.step (by exact ok_load rfl ti_int (locA_held hH (locA_arr rfl rfl rfl hTne)) (loadA_ints rfl hxb))) ?_
        refine any_take 9 rfl (by first | rfl | decide +kernel) rfl (HeldL.refl _) (fun H' hH => OpOk.step (ok_binOp rfl ti_int rfl)) ?_
        refine any_take 10 rfl (by first | rfl | decide +kernel) rfl (HeldL.refl _) (fun H' hH => OpOk.step (ok_pick rfl rfl)) ?_
        refine any_take_case 11 rfl (by first | rfl | decide +kernel) rfl (HeldL.refl _) (fun H' hH => OpOk.step (ok_moveb (.inl rfl) rfl)) (fun hb => ?_) (fun hb => ?_)
        · (try simp only [decide_eq_true_eq, decide_eq_false_iff_not, beq_iff_eq, beq_eq_false_iff_ne, bne_iff_ne, bne_eq_false_iff_eq, ne_eq, Bool.not_eq_true', Bool.not_eq_false'] at hb)
          refine any_skip 12 rfl (by first | rfl | decide +kernel) rfl (HeldL.refl _) ?_
          refine any_skip 13 rfl (by first | rfl | decide +kernel) rfl (HeldL.refl _) ?_
          refine any_skip 14 rfl (by first | rfl | decide +kernel) rfl (HeldL.refl _) ?_
          refine any_skip 15 rfl (by first | rfl | decide +kernel) rfl (HeldL.refl _) ?_
          refine any_skip 16 rfl (by first | rfl | decide +kernel) rfl (HeldL.refl _) ?_
          refine any_skip 17 rfl (by first | rfl | decide +kernel) rfl (HeldL.refl _) ?_
          refine any_skip 18 rfl (by first | rfl | decide +kernel) rfl (HeldL.refl _) ?_
          refine any_skip 19 rfl (by first | rfl | decide +kernel) rfl (HeldL.refl _) ?_
          refine any_skip 20 rfl (by first | rfl | decide +kernel) rfl (HeldL.refl _) ?_
          refine any_skip 21 rfl (by first | rfl | decide +kernel) rfl (HeldL.refl _) ?_
          refine any_skip 22 rfl (by first | rfl | decide +kernel) rfl (HeldL.refl _) ?_
          refine any_skip 23 rfl (by first | rfl | decide +kernel) rfl (HeldL.refl _) ?_
          refine any_take 24 rfl (by first | rfl | decide +kernel) rfl (HeldL.refl _) (fun H' hH => OpOk.step (ok_pickb (t := true) (d := true) rfl rfl rfl)) ?_
          refine any_done rfl ?_
          refine keepK hK11 [2, 6, 7, 9, 10, 11, 12, 43] (by dsimp) (by dsimp) ?_
          refine T.cond_true rfl ?_
          refine T.region ?_ -- region 7
          refine ro rfl rfl (OpOk.step (ok_move (.inl rfl))) ?_
          refine ro rfl rfl (OpOk.step (ok_move (.inr rfl))) ?_
          refine ro rfl rfl (OpOk.step (ok_moveb (c := true) (.inr rfl) rfl)) ?_
          refine ro_nil ?_
          refine keepK hK7 [2, 6, 7, 10, 11, 12] (by dsimp) (by dsimp) ?_
          refine T.region ?_ -- region 8
          refine ro rfl rfl (OpOk.step (ok_add64 rfl ti_int rfl rfl (by omega) (by omega))) ?_
          refine ro rfl rfl (OpOk.step (ok_move (.inl rfl))) ?_
          refine ro_nil ?_
          first
            | exact ⟨i + 1, by omega, by omega, TEnt.toH rfl ⟨rfl, by (try dsimp); rw [key], by (try dsimp); rw [key], rfl, rfl, rfl, trivial⟩⟩
            | (have e : lst tb (l.take (i + 1)) = (s, true) := by
                 rw [hk]
                 first
                   | exact if_pos (.inl (by assumption))
                   | exact if_pos (.inr (by omega))
                   | (exfalso; omega)
               exact ⟨i + 1, by omega, by omega, TEnt.toH rfl ⟨rfl, by (try dsimp); rw [e], by (try dsimp); rw [e], rfl, rfl, rfl, trivial⟩⟩)
            | (have e : lst tb (l.take (i + 1)) = (b, f) := by
                 rw [hk]
                 refine if_neg ?_
                 rintro (h | h)
                 · first | exact absurd h (by assumption) | exact absurd (h.symm.trans (by assumption : f = true)) (by decide)
                 · omega
               exact ⟨i + 1, by omega, by omega, TEnt.toH rfl ⟨rfl, by (try dsimp); rw [e], by (try dsimp); rw [e], rfl, rfl, rfl, trivial⟩⟩)
        · (try simp only [decide_eq_true_eq, decide_eq_false_iff_not, beq_iff_eq, beq_eq_false_iff_ne, bne_iff_ne, bne_eq_false_iff_eq, ne_eq, Bool.not_eq_true', Bool.not_eq_false'] at hb)
          refine any_take 12 rfl (by first | rfl | decide +kernel) rfl (HeldL.refl _) (fun H' hH => OpOk.step (ok_move (.inl rfl))) ?_
          refine any_take 13 rfl (by first | rfl | decide +kernel) rfl (HeldL.refl _) (fun H' hH => OpOk.step (by exact ok_index_arr rfl ti_wear_Table rfl ti_int rfl rfl rfl rfl hs64)) ?_
          refine any_take 14 rfl (by first | rfl | decide +kernel) rfl (HeldL.refl _) (fun H' hH => OpOk.step (by exact ok_load rfl ti_int (locA_held hH (locA_arr rfl rfl rfl hTne)) (loadA_ints rfl hxs))) ?_
          refine any_take 15 rfl (by first | rfl | decide +kernel) rfl (HeldL.refl _) (fun H' hH => OpOk.step (ok_move (.inl rfl))) ?_
          refine any_take 16 rfl (by first | rfl | decide +kernel) rfl (HeldL.refl _) (fun H' hH => OpOk.step (by exact ok_index_arr rfl ti_wear_Table rfl ti_int rfl rfl rfl rfl hb64)) ?_
          refine any_take 17 rfl (by first | rfl | decide +kernel) rfl (HeldL.refl _) (fun H' hH => OpOk.step (by exact ok_load rfl ti_int (locA_held hH (locA_arr rfl rfl rfl hTne)) (loadA_ints rfl hxb))) ?_
          refine any_take 18 rfl (by first | rfl | decide +kernel) rfl (HeldL.refl _) (fun H' hH => OpOk.step (ok_binOp rfl ti_int rfl)) ?_
          refine any_take_case 19 rfl (by first | rfl | decide +kernel) rfl (HeldL.refl _) (fun H' hH => OpOk.step (ok_moveb (.inl rfl) rfl)) (fun hb => ?_) (fun hb => ?_)
          · (try simp only [decide_eq_true_eq, decide_eq_false_iff_not, beq_iff_eq, beq_eq_false_iff_ne, bne_iff_ne, bne_eq_false_iff_eq, ne_eq, Bool.not_eq_true', Bool.not_eq_false'] at hb)
            refine any_take 20 rfl (by first | rfl | decide +kernel) rfl (HeldL.refl _) (fun H' hH => OpOk.step (ok_move (.inl rfl))) ?_
            refine any_take 21 rfl (by first | rfl | decide +kernel) rfl (HeldL.refl _) (fun H' hH => OpOk.step (ok_move (.inl rfl))) ?_
            refine any_take 22 rfl (by first | rfl | decide +kernel) rfl (HeldL.refl _) (fun H' hH => OpOk.step (ok_binOp rfl ti_int rfl)) ?_
            refine any_take 23 rfl (by first | rfl | decide +kernel) rfl (HeldL.refl _) (fun H' hH => OpOk.step (ok_pick rfl rfl)) ?_
            refine any_take 24 rfl (by first | rfl | decide +kernel) rfl (HeldL.refl _) (fun H' hH => OpOk.step (ok_pick rfl rfl)) ?_
            refine any_done rfl ?_
            refine keepK hK11 [2, 6, 7, 9, 10, 11, 12, 43] (by dsimp) (by dsimp) ?_
            refine T.cond rfl (fun hc => ?_) (fun hc => ?_) -- cond 3
            · (try simp only [decide_eq_true_eq, decide_eq_false_iff_not, beq_iff_eq, beq_eq_false_iff_ne, bne_iff_ne, bne_eq_false_iff_eq, ne_eq, Bool.not_eq_true', Bool.not_eq_false'] at hc)
              refine T.region ?_ -- region 7
              refine ro rfl rfl (OpOk.step (ok_move (.inl rfl))) ?_
              refine ro rfl rfl (OpOk.step (ok_move (.inr rfl))) ?_
              refine ro rfl rfl (OpOk.step (ok_moveb (c := true) (.inr rfl) rfl)) ?_
              refine ro_nil ?_
              refine keepK hK7 [2, 6, 7, 10, 11, 12] (by dsimp) (by dsimp) ?_
              refine T.region ?_ -- region 8
              refine ro rfl rfl (OpOk.step (ok_add64 rfl ti_int rfl rfl (by omega) (by omega))) ?_
              refine ro rfl rfl (OpOk.step (ok_move (.inl rfl))) ?_
              refine ro_nil ?_
              first
                | exact ⟨i + 1, by omega, by omega, TEnt.toH rfl ⟨rfl, by (try dsimp); rw [key], by (try dsimp); rw [key], rfl, rfl, rfl, trivial⟩⟩
                | (have e : lst tb (l.take (i + 1)) = (s, true) := by
                     rw [hk]
                     first
                       | exact if_pos (.inl (by assumption))
                       | exact if_pos (.inr (by omega))
                       | (exfalso; omega)
                   exact ⟨i + 1, by omega, by omega, TEnt.toH rfl ⟨rfl, by (try dsimp); rw [e], by (try dsimp); rw [e], rfl, rfl, rfl, trivial⟩⟩)
                | (have e : lst tb (l.take (i + 1)) = (b, f) := by
                     rw [hk]
                     refine if_neg ?_
                     rintro (h | h)
                     · first | exact absurd h (by assumption) | exact absurd (h.symm.trans (by assumption : f = true)) (by decide)
                     · omega
                   exact ⟨i + 1, by omega, by omega, TEnt.toH rfl ⟨rfl, by (try dsimp); rw [e], by (try dsimp); rw [e], rfl, rfl, rfl, trivial⟩⟩)
            · (try simp only [decide_eq_true_eq, decide_eq_false_iff_not, beq_iff_eq, beq_eq_false_iff_ne, bne_iff_ne, bne_eq_false_iff_eq, ne_eq, Bool.not_eq_true', Bool.not_eq_false'] at hc)
              refine T.skip ?_
              refine keepK hK7 [2, 6, 7, 10, 11, 12] (by dsimp) (by dsimp) ?_
              refine T.region ?_ -- region 8
              refine ro rfl rfl (OpOk.step (ok_add64 rfl ti_int rfl rfl (by omega) (by omega))) ?_
              refine ro rfl rfl (OpOk.step (ok_move (.inl rfl))) ?_
              refine ro_nil ?_
              first
                | exact ⟨i + 1, by omega, by omega, TEnt.toH rfl ⟨rfl, by (try dsimp); rw [key], by (try dsimp); rw [key], rfl, rfl, rfl, trivial⟩⟩
                | (have e : lst tb (l.take (i + 1)) = (s, true) := by
                     rw [hk]
                     first
                       | exact if_pos (.inl (by assumption))
                       | exact if_pos (.inr (by omega))
                       | (exfalso; omega)
                   exact ⟨i + 1, by omega, by omega, TEnt.toH rfl ⟨rfl, by (try dsimp); rw [e], by (try dsimp); rw [e], rfl, rfl, rfl, trivial⟩⟩)
                | (have e : lst tb (l.take (i + 1)) = (b, f) := by
                     rw [hk]
                     refine if_neg ?_
                     rintro (h | h)
                     · first | exact absurd h (by assumption) | exact absurd (h.symm.trans (by assumption : f = true)) (by decide)
                     · omega
                   exact ⟨i + 1, by omega, by omega, TEnt.toH rfl ⟨rfl, by (try dsimp); rw [e], by (try dsimp); rw [e], rfl, rfl, rfl, trivial⟩⟩)
          · (try simp only [decide_eq_true_eq, decide_eq_false_iff_not, beq_iff_eq, beq_eq_false_iff_ne, bne_iff_ne, bne_eq_false_iff_eq, ne_eq, Bool.not_eq_true', Bool.not_eq_false'] at hb)
            refine any_skip 20 rfl (by first | rfl | decide +kernel) rfl (HeldL.refl _) ?_
            refine any_skip 21 rfl (by first | rfl | decide +kernel) rfl (HeldL.refl _) ?_
            refine any_skip 22 rfl (by first | rfl | decide +kernel) rfl (HeldL.refl _) ?_
            refine any_take 23 rfl (by first | rfl | decide +kernel) rfl (HeldL.refl _) (fun H' hH => OpOk.step (ok_pickb (t := false) (d := false) rfl rfl rfl)) ?_
            refine any_take 24 rfl (by first | rfl | decide +kernel) rfl (HeldL.refl _) (fun H' hH => OpOk.step (ok_pickb (t := false) (d := false) rfl rfl rfl)) ?_
            refine any_done rfl ?_
            refine keepK hK11 [2, 6, 7, 9, 10, 11, 12, 43] (by dsimp) (by dsimp) ?_
            refine T.cond_false rfl ?_
            refine T.skip ?_
            refine keepK hK7 [2, 6, 7, 10, 11, 12] (by dsimp) (by dsimp) ?_
            refine T.region ?_ -- region 8
            refine ro rfl rfl (OpOk.step (ok_add64 rfl ti_int rfl rfl (by omega) (by omega))) ?_
            refine ro rfl rfl (OpOk.step (ok_move (.inl rfl))) ?_
            refine ro_nil ?_
            first
              | exact ⟨i + 1, by omega, by omega, TEnt.toH rfl ⟨rfl, by (try dsimp); rw [key], by (try dsimp); rw [key], rfl, rfl, rfl, trivial⟩⟩
              | (have e : lst tb (l.take (i + 1)) = (s, true) := by
                   rw [hk]
                   first
                     | exact if_pos (.inl (by assumption))
                     | exact if_pos (.inr (by omega))
                     | (exfalso; omega)
                 exact ⟨i + 1, by omega, by omega, TEnt.toH rfl ⟨rfl, by (try dsimp); rw [e], by (try dsimp); rw [e], rfl, rfl, rfl, trivial⟩⟩)
              | (have e : lst tb (l.take (i + 1)) = (b, f) := by
                   rw [hk]
                   refine if_neg ?_
                   rintro (h | h)
                   · first | exact absurd h (by assumption) | exact absurd (h.symm.trans (by assumption : f = true)) (by decide)
                   · omega
                 exact ⟨i + 1, by omega, by omega, TEnt.toH rfl ⟨rfl, by (try dsimp); rw [e], by (try dsimp); rw [e], rfl, rfl, rfl, trivial⟩⟩)
  · (try simp only [decide_eq_true_eq, decide_eq_false_iff_not, beq_iff_eq, beq_eq_false_iff_ne, bne_iff_ne, bne_eq_false_iff_eq, ne_eq, Bool.not_eq_true', Bool.not_eq_false'] at hc)
    have hin : i = l.length := by omega
    subst hin
    rw [List.take_length]
    refine T.exit ?_
    refine keepK hK3 [6, 7] (by dsimp) (by dsimp) ?_
    refine T.seq fun K12 hK12 => ?_
    refine T.region ?_ -- region 9
    refine ro rfl rfl (OpOk.step (ok_move (.inl rfl))) ?_
    refine ro rfl rfl (OpOk.step (ok_move (.inl rfl))) ?_
    refine ro rfl rfl (OpOk.step (ok_move (.inr rfl))) ?_
    refine ro rfl rfl (OpOk.step (ok_move (.inr rfl))) ?_
    refine ro_nil ?_
    refine keepK hK12 [4, 5] (by dsimp) (by dsimp) ?_
    refine T.ret (hQ _ _ _ rfl ?_).1 -- ret 1
    exact TEnt.fin [] (by decide) (by simp) rfl ⟨rfl, trivial⟩
end Go.Proofs.Ytknhemdpfdopaaa.AmF
