/- Walks over the abstract machine: what is more than asked; the law on steps that are the same. -/
import Derived.Test.YtmegpanmiagheaaAfCmdrput
namespace Go.Proofs.Ytmegpanmiagheaa.AmF
open Go Go.AM
set_option maxRecDepth 100000
set_option linter.unusedSimpArgs false
set_option linter.unusedVariables false
attribute [local simp] tkeep tget tput ev cav argsTM pickA normT putA splice AV.cells ints_length rowsA_length enc_len
/-- How much the first so many steps have. -/
def sizeS (l : List Ac) : Nat := (l.map fun a => a.keep.length + a.cd.length).sum
theorem sizeS_snoc {l : List Ac} {i : Nat} {a : Ac} (h : l[i]? = some a) : sizeS (l.take (i + 1)) = sizeS (l.take i) + (a.keep.length + a.cd.length) := by
  unfold sizeS
  rw [take_succ_get h]
  simp
/-- More than is asked? -/
def muchA (l : List Ac) : Prop := l.length > 50 ∨ ∃ i, i ≤ 60 ∧ i ≤ l.length ∧ sizeS (l.take i) > 20000
theorem allB_len (l : List Ac) : (allB l).length = 73 * l.length + sizeS l := by
  induction l with
  | nil => rfl
  | cons a l ih =>
    have := bodyA_len a
    simp only [allB, List.length_append, List.length_cons, sizeS, List.map_cons, List.sum_cons] at ih ⊢
    omega
theorem much_bd {l : List Ac} (h : ¬ muchA l) : l.length ≤ 50 ∧ sizeS l ≤ 20000 := by
  unfold muchA at h
  have h1 : ¬ l.length > 50 := fun h' => h (.inl h')
  refine ⟨by omega, ?_⟩
  rcases Nat.lt_or_ge 20000 (sizeS l) with h2 | h2
  · exact absurd (Or.inr ⟨l.length, by omega, Nat.le_refl _, by rw [List.take_length]; exact h2⟩) h
  · exact h2
noncomputable def muchV (l : List Ac) : Bool := @decide (muchA l) (Classical.propDecidable _)
theorem muchV_t {l : List Ac} (h : muchA l) : muchV l = true := by unfold muchV; exact @decide_eq_true _ (Classical.propDecidable _) h
theorem muchV_f {l : List Ac} (h : ¬ muchA l) : muchV l = false := by unfold muchV; exact @decide_eq_false _ (Classical.propDecidable _) h
theorem muchV_no {l : List Ac} (h : muchV l = false) : ¬ muchA l := fun h' => by rw [muchV_t h'] at h; cases h
theorem muchV_len {l : List Ac} (h : ∀ j, j ≤ 60 → j ≤ l.length → sizeS (l.take j) ≤ 20000) : muchV l = decide ((l.length : Int) > 50) := by
  by_cases hl : l.length > 50
  · rw [muchV_t (.inl hl), decide_eq_true (by omega)]
  · rw [muchV_f, decide_eq_false (by omega)]
    rintro (h1 | ⟨j, h1, h2, h3⟩)
    · exact hl h1
    · have := h j h1 h2; omega
theorem much27_ok (l : List Ac) (hl : l.length ≤ 140737488355328) (hs : ∀ a ∈ l, a.keep.length ≤ 140737488355328 ∧ a.cd.length ≤ 140737488355328) : CSpec Try.prog 42 [] [.fz 10 (Acs l)] [] (.b (muchV l)) := by
  refine CSpec.body Try.func42 rfl rfl rfl rfl rfl fun Q hQ => ?_
  refine T.seq fun K1 hK1 => ?_
  refine T.region ?_ -- region 0
  refine ro rfl rfl (OpOk.step (ok_moveb (c := false) (.inr rfl) rfl)) ?_
  refine ro_nil ?_
  refine keepK hK1 [0] (by dsimp) (by dsimp) ?_
  refine T.seq fun K2 hK2 => ?_
  refine T.region ?_ -- region 1
  refine ro rfl rfl (OpOk.step (ok_move (.inr rfl))) ?_
  refine ro_nil ?_
  refine keepK hK2 [0, 3] (by dsimp) (by dsimp) ?_
  refine T.seq fun K3 hK3 => ?_
  refine T.seq fun K4 hK4 => ?_
  refine T.region ?_ -- region 2
  refine ro rfl rfl (OpOk.step (ok_move (.inr rfl))) ?_
  refine ro_nil ?_
  refine keepK hK4 [0, 3, 4] (by dsimp) (by dsimp) ?_
  refine T.block ?_
  refine T.loopI (ι := Nat) (fun i => i ≤ l.length ∧ i ≤ 60 ∧ ∀ j, j ≤ i → sizeS (l.take j) ≤ 20000) (fun i => l.length - i) (fun i => ([(0, .fz 10 (Acs l)), (3, .int (sizeS (l.take i))), (4, .int i)], [])) 0 ⟨Nat.zero_le _, by omega, fun j hj => by have h0 : j = 0 := (by omega); rw [h0]; simp [sizeS]⟩ (TEnt.toH rfl ⟨rfl, rfl, rfl, trivial⟩) (fun i hi => ?_) -- loop 1
  obtain ⟨hi, hi60, hall⟩ := hi
  refine T.seq fun K5 hK5 => ?_
  refine T.seq fun K6 hK6 => ?_
  refine T.region ?_ -- region 3
  refine ro rfl rfl (OpOk.step (ok_move (.inl rfl))) ?_
  refine ro rfl rfl (OpOk.step (ok_move (.inl rfl))) ?_
  refine ro rfl rfl (OpOk.step (ok_len' rfl rfl ti_Lapi_Act rfl (Acs_len l))) ?_
  refine ro rfl rfl (OpOk.step (ok_binOp rfl ti_int rfl)) ?_
  refine ro_case rfl rfl (OpOk.step (ok_moveb (.inl rfl) rfl)) (fun hb => ?_) (fun hb => ?_)
  · (try simp only [decide_eq_true_eq, decide_eq_false_iff_not, beq_iff_eq, beq_eq_false_iff_ne, bne_iff_ne, bne_eq_false_iff_eq, ne_eq, Bool.not_eq_true', Bool.not_eq_false'] at hb)
    refine ro rfl rfl (OpOk.step (ok_move (.inl rfl))) ?_
    refine ro rfl rfl (OpOk.step (ok_binOp rfl ti_int rfl)) ?_
    refine ro rfl rfl (OpOk.step (ok_pick rfl rfl)) ?_
    refine ro_nil ?_
    refine keepK hK6 [0, 3, 4, 12] (by dsimp) (by dsimp) ?_
    refine T.cond rfl (fun hc => ?_) (fun hc => ?_) -- cond 1
    · (try simp only [decide_eq_true_eq, decide_eq_false_iff_not, beq_iff_eq, beq_eq_false_iff_ne, bne_iff_ne, bne_eq_false_iff_eq, ne_eq, Bool.not_eq_true', Bool.not_eq_false'] at hc)
      obtain ⟨a, ha⟩ : ∃ a, l[i]? = some a := ⟨_, List.getElem?_eq_getElem (by omega)⟩
      obtain ⟨hk, hd⟩ := hs a (List.mem_of_getElem? ha)
      have hsn := sizeS_snoc ha
      have hn := hall i (Nat.le_refl _)
      refine T.skip ?_
      refine keepK hK5 [0, 3, 4] (by dsimp) (by dsimp) ?_
      refine T.seq fun K7 hK7 => ?_
      refine T.block ?_
      refine T.seq fun K8 hK8 => ?_
      refine T.drawH mixed [] ?_ -- region 5
      refine any_take 0 rfl (by first | rfl | decide +kernel) rfl (HeldL.refl _) (fun H' hH => OpOk.step (ok_move (.inl rfl))) ?_
      refine any_take 1 rfl (by first | rfl | decide +kernel) rfl (HeldL.refl _) (fun H' hH => OpOk.step (ok_move (.inl rfl))) ?_
      refine any_take 2 rfl (by first | rfl | decide +kernel) rfl (HeldL.refl _) (fun H' hH => OpOk.step (ok_move (.inl rfl))) ?_
      refine any_take 3 rfl (by first | rfl | decide +kernel) rfl (HeldL.refl _) (fun H' hH => OpOk.step (by exact ok_index_fz rfl ti_Lapi_Act rfl ti_api_Act rfl rfl rfl (by omega) (Acs_get ha) rfl)) ?_
      refine any_take 4 rfl (by first | rfl | decide +kernel) rfl (HeldL.refl _) (fun H' hH => OpOk.step (ok_fieldAddr rfl ti_api_Act rfl rfl ti_Luint8 (by decide) rfl)) ?_
      refine any_take 5 rfl (by first | rfl | decide +kernel) rfl (HeldL.refl _) (fun H' hH => OpOk.step (ok_load rfl ti_Luint8 (locA_held hH rfl) rfl)) ?_
      refine any_take 6 rfl (by first | rfl | decide +kernel) rfl (HeldL.refl _) (fun H' hH => OpOk.step (ok_len' rfl rfl ti_Luint8 rfl (by first | exact ints_length _ _ | exact rowsA_length _ _ | rfl))) ?_
      refine any_take 7 rfl (by first | rfl | decide +kernel) rfl (HeldL.refl _) (fun H' hH => OpOk.step (ok_add64 rfl ti_int rfl rfl (by omega) (by omega))) ?_
      refine any_take 8 rfl (by first | rfl | decide +kernel) rfl (HeldL.refl _) (fun H' hH => OpOk.step (ok_move (.inl rfl))) ?_
      refine any_take 9 rfl (by first | rfl | decide +kernel) rfl (HeldL.refl _) (fun H' hH => OpOk.step (ok_move (.inl rfl))) ?_
      refine any_take 10 rfl (by first | rfl | decide +kernel) rfl (HeldL.refl _) (fun H' hH => OpOk.step (by exact ok_index_fz rfl ti_Lapi_Act rfl ti_api_Act rfl rfl rfl (by omega) (Acs_get ha) rfl)) ?_
      refine any_take 11 rfl (by first | rfl | decide +kernel) rfl (HeldL.refl _) (fun H' hH => OpOk.step (ok_fieldAddr rfl ti_api_Act rfl rfl ti_api_Cmd (by decide) rfl)) ?_
      refine any_take 12 rfl (by first | rfl | decide +kernel) rfl (HeldL.refl _) (fun H' hH => OpOk.step (ok_fieldAddr rfl ti_api_Cmd rfl rfl ti_Luint8 (by decide) rfl)) ?_
      refine any_take 13 rfl (by first | rfl | decide +kernel) rfl (HeldL.refl _) (fun H' hH => OpOk.step (ok_load rfl ti_Luint8 (locA_held hH rfl) rfl)) ?_
      refine any_take 14 rfl (by first | rfl | decide +kernel) rfl (HeldL.refl _) (fun H' hH => OpOk.step (ok_len' rfl rfl ti_Luint8 rfl (by first | exact ints_length _ _ | exact rowsA_length _ _ | rfl))) ?_
      refine any_take 15 rfl (by first | rfl | decide +kernel) rfl (HeldL.refl _) (fun H' hH => OpOk.step ((ok_add64 rfl ti_int rfl rfl (by omega) (by omega)).eq (x' := .int (sizeS (l.take (i + 1)))) (congrArg AV.int (by rw [hsn]; omega)) rfl)) ?_
      refine any_take 16 rfl (by first | rfl | decide +kernel) rfl (HeldL.refl _) (fun H' hH => OpOk.step (ok_move (.inr rfl))) ?_
      refine any_done rfl ?_
      refine keepK hK8 [0, 3, 4] (by dsimp) (by dsimp) ?_
      refine T.seq fun K9 hK9 => ?_
      refine T.region ?_ -- region 6
      refine ro rfl rfl (OpOk.step (ok_move (.inl rfl))) ?_
      refine ro rfl rfl (OpOk.step (ok_binOp rfl ti_int rfl)) ?_
      refine ro_nil ?_
      refine keepK hK9 [0, 3, 4, 32] (by dsimp) (by dsimp) ?_
      refine T.cond rfl (fun hc => ?_) (fun hc => ?_) -- cond 2
      · (try simp only [decide_eq_true_eq, decide_eq_false_iff_not, beq_iff_eq, beq_eq_false_iff_ne, bne_iff_ne, bne_eq_false_iff_eq, ne_eq, Bool.not_eq_true', Bool.not_eq_false'] at hc)
        rw [muchV_t (.inr ⟨i + 1, by omega, by omega, by omega⟩)] at hQ
        refine T.seq fun K10 hK10 => ?_
        refine T.region ?_ -- region 7
        refine ro rfl rfl (OpOk.step (ok_moveb (c := true) (.inr rfl) rfl)) ?_
        refine ro_nil ?_
        refine keepK hK10 [2] (by dsimp) (by dsimp) ?_
        refine T.ret (hQ _ _ _ rfl ?_).1 -- ret 1
        exact TEnt.fin [] (by decide) (by simp) rfl ⟨rfl, trivial⟩
      · (try simp only [decide_eq_true_eq, decide_eq_false_iff_not, beq_iff_eq, beq_eq_false_iff_ne, bne_iff_ne, bne_eq_false_iff_eq, ne_eq, Bool.not_eq_true', Bool.not_eq_false'] at hc)
        refine T.skip ?_
        refine keepK hK7 [0, 3, 4] (by dsimp) (by dsimp) ?_
        refine T.region ?_ -- region 4
        refine ro rfl rfl (OpOk.step (ok_move (.inl rfl))) ?_
        refine ro rfl rfl (OpOk.step (ok_add64 rfl ti_int rfl rfl (by omega) (by omega))) ?_
        refine ro rfl rfl (OpOk.step (ok_move (.inr rfl))) ?_
        refine ro_nil ?_
        exact ⟨i + 1, ⟨by omega, by omega, fun j hj => by
          rcases Nat.lt_or_ge j (i + 1) with h | h
          · exact hall j (by omega)
          · obtain rfl : j = i + 1 := by omega
            omega⟩, by omega, TEnt.toH rfl ⟨rfl, rfl, rfl, trivial⟩⟩
    · (try simp only [decide_eq_true_eq, decide_eq_false_iff_not, beq_iff_eq, beq_eq_false_iff_ne, bne_iff_ne, bne_eq_false_iff_eq, ne_eq, Bool.not_eq_true', Bool.not_eq_false'] at hc)
      rw [muchV_len (fun j h1 h2 => hall j (by omega))] at hQ
      refine T.exit ?_
      refine keepK hK3 [0] (by dsimp) (by dsimp) ?_
      refine T.seq fun K11 hK11 => ?_
      refine T.region ?_ -- region 8
      refine ro rfl rfl (OpOk.step (ok_move (.inl rfl))) ?_
      refine ro rfl rfl (OpOk.step (ok_len' rfl rfl ti_Lapi_Act rfl (Acs_len l))) ?_
      refine ro rfl rfl (OpOk.step (ok_binOp rfl ti_int rfl)) ?_
      refine ro rfl rfl (OpOk.step (ok_move (.inr rfl))) ?_
      refine ro_nil ?_
      refine keepK hK11 [2] (by dsimp) (by dsimp) ?_
      refine T.ret (hQ _ _ _ rfl ?_).1 -- ret 2
      exact TEnt.fin [] (by decide) (by simp) rfl ⟨rfl, trivial⟩
  · (try simp only [decide_eq_true_eq, decide_eq_false_iff_not, beq_iff_eq, beq_eq_false_iff_ne, bne_iff_ne, bne_eq_false_iff_eq, ne_eq, Bool.not_eq_true', Bool.not_eq_false'] at hb)
    have hil : i = l.length := by omega
    rw [muchV_len (fun j h1 h2 => hall j (by omega))] at hQ
    refine ro_skip rfl rfl ?_
    refine ro_skip rfl rfl ?_
    refine ro rfl rfl (OpOk.step (ok_pickb (t := false) (d := false) rfl rfl rfl)) ?_
    refine ro_nil ?_
    refine keepK hK6 [0, 3, 4, 12] (by dsimp) (by dsimp) ?_
    refine T.cond_false rfl ?_
    refine T.exit ?_
    refine keepK hK3 [0] (by dsimp) (by dsimp) ?_
    refine T.seq fun K12 hK12 => ?_
    refine T.region ?_ -- region 8
    refine ro rfl rfl (OpOk.step (ok_move (.inl rfl))) ?_
    refine ro rfl rfl (OpOk.step (ok_len' rfl rfl ti_Lapi_Act rfl (Acs_len l))) ?_
    refine ro rfl rfl (OpOk.step (ok_binOp rfl ti_int rfl)) ?_
    refine ro rfl rfl (OpOk.step (ok_move (.inr rfl))) ?_
    refine ro_nil ?_
    refine keepK hK12 [2] (by dsimp) (by dsimp) ?_
    refine T.ret (hQ _ _ _ rfl ?_).1 -- ret 3
    exact TEnt.fin [] (by decide) (by simp) rfl ⟨rfl, trivial⟩
theorem code27_ok (e : Int) : CSpec Try.prog 73 [] [.int e] [] (.int e) := by
  refine CSpec.body Try.func73 rfl rfl rfl rfl rfl fun Q hQ => ?_
  refine T.seq fun K1 hK1 => ?_
  refine T.region ?_ -- region 0
  refine ro rfl rfl (OpOk.step (ok_move (.inr rfl))) ?_
  refine ro_nil ?_
  refine keepK hK1 [0] (by dsimp) (by dsimp) ?_
  refine T.seq fun K2 hK2 => ?_
  refine T.region ?_ -- region 1
  refine ro rfl rfl (OpOk.step (ok_move (.inl rfl))) ?_
  refine ro rfl rfl (OpOk.step (ok_move (.inr rfl))) ?_
  refine ro_nil ?_
  refine keepK hK2 [2] (by dsimp) (by dsimp) ?_
  refine T.ret (hQ _ _ _ rfl ?_).1 -- ret 1
  exact TEnt.toH rfl ⟨rfl, trivial⟩
theorem live27_val : cput plainC [] = (headA plainC [], 0) := by
  rw [cput_4 (by decide) (by decide) rfl]
  simp [allB]
theorem live27_ok : CSpec Try.prog 43 [] [] [] (.b true) := by
  have hH := headA_len plainC []
  refine CSpec.body Try.func43 rfl rfl rfl rfl rfl fun Q hQ => ?_
  refine T.seq fun K1 hK1 => ?_
  refine T.region ?_ -- region 0
  refine ro rfl rfl (OpOk.step (ok_moveb (c := false) (.inr rfl) rfl)) ?_
  refine ro_nil ?_
  refine keepK hK1 [] (by dsimp) (by dsimp) ?_
  refine T.seq fun K2 hK2 => ?_
  refine T.region ?_ -- region 1
  refine ro rfl rfl (ok_call rfl rfl rfl (plain_ok.fresh (x' := .agg (CC plainC)) (H' := []) rfl rfl rfl)) ?_
  refine ro rfl rfl (ok_call rfl rfl rfl ((((cmdput_ok plainC [] (by simp [allB]) (by simp)).plain rfl (by simp [AV.ren, renL, renL_ints])).view (EntL.cons (Ent.refl _) (EntL.cons (Ent.nil 10) EntL.nil))).eq (x' := .tup [.fz 1 (ints .u8 (headA plainC [])), .int 0]) (by rw [live27_val]) rfl)) ?_
  refine ro rfl rfl (OpOk.step (ok_move (.inl rfl))) ?_
  refine ro rfl rfl (OpOk.step (ok_extract rfl rfl rfl)) ?_
  refine ro rfl rfl (OpOk.step (ok_extract rfl rfl rfl)) ?_
  refine ro rfl rfl (OpOk.step (ok_move (.inr rfl))) ?_
  refine ro rfl rfl (OpOk.step (ok_move (.inr rfl))) ?_
  refine ro_nil ?_
  refine keepK hK2 [1, 2] (by dsimp) (by dsimp) ?_
  refine T.seq fun K3 hK3 => ?_
  refine T.region ?_ -- region 2
  refine ro rfl rfl (OpOk.step (ok_move (.inl rfl))) ?_
  refine ro rfl rfl (ok_call rfl rfl rfl ((code27_ok 0).plain rfl rfl)) ?_
  refine ro rfl rfl (OpOk.step (OpOk.bool (d := true) (ok_binOp rfl ti_int rfl) (rfl))) ?_
  refine ro rfl rfl (OpOk.step (ok_moveb (c := true) (.inl rfl) rfl)) ?_
  refine ro rfl rfl (OpOk.step (ok_move (.inl rfl))) ?_
  refine ro rfl rfl (OpOk.step (ok_len' rfl rfl ti_Luint8 rfl (by first | exact ints_length _ _ | exact rowsA_length _ _ | rfl))) ?_
  refine ro rfl rfl (OpOk.step (OpOk.bool (d := true) (ok_binOp rfl ti_int rfl) (by simp [hH]))) ?_
  refine ro rfl rfl (OpOk.step (ok_pickb (t := true) (d := true) rfl rfl rfl)) ?_
  refine ro rfl rfl (OpOk.step (ok_moveb (c := true) (.inr rfl) rfl)) ?_
  refine ro_nil ?_
  refine keepK hK3 [0] (by dsimp) (by dsimp) ?_
  refine T.ret (hQ _ _ _ rfl ?_).1 -- ret 1
  exact TEnt.fin [] (by decide) (by simp) rfl ⟨rfl, trivial⟩
set_option maxHeartbeats 1000000 in
theorem cmdSames_ok (a b : Ac) (k : Int) (ha : a.keep.length ≤ 140737488355328 ∧ a.cd.length ≤ 140737488355328) (hb0 : b.keep.length ≤ 140737488355328 ∧ b.cd.length ≤ 140737488355328) : CSpec Try.prog 7 [] [.agg (AcC a), .agg (AcC b), .int k] [] (.b true) := by
  refine CSpec.body Try.func7 rfl rfl rfl rfl rfl fun Q hQ => ?_
  refine T.seq fun K1 hK1 => ?_
  refine T.region ?_ -- region 0
  refine ro rfl rfl (OpOk.step (ok_box (n := 10) rfl rfl (by decide))) ?_
  refine ro rfl rfl (OpOk.step (ok_box (n := 10) rfl rfl (by decide))) ?_
  refine ro rfl rfl (OpOk.step (ok_moveb (c := false) (.inr rfl) rfl)) ?_
  refine ro_nil ?_
  refine keepK hK1 [2, 3, 4] (by dsimp) (by dsimp) ?_
  refine T.seq fun K2 hK2 => ?_
  refine T.seq fun K3 hK3 => ?_
  refine T.region ?_ -- region 1
  refine ro rfl rfl (OpOk.step (ok_load rfl ti_api_Act rfl rfl)) ?_
  refine ro rfl rfl (OpOk.step (ok_load rfl ti_api_Act rfl rfl)) ?_
  refine ro rfl rfl (OpOk.step (((ok_buildSlice (n := 2) (ps := #[(0, .tmp 9), (1, .tmp 10)]) rfl ti_Lapi_Act rfl ti_api_Act (by decide) rfl rfl (by decide) rfl rfl rfl).frz rfl rfl).eq (x' := .fz 10 (Acs [a, b])) (H'' := [some (AcB a), some (AcB b), some ⟨10, false, Acs [a, b]⟩]) rfl rfl)) ?_
  refine ro rfl rfl (ok_call rfl rfl rfl ((much27_ok [a, b] (by simp) (by intro x hx; simp at hx; rcases hx with rfl | rfl <;> assumption)).plain (by simp [renL, AV.ren, Acs_ren]) rfl)) ?_
  refine ro_nil ?_
  refine keepK hK3 [2, 3, 4, 12] (by dsimp) (by dsimp) ?_
  refine T.cond rfl (fun hc => ?_) (fun hc => ?_) -- cond 1
  · (try simp only [decide_eq_true_eq, decide_eq_false_iff_not, beq_iff_eq, beq_eq_false_iff_ne, bne_iff_ne, bne_eq_false_iff_eq, ne_eq, Bool.not_eq_true', Bool.not_eq_false'] at hc)
    refine T.seq fun K4 hK4 => ?_
    refine T.region ?_ -- region 2
    refine ro rfl rfl (ok_call rfl rfl rfl (live27_ok.plain rfl rfl)) ?_
    refine ro rfl rfl (OpOk.step (ok_move (.inr rfl))) ?_
    refine ro_nil ?_
    refine keepK hK4 [6] (by dsimp) (by dsimp) ?_
    refine T.ret (hQ _ _ _ rfl ?_).1 -- ret 1
    exact TEnt.fin [] (by decide) (by simp) rfl ⟨rfl, trivial⟩
  · (try simp only [decide_eq_true_eq, decide_eq_false_iff_not, beq_iff_eq, beq_eq_false_iff_ne, bne_iff_ne, bne_eq_false_iff_eq, ne_eq, Bool.not_eq_true', Bool.not_eq_false'] at hc)
    refine T.skip ?_
    refine keepK hK2 [2, 3, 4] (by dsimp) (by dsimp) ?_
    refine T.seq fun K5 hK5 => ?_
    refine T.region ?_ -- region 3
    refine ro rfl rfl (OpOk.step (((ok_buildSlice (n := 8) rfl ti_Lstring rfl ti_string (by decide) rfl rfl (by decide) rfl rfl rfl).frz rfl rfl).eq (x' := .fz 1 (strs nms)) (H'' := [some (AcB a), some (AcB b), some ⟨10, false, Acs [a, b]⟩, some ⟨1, false, strs nms⟩]) rfl rfl)) ?_
    refine ro rfl rfl (OpOk.step (ok_move (.inr rfl))) ?_
    refine ro_nil ?_
    refine keepK hK5 [2, 3, 4, 7] (by dsimp) (by dsimp) ?_
    refine T.seq fun K6 hK6 => ?_
    refine T.region ?_ -- region 4
    refine ro rfl rfl (OpOk.step (ok_move (.inr rfl))) ?_
    refine ro_nil ?_
    refine keepK hK6 [2, 3, 4, 7, 8] (by dsimp) (by dsimp) ?_
    refine T.seq fun K7 hK7 => ?_
    refine T.seq fun K8 hK8 => ?_
    refine T.region ?_ -- region 5
    refine ro rfl rfl (OpOk.step (ok_move (.inl rfl))) ?_
    refine ro rfl rfl (OpOk.step (ok_binOp rfl ti_int rfl)) ?_
    refine ro_case rfl rfl (OpOk.step (ok_moveb (.inl rfl) rfl)) (fun hb => ?_) (fun hb => ?_)
    · (try simp only [decide_eq_true_eq, decide_eq_false_iff_not, beq_iff_eq, beq_eq_false_iff_ne, bne_iff_ne, bne_eq_false_iff_eq, ne_eq, Bool.not_eq_true', Bool.not_eq_false'] at hb)
      refine ro rfl rfl (OpOk.step (ok_move (.inl rfl))) ?_
      refine ro rfl rfl (OpOk.step (ok_binOp rfl ti_int rfl)) ?_
      refine ro rfl rfl (OpOk.step (ok_pick rfl rfl)) ?_
      refine ro_nil ?_
      refine keepK hK8 [2, 3, 4, 7, 8, 20] (by dsimp) (by dsimp) ?_
      refine T.cond rfl (fun hc => ?_) (fun hc => ?_) -- cond 2
      · (try simp only [decide_eq_true_eq, decide_eq_false_iff_not, beq_iff_eq, beq_eq_false_iff_ne, bne_iff_ne, bne_eq_false_iff_eq, ne_eq, Bool.not_eq_true', Bool.not_eq_false'] at hc)
        obtain ⟨s, hs⟩ : ∃ s, nms[k.toNat]? = some s := ⟨_, List.getElem?_eq_getElem (by simp [nms]; omega)⟩
        have hv := nameV_in (by omega) hs
        refine T.region ?_ -- region 6
        refine ro rfl rfl (OpOk.step (ok_move (.inl rfl))) ?_
        refine ro rfl rfl (OpOk.step (ok_move (.inl rfl))) ?_
        refine ro rfl rfl (OpOk.step (by exact ok_index_fz rfl ti_Lstring rfl ti_string rfl rfl rfl (by omega) (strs_get hs) rfl)) ?_
        refine ro rfl rfl (OpOk.step (ok_load rfl ti_string rfl rfl)) ?_
        refine ro rfl rfl (OpOk.step (ok_move (.inr rfl))) ?_
        refine ro_nil ?_
        refine keepK hK7 [2, 3, 4, 8] (by dsimp) (by dsimp) ?_
        refine T.seq fun K9 hK9 => ?_
        refine T.drawH mixed [] ?_ -- region 7
        refine any_take 0 rfl (by first | rfl | decide +kernel) rfl (HeldL.refl _) (fun H' hH => OpOk.step (ok_load rfl ti_api_Act (locA_held hH rfl) rfl)) ?_
        refine any_take 2 rfl (by first | rfl | decide +kernel) rfl (HeldL.refl _) (fun H' hH => OpOk.step (ok_load rfl ti_api_Act (locA_held hH rfl) rfl)) ?_
        refine any_one 1 rfl (by first | rfl | decide +kernel) rfl rfl (ok_call rfl rfl rfl ((cright_ok a ha.1 ha.2).plain (by show renL (pos []) [.agg (AcC a)] = _; simp [renL, AV.ren, AcC_ren]) rfl)) (.inr (by first | (simp [HeldL]; done) | (simp only [HeldL, List.map_cons, List.map_nil, List.cons_append, List.nil_append, List.set_cons_zero, List.set_cons_succ]; (repeat' first | trivial | rfl | constructor)))) ?_
        refine any_one 3 rfl (by first | rfl | decide +kernel) rfl rfl (ok_call rfl rfl rfl ((rcright_ok a ha.1 ha.2).plain (by show renL (pos []) [.agg (AcC a)] = _; simp [renL, AV.ren, AcC_ren]) rfl)) (.inr (by first | (simp [HeldL]; done) | (simp only [HeldL, List.map_cons, List.map_nil, List.cons_append, List.nil_append, List.set_cons_zero, List.set_cons_succ]; (repeat' first | trivial | rfl | constructor)))) ?_
        refine any_take 4 rfl (by first | rfl | decide +kernel) rfl (by first | exact HeldL.refl _ | exact HeldL.append _ _ | simp [HeldL]) (fun H' hH => OpOk.step (OpOk.bool (d := true) (ok_binOp rfl ti_bool rfl) (by simp))) ?_
        refine any_take 5 rfl (by first | rfl | decide +kernel) rfl (by first | exact HeldL.refl _ | exact HeldL.append _ _ | simp [HeldL]) (fun H' hH => OpOk.step (ok_moveb (c := true) (.inl rfl) rfl)) ?_
        refine any_take 6 rfl (by first | rfl | decide +kernel) rfl (by first | exact HeldL.refl _ | exact HeldL.append _ _ | simp [HeldL]) (fun H' hH => OpOk.step (ok_load rfl ti_api_Act (locA_held hH rfl) rfl)) ?_
        refine any_take 7 rfl (by first | rfl | decide +kernel) rfl (by first | exact HeldL.refl _ | exact HeldL.append _ _ | simp [HeldL]) (fun H' hH => OpOk.step (ok_load rfl ti_api_Act (locA_held hH rfl) rfl)) ?_
        refine any_take 9 rfl (by first | rfl | decide +kernel) rfl (by first | exact HeldL.refl _ | exact HeldL.append _ _ | simp [HeldL]) (fun H' hH => OpOk.step (ok_load rfl ti_api_Act (locA_held hH rfl) rfl)) ?_
        refine any_take 10 rfl (by first | rfl | decide +kernel) rfl (by first | exact HeldL.refl _ | exact HeldL.append _ _ | simp [HeldL]) (fun H' hH => OpOk.step (ok_load rfl ti_api_Act (locA_held hH rfl) rfl)) ?_
        refine any_one 8 rfl (by first | rfl | decide +kernel) rfl rfl (ok_call rfl rfl rfl ((csame_ok a b).plain (by show renL (pos []) [.agg (AcC a), .agg (AcC b)] = _; simp [renL, AV.ren, AcC_ren]) rfl)) (.inr (by first | (simp [HeldL]; done) | (simp only [HeldL, List.map_cons, List.map_nil, List.cons_append, List.nil_append, List.set_cons_zero, List.set_cons_succ]; (repeat' first | trivial | rfl | constructor)))) ?_
        refine any_one 11 rfl (by first | rfl | decide +kernel) rfl rfl (ok_call rfl rfl rfl ((rcsame_ok a b).plain (by show renL (pos []) [.agg (AcC a), .agg (AcC b)] = _; simp [renL, AV.ren, AcC_ren]) rfl)) (.inr (by first | (simp [HeldL]; done) | (simp only [HeldL, List.map_cons, List.map_nil, List.cons_append, List.nil_append, List.set_cons_zero, List.set_cons_succ]; (repeat' first | trivial | rfl | constructor)))) ?_
        refine any_take 12 rfl (by first | rfl | decide +kernel) rfl (by first | exact HeldL.refl _ | exact HeldL.append _ _ | simp [HeldL]) (fun H' hH => OpOk.step (OpOk.bool (d := true) (ok_binOp rfl ti_bool rfl) (by simp))) ?_
        refine any_take 13 rfl (by first | rfl | decide +kernel) rfl (by first | exact HeldL.refl _ | exact HeldL.append _ _ | simp [HeldL]) (fun H' hH => OpOk.step (ok_pickb (t := true) (d := true) rfl rfl rfl)) ?_
        refine any_take 14 rfl (by first | rfl | decide +kernel) rfl (by first | exact HeldL.refl _ | exact HeldL.append _ _ | simp [HeldL]) (fun H' hH => OpOk.step (ok_moveb (c := true) (.inl rfl) rfl)) ?_
        refine any_take 15 rfl (by first | rfl | decide +kernel) rfl (by first | exact HeldL.refl _ | exact HeldL.append _ _ | simp [HeldL]) (fun H' hH => OpOk.step (ok_load rfl ti_api_Act (locA_held hH rfl) rfl)) ?_
        refine any_take 16 rfl (by first | rfl | decide +kernel) rfl (by first | exact HeldL.refl _ | exact HeldL.append _ _ | simp [HeldL]) (fun H' hH => OpOk.step (ok_load rfl ti_api_Act (locA_held hH rfl) rfl)) ?_
        refine any_one 17 rfl (by first | rfl | decide +kernel) rfl rfl (ok_call rfl rfl rfl (((csame_ok a a).plain (by show renL (pos []) [.agg (AcC a), .agg (AcC a)] = _; simp [renL, AV.ren, AcC_ren]) rfl).eq (x' := .b true) (by rw [decide_eq_true (SA_refl a)]) rfl)) (.inr (by first | (simp [HeldL]; done) | (simp only [HeldL, List.map_cons, List.map_nil, List.cons_append, List.nil_append, List.set_cons_zero, List.set_cons_succ]; (repeat' first | trivial | rfl | constructor)))) ?_
        refine any_take 18 rfl (by first | rfl | decide +kernel) rfl (by first | exact HeldL.refl _ | exact HeldL.append _ _ | simp [HeldL]) (fun H' hH => OpOk.step (OpOk.bool (d := true) (ok_pickb rfl rfl rfl) (rfl))) ?_
        refine any_take 19 rfl (by first | rfl | decide +kernel) rfl (by first | exact HeldL.refl _ | exact HeldL.append _ _ | simp [HeldL]) (fun H' hH => OpOk.step (ok_moveb (c := true) (.inl rfl) rfl)) ?_
        refine any_take 20 rfl (by first | rfl | decide +kernel) rfl (by first | exact HeldL.refl _ | exact HeldL.append _ _ | simp [HeldL]) (fun H' hH => OpOk.step (ok_move (.inl rfl))) ?_
        refine any_take 22 rfl (by first | rfl | decide +kernel) rfl (by first | exact HeldL.refl _ | exact HeldL.append _ _ | simp [HeldL]) (fun H' hH => OpOk.step (ok_move (.inl rfl))) ?_
        refine any_one 21 rfl (by first | rfl | decide +kernel) rfl rfl (ok_call rfl rfl rfl ((name_ok k).plain rfl rfl)) (.inr (by first | (simp [HeldL]; done) | (simp only [HeldL, List.map_cons, List.map_nil, List.cons_append, List.nil_append, List.set_cons_zero, List.set_cons_succ]; (repeat' first | trivial | rfl | constructor)))) ?_
        refine any_take 23 rfl (by first | rfl | decide +kernel) rfl (by first | exact HeldL.refl _ | exact HeldL.append _ _ | simp [HeldL]) (fun H' hH => OpOk.step (OpOk.bool (d := true) (ok_binOp rfl ti_string rfl) (by rw [hv]; simp))) ?_
        refine any_take 24 rfl (by first | rfl | decide +kernel) rfl (by first | exact HeldL.refl _ | exact HeldL.append _ _ | simp [HeldL]) (fun H' hH => OpOk.step (ok_pickb (t := true) (d := true) rfl rfl rfl)) ?_
        refine any_take 25 rfl (by first | rfl | decide +kernel) rfl (by first | exact HeldL.refl _ | exact HeldL.append _ _ | simp [HeldL]) (fun H' hH => OpOk.step (ok_moveb (c := true) (.inl rfl) rfl)) ?_
        refine any_one 26 rfl (by first | rfl | decide +kernel) rfl rfl (ok_call rfl rfl rfl (live27_ok.plain rfl rfl)) (.inr (by first | (simp [HeldL]; done) | (simp only [HeldL, List.map_cons, List.map_nil, List.cons_append, List.nil_append, List.set_cons_zero, List.set_cons_succ]; (repeat' first | trivial | rfl | constructor)))) ?_
        refine any_take 27 rfl (by first | rfl | decide +kernel) rfl (by first | exact HeldL.refl _ | exact HeldL.append _ _ | simp [HeldL]) (fun H' hH => OpOk.step (ok_pick rfl rfl)) ?_
        refine any_take 28 rfl (by first | rfl | decide +kernel) rfl (by first | exact HeldL.refl _ | exact HeldL.append _ _ | simp [HeldL]) (fun H' hH => OpOk.step (ok_move (.inr rfl))) ?_
        refine any_done rfl ?_
        refine keepK hK9 [6] (by dsimp) (by dsimp) ?_
        refine T.ret (hQ _ _ _ rfl ?_).1 -- ret 2
        exact TEnt.fin [] (by decide) (by simp) rfl ⟨rfl, trivial⟩
      · (try simp only [decide_eq_true_eq, decide_eq_false_iff_not, beq_iff_eq, beq_eq_false_iff_ne, bne_iff_ne, bne_eq_false_iff_eq, ne_eq, Bool.not_eq_true', Bool.not_eq_false'] at hc)
        have hv : nameV k = ⟨#[]⟩ := nameV_out (by omega)
        refine T.skip ?_
        refine keepK hK7 [2, 3, 4, 8] (by dsimp) (by dsimp) ?_
        refine T.seq fun K10 hK10 => ?_
        refine T.drawH mixed [] ?_ -- region 7
        refine any_take 0 rfl (by first | rfl | decide +kernel) rfl (HeldL.refl _) (fun H' hH => OpOk.step (ok_load rfl ti_api_Act (locA_held hH rfl) rfl)) ?_
        refine any_take 2 rfl (by first | rfl | decide +kernel) rfl (HeldL.refl _) (fun H' hH => OpOk.step (ok_load rfl ti_api_Act (locA_held hH rfl) rfl)) ?_
        refine any_one 1 rfl (by first | rfl | decide +kernel) rfl rfl (ok_call rfl rfl rfl ((cright_ok a ha.1 ha.2).plain (by show renL (pos []) [.agg (AcC a)] = _; simp [renL, AV.ren, AcC_ren]) rfl)) (.inr (by first | (simp [HeldL]; done) | (simp only [HeldL, List.map_cons, List.map_nil, List.cons_append, List.nil_append, List.set_cons_zero, List.set_cons_succ]; (repeat' first | trivial | rfl | constructor)))) ?_
        refine any_one 3 rfl (by first | rfl | decide +kernel) rfl rfl (ok_call rfl rfl rfl ((rcright_ok a ha.1 ha.2).plain (by show renL (pos []) [.agg (AcC a)] = _; simp [renL, AV.ren, AcC_ren]) rfl)) (.inr (by first | (simp [HeldL]; done) | (simp only [HeldL, List.map_cons, List.map_nil, List.cons_append, List.nil_append, List.set_cons_zero, List.set_cons_succ]; (repeat' first | trivial | rfl | constructor)))) ?_
        refine any_take 4 rfl (by first | rfl | decide +kernel) rfl (by first | exact HeldL.refl _ | exact HeldL.append _ _ | simp [HeldL]) (fun H' hH => OpOk.step (OpOk.bool (d := true) (ok_binOp rfl ti_bool rfl) (by simp))) ?_
        refine any_take 5 rfl (by first | rfl | decide +kernel) rfl (by first | exact HeldL.refl _ | exact HeldL.append _ _ | simp [HeldL]) (fun H' hH => OpOk.step (ok_moveb (c := true) (.inl rfl) rfl)) ?_
        refine any_take 6 rfl (by first | rfl | decide +kernel) rfl (by first | exact HeldL.refl _ | exact HeldL.append _ _ | simp [HeldL]) (fun H' hH => OpOk.step (ok_load rfl ti_api_Act (locA_held hH rfl) rfl)) ?_
        refine any_take 7 rfl (by first | rfl | decide +kernel) rfl (by first | exact HeldL.refl _ | exact HeldL.append _ _ | simp [HeldL]) (fun H' hH => OpOk.step (ok_load rfl ti_api_Act (locA_held hH rfl) rfl)) ?_
        refine any_take 9 rfl (by first | rfl | decide +kernel) rfl (by first | exact HeldL.refl _ | exact HeldL.append _ _ | simp [HeldL]) (fun H' hH => OpOk.step (ok_load rfl ti_api_Act (locA_held hH rfl) rfl)) ?_
        refine any_take 10 rfl (by first | rfl | decide +kernel) rfl (by first | exact HeldL.refl _ | exact HeldL.append _ _ | simp [HeldL]) (fun H' hH => OpOk.step (ok_load rfl ti_api_Act (locA_held hH rfl) rfl)) ?_
        refine any_one 8 rfl (by first | rfl | decide +kernel) rfl rfl (ok_call rfl rfl rfl ((csame_ok a b).plain (by show renL (pos []) [.agg (AcC a), .agg (AcC b)] = _; simp [renL, AV.ren, AcC_ren]) rfl)) (.inr (by first | (simp [HeldL]; done) | (simp only [HeldL, List.map_cons, List.map_nil, List.cons_append, List.nil_append, List.set_cons_zero, List.set_cons_succ]; (repeat' first | trivial | rfl | constructor)))) ?_
        refine any_one 11 rfl (by first | rfl | decide +kernel) rfl rfl (ok_call rfl rfl rfl ((rcsame_ok a b).plain (by show renL (pos []) [.agg (AcC a), .agg (AcC b)] = _; simp [renL, AV.ren, AcC_ren]) rfl)) (.inr (by first | (simp [HeldL]; done) | (simp only [HeldL, List.map_cons, List.map_nil, List.cons_append, List.nil_append, List.set_cons_zero, List.set_cons_succ]; (repeat' first | trivial | rfl | constructor)))) ?_
        refine any_take 12 rfl (by first | rfl | decide +kernel) rfl (by first | exact HeldL.refl _ | exact HeldL.append _ _ | simp [HeldL]) (fun H' hH => OpOk.step (OpOk.bool (d := true) (ok_binOp rfl ti_bool rfl) (by simp))) ?_
        refine any_take 13 rfl (by first | rfl | decide +kernel) rfl (by first | exact HeldL.refl _ | exact HeldL.append _ _ | simp [HeldL]) (fun H' hH => OpOk.step (ok_pickb (t := true) (d := true) rfl rfl rfl)) ?_
        refine any_take 14 rfl (by first | rfl | decide +kernel) rfl (by first | exact HeldL.refl _ | exact HeldL.append _ _ | simp [HeldL]) (fun H' hH => OpOk.step (ok_moveb (c := true) (.inl rfl) rfl)) ?_
        refine any_take 15 rfl (by first | rfl | decide +kernel) rfl (by first | exact HeldL.refl _ | exact HeldL.append _ _ | simp [HeldL]) (fun H' hH => OpOk.step (ok_load rfl ti_api_Act (locA_held hH rfl) rfl)) ?_
        refine any_take 16 rfl (by first | rfl | decide +kernel) rfl (by first | exact HeldL.refl _ | exact HeldL.append _ _ | simp [HeldL]) (fun H' hH => OpOk.step (ok_load rfl ti_api_Act (locA_held hH rfl) rfl)) ?_
        refine any_one 17 rfl (by first | rfl | decide +kernel) rfl rfl (ok_call rfl rfl rfl (((csame_ok a a).plain (by show renL (pos []) [.agg (AcC a), .agg (AcC a)] = _; simp [renL, AV.ren, AcC_ren]) rfl).eq (x' := .b true) (by rw [decide_eq_true (SA_refl a)]) rfl)) (.inr (by first | (simp [HeldL]; done) | (simp only [HeldL, List.map_cons, List.map_nil, List.cons_append, List.nil_append, List.set_cons_zero, List.set_cons_succ]; (repeat' first | trivial | rfl | constructor)))) ?_
        refine any_take 18 rfl (by first | rfl | decide +kernel) rfl (by first | exact HeldL.refl _ | exact HeldL.append _ _ | simp [HeldL]) (fun H' hH => OpOk.step (OpOk.bool (d := true) (ok_pickb rfl rfl rfl) (rfl))) ?_
        refine any_take 19 rfl (by first | rfl | decide +kernel) rfl (by first | exact HeldL.refl _ | exact HeldL.append _ _ | simp [HeldL]) (fun H' hH => OpOk.step (ok_moveb (c := true) (.inl rfl) rfl)) ?_
        refine any_take 20 rfl (by first | rfl | decide +kernel) rfl (by first | exact HeldL.refl _ | exact HeldL.append _ _ | simp [HeldL]) (fun H' hH => OpOk.step (ok_move (.inl rfl))) ?_
        refine any_take 22 rfl (by first | rfl | decide +kernel) rfl (by first | exact HeldL.refl _ | exact HeldL.append _ _ | simp [HeldL]) (fun H' hH => OpOk.step (ok_move (.inl rfl))) ?_
        refine any_one 21 rfl (by first | rfl | decide +kernel) rfl rfl (ok_call rfl rfl rfl ((name_ok k).plain rfl rfl)) (.inr (by first | (simp [HeldL]; done) | (simp only [HeldL, List.map_cons, List.map_nil, List.cons_append, List.nil_append, List.set_cons_zero, List.set_cons_succ]; (repeat' first | trivial | rfl | constructor)))) ?_
        refine any_take 23 rfl (by first | rfl | decide +kernel) rfl (by first | exact HeldL.refl _ | exact HeldL.append _ _ | simp [HeldL]) (fun H' hH => OpOk.step (OpOk.bool (d := true) (ok_binOp rfl ti_string rfl) (by rw [hv]; simp))) ?_
        refine any_take 24 rfl (by first | rfl | decide +kernel) rfl (by first | exact HeldL.refl _ | exact HeldL.append _ _ | simp [HeldL]) (fun H' hH => OpOk.step (ok_pickb (t := true) (d := true) rfl rfl rfl)) ?_
        refine any_take 25 rfl (by first | rfl | decide +kernel) rfl (by first | exact HeldL.refl _ | exact HeldL.append _ _ | simp [HeldL]) (fun H' hH => OpOk.step (ok_moveb (c := true) (.inl rfl) rfl)) ?_
        refine any_one 26 rfl (by first | rfl | decide +kernel) rfl rfl (ok_call rfl rfl rfl (live27_ok.plain rfl rfl)) (.inr (by first | (simp [HeldL]; done) | (simp only [HeldL, List.map_cons, List.map_nil, List.cons_append, List.nil_append, List.set_cons_zero, List.set_cons_succ]; (repeat' first | trivial | rfl | constructor)))) ?_
        refine any_take 27 rfl (by first | rfl | decide +kernel) rfl (by first | exact HeldL.refl _ | exact HeldL.append _ _ | simp [HeldL]) (fun H' hH => OpOk.step (ok_pick rfl rfl)) ?_
        refine any_take 28 rfl (by first | rfl | decide +kernel) rfl (by first | exact HeldL.refl _ | exact HeldL.append _ _ | simp [HeldL]) (fun H' hH => OpOk.step (ok_move (.inr rfl))) ?_
        refine any_done rfl ?_
        refine keepK hK10 [6] (by dsimp) (by dsimp) ?_
        refine T.ret (hQ _ _ _ rfl ?_).1 -- ret 3
        exact TEnt.fin [] (by decide) (by simp) rfl ⟨rfl, trivial⟩
    · (try simp only [decide_eq_true_eq, decide_eq_false_iff_not, beq_iff_eq, beq_eq_false_iff_ne, bne_iff_ne, bne_eq_false_iff_eq, ne_eq, Bool.not_eq_true', Bool.not_eq_false'] at hb)
      have hv : nameV k = ⟨#[]⟩ := nameV_out (by omega)
      refine ro_skip rfl rfl ?_
      refine ro_skip rfl rfl ?_
      refine ro rfl rfl (OpOk.step (ok_pickb (t := false) (d := false) rfl rfl rfl)) ?_
      refine ro_nil ?_
      refine keepK hK8 [2, 3, 4, 7, 8, 20] (by dsimp) (by dsimp) ?_
      refine T.cond_false rfl ?_
      refine T.skip ?_
      refine keepK hK7 [2, 3, 4, 8] (by dsimp) (by dsimp) ?_
      refine T.seq fun K11 hK11 => ?_
      refine T.drawH mixed [] ?_ -- region 7
      refine any_take 0 rfl (by first | rfl | decide +kernel) rfl (HeldL.refl _) (fun H' hH => OpOk.step (ok_load rfl ti_api_Act (locA_held hH rfl) rfl)) ?_
      refine any_take 2 rfl (by first | rfl | decide +kernel) rfl (HeldL.refl _) (fun H' hH => OpOk.step (ok_load rfl ti_api_Act (locA_held hH rfl) rfl)) ?_
      refine any_one 1 rfl (by first | rfl | decide +kernel) rfl rfl (ok_call rfl rfl rfl ((cright_ok a ha.1 ha.2).plain (by show renL (pos []) [.agg (AcC a)] = _; simp [renL, AV.ren, AcC_ren]) rfl)) (.inr (by first | (simp [HeldL]; done) | (simp only [HeldL, List.map_cons, List.map_nil, List.cons_append, List.nil_append, List.set_cons_zero, List.set_cons_succ]; (repeat' first | trivial | rfl | constructor)))) ?_
      refine any_one 3 rfl (by first | rfl | decide +kernel) rfl rfl (ok_call rfl rfl rfl ((rcright_ok a ha.1 ha.2).plain (by show renL (pos []) [.agg (AcC a)] = _; simp [renL, AV.ren, AcC_ren]) rfl)) (.inr (by first | (simp [HeldL]; done) | (simp only [HeldL, List.map_cons, List.map_nil, List.cons_append, List.nil_append, List.set_cons_zero, List.set_cons_succ]; (repeat' first | trivial | rfl | constructor)))) ?_
      refine any_take 4 rfl (by first | rfl | decide +kernel) rfl (by first | exact HeldL.refl _ | exact HeldL.append _ _ | simp [HeldL]) (fun H' hH => OpOk.step (OpOk.bool (d := true) (ok_binOp rfl ti_bool rfl) (by simp))) ?_
      refine any_take 5 rfl (by first | rfl | decide +kernel) rfl (by first | exact HeldL.refl _ | exact HeldL.append _ _ | simp [HeldL]) (fun H' hH => OpOk.step (ok_moveb (c := true) (.inl rfl) rfl)) ?_
      refine any_take 6 rfl (by first | rfl | decide +kernel) rfl (by first | exact HeldL.refl _ | exact HeldL.append _ _ | simp [HeldL]) (fun H' hH => OpOk.step (ok_load rfl ti_api_Act (locA_held hH rfl) rfl)) ?_
      refine any_take 7 rfl (by first | rfl | decide +kernel) rfl (by first | exact HeldL.refl _ | exact HeldL.append _ _ | simp [HeldL]) (fun H' hH => OpOk.step (ok_load rfl ti_api_Act (locA_held hH rfl) rfl)) ?_
      refine any_take 9 rfl (by first | rfl | decide +kernel) rfl (by first | exact HeldL.refl _ | exact HeldL.append _ _ | simp [HeldL]) (fun H' hH => OpOk.step (ok_load rfl ti_api_Act (locA_held hH rfl) rfl)) ?_
      refine any_take 10 rfl (by first | rfl | decide +kernel) rfl (by first | exact HeldL.refl _ | exact HeldL.append _ _ | simp [HeldL]) (fun H' hH => OpOk.step (ok_load rfl ti_api_Act (locA_held hH rfl) rfl)) ?_
      refine any_one 8 rfl (by first | rfl | decide +kernel) rfl rfl (ok_call rfl rfl rfl ((csame_ok a b).plain (by show renL (pos []) [.agg (AcC a), .agg (AcC b)] = _; simp [renL, AV.ren, AcC_ren]) rfl)) (.inr (by first | (simp [HeldL]; done) | (simp only [HeldL, List.map_cons, List.map_nil, List.cons_append, List.nil_append, List.set_cons_zero, List.set_cons_succ]; (repeat' first | trivial | rfl | constructor)))) ?_
      refine any_one 11 rfl (by first | rfl | decide +kernel) rfl rfl (ok_call rfl rfl rfl ((rcsame_ok a b).plain (by show renL (pos []) [.agg (AcC a), .agg (AcC b)] = _; simp [renL, AV.ren, AcC_ren]) rfl)) (.inr (by first | (simp [HeldL]; done) | (simp only [HeldL, List.map_cons, List.map_nil, List.cons_append, List.nil_append, List.set_cons_zero, List.set_cons_succ]; (repeat' first | trivial | rfl | constructor)))) ?_
      refine any_take 12 rfl (by first | rfl | decide +kernel) rfl (by first | exact HeldL.refl _ | exact HeldL.append _ _ | simp [HeldL]) (fun H' hH => OpOk.step (OpOk.bool (d := true) (ok_binOp rfl ti_bool rfl) (by simp))) ?_
      refine any_take 13 rfl (by first | rfl | decide +kernel) rfl (by first | exact HeldL.refl _ | exact HeldL.append _ _ | simp [HeldL]) (fun H' hH => OpOk.step (ok_pickb (t := true) (d := true) rfl rfl rfl)) ?_
      refine any_take 14 rfl (by first | rfl | decide +kernel) rfl (by first | exact HeldL.refl _ | exact HeldL.append _ _ | simp [HeldL]) (fun H' hH => OpOk.step (ok_moveb (c := true) (.inl rfl) rfl)) ?_
      refine any_take 15 rfl (by first | rfl | decide +kernel) rfl (by first | exact HeldL.refl _ | exact HeldL.append _ _ | simp [HeldL]) (fun H' hH => OpOk.step (ok_load rfl ti_api_Act (locA_held hH rfl) rfl)) ?_
      refine any_take 16 rfl (by first | rfl | decide +kernel) rfl (by first | exact HeldL.refl _ | exact HeldL.append _ _ | simp [HeldL]) (fun H' hH => OpOk.step (ok_load rfl ti_api_Act (locA_held hH rfl) rfl)) ?_
      refine any_one 17 rfl (by first | rfl | decide +kernel) rfl rfl (ok_call rfl rfl rfl (((csame_ok a a).plain (by show renL (pos []) [.agg (AcC a), .agg (AcC a)] = _; simp [renL, AV.ren, AcC_ren]) rfl).eq (x' := .b true) (by rw [decide_eq_true (SA_refl a)]) rfl)) (.inr (by first | (simp [HeldL]; done) | (simp only [HeldL, List.map_cons, List.map_nil, List.cons_append, List.nil_append, List.set_cons_zero, List.set_cons_succ]; (repeat' first | trivial | rfl | constructor)))) ?_
      refine any_take 18 rfl (by first | rfl | decide +kernel) rfl (by first | exact HeldL.refl _ | exact HeldL.append _ _ | simp [HeldL]) (fun H' hH => OpOk.step (OpOk.bool (d := true) (ok_pickb rfl rfl rfl) (rfl))) ?_
      refine any_take 19 rfl (by first | rfl | decide +kernel) rfl (by first | exact HeldL.refl _ | exact HeldL.append _ _ | simp [HeldL]) (fun H' hH => OpOk.step (ok_moveb (c := true) (.inl rfl) rfl)) ?_
      refine any_take 20 rfl (by first | rfl | decide +kernel) rfl (by first | exact HeldL.refl _ | exact HeldL.append _ _ | simp [HeldL]) (fun H' hH => OpOk.step (ok_move (.inl rfl))) ?_
      refine any_take 22 rfl (by first | rfl | decide +kernel) rfl (by first | exact HeldL.refl _ | exact HeldL.append _ _ | simp [HeldL]) (fun H' hH => OpOk.step (ok_move (.inl rfl))) ?_
      refine any_one 21 rfl (by first | rfl | decide +kernel) rfl rfl (ok_call rfl rfl rfl ((name_ok k).plain rfl rfl)) (.inr (by first | (simp [HeldL]; done) | (simp only [HeldL, List.map_cons, List.map_nil, List.cons_append, List.nil_append, List.set_cons_zero, List.set_cons_succ]; (repeat' first | trivial | rfl | constructor)))) ?_
      refine any_take 23 rfl (by first | rfl | decide +kernel) rfl (by first | exact HeldL.refl _ | exact HeldL.append _ _ | simp [HeldL]) (fun H' hH => OpOk.step (OpOk.bool (d := true) (ok_binOp rfl ti_string rfl) (by rw [hv]; simp))) ?_
      refine any_take 24 rfl (by first | rfl | decide +kernel) rfl (by first | exact HeldL.refl _ | exact HeldL.append _ _ | simp [HeldL]) (fun H' hH => OpOk.step (ok_pickb (t := true) (d := true) rfl rfl rfl)) ?_
      refine any_take 25 rfl (by first | rfl | decide +kernel) rfl (by first | exact HeldL.refl _ | exact HeldL.append _ _ | simp [HeldL]) (fun H' hH => OpOk.step (ok_moveb (c := true) (.inl rfl) rfl)) ?_
      refine any_one 26 rfl (by first | rfl | decide +kernel) rfl rfl (ok_call rfl rfl rfl (live27_ok.plain rfl rfl)) (.inr (by first | (simp [HeldL]; done) | (simp only [HeldL, List.map_cons, List.map_nil, List.cons_append, List.nil_append, List.set_cons_zero, List.set_cons_succ]; (repeat' first | trivial | rfl | constructor)))) ?_
      refine any_take 27 rfl (by first | rfl | decide +kernel) rfl (by first | exact HeldL.refl _ | exact HeldL.append _ _ | simp [HeldL]) (fun H' hH => OpOk.step (ok_pick rfl rfl)) ?_
      refine any_take 28 rfl (by first | rfl | decide +kernel) rfl (by first | exact HeldL.refl _ | exact HeldL.append _ _ | simp [HeldL]) (fun H' hH => OpOk.step (ok_move (.inr rfl))) ?_
      refine any_done rfl ?_
      refine keepK hK11 [6] (by dsimp) (by dsimp) ?_
      refine T.ret (hQ _ _ _ rfl ?_).1 -- ret 4
      exact TEnt.fin [] (by decide) (by simp) rfl ⟨rfl, trivial⟩
abbrev CmT := Int × Int × Int × Int × List Int × Bool
abbrev AcT := Int × CmT × Int × Int × List Int
def acOf (a : AcT) : Ac := ⟨a.1, a.2.1.1, a.2.1.2.1, a.2.1.2.2.1, a.2.1.2.2.2.1, a.2.1.2.2.2.2.1, a.2.1.2.2.2.2.2, a.2.2.1, a.2.2.2.1, a.2.2.2.2⟩
theorem Acs_map (l : List AcT) : Acs (l.map acOf) = l.map fun x => .agg (AcC (acOf x)) := by simp [Acs, Function.comp_def]
end Go.Proofs.Ytmegpanmiagheaa.AmF
