/- Walks over the abstract machine: the stripe that a zone is at: the page's example. -/
import Derived.Test.YtknhemdpfdopaaaAm17
import Derived.Test.YtknhemdpfdopaaaAfStripe4
namespace Go.Proofs.Ytknhemdpfdopaaa.AmF
open Go Go.AM
set_option maxRecDepth 100000
set_option linter.unusedSimpArgs false
set_option linter.unusedVariables false
attribute [local simp] tkeep tget tput ev cav argsTM pickA normT putA splice AV.cells ints_length rowsA_length fit_len zipx_len upd_len cs_len ovr_len
def fitL (ls : List (List Int)) (b : Nat) : List (List Int) := ls.map fun l => fit l b
theorem fitL_len (ls : List (List Int)) (b : Nat) : (fitL ls b).length = ls.length := by simp [fitL]
theorem fitL_get {ls : List (List Int)} {b i : Nat} {l : List Int} (h : ls[i]? = some l) : (fitL ls b)[i]? = some (fit l b) := by simp [fitL, h]
theorem fitL_snoc {ls : List (List Int)} {b i : Nat} {l : List Int} (h : ls[i]? = some l) : fitL (ls.take (i + 1)) b = fitL (ls.take i) b ++ [fit l b] := by rw [take_succ_get h]; simp [fitL]
theorem fitL_mem {ls : List (List Int)} {b : Nat} {x : List Int} (h : x ∈ fitL ls b) : x.length = b := by
  simp only [fitL, List.mem_map] at h
  obtain ⟨l, _, rfl⟩ := h
  simp
theorem fitL_BB {ls : List (List Int)} {b : Nat} (h : BB ls) : BB (fitL ls b) := by
  intro x hx
  simp only [fitL, List.mem_map] at hx
  obtain ⟨l, hl, rfl⟩ := hx
  exact fit_bytes (h l hl) b
attribute [local simp] fitL_len
theorem rfitL_new (ls : List (List Int)) (b : Nat) (hn : ls.length ≤ 1000000) (hb : b ≤ 1000000) : CSpec Try.prog 45 [] [.fz 1 (rowsA .u8 ls), .int b] [some ⟨1, true, rowsA .u8 (fitL ls b)⟩] (.sl 0 0 (fitL ls b).length) := by
  refine CSpec.body Try.func45 rfl rfl rfl rfl rfl fun Q hQ => ?_
  refine T.seq fun K1 hK1 => ?_
  refine T.region ?_ -- region 0
  refine ro rfl rfl (OpOk.step (ok_move (.inr rfl))) ?_
  refine ro_nil ?_
  refine keepK hK1 [0, 1] (by dsimp) (by dsimp) ?_
  refine T.seq fun K2 hK2 => ?_
  refine T.region ?_ -- region 1
  refine ro rfl rfl (OpOk.step (ok_move (.inr rfl))) ?_
  refine ro_nil ?_
  refine keepK hK2 [0, 1, 5] (by dsimp) (by dsimp) ?_
  refine T.seq fun K3 hK3 => ?_
  refine T.seq fun K4 hK4 => ?_
  refine T.region ?_ -- region 2
  refine ro rfl rfl (OpOk.step (ok_move (.inr rfl))) ?_
  refine ro_nil ?_
  refine keepK hK4 [0, 1, 5, 6] (by dsimp) (by dsimp) ?_
  refine T.block ?_
  refine T.loopI (ι := Nat) (fun i => i ≤ ls.length) (fun i => ls.length - i) (fun i => ([(0, .fz 1 (rowsA .u8 ls)), (1, .int b), (5, .sl 0 0 (fitL (ls.take i) b).length), (6, .int i)], [some ⟨1, true, rowsA .u8 (fitL (ls.take i) b)⟩])) 0 (Nat.zero_le _) ((TEnt.empty 5 1 (by decide) (.inr rfl)).trans (TEnt.toH rfl ⟨rfl, rfl, rfl, rfl, trivial⟩)) (fun i hi => ?_) -- loop 1
  refine T.seq fun K5 hK5 => ?_
  refine T.seq fun K6 hK6 => ?_
  refine T.region ?_ -- region 3
  refine ro rfl rfl (OpOk.step (ok_move (.inl rfl))) ?_
  refine ro rfl rfl (OpOk.step (ok_move (.inl rfl))) ?_
  refine ro rfl rfl (OpOk.step (ok_len' rfl rfl ti_LLuint8 rfl (by first | exact ints_length _ _ | exact rowsA_length _ _ | exact Cms_len _ | exact mapLen _ | rfl))) ?_
  refine ro rfl rfl (OpOk.step (ok_binOp rfl ti_int rfl)) ?_
  refine ro_nil ?_
  refine keepK hK6 [0, 1, 5, 6, 10] (by dsimp) (by dsimp) ?_
  refine T.cond rfl (fun hc => ?_) (fun hc => ?_) -- cond 1
  · (try simp only [decide_eq_true_eq, decide_eq_false_iff_not, beq_iff_eq, beq_eq_false_iff_ne, bne_iff_ne, bne_eq_false_iff_eq, ne_eq, Bool.not_eq_true', Bool.not_eq_false'] at hc)
    obtain ⟨x, hx⟩ : ∃ x, ls[i]? = some x := ⟨_, List.getElem?_eq_getElem (by omega)⟩
    have hst := fitL_snoc (b := b) hx
    have htl : (fitL (ls.take i) b).length ≤ 1000000 := by simp; omega
    refine T.skip ?_
    refine keepK hK5 [0, 1, 5, 6] (by dsimp) (by dsimp) ?_
    refine T.seq fun K7 hK7 => ?_
    refine T.block ?_
    refine T.region ?_ -- region 5
    refine ro rfl rfl (OpOk.step (ok_move (.inl rfl))) ?_
    refine ro rfl rfl (OpOk.step (ok_move (.inl rfl))) ?_
    refine ro rfl rfl (OpOk.step (ok_move (.inl rfl))) ?_
    refine ro rfl rfl (OpOk.step (by exact ok_index_fz rfl ti_LLuint8 rfl ti_Luint8 rfl rfl rfl (by omega) (rowsA_get_of (by simpa using hx)) rfl)) ?_
    refine ro rfl rfl (OpOk.step (ok_load rfl ti_Luint8 rfl rfl)) ?_
    refine ro rfl rfl (OpOk.step (ok_move (.inl rfl))) ?_
    refine ro rfl rfl (ok_call rfl rfl rfl ((fit_frz x b hb).plain (by simp [renL, AV.ren, renL_ints]) (by simp [AV.ren, renL_ints]))) ?_
    refine ro rfl rfl (OpOk.step (ok_buildSlice (n := 1) (ps := #[(0, .tmp 19)]) rfl ti_LLuint8 rfl ti_Luint8 (by decide) rfl rfl (by decide) rfl rfl rfl)) ?_
    refine ro rfl rfl (OpOk.step ((ok_append_map (fun l => .fz 1 (ints .u8 l)) (xs := fitL (ls.take i) b) (ys := [fit x b]) rfl ti_LLuint8 rfl ti_Luint8 (by decide) (by decide) rfl ti_LLuint8 (by simp) rfl rfl rfl rfl rfl rfl rfl rfl rfl (by show (_ + 1) * 24 ≤ _; omega)).eq (x' := .sl 2 0 (fitL (ls.take (i + 1)) b).length) (H'' := [none, some ⟨1, true, rowsA .u8 [fit x b]⟩, some ⟨1, true, rowsA .u8 (fitL (ls.take (i + 1)) b)⟩]) (by rw [hst]; rfl) (by rw [hst]; rfl))) ?_
    refine ro rfl rfl (OpOk.step (ok_move (.inr rfl))) ?_
    refine ro_nil ?_
    refine keepK hK7 [0, 1, 5, 6] (by dsimp) (by dsimp) ?_
    refine T.region ?_ -- region 4
    refine ro rfl rfl (OpOk.step (ok_move (.inl rfl))) ?_
    refine ro rfl rfl (OpOk.step (ok_add64 rfl ti_int rfl rfl (by omega) (by omega))) ?_
    refine ro rfl rfl (OpOk.step (ok_move (.inr rfl))) ?_
    refine ro_nil ?_
    exact ⟨i + 1, by omega, by omega, TEnt.fin [2] (by decide) (by simp) (by simp [normH, hget, Blk.ren, renL_rowsA]) ⟨by simp [AV.ren, renL_rowsA], rfl, rfl, rfl, trivial⟩⟩
  · (try simp only [decide_eq_true_eq, decide_eq_false_iff_not, beq_iff_eq, beq_eq_false_iff_ne, bne_iff_ne, bne_eq_false_iff_eq, ne_eq, Bool.not_eq_true', Bool.not_eq_false'] at hc)
    have hin : i = ls.length := by omega
    subst hin
    rw [List.take_length]
    refine T.exit ?_
    refine keepK hK3 [5] (by dsimp) (by dsimp) ?_
    refine T.seq fun K8 hK8 => ?_
    refine T.region ?_ -- region 6
    refine ro rfl rfl (OpOk.step (ok_move (.inl rfl))) ?_
    refine ro rfl rfl (OpOk.step (ok_move (.inr rfl))) ?_
    refine ro_nil ?_
    refine keepK hK8 [4] (by dsimp) (by dsimp) ?_
    refine T.ret (hQ _ _ _ rfl ?_).1 -- ret 1
    exact TEnt.toH rfl ⟨rfl, trivial⟩
theorem rfitL_frz (ls : List (List Int)) (b : Nat) (hn : ls.length ≤ 1000000) (hb : b ≤ 1000000) : CSpec Try.prog 45 [] [.fz 1 (rowsA .u8 ls), .int b] [] (.fz 1 (rowsA .u8 (fitL ls b))) := (rfitL_new ls b hn hb).frz (by simp) (renL_rowsA _ _ _)
/-- All bytes. -/
def tsum (ls : List (List Int)) : Nat := (ls.map List.length).sum
theorem tsum_snoc (ls : List (List Int)) (x : List Int) : tsum (ls ++ [x]) = tsum ls + x.length := by simp [tsum]
theorem tsum_take (ls : List (List Int)) (i : Nat) : tsum (ls.take i) ≤ tsum ls := by
  have : tsum ls = tsum (ls.take i) + tsum (ls.drop i) := by
    conv => lhs; rw [← List.take_append_drop i ls]
    simp only [tsum, List.map_append, List.sum_append]
  omega
theorem tsum_get {ls : List (List Int)} {x : List Int} (h : x ∈ ls) : x.length ≤ tsum ls := by
  obtain ⟨i, hi⟩ := List.getElem?_of_mem h
  have h1 := tsum_take ls (i + 1)
  rw [take_succ_get hi, tsum_snoc] at h1
  omega
def FewL (ls : List (List Int)) : Prop := ls.length ≤ 50 ∧ tsum ls ≤ 8000
instance (ls : List (List Int)) : Decidable (FewL ls) := by unfold FewL; infer_instance
theorem much15_ok (ls : List (List Int)) (hn : ls.length ≤ 140737488355328) (hl : ∀ l ∈ ls, l.length ≤ 140737488355328) : CSpec Try.prog 41 [] [.fz 1 (rowsA .u8 ls)] [] (.b (!decide (FewL ls))) := by
  refine CSpec.body Try.func41 rfl rfl rfl rfl rfl fun Q hQ => ?_
  refine T.seq fun K1 hK1 => ?_
  refine T.region ?_ -- region 0
  refine ro rfl rfl (OpOk.step (ok_moveb (c := false) (.inr rfl) rfl)) ?_
  refine ro_nil ?_
  refine keepK hK1 [0] (by dsimp) (by dsimp) ?_
  refine T.seq fun K2 hK2 => ?_
  refine T.region ?_ -- region 1
  refine ro rfl rfl (OpOk.step (ok_move (.inr rfl))) ?_
  refine ro_nil ?_
  refine keepK hK2 [0, 3] (by dsimp) (by dsimp) ?_
  refine T.seq fun K3 hK3 => ?_
  refine T.seq fun K4 hK4 => ?_
  refine T.region ?_ -- region 2
  refine ro rfl rfl (OpOk.step (ok_move (.inr rfl))) ?_
  refine ro_nil ?_
  refine keepK hK4 [0, 3, 4] (by dsimp) (by dsimp) ?_
  refine T.block ?_
  refine T.loopI (ι := Nat) (fun i => i ≤ ls.length ∧ i ≤ 60 ∧ tsum (ls.take i) ≤ 8000) (fun i => ls.length - i) (fun i => ([(0, .fz 1 (rowsA .u8 ls)), (3, .int (tsum (ls.take i) : Nat)), (4, .int i)], [])) 0 ⟨Nat.zero_le _, Nat.zero_le _, Nat.zero_le _⟩ (TEnt.toH rfl ⟨rfl, rfl, rfl, trivial⟩) (fun i hi => ?_) -- loop 1
  obtain ⟨hil, hi60, hds⟩ := hi
  refine T.seq fun K5 hK5 => ?_
  refine T.seq fun K6 hK6 => ?_
  refine T.region ?_ -- region 3
  refine ro rfl rfl (OpOk.step (ok_move (.inl rfl))) ?_
  refine ro rfl rfl (OpOk.step (ok_move (.inl rfl))) ?_
  refine ro rfl rfl (OpOk.step (ok_len' rfl rfl ti_LLuint8 rfl (by first | exact ints_length _ _ | exact rowsA_length _ _ | exact Cms_len _ | exact mapLen _ | rfl))) ?_
  refine ro rfl rfl (OpOk.step (ok_binOp rfl ti_int rfl)) ?_
  refine ro_case rfl rfl (OpOk.step (ok_moveb (.inl rfl) rfl)) (fun hb => ?_) (fun hb => ?_)
  · (try simp only [decide_eq_true_eq, decide_eq_false_iff_not, beq_iff_eq, beq_eq_false_iff_ne, bne_iff_ne, bne_eq_false_iff_eq, ne_eq, Bool.not_eq_true', Bool.not_eq_false'] at hb)
    refine ro rfl rfl (OpOk.step (ok_move (.inl rfl))) ?_
    refine ro rfl rfl (OpOk.step (ok_binOp rfl ti_int rfl)) ?_
    refine ro rfl rfl (OpOk.step (ok_pick rfl rfl)) ?_
    refine ro_nil ?_
    refine keepK hK6 [0, 3, 4, 12] (by dsimp) (by dsimp) ?_
    refine T.cond rfl (fun hc => ?_) (fun hc => ?_) -- cond 1
    · (try simp only [decide_eq_true_eq, decide_eq_false_iff_not, beq_iff_eq, beq_eq_false_iff_ne, bne_iff_ne, bne_eq_false_iff_eq, ne_eq, Bool.not_eq_true', Bool.not_eq_false'] at hc)
      obtain ⟨x, hx⟩ : ∃ x, ls[i]? = some x := ⟨_, List.getElem?_eq_getElem (by omega)⟩
      have hxl := hl x (List.mem_of_getElem? hx)
      have hst : tsum (ls.take (i + 1)) = tsum (ls.take i) + x.length := by rw [take_succ_get hx, tsum_snoc]
      have hdt := tsum_take ls (i + 1)
      refine T.skip ?_
      refine keepK hK5 [0, 3, 4] (by dsimp) (by dsimp) ?_
      refine T.seq fun K7 hK7 => ?_
      refine T.block ?_
      refine T.seq fun K8 hK8 => ?_
      refine T.region ?_ -- region 5
      refine ro rfl rfl (OpOk.step (ok_move (.inl rfl))) ?_
      refine ro rfl rfl (OpOk.step (ok_move (.inl rfl))) ?_
      refine ro rfl rfl (OpOk.step (ok_move (.inl rfl))) ?_
      refine ro rfl rfl (OpOk.step (by exact ok_index_fz rfl ti_LLuint8 rfl ti_Luint8 rfl rfl rfl (by omega) (rowsA_get_of (by simpa using hx)) rfl)) ?_
      refine ro rfl rfl (OpOk.step (ok_load rfl ti_Luint8 rfl rfl)) ?_
      refine ro rfl rfl (OpOk.step (ok_len' rfl rfl ti_Luint8 rfl (by first | exact ints_length _ _ | exact rowsA_length _ _ | exact Cms_len _ | exact mapLen _ | rfl))) ?_
      refine ro rfl rfl (OpOk.step ((ok_add64 rfl ti_int rfl rfl (by omega) (by omega)).eq (x' := .int (tsum (ls.take (i + 1)) : Nat)) (by rw [hst]; rfl) rfl)) ?_
      refine ro rfl rfl (OpOk.step (ok_move (.inr rfl))) ?_
      refine ro_nil ?_
      refine keepK hK8 [0, 3, 4] (by dsimp) (by dsimp) ?_
      refine T.seq fun K9 hK9 => ?_
      refine T.region ?_ -- region 6
      refine ro rfl rfl (OpOk.step (ok_move (.inl rfl))) ?_
      refine ro rfl rfl (OpOk.step (ok_binOp rfl ti_int rfl)) ?_
      refine ro_nil ?_
      refine keepK hK9 [0, 3, 4, 23] (by dsimp) (by dsimp) ?_
      refine T.cond rfl (fun hc => ?_) (fun hc => ?_) -- cond 2
      · (try simp only [decide_eq_true_eq, decide_eq_false_iff_not, beq_iff_eq, beq_eq_false_iff_ne, bne_iff_ne, bne_eq_false_iff_eq, ne_eq, Bool.not_eq_true', Bool.not_eq_false'] at hc)
        have hno : ¬ FewL ls := by unfold FewL; omega
        rw [decide_eq_false hno] at hQ
        refine T.seq fun K10 hK10 => ?_
        refine T.region ?_ -- region 7
        refine ro rfl rfl (OpOk.step (ok_moveb (c := true) (.inr rfl) rfl)) ?_
        refine ro_nil ?_
        refine keepK hK10 [2] (by dsimp) (by dsimp) ?_
        refine T.ret (hQ _ _ _ rfl ?_).1 -- ret 1
        exact TEnt.fin [] (by decide) (by simp) rfl ⟨rfl, trivial⟩
      · (try simp only [decide_eq_true_eq, decide_eq_false_iff_not, beq_iff_eq, beq_eq_false_iff_ne, bne_iff_ne, bne_eq_false_iff_eq, ne_eq, Bool.not_eq_true', Bool.not_eq_false'] at hc)
        refine T.skip ?_
        refine keepK hK7 [0, 3, 4] (by dsimp) (by dsimp) ?_
        refine T.region ?_ -- region 4
        refine ro rfl rfl (OpOk.step (ok_move (.inl rfl))) ?_
        refine ro rfl rfl (OpOk.step (ok_add64 rfl ti_int rfl rfl (by omega) (by omega))) ?_
        refine ro rfl rfl (OpOk.step (ok_move (.inr rfl))) ?_
        refine ro_nil ?_
        exact ⟨i + 1, ⟨by omega, by omega, by omega⟩, by omega, TEnt.toH rfl ⟨rfl, rfl, rfl, trivial⟩⟩
    · (try simp only [decide_eq_true_eq, decide_eq_false_iff_not, beq_iff_eq, beq_eq_false_iff_ne, bne_iff_ne, bne_eq_false_iff_eq, ne_eq, Bool.not_eq_true', Bool.not_eq_false'] at hc)
      have hfew : ls.length ≤ 50 → tsum ls ≤ 8000 := by
        intro h
        have hin : i = ls.length := by omega
        rw [hin, List.take_length] at hds
        exact hds
      refine T.exit ?_
      refine keepK hK3 [0] (by dsimp) (by dsimp) ?_
      refine T.seq fun K11 hK11 => ?_
      have e : (!decide (FewL ls)) = decide ((ls.length : Int) > 50) := by
        rw [← decide_not, decide_eq_decide]
        unfold FewL
        constructor
        · intro h
          rcases Nat.lt_or_ge 50 ls.length with h1 | h1
          · omega
          · exact absurd ⟨h1, hfew h1⟩ h
        · intro h h2
          omega
      refine T.region ?_ -- region 8
      refine ro rfl rfl (OpOk.step (ok_move (.inl rfl))) ?_
      refine ro rfl rfl (OpOk.step (ok_len' rfl rfl ti_LLuint8 rfl (by first | exact ints_length _ _ | exact rowsA_length _ _ | exact Cms_len _ | exact mapLen _ | rfl))) ?_
      refine ro rfl rfl (OpOk.step ((ok_binOp rfl ti_int rfl).eq (x' := .b (!decide (FewL ls))) (by rw [e]) rfl)) ?_
      refine ro rfl rfl (OpOk.step (ok_move (.inr rfl))) ?_
      refine ro_nil ?_
      refine keepK hK11 [2] (by dsimp) (by dsimp) ?_
      refine T.ret (hQ _ _ _ rfl ?_).1 -- ret 2
      exact TEnt.fin [] (by decide) (by simp) rfl ⟨rfl, trivial⟩
  · (try simp only [decide_eq_true_eq, decide_eq_false_iff_not, beq_iff_eq, beq_eq_false_iff_ne, bne_iff_ne, bne_eq_false_iff_eq, ne_eq, Bool.not_eq_true', Bool.not_eq_false'] at hb)
    have hfew : ls.length ≤ 50 → tsum ls ≤ 8000 := by
      intro h
      have hin : i = ls.length := by omega
      rw [hin, List.take_length] at hds
      exact hds
    refine ro_skip rfl rfl ?_
    refine ro_skip rfl rfl ?_
    refine ro rfl rfl (OpOk.step (ok_pickb (t := false) (d := false) rfl rfl rfl)) ?_
    refine ro_nil ?_
    refine keepK hK6 [0, 3, 4, 12] (by dsimp) (by dsimp) ?_
    refine T.cond_false rfl ?_
    refine T.exit ?_
    refine keepK hK3 [0] (by dsimp) (by dsimp) ?_
    refine T.seq fun K12 hK12 => ?_
    have e : (!decide (FewL ls)) = decide ((ls.length : Int) > 50) := by
      rw [← decide_not, decide_eq_decide]
      unfold FewL
      constructor
      · intro h
        rcases Nat.lt_or_ge 50 ls.length with h1 | h1
        · omega
        · exact absurd ⟨h1, hfew h1⟩ h
      · intro h h2
        omega
    refine T.region ?_ -- region 8
    refine ro rfl rfl (OpOk.step (ok_move (.inl rfl))) ?_
    refine ro rfl rfl (OpOk.step (ok_len' rfl rfl ti_LLuint8 rfl (by first | exact ints_length _ _ | exact rowsA_length _ _ | exact Cms_len _ | exact mapLen _ | rfl))) ?_
    refine ro rfl rfl (OpOk.step ((ok_binOp rfl ti_int rfl).eq (x' := .b (!decide (FewL ls))) (by rw [e]) rfl)) ?_
    refine ro rfl rfl (OpOk.step (ok_move (.inr rfl))) ?_
    refine ro_nil ?_
    refine keepK hK12 [2] (by dsimp) (by dsimp) ?_
    refine T.ret (hQ _ _ _ rfl ?_).1 -- ret 3
    exact TEnt.fin [] (by decide) (by simp) rfl ⟨rfl, trivial⟩
def pl15 : Cf := ⟨7, 4, 2, 64, 24, 3, 1, 3, 2, 3, 7⟩
theorem pl_chk : chkC pl15 = 0 := by decide +kernel
theorem pl_size : sizeC pl15 = 72 := by decide +kernel
theorem pl_row : rowC pl15 = 6 := by decide +kernel
def z64 : List Int := List.replicate 64 0
def bl15 (i : Nat) : List (List Int) := if i < 6 then List.replicate i z64 else []
def pp15 (i : Nat) : List Int := if i = 5 then overC pl15 (List.replicate 6 z64) else []
theorem z64_B : Bytes z64 := fun x hx => by rw [List.eq_of_mem_replicate hx]; omega
theorem rep_B (n : Nat) : BB (List.replicate n z64) := fun l hl => by rw [List.eq_of_mem_replicate hl]; exact z64_B
theorem pp_len (i : Nat) : (pp15 i).length = if i = 5 then 128 else 0 := by
  unfold pp15
  split
  · unfold overC
    rw [if_pos ⟨pl_chk, by rw [pl_row]; decide⟩, ovr_len]
    rfl
  · rfl
theorem bl_lt {i : Nat} (h : i < 6) : bl15 i = List.replicate i z64 := if_pos h
theorem push_live {i : Nat} (h : i < 6) : pushS pl15 i (bl15 i) z64 = ⟨pl15, i + 1, bl15 (i + 1), pp15 i, 0⟩ := by
  rw [bl_lt h]
  have hz : (z64.length : Int) = 64 := rfl
  have hb : pl15.blk = 64 := rfl
  have hrep : List.replicate i z64 ++ [z64] = List.replicate (i + 1) z64 := by rw [List.replicate_succ']
  unfold pushS
  rw [if_neg (by rw [hz, hb]; omega), if_neg (by rw [pl_size]; omega), pl_row, List.length_replicate, hrep]
  by_cases h5 : i = 5
  · subst h5
    rw [if_neg (by omega)]; rfl
  · rw [if_pos (by omega)]
    unfold bl15 pp15
    rw [if_pos (by omega), if_neg h5]
theorem new_live : newA pl15 0 [] = .tup [.agg (BufC pl15 0 []), .int 0] := by
  have : rightE pl15 0 [] = 0 := by decide +kernel
  unfold newA
  rw [this, if_pos rfl]
theorem newA_ren (ρ : Nat → Option Nat) (c : Cf) (w : Int) (ls : List (List Int)) : (newA c w ls).ren ρ = newA c w ls := by
  unfold newA
  split <;> simp [AV.ren, renL, BufC_ren]
set_option maxHeartbeats 2000000 in
theorem live15_ok : CSpec Try.prog 44 [] [] [] (.b true) := by
  refine CSpec.body Try.func44 rfl rfl rfl rfl rfl fun Q hQ => ?_
  refine T.seq fun K1 hK1 => ?_
  refine T.region ?_ -- region 0
  refine ro rfl rfl (OpOk.step (ok_moveb (c := false) (.inr rfl) rfl)) ?_
  refine ro_nil ?_
  refine keepK hK1 [] (by dsimp) (by dsimp) ?_
  refine T.seq fun K2 hK2 => ?_
  refine T.region ?_ -- region 1
  refine ro rfl rfl (ok_call rfl rfl rfl (plain_ok.plain rfl (by show AV.ren _ (.agg (CC pl15)) = .agg (CC pl15); simp [AV.ren, CC_ren]))) ?_
  refine ro rfl rfl (OpOk.step (ok_alloc rfl ti_api_Conf rfl (by decide))) ?_
  refine ro rfl rfl (OpOk.step ((ok_store rfl ti_api_Conf (by decide) rfl rfl rfl rfl rfl (Nat.le_of_ble_eq_true rfl) (.inl ⟨rfl, rfl⟩)).eq (x' := .any) (H'' := [some (CB pl15)]) rfl rfl)) ?_
  refine ro_nil ?_
  refine keepK hK2 [1] (by dsimp) (by dsimp) ?_
  refine T.seq fun K3 hK3 => ?_
  refine T.region ?_ -- region 2
  refine ro rfl rfl (OpOk.step (ok_load rfl ti_api_Conf rfl rfl)) ?_
  refine ro rfl rfl (ok_call rfl rfl rfl (((bnew_ok pl15 0 [] (by decide) (by simp)).show_ (EntL.cons (Ent.refl _) (EntL.cons (Ent.refl _) (EntL.cons (Ent.nil 1) EntL.nil))) (by show renL _ [.agg (CC pl15), .int 0, .fz 1 (rowsA .u8 [])] = _; simp [renL, AV.ren, CC_ren, renL_rowsA])).eq (x' := .tup [.agg (BufC pl15 0 []), .int 0]) (H'' := [some (CB pl15)]) (by rw [newA_ren, new_live]) (by simp [renH]))) ?_
  refine ro rfl rfl (OpOk.step (ok_move (.inl rfl))) ?_
  refine ro rfl rfl (OpOk.step (ok_extract rfl rfl rfl)) ?_
  refine ro rfl rfl (OpOk.step (ok_extract rfl rfl rfl)) ?_
  refine ro rfl rfl (OpOk.step (ok_alloc rfl ti_stripe_Buf rfl (by decide))) ?_
  refine ro rfl rfl (OpOk.step ((ok_store rfl ti_stripe_Buf (by decide) rfl rfl rfl rfl rfl (Nat.le_of_ble_eq_true rfl) (.inl ⟨rfl, rfl⟩)).eq (x' := .any) (H'' := [some (CB pl15), some (BufB pl15 0 [])]) rfl rfl)) ?_
  refine ro rfl rfl (OpOk.step (ok_move (.inr rfl))) ?_
  refine ro_nil ?_
  refine keepK hK3 [2, 3] (by dsimp) (by dsimp) ?_
  refine T.seq fun K4 hK4 => ?_
  refine T.region ?_ -- region 3
  refine ro rfl rfl (OpOk.step (ok_move (.inr rfl))) ?_
  refine ro_nil ?_
  refine keepK hK4 [2, 3, 4] (by dsimp) (by dsimp) ?_
  refine T.seq fun K5 hK5 => ?_
  refine T.seq fun K6 hK6 => ?_
  refine T.region ?_ -- region 4
  refine ro rfl rfl (OpOk.step (ok_move (.inr rfl))) ?_
  refine ro_nil ?_
  refine keepK hK6 [2, 3, 4, 5] (by dsimp) (by dsimp) ?_
  refine T.block ?_
  refine T.loopI (ι := Nat) (fun i => i ≤ 6) (fun i => 6 - i) (fun i => ([(2, .ref 1 0 0), (3, .int 0), (4, .int (if i = 6 then 128 else 0)), (5, .int i)], [some (CB pl15), some (BufB pl15 i (bl15 i))])) 0 (Nat.zero_le _) (TEnt.toH rfl ⟨rfl, rfl, rfl, rfl, trivial⟩) (fun i hi => ?_) -- loop 1
  refine T.seq fun K7 hK7 => ?_
  refine T.seq fun K8 hK8 => ?_
  refine T.region ?_ -- region 5
  refine ro rfl rfl (OpOk.step (ok_move (.inl rfl))) ?_
  refine ro rfl rfl (OpOk.step (ok_binOp rfl ti_int rfl)) ?_
  refine ro_nil ?_
  refine keepK hK8 [2, 3, 4, 5, 16] (by dsimp) (by dsimp) ?_
  refine T.cond rfl (fun hc => ?_) (fun hc => ?_) -- cond 1
  · (try simp only [decide_eq_true_eq, decide_eq_false_iff_not, beq_iff_eq, beq_eq_false_iff_ne, bne_iff_ne, bne_eq_false_iff_eq, ne_eq, Bool.not_eq_true', Bool.not_eq_false'] at hc)
    have hi6 : i < 6 := by omega
    have hpl := push_live hi6
    have hbl : bl15 i = List.replicate i z64 := bl_lt hi6
    have hBB : BB (bl15 i ++ [z64]) := by rw [hbl, ← List.replicate_succ']; exact rep_B _
    have hbn : (bl15 i).length ≤ 6 := by rw [hbl]; simp; omega
    have hbz : ∀ l ∈ bl15 i ++ [z64], l.length ≤ 140737488355328 := by rw [hbl, ← List.replicate_succ']; intro l hl; rw [List.eq_of_mem_replicate hl]; decide
    refine T.skip ?_
    refine keepK hK7 [2, 3, 4, 5] (by dsimp) (by dsimp) ?_
    refine T.seq fun K9 hK9 => ?_
    refine T.block ?_
    refine T.seq fun K10 hK10 => ?_
    refine T.join hK10 [(2, .ref 1 0 0), (3, .int 0), (4, .int (if i = 6 then 128 else 0)), (5, .int i), (6, .ref 2 0 0), (7, .fz 1 (ints .u8 (pp15 i))), (8, .int 0)] [some (CB pl15), some (BufB pl15 i (bl15 i)), some (BufB pl15 (i + 1) (bl15 (i + 1)))] (fun hJ11 => ?_) ?_
    ·
      refine T.draw mixed (SH [] (HeldL ([some (CB pl15), some (BufB pl15 i (bl15 i))]))) ?_ -- region 7
      refine any_take 0 rfl (by first | rfl | decide +kernel) rfl (by first | (simp [HeldL]; done) | (simp only [HeldL, List.map_cons, List.map_nil, List.cons_append, List.nil_append, List.set_cons_zero, List.set_cons_succ]; (repeat' first | trivial | rfl | constructor))) (fun H' hH => OpOk.step ((ok_load rfl ti_stripe_Buf (locA_held hH rfl) rfl).eq (x' := .agg (BufC pl15 i (bl15 i))) rfl rfl)) ?_
      refine any_many [1, 7] (by first | rfl | decide +kernel) (by decide) (fun k hk => ?_)
      simp only [List.mem_cons, List.not_mem_nil, or_false] at hk
      rcases hk with rfl | rfl
      ·
        refine step_one rfl rfl rfl (OpOk.step (((ok_makeSlice (n := 64) rfl ti_Luint8 rfl ti_uint8 rfl rfl (by omega) (by omega) (by decide) rfl (by decide)).frz rfl rfl).eq (x' := .fz 1 (ints .u8 z64)) rfl rfl)) (.inr (by first | (simp [HeldL]; done) | (simp only [HeldL, List.map_cons, List.map_nil, List.cons_append, List.nil_append, List.set_cons_zero, List.set_cons_succ]; (repeat' first | trivial | rfl | constructor)))) ?_
        refine any_many [2, 7] (by first | rfl | decide +kernel) (by decide) (fun k hk => ?_)
        simp only [List.mem_cons, List.not_mem_nil, or_false] at hk
        rcases hk with rfl | rfl
        ·
          refine step_one rfl rfl rfl (ok_call rfl rfl rfl (((push_ok pl15 i (bl15 i) z64 pl_chk (by omega) hBB (by omega) hbz).plain (by show renL _ [.agg (BufC pl15 i (bl15 i)), .fz 1 (ints .u8 z64)] = _; simp [renL, AV.ren, BufC_ren, renL_ints]) (PSA_ren _ _)).eq (x' := .tup [.agg (BufC pl15 (i + 1) (bl15 (i + 1))), .fz 1 (ints .u8 (pp15 i)), .int 0]) (by rw [hpl]; rfl) rfl)) (.inr (by first | (simp [HeldL]; done) | (simp only [HeldL, List.map_cons, List.map_nil, List.cons_append, List.nil_append, List.set_cons_zero, List.set_cons_succ]; (repeat' first | trivial | rfl | constructor)))) ?_
          refine any_take 3 rfl (by first | rfl | decide +kernel) rfl (by first | (simp [HeldL]; done) | (simp only [HeldL, List.map_cons, List.map_nil, List.cons_append, List.nil_append, List.set_cons_zero, List.set_cons_succ]; (repeat' first | trivial | rfl | constructor))) (fun H' hH => OpOk.step (ok_move (.inl rfl))) ?_
          refine any_take 4 rfl (by first | rfl | decide +kernel) rfl (by first | (simp [HeldL]; done) | (simp only [HeldL, List.map_cons, List.map_nil, List.cons_append, List.nil_append, List.set_cons_zero, List.set_cons_succ]; (repeat' first | trivial | rfl | constructor))) (fun H' hH => OpOk.step (ok_extract rfl rfl rfl)) ?_
          refine any_take 5 rfl (by first | rfl | decide +kernel) rfl (by first | (simp [HeldL]; done) | (simp only [HeldL, List.map_cons, List.map_nil, List.cons_append, List.nil_append, List.set_cons_zero, List.set_cons_succ]; (repeat' first | trivial | rfl | constructor))) (fun H' hH => OpOk.step (ok_extract rfl rfl rfl)) ?_
          refine any_take 6 rfl (by first | rfl | decide +kernel) rfl (by first | (simp [HeldL]; done) | (simp only [HeldL, List.map_cons, List.map_nil, List.cons_append, List.nil_append, List.set_cons_zero, List.set_cons_succ]; (repeat' first | trivial | rfl | constructor))) (fun H' hH => OpOk.step (ok_extract rfl rfl rfl)) ?_
          refine any_one 7 rfl (by first | rfl | decide +kernel) rfl rfl (OpOk.step (ok_alloc rfl ti_stripe_Buf rfl (by decide))) (.inr (by first | (simp [HeldL]; done) | (simp only [HeldL, List.map_cons, List.map_nil, List.cons_append, List.nil_append, List.set_cons_zero, List.set_cons_succ]; (repeat' first | trivial | rfl | constructor)))) ?_
          refine any_one 8 rfl (by first | rfl | decide +kernel) rfl rfl (OpOk.step (by first | exact (ok_store rfl ti_stripe_Buf (by decide) rfl rfl rfl rfl rfl (Nat.le_of_ble_eq_true rfl) (.inl ⟨rfl, rfl⟩)).eq (x' := .any) (H'' := [some (CB pl15), some (BufB pl15 i (bl15 i)), some (BufB pl15 (i + 1) (bl15 (i + 1))), some ⟨1, false, ints .u8 z64⟩]) rfl rfl | exact (ok_store rfl ti_stripe_Buf (by decide) rfl rfl rfl rfl rfl (Nat.le_of_ble_eq_true rfl) (.inl ⟨rfl, rfl⟩)).eq (x' := .any) (H'' := [some (CB pl15), some (BufB pl15 i (bl15 i)), some ⟨1, false, ints .u8 z64⟩, some (BufB pl15 (i + 1) (bl15 (i + 1)))]) rfl rfl)) (.inr (by first | (simp [HeldL]; done) | (simp only [HeldL, List.map_cons, List.map_nil, List.cons_append, List.nil_append, List.set_cons_zero, List.set_cons_succ]; (repeat' first | trivial | rfl | constructor)))) ?_
          refine any_take 9 rfl (by first | rfl | decide +kernel) rfl (by first | (simp [HeldL]; done) | (simp only [HeldL, List.map_cons, List.map_nil, List.cons_append, List.nil_append, List.set_cons_zero, List.set_cons_succ]; (repeat' first | trivial | rfl | constructor))) (fun H' hH => OpOk.step (ok_move (.inr rfl))) ?_
          refine any_take 10 rfl (by first | rfl | decide +kernel) rfl (by first | (simp [HeldL]; done) | (simp only [HeldL, List.map_cons, List.map_nil, List.cons_append, List.nil_append, List.set_cons_zero, List.set_cons_succ]; (repeat' first | trivial | rfl | constructor))) (fun H' hH => OpOk.step (ok_move (.inr rfl))) ?_
          refine any_done rfl ?_
          first | exact hJ11 _ _ (TEnt.fin [0, 1, 2] (by decide) (by simp) (by show normH [0, 1, 2] [some (CB pl15), some (BufB pl15 i (bl15 i)), some (BufB pl15 (i + 1) (bl15 (i + 1))), some ⟨1, false, ints .u8 z64⟩] = _; simp [normH, hget, CB_ren, BufB_ren]) ⟨rfl, rfl, rfl, rfl, rfl, by simp [AV.ren, renL_ints], rfl, trivial⟩) | exact hJ11 _ _ (TEnt.fin [0, 1, 3] (by decide) (by simp) (by show normH [0, 1, 3] [some (CB pl15), some (BufB pl15 i (bl15 i)), some ⟨1, false, ints .u8 z64⟩, some (BufB pl15 (i + 1) (bl15 (i + 1)))] = _; simp [normH, hget, CB_ren, BufB_ren]) ⟨rfl, rfl, rfl, rfl, rfl, by simp [AV.ren, renL_ints], rfl, trivial⟩)
        ·
          refine step_one rfl rfl rfl (OpOk.step (ok_alloc rfl ti_stripe_Buf rfl (by decide))) (.inr (by first | (simp [HeldL]; done) | (simp only [HeldL, List.map_cons, List.map_nil, List.cons_append, List.nil_append, List.set_cons_zero, List.set_cons_succ]; (repeat' first | trivial | rfl | constructor)))) ?_
          refine any_one 2 rfl (by first | rfl | decide +kernel) rfl rfl (ok_call rfl rfl rfl (((push_ok pl15 i (bl15 i) z64 pl_chk (by omega) hBB (by omega) hbz).plain (by show renL _ [.agg (BufC pl15 i (bl15 i)), .fz 1 (ints .u8 z64)] = _; simp [renL, AV.ren, BufC_ren, renL_ints]) (PSA_ren _ _)).eq (x' := .tup [.agg (BufC pl15 (i + 1) (bl15 (i + 1))), .fz 1 (ints .u8 (pp15 i)), .int 0]) (by rw [hpl]; rfl) rfl)) (.inr (by first | (simp [HeldL]; done) | (simp only [HeldL, List.map_cons, List.map_nil, List.cons_append, List.nil_append, List.set_cons_zero, List.set_cons_succ]; (repeat' first | trivial | rfl | constructor)))) ?_
          refine any_take 3 rfl (by first | rfl | decide +kernel) rfl (by first | (simp [HeldL]; done) | (simp only [HeldL, List.map_cons, List.map_nil, List.cons_append, List.nil_append, List.set_cons_zero, List.set_cons_succ]; (repeat' first | trivial | rfl | constructor))) (fun H' hH => OpOk.step (ok_move (.inl rfl))) ?_
          refine any_take 4 rfl (by first | rfl | decide +kernel) rfl (by first | (simp [HeldL]; done) | (simp only [HeldL, List.map_cons, List.map_nil, List.cons_append, List.nil_append, List.set_cons_zero, List.set_cons_succ]; (repeat' first | trivial | rfl | constructor))) (fun H' hH => OpOk.step (ok_extract rfl rfl rfl)) ?_
          refine any_take 5 rfl (by first | rfl | decide +kernel) rfl (by first | (simp [HeldL]; done) | (simp only [HeldL, List.map_cons, List.map_nil, List.cons_append, List.nil_append, List.set_cons_zero, List.set_cons_succ]; (repeat' first | trivial | rfl | constructor))) (fun H' hH => OpOk.step (ok_extract rfl rfl rfl)) ?_
          refine any_take 6 rfl (by first | rfl | decide +kernel) rfl (by first | (simp [HeldL]; done) | (simp only [HeldL, List.map_cons, List.map_nil, List.cons_append, List.nil_append, List.set_cons_zero, List.set_cons_succ]; (repeat' first | trivial | rfl | constructor))) (fun H' hH => OpOk.step (ok_extract rfl rfl rfl)) ?_
          refine any_one 8 rfl (by first | rfl | decide +kernel) rfl rfl (OpOk.step (by first | exact (ok_store rfl ti_stripe_Buf (by decide) rfl rfl rfl rfl rfl (Nat.le_of_ble_eq_true rfl) (.inl ⟨rfl, rfl⟩)).eq (x' := .any) (H'' := [some (CB pl15), some (BufB pl15 i (bl15 i)), some (BufB pl15 (i + 1) (bl15 (i + 1))), some ⟨1, false, ints .u8 z64⟩]) rfl rfl | exact (ok_store rfl ti_stripe_Buf (by decide) rfl rfl rfl rfl rfl (Nat.le_of_ble_eq_true rfl) (.inl ⟨rfl, rfl⟩)).eq (x' := .any) (H'' := [some (CB pl15), some (BufB pl15 i (bl15 i)), some ⟨1, false, ints .u8 z64⟩, some (BufB pl15 (i + 1) (bl15 (i + 1)))]) rfl rfl)) (.inr (by first | (simp [HeldL]; done) | (simp only [HeldL, List.map_cons, List.map_nil, List.cons_append, List.nil_append, List.set_cons_zero, List.set_cons_succ]; (repeat' first | trivial | rfl | constructor)))) ?_
          refine any_take 9 rfl (by first | rfl | decide +kernel) rfl (by first | (simp [HeldL]; done) | (simp only [HeldL, List.map_cons, List.map_nil, List.cons_append, List.nil_append, List.set_cons_zero, List.set_cons_succ]; (repeat' first | trivial | rfl | constructor))) (fun H' hH => OpOk.step (ok_move (.inr rfl))) ?_
          refine any_take 10 rfl (by first | rfl | decide +kernel) rfl (by first | (simp [HeldL]; done) | (simp only [HeldL, List.map_cons, List.map_nil, List.cons_append, List.nil_append, List.set_cons_zero, List.set_cons_succ]; (repeat' first | trivial | rfl | constructor))) (fun H' hH => OpOk.step (ok_move (.inr rfl))) ?_
          refine any_done rfl ?_
          first | exact hJ11 _ _ (TEnt.fin [0, 1, 2] (by decide) (by simp) (by show normH [0, 1, 2] [some (CB pl15), some (BufB pl15 i (bl15 i)), some (BufB pl15 (i + 1) (bl15 (i + 1))), some ⟨1, false, ints .u8 z64⟩] = _; simp [normH, hget, CB_ren, BufB_ren]) ⟨rfl, rfl, rfl, rfl, rfl, by simp [AV.ren, renL_ints], rfl, trivial⟩) | exact hJ11 _ _ (TEnt.fin [0, 1, 3] (by decide) (by simp) (by show normH [0, 1, 3] [some (CB pl15), some (BufB pl15 i (bl15 i)), some ⟨1, false, ints .u8 z64⟩, some (BufB pl15 (i + 1) (bl15 (i + 1)))] = _; simp [normH, hget, CB_ren, BufB_ren]) ⟨rfl, rfl, rfl, rfl, rfl, by simp [AV.ren, renL_ints], rfl, trivial⟩)
      ·
        refine step_one rfl rfl rfl (OpOk.step (ok_alloc rfl ti_stripe_Buf rfl (by decide))) (.inr (by first | (simp [HeldL]; done) | (simp only [HeldL, List.map_cons, List.map_nil, List.cons_append, List.nil_append, List.set_cons_zero, List.set_cons_succ]; (repeat' first | trivial | rfl | constructor)))) ?_
        refine any_one 1 rfl (by first | rfl | decide +kernel) rfl rfl (OpOk.step (((ok_makeSlice (n := 64) rfl ti_Luint8 rfl ti_uint8 rfl rfl (by omega) (by omega) (by decide) rfl (by decide)).frz rfl rfl).eq (x' := .fz 1 (ints .u8 z64)) rfl rfl)) (.inr (by first | (simp [HeldL]; done) | (simp only [HeldL, List.map_cons, List.map_nil, List.cons_append, List.nil_append, List.set_cons_zero, List.set_cons_succ]; (repeat' first | trivial | rfl | constructor)))) ?_
        refine any_one 2 rfl (by first | rfl | decide +kernel) rfl rfl (ok_call rfl rfl rfl (((push_ok pl15 i (bl15 i) z64 pl_chk (by omega) hBB (by omega) hbz).plain (by show renL _ [.agg (BufC pl15 i (bl15 i)), .fz 1 (ints .u8 z64)] = _; simp [renL, AV.ren, BufC_ren, renL_ints]) (PSA_ren _ _)).eq (x' := .tup [.agg (BufC pl15 (i + 1) (bl15 (i + 1))), .fz 1 (ints .u8 (pp15 i)), .int 0]) (by rw [hpl]; rfl) rfl)) (.inr (by first | (simp [HeldL]; done) | (simp only [HeldL, List.map_cons, List.map_nil, List.cons_append, List.nil_append, List.set_cons_zero, List.set_cons_succ]; (repeat' first | trivial | rfl | constructor)))) ?_
        refine any_take 3 rfl (by first | rfl | decide +kernel) rfl (by first | (simp [HeldL]; done) | (simp only [HeldL, List.map_cons, List.map_nil, List.cons_append, List.nil_append, List.set_cons_zero, List.set_cons_succ]; (repeat' first | trivial | rfl | constructor))) (fun H' hH => OpOk.step (ok_move (.inl rfl))) ?_
        refine any_take 4 rfl (by first | rfl | decide +kernel) rfl (by first | (simp [HeldL]; done) | (simp only [HeldL, List.map_cons, List.map_nil, List.cons_append, List.nil_append, List.set_cons_zero, List.set_cons_succ]; (repeat' first | trivial | rfl | constructor))) (fun H' hH => OpOk.step (ok_extract rfl rfl rfl)) ?_
        refine any_take 5 rfl (by first | rfl | decide +kernel) rfl (by first | (simp [HeldL]; done) | (simp only [HeldL, List.map_cons, List.map_nil, List.cons_append, List.nil_append, List.set_cons_zero, List.set_cons_succ]; (repeat' first | trivial | rfl | constructor))) (fun H' hH => OpOk.step (ok_extract rfl rfl rfl)) ?_
        refine any_take 6 rfl (by first | rfl | decide +kernel) rfl (by first | (simp [HeldL]; done) | (simp only [HeldL, List.map_cons, List.map_nil, List.cons_append, List.nil_append, List.set_cons_zero, List.set_cons_succ]; (repeat' first | trivial | rfl | constructor))) (fun H' hH => OpOk.step (ok_extract rfl rfl rfl)) ?_
        refine any_one 8 rfl (by first | rfl | decide +kernel) rfl rfl (OpOk.step (by first | exact (ok_store rfl ti_stripe_Buf (by decide) rfl rfl rfl rfl rfl (Nat.le_of_ble_eq_true rfl) (.inl ⟨rfl, rfl⟩)).eq (x' := .any) (H'' := [some (CB pl15), some (BufB pl15 i (bl15 i)), some (BufB pl15 (i + 1) (bl15 (i + 1))), some ⟨1, false, ints .u8 z64⟩]) rfl rfl | exact (ok_store rfl ti_stripe_Buf (by decide) rfl rfl rfl rfl rfl (Nat.le_of_ble_eq_true rfl) (.inl ⟨rfl, rfl⟩)).eq (x' := .any) (H'' := [some (CB pl15), some (BufB pl15 i (bl15 i)), some ⟨1, false, ints .u8 z64⟩, some (BufB pl15 (i + 1) (bl15 (i + 1)))]) rfl rfl)) (.inr (by first | (simp [HeldL]; done) | (simp only [HeldL, List.map_cons, List.map_nil, List.cons_append, List.nil_append, List.set_cons_zero, List.set_cons_succ]; (repeat' first | trivial | rfl | constructor)))) ?_
        refine any_take 9 rfl (by first | rfl | decide +kernel) rfl (by first | (simp [HeldL]; done) | (simp only [HeldL, List.map_cons, List.map_nil, List.cons_append, List.nil_append, List.set_cons_zero, List.set_cons_succ]; (repeat' first | trivial | rfl | constructor))) (fun H' hH => OpOk.step (ok_move (.inr rfl))) ?_
        refine any_take 10 rfl (by first | rfl | decide +kernel) rfl (by first | (simp [HeldL]; done) | (simp only [HeldL, List.map_cons, List.map_nil, List.cons_append, List.nil_append, List.set_cons_zero, List.set_cons_succ]; (repeat' first | trivial | rfl | constructor))) (fun H' hH => OpOk.step (ok_move (.inr rfl))) ?_
        refine any_done rfl ?_
        first | exact hJ11 _ _ (TEnt.fin [0, 1, 2] (by decide) (by simp) (by show normH [0, 1, 2] [some (CB pl15), some (BufB pl15 i (bl15 i)), some (BufB pl15 (i + 1) (bl15 (i + 1))), some ⟨1, false, ints .u8 z64⟩] = _; simp [normH, hget, CB_ren, BufB_ren]) ⟨rfl, rfl, rfl, rfl, rfl, by simp [AV.ren, renL_ints], rfl, trivial⟩) | exact hJ11 _ _ (TEnt.fin [0, 1, 3] (by decide) (by simp) (by show normH [0, 1, 3] [some (CB pl15), some (BufB pl15 i (bl15 i)), some ⟨1, false, ints .u8 z64⟩, some (BufB pl15 (i + 1) (bl15 (i + 1)))] = _; simp [normH, hget, CB_ren, BufB_ren]) ⟨rfl, rfl, rfl, rfl, rfl, by simp [AV.ren, renL_ints], rfl, trivial⟩)
    refine T.seq fun K12 hK12 => ?_
    refine T.region ?_ -- region 8
    refine ro rfl rfl (OpOk.step ((ok_load rfl ti_stripe_Buf rfl rfl).eq (x' := .agg (BufC pl15 (i + 1) (bl15 (i + 1)))) rfl rfl)) ?_
    refine ro rfl rfl (OpOk.step ((ok_store rfl ti_stripe_Buf (by decide) rfl rfl rfl rfl rfl (Nat.le_of_ble_eq_true rfl) (.inl ⟨rfl, rfl⟩)).eq (x' := .any) (H'' := [some (CB pl15), some (BufB pl15 (i + 1) (bl15 (i + 1))), some (BufB pl15 (i + 1) (bl15 (i + 1)))]) rfl rfl)) ?_
    refine ro_nil ?_
    refine keepK hK12 [2, 3, 4, 5, 7, 8] (by dsimp) (by dsimp) ?_
    refine T.seq fun K13 hK13 => ?_
    refine T.seq fun K14 hK14 => ?_
    refine T.region ?_ -- region 9
    refine ro rfl rfl (OpOk.step (ok_move (.inl rfl))) ?_
    refine ro rfl rfl (ok_call rfl rfl rfl ((code15_ok 0).plain rfl rfl)) ?_
    refine ro rfl rfl (OpOk.step (ok_binOp rfl ti_int rfl)) ?_
    refine ro rfl rfl (OpOk.step (OpOk.bool (d := false) (ok_moveb (.inl rfl) rfl) (rfl))) ?_
    refine ro rfl rfl (OpOk.step (ok_move (.inl rfl))) ?_
    refine ro rfl rfl (OpOk.step ((ok_len rfl rfl ti_Luint8 rfl).eq (x' := .int (if i = 5 then 128 else 0)) (by rw [ints_length, pp_len]; split <;> rfl) rfl)) ?_
    refine ro rfl rfl (OpOk.step (ok_binOp rfl ti_int rfl)) ?_
    refine ro rfl rfl (OpOk.step (ok_move (.inl rfl))) ?_
    refine ro rfl rfl (OpOk.step (ok_binOp rfl ti_int rfl)) ?_
    refine ro rfl rfl (OpOk.step (OpOk.bool (d := false) (ok_binOp rfl ti_bool rfl) (by by_cases h5 : i = 5 <;> simp [h5]; omega))) ?_
    refine ro rfl rfl (OpOk.step (OpOk.bool (d := false) (ok_pickb rfl rfl rfl) (rfl))) ?_
    refine ro_nil ?_
    refine keepK hK14 [2, 3, 4, 5, 7, 37] (by dsimp) (by dsimp) ?_
    refine T.cond_false rfl ?_
    refine T.skip ?_
    refine keepK hK13 [2, 3, 4, 5, 7] (by dsimp) (by dsimp) ?_
    refine T.region ?_ -- region 11
    refine ro rfl rfl (OpOk.step (ok_move (.inl rfl))) ?_
    refine ro rfl rfl (OpOk.step (ok_move (.inl rfl))) ?_
    refine ro rfl rfl (OpOk.step ((ok_len rfl rfl ti_Luint8 rfl).eq (x' := .int (if i = 5 then 128 else 0)) (by rw [ints_length, pp_len]; split <;> rfl) rfl)) ?_
    refine ro rfl rfl (OpOk.step ((ok_add64 rfl ti_int rfl rfl (by split <;> split <;> omega) (by split <;> split <;> omega)).eq (x' := .int (if i + 1 = 6 then 128 else 0)) (by refine congrArg AV.int ?_; rw [if_neg (by omega)]; by_cases h5 : i = 5 <;> simp [h5] <;> omega) rfl)) ?_
    refine ro rfl rfl (OpOk.step (ok_move (.inr rfl))) ?_
    refine ro_nil ?_
    refine keepK hK9 [2, 3, 4, 5] (by dsimp) (by dsimp) ?_
    refine T.region ?_ -- region 6
    refine ro rfl rfl (OpOk.step (ok_move (.inl rfl))) ?_
    refine ro rfl rfl (OpOk.step (ok_add64 rfl ti_int rfl rfl (by omega) (by omega))) ?_
    refine ro rfl rfl (OpOk.step (ok_move (.inr rfl))) ?_
    refine ro_nil ?_
    exact ⟨i + 1, by omega, by omega, TEnt.fin [0, 1] (by decide) (by simp) (by show normH [0, 1] [some (CB pl15), some (BufB pl15 (i + 1) (bl15 (i + 1))), some (BufB pl15 (i + 1) (bl15 (i + 1)))] = _; simp [normH, hget, CB_ren, BufB_ren]) ⟨rfl, rfl, rfl, rfl, trivial⟩⟩
  · (try simp only [decide_eq_true_eq, decide_eq_false_iff_not, beq_iff_eq, beq_eq_false_iff_ne, bne_iff_ne, bne_eq_false_iff_eq, ne_eq, Bool.not_eq_true', Bool.not_eq_false'] at hc)
    have hi6 : i = 6 := by omega
    subst hi6
    refine T.exit ?_
    refine keepK hK5 [2, 3, 4] (by dsimp) (by dsimp) ?_
    refine T.seq fun K15 hK15 => ?_
    refine T.region ?_ -- region 12
    refine ro rfl rfl (OpOk.step (ok_move (.inl rfl))) ?_
    refine ro rfl rfl (ok_call rfl rfl rfl ((code15_ok 0).plain rfl rfl)) ?_
    refine ro rfl rfl (OpOk.step (ok_binOp rfl ti_int rfl)) ?_
    refine ro rfl rfl (OpOk.step (OpOk.bool (d := true) (ok_moveb (.inl rfl) rfl) (rfl))) ?_
    refine ro rfl rfl (OpOk.step (ok_move (.inl rfl))) ?_
    refine ro rfl rfl (OpOk.step (ok_binOp rfl ti_int rfl)) ?_
    refine ro rfl rfl (OpOk.step (ok_pick rfl rfl)) ?_
    refine ro rfl rfl (OpOk.step (OpOk.bool (d := true) (ok_moveb (.inl rfl) rfl) (rfl))) ?_
    refine ro rfl rfl (OpOk.step ((ok_load rfl ti_stripe_Buf rfl rfl).eq (x' := .agg (BufC pl15 6 (bl15 6))) rfl rfl)) ?_
    refine ro rfl rfl (ok_call rfl rfl rfl ((at15_ok pl15 6 (bl15 6)).plain (by show renL _ [.agg (BufC pl15 6 (bl15 6))] = _; simp [renL, AV.ren, BufC_ren]) rfl)) ?_
    refine ro rfl rfl (OpOk.step (ok_binOp rfl ti_int rfl)) ?_
    refine ro rfl rfl (OpOk.step (ok_pick rfl rfl)) ?_
    refine ro rfl rfl (OpOk.step (ok_move (.inr rfl))) ?_
    refine ro_nil ?_
    refine keepK hK15 [0] (by dsimp) (by dsimp) ?_
    refine T.ret (hQ _ _ _ rfl ?_).1 -- ret 1
    exact TEnt.fin [] (by decide) (by simp) rfl ⟨rfl, trivial⟩
end Go.Proofs.Ytknhemdpfdopaaa.AmF
