/- Walks over the abstract machine: the law StripePushes. -/
import Derived.Test.YtknhemdpfdopaaaAfStripe7
namespace Go.Proofs.Ytknhemdpfdopaaa.AmF
open Go Go.AM
set_option maxRecDepth 100000
set_option linter.unusedSimpArgs false
set_option linter.unusedVariables false
attribute [local simp] tkeep tget tput ev cav argsTM pickA normT putA splice AV.cells ints_length rowsA_length fit_len zipx_len upd_len cs_len ovr_len fitL_len
/-- The blocks of the stripe that a zone is at. -/
def blF (F : List (List Int)) (r i : Nat) : List (List Int) := (F.take i).drop (i / r * r)
/-- The parity of a stripe that is whole. -/
def pwF (c : Cf) (F : List (List Int)) (r i : Nat) : List Int := if (i + 1) % r = 0 then overC c ((F.take (i + 1)).drop (i / r * r)) else []
theorem div_le (i r : Nat) : i / r * r ≤ i := Nat.div_mul_le_self i r
theorem blF_mem {F : List (List Int)} {r i : Nat} {x : List Int} (h : x ∈ blF F r i) : x ∈ F := List.mem_of_mem_take (List.mem_of_mem_drop h)
theorem blF_len {F : List (List Int)} {r i : Nat} (h : i ≤ F.length) : (blF F r i).length = i - i / r * r := by simp [blF]; omega
theorem blF_snoc {F : List (List Int)} {r i : Nat} {x : List Int} (hx : F[i]? = some x) : blF F r i ++ [x] = (F.take (i + 1)).drop (i / r * r) := by
  have hl := (List.getElem?_eq_some_iff.1 hx).1
  have := div_le i r
  unfold blF
  rw [take_succ_get hx, List.drop_append_of_le_length (by simp; omega)]
theorem next_div {r i : Nat} (hr : 0 < r) : (i + 1) / r * r = if (i + 1) % r = 0 then i + 1 else i / r * r := by
  have h1 := Nat.div_add_mod i r
  have h2 := Nat.div_add_mod (i + 1) r
  have h3 := Nat.mod_lt i hr
  have h4 := Nat.mod_lt (i + 1) hr
  rw [Nat.mul_comm] at h1 h2
  split
  · omega
  · rename_i h
    by_cases hlt : i / r < (i + 1) / r
    · have h5 : (i / r + 1) * r ≤ (i + 1) / r * r := Nat.mul_le_mul_right _ hlt
      rw [Nat.add_mul, Nat.one_mul] at h5
      omega
    · have h6 : (i + 1) / r ≤ i / r := by omega
      have h7 : i / r ≤ (i + 1) / r := Nat.div_le_div_right (by omega)
      rw [Nat.le_antisymm h6 h7]
theorem push_step {c : Cf} {F : List (List Int)} {r i : Nat} {x : List Int} (hr : 0 < r) (hrow : rowC c = r) (hx : F[i]? = some x) (hxl : (x.length : Int) = c.blk) (hi : (i : Int) < sizeC c) :
    pushS c i (blF F r i) x = ⟨c, i + 1, blF F r (i + 1), pwF c F r i, 0⟩ := by
  have hl := (List.getElem?_eq_some_iff.1 hx).1
  have hbl := blF_len (r := r) (F := F) (i := i) (by omega)
  have hnd := next_div (i := i) hr
  have h1 := Nat.div_add_mod i r
  have h3 := Nat.mod_lt i hr
  rw [Nat.mul_comm] at h1
  have hdl := div_le i r
  have hm : (i + 1) % r = 0 ↔ i % r + 1 = r := by
    have h2 := Nat.div_add_mod (i + 1) r
    have h4 := Nat.mod_lt (i + 1) hr
    rw [Nat.mul_comm] at h2
    constructor
    · intro h
      rw [if_pos h] at hnd
      have h5 : i / r < (i + 1) / r := by
        refine Nat.lt_of_mul_lt_mul_right (a := r) ?_
        omega
      have h6 : (i / r + 1) * r ≤ (i + 1) / r * r := Nat.mul_le_mul_right _ h5
      rw [Nat.add_mul, Nat.one_mul] at h6
      omega
    · intro h
      have h5 : i + 1 = r * (i / r + 1) := by rw [Nat.mul_comm, Nat.add_mul, Nat.one_mul]; omega
      rw [h5, Nat.mul_mod_right]
  unfold pushS pwF
  rw [if_neg (by omega), if_neg (by omega), hrow, blF_snoc hx]
  by_cases h : (i + 1) % r = 0
  · have h5 := hm.1 h
    rw [if_neg (by omega), if_pos h]
    have : blF F r (i + 1) = [] := by
      unfold blF
      rw [hnd, if_pos h, List.drop_of_length_le (by simp; omega)]
    rw [this]
  · have h5 : ¬ i % r + 1 = r := fun e => h (hm.2 e)
    rw [if_pos (by omega), if_neg h]
    have : blF F r (i + 1) = (F.take (i + 1)).drop (i / r * r) := by
      unfold blF
      rw [hnd, if_neg h]
    rw [this]
theorem push_full {c : Cf} {w : Int} {bl : List (List Int)} {x : List Int} (hxl : (x.length : Int) = c.blk) (hi : w ≥ sizeC c) : pushS c w bl x = ⟨c00, 0, [], [], 6⟩ := by
  unfold pushS
  rw [if_neg (by omega), if_pos hi]
theorem push_odd {c : Cf} {w : Int} {bl : List (List Int)} {x : List Int} (hxl : (x.length : Int) ≠ c.blk) : pushS c w bl x = ⟨c00, 0, [], [], 3⟩ := if_pos hxl
/-- A block of the stripe that a zone is at, whichever is asked. -/
theorem bread_all (c : Cf) (F : List (List Int)) (f i : Nat) (k : Int) (hc : chkC c = 0) (hF : F.length ≤ 1000) (hi : i < F.length) (hf : f ≤ i + 1) (hk : -1 ≤ k ∧ k ≤ 2000) (hl : ∀ x ∈ F, x.length ≤ 10000000) :
    CSpec Try.prog 56 [] [.agg (BufC c ((i : Int) + 1) ((F.take (i + 1)).drop f)), .int k] [] (.tup [.fz 1 (ints .u8 (if (f : Int) ≤ k ∧ k ≤ i then F.getD k.toNat [] else [])), .b (decide ((f : Int) ≤ k ∧ k ≤ i))]) := by
  have hlen : ((F.take (i + 1)).drop f).length = i + 1 - f := by simp; omega
  by_cases h : (f : Int) ≤ k ∧ k ≤ i
  · rw [if_pos h, decide_eq_true h]
    obtain ⟨n, rfl⟩ := Int.eq_ofNat_of_zero_le (show 0 ≤ k by omega)
    obtain ⟨x, hx⟩ : ∃ x, F[n]? = some x := ⟨_, List.getElem?_eq_getElem (by omega)⟩
    have hxd : F.getD ((n : Int)).toNat [] = x := by rw [Int.toNat_natCast, List.getD_eq_getElem?_getD, hx]; rfl
    rw [hxd]
    refine bread_ok c _ _ _ (n - f) x (by omega) (by omega) (by rw [hlen]; omega) hc (by rw [hlen]; omega) ?_ (by have := hl x (List.mem_of_getElem? hx); omega)
    rw [List.getElem?_drop, List.getElem?_take, if_pos (by omega), show f + (n - f) = n by omega]
    exact hx
  · rw [if_neg h, decide_eq_false h]
    exact bread_no c _ _ _ (by omega) (by omega) (by rw [hlen]; omega) (by rw [hlen]; omega)
def sB (l : List Int) : ByteArray := strOf (l.map fun n => UInt8.ofNat n.toNat)
theorem rows_cut (F : List (List Int)) (a b : Nat) : ((rowsA .u8 F).take b).drop a = rowsA .u8 ((F.take b).drop a) := by simp [rowsA, List.map_take, List.map_drop]
set_option maxHeartbeats 4000000 in
theorem stripePushes_ok (c : Cf) (ls : List (List Int)) (odd : List Int) (hB : BB ls) (hob : Bytes odd) (hn : ls.length ≤ 140737488355328) (hl : ∀ l ∈ ls, l.length ≤ 140737488355328) (hol : odd.length ≤ 140737488355328) : CSpec Try.prog 10 [] [.agg (CC c), .fz 1 (rowsA .u8 ls), .fz 1 (ints .u8 odd)] [] (.b true) := by
  refine CSpec.body Try.func10 rfl rfl rfl rfl rfl fun Q hQ => ?_
  refine T.seq fun K1 hK1 => ?_
  refine T.region ?_ -- region 0
  refine ro rfl rfl (OpOk.step (ok_box (n := 11) rfl rfl (by decide))) ?_
  refine ro rfl rfl (OpOk.step (ok_moveb (c := false) (.inr rfl) rfl)) ?_
  refine ro_nil ?_
  refine keepK hK1 [1, 2, 3] (by dsimp) (by dsimp) ?_
  refine T.seq fun K2 hK2 => ?_
  refine T.seq fun K3 hK3 => ?_
  refine T.region ?_ -- region 1
  refine ro rfl rfl (OpOk.step (ok_move (.inl rfl))) ?_
  refine ro rfl rfl (ok_call rfl rfl rfl ((much15_ok ls hn hl).plain (by simp [renL, AV.ren, renL_rowsA]) rfl)) ?_
  refine ro_case rfl rfl (OpOk.step (ok_moveb (.inl rfl) rfl)) (fun hb => ?_) (fun hb => ?_)
  · (try simp only [decide_eq_true_eq, decide_eq_false_iff_not, beq_iff_eq, beq_eq_false_iff_ne, bne_iff_ne, bne_eq_false_iff_eq, ne_eq, Bool.not_eq_true', Bool.not_eq_false'] at hb)
    refine ro_skip rfl rfl ?_
    refine ro_skip rfl rfl ?_
    refine ro_skip rfl rfl ?_
    refine ro rfl rfl (OpOk.step (ok_pickb (t := true) (d := true) rfl rfl rfl)) ?_
    refine ro rfl rfl (OpOk.step (ok_moveb (c := true) (.inl rfl) rfl)) ?_
    refine ro_skip rfl rfl ?_
    refine ro_skip rfl rfl ?_
    refine ro_skip rfl rfl ?_
    refine ro rfl rfl (OpOk.step (ok_pickb (t := true) (d := true) rfl rfl rfl)) ?_
    refine ro_nil ?_
    refine keepK hK3 [1, 2, 3, 35] (by dsimp) (by dsimp) ?_
    refine T.cond_true rfl ?_
    refine T.seq fun K4 hK4 => ?_
    refine T.region ?_ -- region 2
    refine ro rfl rfl (ok_call rfl rfl rfl (live15_ok.plain rfl rfl)) ?_
    refine ro rfl rfl (OpOk.step (ok_move (.inr rfl))) ?_
    refine ro_nil ?_
    refine keepK hK4 [6] (by dsimp) (by dsimp) ?_
    refine T.ret (hQ _ _ _ rfl ?_).1 -- ret 1
    exact TEnt.fin [] (by decide) (by simp) rfl ⟨rfl, trivial⟩
  · (try simp only [decide_eq_true_eq, decide_eq_false_iff_not, beq_iff_eq, beq_eq_false_iff_ne, bne_iff_ne, bne_eq_false_iff_eq, ne_eq, Bool.not_eq_true', Bool.not_eq_false'] at hb)
    refine ro rfl rfl (OpOk.step (ok_load rfl ti_api_Conf rfl rfl)) ?_
    refine ro rfl rfl (ok_call rfl rfl rfl ((small_ok c).plain (by simp [renL, AV.ren, CC_take', CC_ren]) rfl)) ?_
    refine ro rfl rfl (OpOk.step (ok_unOp rfl rfl)) ?_
    refine ro rfl rfl (OpOk.step (ok_pick rfl rfl)) ?_
    refine ro_case rfl rfl (OpOk.step (ok_moveb (.inl rfl) rfl)) (fun hb => ?_) (fun hb => ?_)
    · (try simp only [decide_eq_true_eq, decide_eq_false_iff_not, beq_iff_eq, beq_eq_false_iff_ne, bne_iff_ne, bne_eq_false_iff_eq, ne_eq, Bool.not_eq_true', Bool.not_eq_false'] at hb)
      refine ro_skip rfl rfl ?_
      refine ro_skip rfl rfl ?_
      refine ro_skip rfl rfl ?_
      refine ro rfl rfl (OpOk.step (ok_pickb (t := true) (d := true) rfl rfl rfl)) ?_
      refine ro_nil ?_
      refine keepK hK3 [1, 2, 3, 35] (by dsimp) (by dsimp) ?_
      refine T.cond_true rfl ?_
      refine T.seq fun K5 hK5 => ?_
      refine T.region ?_ -- region 2
      refine ro rfl rfl (ok_call rfl rfl rfl (live15_ok.plain rfl rfl)) ?_
      refine ro rfl rfl (OpOk.step (ok_move (.inr rfl))) ?_
      refine ro_nil ?_
      refine keepK hK5 [6] (by dsimp) (by dsimp) ?_
      refine T.ret (hQ _ _ _ rfl ?_).1 -- ret 2
      exact TEnt.fin [] (by decide) (by simp) rfl ⟨rfl, trivial⟩
    · (try simp only [decide_eq_true_eq, decide_eq_false_iff_not, beq_iff_eq, beq_eq_false_iff_ne, bne_iff_ne, bne_eq_false_iff_eq, ne_eq, Bool.not_eq_true', Bool.not_eq_false'] at hb)
      refine ro rfl rfl (OpOk.step (ok_move (.inl rfl))) ?_
      refine ro rfl rfl (OpOk.step (ok_len' rfl rfl ti_Luint8 rfl (by first | exact ints_length _ _ | exact rowsA_length _ _ | exact Cms_len _ | exact mapLen _ | rfl))) ?_
      refine ro rfl rfl (OpOk.step (ok_binOp rfl ti_int rfl)) ?_
      refine ro rfl rfl (OpOk.step (ok_pick rfl rfl)) ?_
      refine ro_nil ?_
      refine keepK hK3 [1, 2, 3, 35] (by dsimp) (by dsimp) ?_
      refine T.cond rfl (fun hc => ?_) (fun hc => ?_) -- cond 1
      · (try simp only [decide_eq_true_eq, decide_eq_false_iff_not, beq_iff_eq, beq_eq_false_iff_ne, bne_iff_ne, bne_eq_false_iff_eq, ne_eq, Bool.not_eq_true', Bool.not_eq_false'] at hc)
        refine T.seq fun K6 hK6 => ?_
        refine T.region ?_ -- region 2
        refine ro rfl rfl (ok_call rfl rfl rfl (live15_ok.plain rfl rfl)) ?_
        refine ro rfl rfl (OpOk.step (ok_move (.inr rfl))) ?_
        refine ro_nil ?_
        refine keepK hK6 [6] (by dsimp) (by dsimp) ?_
        refine T.ret (hQ _ _ _ rfl ?_).1 -- ret 3
        exact TEnt.fin [] (by decide) (by simp) rfl ⟨rfl, trivial⟩
      · (try simp only [decide_eq_true_eq, decide_eq_false_iff_not, beq_iff_eq, beq_eq_false_iff_ne, bne_iff_ne, bne_eq_false_iff_eq, ne_eq, Bool.not_eq_true', Bool.not_eq_false'] at hc)
        have hfew : FewL ls := by simp_all
        have hsm : smallC c := by simp_all
        have hl8 := hfew.lens
        have hl50 := hfew.1
        have hchk := hsm.1
        obtain ⟨_, ⟨hu1, hu2⟩, ⟨hb1, hb2⟩, _, _⟩ := conf_bd hchk
        have hrb := row_bd hchk
        have hsz := size_bd c
        obtain ⟨b, hb⟩ := Int.eq_ofNat_of_zero_le (show 0 ≤ c.blk by omega)
        obtain ⟨r, hr⟩ := Int.eq_ofNat_of_zero_le (show 0 ≤ rowC c by omega)
        have hr0 : 0 < r := by omega
        have hFB := fitL_BB (b := b) hB
        have hFl : ∀ x ∈ fitL ls b, x.length = b := fun x hx => fitL_mem hx
        have hFn : (fitL ls b).length = ls.length := fitL_len _ _
        generalize hF : fitL ls b = F at hFB hFl hFn
        have hnew : newA c 0 [] = .tup [.agg (BufC c 0 []), .int 0] := by
          have : rightE c 0 [] = 0 := by
            unfold rightE
            rw [if_neg (by omega), if_neg (by rw [Int.zero_emod]; simp; omega)]
            simp
          unfold newA
          rw [this, if_pos rfl]
        refine T.skip ?_
        refine keepK hK2 [1, 2, 3] (by dsimp) (by dsimp) ?_
        refine T.seq fun K7 hK7 => ?_
        refine T.region ?_ -- region 3
        refine ro rfl rfl (OpOk.step (ok_load rfl ti_api_Conf rfl rfl)) ?_
        refine ro rfl rfl (ok_call rfl rfl rfl (((bnew_ok c 0 [] (by decide) (by simp)).show_ (EntL.cons (Ent.refl _) (EntL.cons (Ent.refl _) (EntL.cons (Ent.nil 1) EntL.nil))) (by show renL _ [.agg (CC c), .int 0, .fz 1 (rowsA .u8 [])] = _; simp [renL, AV.ren, CC_ren, renL_rowsA])).eq (x' := .tup [.agg (BufC c 0 []), .int 0]) (H'' := [some (CB c)]) (by rw [newA_ren, hnew]) (by simp [renH]; rfl))) ?_
        refine ro rfl rfl (OpOk.step (ok_move (.inl rfl))) ?_
        refine ro rfl rfl (OpOk.step (ok_extract rfl rfl rfl)) ?_
        refine ro rfl rfl (OpOk.step (ok_extract rfl rfl rfl)) ?_
        refine ro rfl rfl (OpOk.step (ok_alloc rfl ti_stripe_Buf rfl (by decide))) ?_
        refine ro rfl rfl (OpOk.step ((ok_store rfl ti_stripe_Buf (by decide) rfl rfl rfl rfl rfl (Nat.le_of_ble_eq_true rfl) (.inl ⟨rfl, rfl⟩)).eq (x' := .any) (H'' := [some (CB c), some (BufB c 0 [])]) rfl rfl)) ?_
        refine ro rfl rfl (OpOk.step (ok_move (.inr rfl))) ?_
        refine ro_nil ?_
        refine keepK hK7 [1, 2, 3, 7, 8] (by dsimp) (by dsimp) ?_
        refine T.seq fun K8 hK8 => ?_
        refine T.seq fun K9 hK9 => ?_
        refine T.region ?_ -- region 4
        refine ro rfl rfl (OpOk.step (ok_move (.inl rfl))) ?_
        refine ro rfl rfl (ok_call rfl rfl rfl ((code15_ok 0).plain rfl rfl)) ?_
        refine ro rfl rfl (OpOk.step (OpOk.bool (d := false) (ok_binOp rfl ti_int rfl) (rfl))) ?_
        refine ro_nil ?_
        refine keepK hK9 [1, 2, 3, 7, 44] (by dsimp) (by dsimp) ?_
        refine T.cond_false rfl ?_
        refine T.skip ?_
        refine keepK hK8 [1, 2, 3, 7] (by dsimp) (by dsimp) ?_
        refine T.seq fun K10 hK10 => ?_
        refine T.region ?_ -- region 6
        refine ro rfl rfl (OpOk.step (ok_move (.inl rfl))) ?_
        refine ro rfl rfl (OpOk.step (ok_fieldAddr rfl ti_api_Conf rfl rfl ti_int (by decide) rfl)) ?_
        refine ro rfl rfl (OpOk.step (ok_load rfl ti_int rfl rfl)) ?_
        refine ro rfl rfl (ok_call rfl rfl rfl (((rfitL_frz ls b (by omega) (by omega)).plain (by simp [renL, AV.ren, renL_rowsA, hb]) (by simp [AV.ren, renL_rowsA])).eq (x' := .fz 1 (rowsA .u8 F)) (by rw [hF]) rfl)) ?_
        refine ro rfl rfl (OpOk.step (ok_move (.inr rfl))) ?_
        refine ro_nil ?_
        refine keepK hK10 [2, 3, 7, 9] (by dsimp) (by dsimp) ?_
        refine T.seq fun K11 hK11 => ?_
        refine T.region ?_ -- region 7
        refine ro rfl rfl (OpOk.step (ok_load rfl ti_api_Conf rfl rfl)) ?_
        refine ro rfl rfl (ok_call rfl rfl rfl (((rrow_ok c).plain (by simp [renL, AV.ren, CC_take', CC_ren]) rfl).eq (x' := .int r) (by rw [hr]) rfl)) ?_
        refine ro rfl rfl (OpOk.step (ok_move (.inr rfl))) ?_
        refine ro_nil ?_
        refine keepK hK11 [2, 3, 7, 9, 10] (by dsimp) (by dsimp) ?_
        refine T.seq fun K12 hK12 => ?_
        refine T.seq fun K13 hK13 => ?_
        refine T.region ?_ -- region 8
        refine ro rfl rfl (OpOk.step (ok_move (.inr rfl))) ?_
        refine ro_nil ?_
        refine keepK hK13 [2, 3, 7, 9, 10, 11] (by dsimp) (by dsimp) ?_
        refine T.block ?_
        refine T.loopI (ι := Nat) (fun i => i ≤ F.length ∧ (i : Int) ≤ sizeC c) (fun i => F.length - i) (fun i => ([(2, .fz 1 (ints .u8 odd)), (3, .ref 0 0 0), (7, .ref 1 0 0), (9, .fz 1 (rowsA .u8 F)), (10, .int r), (11, .int i)], [some (CB c), some (BufB c i (blF F r i))])) 0 ⟨Nat.zero_le _, by omega⟩ (TEnt.toH (by simp [blF]) ⟨rfl, rfl, rfl, rfl, rfl, rfl, trivial⟩) (fun i hi => ?_) -- loop 1
        refine T.seq fun K14 hK14 => ?_
        refine T.seq fun K15 hK15 => ?_
        refine T.region ?_ -- region 9
        refine ro rfl rfl (OpOk.step (ok_move (.inl rfl))) ?_
        refine ro rfl rfl (OpOk.step (ok_move (.inl rfl))) ?_
        refine ro rfl rfl (OpOk.step (ok_len' rfl rfl ti_LLuint8 rfl (by first | exact ints_length _ _ | exact rowsA_length _ _ | exact Cms_len _ | exact mapLen _ | rfl))) ?_
        refine ro rfl rfl (OpOk.step (ok_binOp rfl ti_int rfl)) ?_
        refine ro_nil ?_
        refine keepK hK15 [2, 3, 7, 9, 10, 11, 54] (by dsimp) (by dsimp) ?_
        refine T.cond rfl (fun hc => ?_) (fun hc => ?_) -- cond 2
        · (try simp only [decide_eq_true_eq, decide_eq_false_iff_not, beq_iff_eq, beq_eq_false_iff_ne, bne_iff_ne, bne_eq_false_iff_eq, ne_eq, Bool.not_eq_true', Bool.not_eq_false'] at hc)
          have hiF : i < F.length := by first | omega | (simp at hc; omega)
          obtain ⟨x, hx⟩ : ∃ x, F[i]? = some x := ⟨_, List.getElem?_eq_getElem hiF⟩
          have hxm := List.mem_of_getElem? hx
          have hxl : (x.length : Int) = c.blk := by rw [hFl x hxm]; omega
          have hbll := blF_len (r := r) (F := F) (i := i) (by omega)
          have hblB : ∀ y, Bytes y → BB (blF F r i ++ [y]) := fun y hy l h => by
            rcases List.mem_append.1 h with h | h
            · exact hFB l (blF_mem h)
            · rw [List.mem_singleton.1 h]; exact hy
          have hblL : ∀ y : List Int, y.length ≤ 140737488355328 → ∀ l ∈ blF F r i ++ [y], l.length ≤ 140737488355328 := fun y hy l h => by
            rcases List.mem_append.1 h with h | h
            · rw [hFl l (blF_mem h)]; omega
            · rw [List.mem_singleton.1 h]; exact hy
          obtain ⟨o, ho⟩ : ∃ o, pushS c i (blF F r i) odd = o := ⟨_, rfl⟩
          obtain ⟨s, hs⟩ : ∃ s, pushS c i (blF F r i) x = s := ⟨_, rfl⟩
          refine T.skip ?_
          refine keepK hK14 [2, 3, 7, 9, 10, 11] (by dsimp) (by dsimp) ?_
          refine T.seq fun K16 hK16 => ?_
          refine T.block ?_
          refine T.seq fun K17 hK17 => ?_
          refine T.region ?_ -- region 11
          refine ro rfl rfl (OpOk.step ((ok_load rfl ti_stripe_Buf rfl rfl).eq (x' := .agg (BufC c i (blF F r i))) rfl rfl)) ?_
          refine ro rfl rfl (OpOk.step (ok_move (.inl rfl))) ?_
          refine ro rfl rfl (ok_call rfl rfl rfl (((push_ok c i (blF F r i) odd hchk (by omega) (hblB odd hob) (by omega) (hblL odd hol)).plain (by show renL _ [.agg (BufC c i (blF F r i)), .fz 1 (ints .u8 odd)] = _; simp [renL, AV.ren, BufC_ren, renL_ints]) (PSA_ren _ _)).eq (x' := .tup [.agg (BufC o.c o.w o.bl), .fz 1 (ints .u8 o.p), .int o.e]) (by rw [ho]; rfl) rfl)) ?_
          refine ro rfl rfl (OpOk.step (ok_move (.inl rfl))) ?_
          refine ro rfl rfl (OpOk.step (ok_extract rfl rfl rfl)) ?_
          refine ro rfl rfl (OpOk.step (ok_extract rfl rfl rfl)) ?_
          refine ro rfl rfl (OpOk.step (ok_extract rfl rfl rfl)) ?_
          refine ro rfl rfl (OpOk.step (ok_alloc rfl ti_stripe_Buf rfl (by decide))) ?_
          refine ro rfl rfl (OpOk.step ((ok_store rfl ti_stripe_Buf (by decide) rfl rfl rfl rfl rfl (Nat.le_of_ble_eq_true rfl) (.inl ⟨rfl, rfl⟩)).eq (x' := .any) (H'' := [some (CB c), some (BufB c i (blF F r i)), some (BufB o.c o.w o.bl)]) rfl rfl)) ?_
          refine ro rfl rfl (OpOk.step (ok_move (.inr rfl))) ?_
          refine ro rfl rfl (OpOk.step (ok_move (.inr rfl))) ?_
          refine ro_nil ?_
          refine keepK hK17 [2, 3, 7, 9, 10, 11, 14] (by dsimp) (by dsimp) ?_
          refine T.seq fun K18 hK18 => ?_
          refine T.seq fun K19 hK19 => ?_
          refine T.join hK19 [(2, .fz 1 (ints .u8 odd)), (3, .ref 0 0 0), (7, .ref 1 0 0), (9, .fz 1 (rowsA .u8 F)), (10, .int r), (11, .int i), (73, .b false)] [some (CB c), some (BufB c i (blF F r i))] (fun hJ20 => ?_) ?_
          ·
            refine T.region ?_ -- region 12
            refine ro rfl rfl (OpOk.step (ok_move (.inl rfl))) ?_
            refine ro rfl rfl (OpOk.step (ok_len' rfl rfl ti_Luint8 rfl (by first | exact ints_length _ _ | exact rowsA_length _ _ | exact Cms_len _ | exact mapLen _ | rfl))) ?_
            refine ro rfl rfl (OpOk.step (ok_fieldAddr rfl ti_api_Conf rfl rfl ti_int (by decide) rfl)) ?_
            refine ro rfl rfl (OpOk.step (ok_load rfl ti_int rfl rfl)) ?_
            refine ro rfl rfl (OpOk.step (ok_binOp rfl ti_int rfl)) ?_
            refine ro_case rfl rfl (OpOk.step (ok_moveb (.inl rfl) rfl)) (fun hb => ?_) (fun hb => ?_)
            · (try simp only [decide_eq_true_eq, decide_eq_false_iff_not, beq_iff_eq, beq_eq_false_iff_ne, bne_iff_ne, bne_eq_false_iff_eq, ne_eq, Bool.not_eq_true', Bool.not_eq_false'] at hb)
              have ho3 : o.e = 3 := by rw [← ho, push_odd (by omega)]
              refine ro rfl rfl (OpOk.step (ok_move (.inl rfl))) ?_
              refine ro rfl rfl (ok_call rfl rfl rfl ((code15_ok o.e).plain rfl rfl)) ?_
              refine ro rfl rfl (OpOk.step (OpOk.bool (d := false) (ok_binOp rfl ti_int rfl) (by rw [ho3]; rfl))) ?_
              refine ro rfl rfl (OpOk.step (ok_pickb (t := true) (d := false) rfl rfl rfl)) ?_
              refine ro_nil ?_
              exact hJ20 _ _ (TEnt.fin [0, 1] (by decide) (by simp) (by show normH [0, 1] [some (CB c), some (BufB c i (blF F r i)), some (BufB o.c o.w o.bl)] = _; simp [normH, hget, CB_ren, BufB_ren]) ⟨by simp [AV.ren, renL_ints], rfl, rfl, by simp [AV.ren, renL_rowsA], rfl, rfl, rfl, trivial⟩)
            · (try simp only [decide_eq_true_eq, decide_eq_false_iff_not, beq_iff_eq, beq_eq_false_iff_ne, bne_iff_ne, bne_eq_false_iff_eq, ne_eq, Bool.not_eq_true', Bool.not_eq_false'] at hb)
              refine ro_skip rfl rfl ?_
              refine ro_skip rfl rfl ?_
              refine ro_skip rfl rfl ?_
              refine ro rfl rfl (OpOk.step (ok_pickb (t := false) (d := false) rfl rfl rfl)) ?_
              refine ro_nil ?_
              exact hJ20 _ _ (TEnt.fin [0, 1] (by decide) (by simp) (by show normH [0, 1] [some (CB c), some (BufB c i (blF F r i)), some (BufB o.c o.w o.bl)] = _; simp [normH, hget, CB_ren, BufB_ren]) ⟨by simp [AV.ren, renL_ints], rfl, rfl, by simp [AV.ren, renL_rowsA], rfl, rfl, rfl, trivial⟩)
          refine T.cond_false rfl ?_
          refine T.skip ?_
          refine keepK hK18 [2, 3, 7, 9, 10, 11] (by dsimp) (by dsimp) ?_
          refine T.seq fun K21 hK21 => ?_
          refine T.join hK21 [(2, .fz 1 (ints .u8 odd)), (3, .ref 0 0 0), (7, .ref 1 0 0), (9, .fz 1 (rowsA .u8 F)), (10, .int r), (11, .int i), (15, .ref 2 0 0), (16, .fz 1 (ints .u8 s.p)), (17, .int s.e)] [some (CB c), some (BufB c i (blF F r i)), some (BufB s.c s.w s.bl)] (fun hJ22 => ?_) ?_
          ·
            refine T.draw mixed (SH [] (HeldL ([some (CB c), some (BufB c i (blF F r i))]))) ?_ -- region 14
            refine any_take 0 rfl (by first | rfl | decide +kernel) rfl (by first | (simp [HeldL]; done) | (simp only [HeldL, List.map_cons, List.map_nil, List.cons_append, List.nil_append, List.set_cons_zero, List.set_cons_succ]; (repeat' first | trivial | rfl | constructor))) (fun H' hH => OpOk.step ((ok_load rfl ti_stripe_Buf (locA_held hH rfl) rfl).eq (x' := .agg (BufC c i (blF F r i))) rfl rfl)) ?_
            refine any_take 1 rfl (by first | rfl | decide +kernel) rfl (by first | (simp [HeldL]; done) | (simp only [HeldL, List.map_cons, List.map_nil, List.cons_append, List.nil_append, List.set_cons_zero, List.set_cons_succ]; (repeat' first | trivial | rfl | constructor))) (fun H' hH => OpOk.step (ok_move (.inl rfl))) ?_
            refine any_take 2 rfl (by first | rfl | decide +kernel) rfl (by first | (simp [HeldL]; done) | (simp only [HeldL, List.map_cons, List.map_nil, List.cons_append, List.nil_append, List.set_cons_zero, List.set_cons_succ]; (repeat' first | trivial | rfl | constructor))) (fun H' hH => OpOk.step (ok_move (.inl rfl))) ?_
            refine any_take 3 rfl (by first | rfl | decide +kernel) rfl (by first | (simp [HeldL]; done) | (simp only [HeldL, List.map_cons, List.map_nil, List.cons_append, List.nil_append, List.set_cons_zero, List.set_cons_succ]; (repeat' first | trivial | rfl | constructor))) (fun H' hH => OpOk.step (by exact ok_index_fz rfl ti_LLuint8 rfl ti_Luint8 rfl rfl rfl (by omega) (rowsA_get_of (by simpa using hx)) rfl)) ?_
            refine any_take 4 rfl (by first | rfl | decide +kernel) rfl (by first | (simp [HeldL]; done) | (simp only [HeldL, List.map_cons, List.map_nil, List.cons_append, List.nil_append, List.set_cons_zero, List.set_cons_succ]; (repeat' first | trivial | rfl | constructor))) (fun H' hH => OpOk.step (ok_load rfl ti_Luint8 (locA_held hH rfl) rfl)) ?_
            refine any_many [5, 10] (by first | rfl | decide +kernel) (by decide) (fun k hk => ?_)
            simp only [List.mem_cons, List.not_mem_nil, or_false] at hk
            rcases hk with rfl | rfl
            ·
              refine step_one rfl rfl rfl (ok_call rfl rfl rfl (((push_ok c i (blF F r i) x hchk (by omega) (hblB x (hFB x hxm)) (by omega) (hblL x (by omega))).plain (by show renL _ [.agg (BufC c i (blF F r i)), .fz 1 (ints .u8 x)] = _; simp [renL, AV.ren, BufC_ren, renL_ints]) (PSA_ren _ _)).eq (x' := .tup [.agg (BufC s.c s.w s.bl), .fz 1 (ints .u8 s.p), .int s.e]) (by rw [hs]; rfl) rfl)) (.inr (by first | (simp [HeldL]; done) | (simp only [HeldL, List.map_cons, List.map_nil, List.cons_append, List.nil_append, List.set_cons_zero, List.set_cons_succ]; (repeat' first | trivial | rfl | constructor)))) ?_
              refine any_take 6 rfl (by first | rfl | decide +kernel) rfl (by first | (simp [HeldL]; done) | (simp only [HeldL, List.map_cons, List.map_nil, List.cons_append, List.nil_append, List.set_cons_zero, List.set_cons_succ]; (repeat' first | trivial | rfl | constructor))) (fun H' hH => OpOk.step (ok_move (.inl rfl))) ?_
              refine any_take 7 rfl (by first | rfl | decide +kernel) rfl (by first | (simp [HeldL]; done) | (simp only [HeldL, List.map_cons, List.map_nil, List.cons_append, List.nil_append, List.set_cons_zero, List.set_cons_succ]; (repeat' first | trivial | rfl | constructor))) (fun H' hH => OpOk.step (ok_extract rfl rfl rfl)) ?_
              refine any_take 8 rfl (by first | rfl | decide +kernel) rfl (by first | (simp [HeldL]; done) | (simp only [HeldL, List.map_cons, List.map_nil, List.cons_append, List.nil_append, List.set_cons_zero, List.set_cons_succ]; (repeat' first | trivial | rfl | constructor))) (fun H' hH => OpOk.step (ok_extract rfl rfl rfl)) ?_
              refine any_take 9 rfl (by first | rfl | decide +kernel) rfl (by first | (simp [HeldL]; done) | (simp only [HeldL, List.map_cons, List.map_nil, List.cons_append, List.nil_append, List.set_cons_zero, List.set_cons_succ]; (repeat' first | trivial | rfl | constructor))) (fun H' hH => OpOk.step (ok_extract rfl rfl rfl)) ?_
              refine any_one 10 rfl (by first | rfl | decide +kernel) rfl rfl (OpOk.step (ok_alloc rfl ti_stripe_Buf rfl (by decide))) (.inr (by first | (simp [HeldL]; done) | (simp only [HeldL, List.map_cons, List.map_nil, List.cons_append, List.nil_append, List.set_cons_zero, List.set_cons_succ]; (repeat' first | trivial | rfl | constructor)))) ?_
              refine any_one 11 rfl (by first | rfl | decide +kernel) rfl rfl (OpOk.step ((ok_store rfl ti_stripe_Buf (by decide) rfl rfl rfl rfl rfl (Nat.le_of_ble_eq_true rfl) (.inl ⟨rfl, rfl⟩)).eq (x' := .any) (H'' := [some (CB c), some (BufB c i (blF F r i)), some (BufB s.c s.w s.bl)]) rfl rfl)) (.inr (by first | (simp [HeldL]; done) | (simp only [HeldL, List.map_cons, List.map_nil, List.cons_append, List.nil_append, List.set_cons_zero, List.set_cons_succ]; (repeat' first | trivial | rfl | constructor)))) ?_
              refine any_take 12 rfl (by first | rfl | decide +kernel) rfl (by first | (simp [HeldL]; done) | (simp only [HeldL, List.map_cons, List.map_nil, List.cons_append, List.nil_append, List.set_cons_zero, List.set_cons_succ]; (repeat' first | trivial | rfl | constructor))) (fun H' hH => OpOk.step (ok_move (.inr rfl))) ?_
              refine any_take 13 rfl (by first | rfl | decide +kernel) rfl (by first | (simp [HeldL]; done) | (simp only [HeldL, List.map_cons, List.map_nil, List.cons_append, List.nil_append, List.set_cons_zero, List.set_cons_succ]; (repeat' first | trivial | rfl | constructor))) (fun H' hH => OpOk.step (ok_move (.inr rfl))) ?_
              refine any_done rfl ?_
              exact hJ22 _ _ (TEnt.toH rfl ⟨rfl, rfl, rfl, rfl, rfl, rfl, rfl, rfl, rfl, trivial⟩)
            ·
              refine step_one rfl rfl rfl (OpOk.step (ok_alloc rfl ti_stripe_Buf rfl (by decide))) (.inr (by first | (simp [HeldL]; done) | (simp only [HeldL, List.map_cons, List.map_nil, List.cons_append, List.nil_append, List.set_cons_zero, List.set_cons_succ]; (repeat' first | trivial | rfl | constructor)))) ?_
              refine any_one 5 rfl (by first | rfl | decide +kernel) rfl rfl (ok_call rfl rfl rfl (((push_ok c i (blF F r i) x hchk (by omega) (hblB x (hFB x hxm)) (by omega) (hblL x (by omega))).plain (by show renL _ [.agg (BufC c i (blF F r i)), .fz 1 (ints .u8 x)] = _; simp [renL, AV.ren, BufC_ren, renL_ints]) (PSA_ren _ _)).eq (x' := .tup [.agg (BufC s.c s.w s.bl), .fz 1 (ints .u8 s.p), .int s.e]) (by rw [hs]; rfl) rfl)) (.inr (by first | (simp [HeldL]; done) | (simp only [HeldL, List.map_cons, List.map_nil, List.cons_append, List.nil_append, List.set_cons_zero, List.set_cons_succ]; (repeat' first | trivial | rfl | constructor)))) ?_
              refine any_take 6 rfl (by first | rfl | decide +kernel) rfl (by first | (simp [HeldL]; done) | (simp only [HeldL, List.map_cons, List.map_nil, List.cons_append, List.nil_append, List.set_cons_zero, List.set_cons_succ]; (repeat' first | trivial | rfl | constructor))) (fun H' hH => OpOk.step (ok_move (.inl rfl))) ?_
              refine any_take 7 rfl (by first | rfl | decide +kernel) rfl (by first | (simp [HeldL]; done) | (simp only [HeldL, List.map_cons, List.map_nil, List.cons_append, List.nil_append, List.set_cons_zero, List.set_cons_succ]; (repeat' first | trivial | rfl | constructor))) (fun H' hH => OpOk.step (ok_extract rfl rfl rfl)) ?_
              refine any_take 8 rfl (by first | rfl | decide +kernel) rfl (by first | (simp [HeldL]; done) | (simp only [HeldL, List.map_cons, List.map_nil, List.cons_append, List.nil_append, List.set_cons_zero, List.set_cons_succ]; (repeat' first | trivial | rfl | constructor))) (fun H' hH => OpOk.step (ok_extract rfl rfl rfl)) ?_
              refine any_take 9 rfl (by first | rfl | decide +kernel) rfl (by first | (simp [HeldL]; done) | (simp only [HeldL, List.map_cons, List.map_nil, List.cons_append, List.nil_append, List.set_cons_zero, List.set_cons_succ]; (repeat' first | trivial | rfl | constructor))) (fun H' hH => OpOk.step (ok_extract rfl rfl rfl)) ?_
              refine any_one 11 rfl (by first | rfl | decide +kernel) rfl rfl (OpOk.step ((ok_store rfl ti_stripe_Buf (by decide) rfl rfl rfl rfl rfl (Nat.le_of_ble_eq_true rfl) (.inl ⟨rfl, rfl⟩)).eq (x' := .any) (H'' := [some (CB c), some (BufB c i (blF F r i)), some (BufB s.c s.w s.bl)]) rfl rfl)) (.inr (by first | (simp [HeldL]; done) | (simp only [HeldL, List.map_cons, List.map_nil, List.cons_append, List.nil_append, List.set_cons_zero, List.set_cons_succ]; (repeat' first | trivial | rfl | constructor)))) ?_
              refine any_take 12 rfl (by first | rfl | decide +kernel) rfl (by first | (simp [HeldL]; done) | (simp only [HeldL, List.map_cons, List.map_nil, List.cons_append, List.nil_append, List.set_cons_zero, List.set_cons_succ]; (repeat' first | trivial | rfl | constructor))) (fun H' hH => OpOk.step (ok_move (.inr rfl))) ?_
              refine any_take 13 rfl (by first | rfl | decide +kernel) rfl (by first | (simp [HeldL]; done) | (simp only [HeldL, List.map_cons, List.map_nil, List.cons_append, List.nil_append, List.set_cons_zero, List.set_cons_succ]; (repeat' first | trivial | rfl | constructor))) (fun H' hH => OpOk.step (ok_move (.inr rfl))) ?_
              refine any_done rfl ?_
              exact hJ22 _ _ (TEnt.toH rfl ⟨rfl, rfl, rfl, rfl, rfl, rfl, rfl, rfl, rfl, trivial⟩)
          refine T.seq fun K23 hK23 => ?_
          refine T.seq fun K24 hK24 => ?_
          refine T.region ?_ -- region 15
          refine ro rfl rfl (OpOk.step (ok_move (.inl rfl))) ?_
          refine ro rfl rfl (OpOk.step (ok_load rfl ti_api_Conf rfl rfl)) ?_
          refine ro rfl rfl (ok_call rfl rfl rfl ((rsize_ok c).plain (by simp [renL, AV.ren, CC_take', CC_ren]) rfl)) ?_
          refine ro rfl rfl (OpOk.step (ok_binOp rfl ti_int rfl)) ?_
          refine ro_nil ?_
          refine keepK hK24 [2, 3, 7, 9, 10, 11, 15, 16, 17, 87] (by dsimp) (by dsimp) ?_
          refine T.cond rfl (fun hc => ?_) (fun hc => ?_) -- cond 3
          · (try simp only [decide_eq_true_eq, decide_eq_false_iff_not, beq_iff_eq, beq_eq_false_iff_ne, bne_iff_ne, bne_eq_false_iff_eq, ne_eq, Bool.not_eq_true', Bool.not_eq_false'] at hc)
            have hs6 : s.e = 6 := by rw [← hs, push_full hxl (by omega)]
            refine T.seq fun K25 hK25 => ?_
            refine T.region ?_ -- region 16
            refine ro rfl rfl (OpOk.step (ok_move (.inl rfl))) ?_
            refine ro rfl rfl (ok_call rfl rfl rfl ((code15_ok s.e).plain rfl rfl)) ?_
            refine ro rfl rfl (OpOk.step (ok_binOp rfl ti_int rfl)) ?_
            refine ro rfl rfl (OpOk.step (OpOk.bool (d := true) (ok_moveb (.inl rfl) rfl) (by rw [hs6]; rfl))) ?_
            refine ro rfl rfl (ok_call rfl rfl rfl (live15_ok.plain rfl rfl)) ?_
            refine ro rfl rfl (OpOk.step (ok_pick rfl rfl)) ?_
            refine ro rfl rfl (OpOk.step (ok_move (.inr rfl))) ?_
            refine ro_nil ?_
            refine keepK hK25 [6] (by dsimp) (by dsimp) ?_
            refine T.ret (hQ _ _ _ rfl ?_).1 -- ret 4
            exact TEnt.fin [] (by decide) (by simp) rfl ⟨rfl, trivial⟩
          · (try simp only [decide_eq_true_eq, decide_eq_false_iff_not, beq_iff_eq, beq_eq_false_iff_ne, bne_iff_ne, bne_eq_false_iff_eq, ne_eq, Bool.not_eq_true', Bool.not_eq_false'] at hc)
            have hisz : (i : Int) < sizeC c := by omega
            have hs2 : s = ⟨c, i + 1, blF F r (i + 1), pwF c F r i, 0⟩ := by rw [← hs, push_step hr0 hr hx hxl hisz]
            subst hs2
            obtain ⟨f0, hf0⟩ : ∃ f0, i / r * r = f0 := ⟨_, rfl⟩
            obtain ⟨f1, hf1⟩ : ∃ f1, (i + 1) / r * r = f1 := ⟨_, rfl⟩
            obtain ⟨g, hg⟩ : ∃ g, (i + 1) % r = g := ⟨_, rfl⟩
            obtain ⟨d, hd⟩ : ∃ d, i / r = d := ⟨_, rfl⟩
            have hf0i : f0 ≤ i := hf0 ▸ div_le i r
            have hf1i : f1 ≤ i + 1 := hf1 ▸ div_le (i + 1) r
            have hdi : d ≤ i := hd ▸ Nat.div_le_self i r
            have hnd := next_div (i := i) hr0
            rw [hf1, hg, hf0] at hnd
            obtain ⟨B1, hB1⟩ : ∃ B1, blF F r (i + 1) = B1 := ⟨_, rfl⟩
            have hB1e : (F.take (i + 1)).drop f1 = B1 := by rw [← hB1, ← hf1]; rfl
            obtain ⟨pw, hpw⟩ : ∃ pw, pwF c F r i = pw := ⟨_, rfl⟩
            have hpwe : pw = if g = 0 then overC c ((F.take (i + 1)).drop f0) else [] := by rw [← hpw, ← hg, ← hf0]; rfl
            rw [hB1, hpw]
            have hB1B : BB B1 := fun l h => hFB l (by rw [← hB1] at h; exact blF_mem h)
            have hB1L : ∀ l ∈ B1, l.length ≤ 140737488355328 := fun l h => by rw [hFl l (by rw [← hB1] at h; exact blF_mem h)]; omega
            have hB1n : B1.length = i + 1 - f1 := by rw [← hB1e]; simp; omega
            have hSB : BB ((F.take (i + 1)).drop f0) := fun l h => hFB l (List.mem_of_mem_take (List.mem_of_mem_drop h))
            have hSL : ∀ l ∈ (F.take (i + 1)).drop f0, l.length ≤ 140737488355328 := fun l h => by rw [hFl l (List.mem_of_mem_take (List.mem_of_mem_drop h))]; omega
            refine T.skip ?_
            refine keepK hK23 [2, 3, 7, 9, 10, 11, 15, 16, 17] (by dsimp) (by dsimp) ?_
            refine T.seq fun K26 hK26 => ?_
            refine T.region ?_ -- region 17
            refine ro rfl rfl (OpOk.step ((ok_load rfl ti_stripe_Buf rfl rfl).eq (x' := .agg (BufC c ((i : Int) + 1) B1)) rfl rfl)) ?_
            refine ro rfl rfl (OpOk.step ((ok_store rfl ti_stripe_Buf (by decide) rfl rfl rfl rfl rfl (Nat.le_of_ble_eq_true rfl) (.inl ⟨rfl, rfl⟩)).eq (x' := .any) (H'' := [some (CB c), some (BufB c ((i : Int) + 1) B1), some (BufB c ((i : Int) + 1) B1)]) rfl rfl)) ?_
            refine ro_nil ?_
            refine keepK hK26 [2, 3, 7, 9, 10, 11, 16, 17] (by dsimp) (by dsimp) ?_
            refine T.seq fun K27 hK27 => ?_
            refine T.region ?_ -- region 18
            refine ro rfl rfl (OpOk.step (ok_move (.inl rfl))) ?_
            refine ro rfl rfl (OpOk.step (ok_move (.inl rfl))) ?_
            refine ro rfl rfl (OpOk.step ((ok_quo64 rfl ti_int rfl rfl (by omega) (by omega) (by omega)).eq (x' := .int d) (by rw [← hd]; rfl) rfl)) ?_
            refine ro rfl rfl (OpOk.step (ok_move (.inl rfl))) ?_
            refine ro rfl rfl (OpOk.step ((ok_mul64 rfl ti_int rfl rfl (by have := Int.natCast_mul d r; rw [hd] at hf0; omega) (by have := Int.natCast_mul d r; rw [hd] at hf0; omega)).eq (x' := .int f0) (by rw [← hf0, hd]; rfl) rfl)) ?_
            refine ro rfl rfl (OpOk.step (ok_move (.inr rfl))) ?_
            refine ro_nil ?_
            refine keepK hK27 [2, 3, 7, 9, 10, 11, 16, 17, 18] (by dsimp) (by dsimp) ?_
            refine T.seq fun K28 hK28 => ?_
            refine T.region ?_ -- region 19
            refine ro rfl rfl (OpOk.step (ok_move (.inr rfl))) ?_
            refine ro_nil ?_
            refine keepK hK28 [2, 3, 7, 9, 10, 11, 16, 17, 18, 19] (by dsimp) (by dsimp) ?_
            refine T.seq fun K29 hK29 => ?_
            refine T.seq fun K30 hK30 => ?_
            refine T.region ?_ -- region 20
            refine ro rfl rfl (OpOk.step (ok_move (.inl rfl))) ?_
            refine ro rfl rfl (OpOk.step (ok_add64 rfl ti_int rfl rfl (by omega) (by omega))) ?_
            refine ro rfl rfl (OpOk.step (ok_move (.inl rfl))) ?_
            refine ro rfl rfl (OpOk.step ((ok_rem64 rfl ti_int rfl rfl (by omega) (by omega)).eq (x' := .int g) (by rw [← hg]; rfl) rfl)) ?_
            refine ro rfl rfl (OpOk.step (ok_binOp rfl ti_int rfl)) ?_
            refine ro_nil ?_
            refine keepK hK30 [2, 3, 7, 9, 10, 11, 16, 17, 18, 19, 104] (by dsimp) (by dsimp) ?_
            refine T.join hK29 [(2, .fz 1 (ints .u8 odd)), (3, .ref 0 0 0), (7, .ref 1 0 0), (9, .fz 1 (rowsA .u8 F)), (10, .int r), (11, .int i), (16, .fz 1 (ints .u8 pw)), (17, .int 0), (18, .int f1), (19, .v (.string (sB pw)))] [some (CB c), some (BufB c ((i : Int) + 1) B1), some (BufB c ((i : Int) + 1) B1)] (fun hJ31 => ?_) ?_ -- join 1
            · -- the two ways
              refine T.cond rfl (fun hc => ?_) (fun hc => ?_) -- cond 4
              · (try simp only [decide_eq_true_eq, decide_eq_false_iff_not, beq_iff_eq, beq_eq_false_iff_ne, bne_iff_ne, bne_eq_false_iff_eq, ne_eq, Bool.not_eq_true', Bool.not_eq_false'] at hc)
                have hg0 : g = 0 := by first | omega | (simp at hc; omega)
                rw [if_pos hg0] at hnd hpwe
                refine T.seq fun K32 hK32 => ?_
                refine T.drawH mixed [] ?_ -- region 21
                refine any_take 0 rfl (by first | rfl | decide +kernel) rfl (HeldL.refl _) (fun H' hH => OpOk.step (ok_load rfl ti_api_Conf (locA_held hH rfl) rfl)) ?_
                refine any_take 1 rfl (by first | rfl | decide +kernel) rfl (HeldL.refl _) (fun H' hH => OpOk.step (ok_move (.inl rfl))) ?_
                refine any_take 2 rfl (by first | rfl | decide +kernel) rfl (HeldL.refl _) (fun H' hH => OpOk.step (ok_move (.inl rfl))) ?_
                refine any_take 3 rfl (by first | rfl | decide +kernel) rfl (HeldL.refl _) (fun H' hH => OpOk.step (ok_move (.inl rfl))) ?_
                refine any_take 4 rfl (by first | rfl | decide +kernel) rfl (HeldL.refl _) (fun H' hH => OpOk.step (ok_add64 rfl ti_int rfl rfl (by omega) (by omega))) ?_
                refine any_take 5 rfl (by first | rfl | decide +kernel) rfl (HeldL.refl _) (fun H' hH => OpOk.step ((ok_slice_fz (a := f0) (b := i + 1) rfl ti_LLuint8 rfl ti_Luint8 rfl rfl rfl rfl (by omega) (by simp; omega)).eq (x' := .fz 1 (rowsA .u8 ((F.take (i + 1)).drop f0))) (by rw [rows_cut]) rfl)) ?_
                refine any_one 6 rfl (by first | rfl | decide +kernel) rfl rfl (ok_call rfl rfl rfl (((rover_frz c ((F.take (i + 1)).drop f0) hSB (by simp; omega) hSL).plain (by simp [renL, AV.ren, CC_take', CC_ren, renL_rowsA]) (by simp [AV.ren, renL_ints])).eq (x' := .fz 1 (ints .u8 pw)) (by rw [hpwe]) rfl)) (.inr (by first | (simp [HeldL]; done) | (simp only [HeldL, List.map_cons, List.map_nil, List.cons_append, List.nil_append, List.set_cons_zero, List.set_cons_succ]; (repeat' first | trivial | rfl | constructor)))) ?_
                refine any_take 7 rfl (by first | rfl | decide +kernel) rfl (by first | exact HeldL.refl _ | exact HeldL.append _ _ | simp [HeldL]) (fun H' hH => OpOk.step (ok_conv_str rfl ti_Luint8 ti_string rfl ti_uint8 rfl rfl (rowA_held hH rfl) rfl (bytesOf_ints _))) ?_
                refine any_take 8 rfl (by first | rfl | decide +kernel) rfl (by first | exact HeldL.refl _ | exact HeldL.append _ _ | simp [HeldL]) (fun H' hH => OpOk.step (ok_move (.inr rfl))) ?_
                refine any_done rfl ?_
                refine keepK hK32 [2, 3, 7, 9, 10, 11, 16, 17, 19] (by dsimp) (by dsimp) ?_
                refine T.region ?_ -- region 22
                refine ro rfl rfl (OpOk.step (ok_move (.inl rfl))) ?_
                refine ro rfl rfl (OpOk.step (ok_add64 rfl ti_int rfl rfl (by omega) (by omega))) ?_
                refine ro rfl rfl (OpOk.step (ok_move (.inr rfl))) ?_
                refine ro_nil ?_
                exact hJ31 _ _ (TEnt.toH rfl ⟨rfl, rfl, rfl, rfl, rfl, rfl, rfl, rfl, by rw [hnd]; rfl, rfl, trivial⟩)
              · (try simp only [decide_eq_true_eq, decide_eq_false_iff_not, beq_iff_eq, beq_eq_false_iff_ne, bne_iff_ne, bne_eq_false_iff_eq, ne_eq, Bool.not_eq_true', Bool.not_eq_false'] at hc)
                have hg0 : g ≠ 0 := by first | omega | (simp at hc; omega)
                rw [if_neg hg0] at hnd hpwe
                refine T.skip ?_
                exact hJ31 _ _ (TEnt.toH rfl ⟨rfl, rfl, rfl, rfl, rfl, rfl, rfl, rfl, by rw [hnd]; rfl, by rw [hpwe]; rfl, trivial⟩)
            refine T.seq fun K33 hK33 => ?_
            refine T.seq fun K34 hK34 => ?_
            refine T.region ?_ -- region 23
            refine ro rfl rfl (OpOk.step (ok_move (.inl rfl))) ?_
            refine ro rfl rfl (ok_call rfl rfl rfl ((code15_ok 0).plain rfl rfl)) ?_
            refine ro rfl rfl (OpOk.step (ok_binOp rfl ti_int rfl)) ?_
            refine ro rfl rfl (OpOk.step (OpOk.bool (d := false) (ok_moveb (.inl rfl) rfl) (rfl))) ?_
            refine ro rfl rfl (OpOk.step (ok_move (.inl rfl))) ?_
            refine ro rfl rfl (OpOk.step (ok_conv_str rfl ti_Luint8 ti_string rfl ti_uint8 rfl rfl rfl rfl (bytesOf_ints _))) ?_
            refine ro rfl rfl (OpOk.step (ok_move (.inl rfl))) ?_
            refine ro rfl rfl (OpOk.step ((ok_binOp rfl ti_string rfl).eq (x' := .b (!strEq pw pw)) rfl rfl)) ?_
            refine ro rfl rfl (OpOk.step (ok_pick rfl rfl)) ?_
            refine ro rfl rfl (OpOk.step (OpOk.bool (d := false) (ok_moveb (.inl rfl) rfl) (by rw [strEq_refl]; rfl))) ?_
            refine ro rfl rfl (OpOk.step ((ok_load rfl ti_stripe_Buf rfl rfl).eq (x' := .agg (BufC c ((i : Int) + 1) B1)) rfl rfl)) ?_
            refine ro rfl rfl (ok_call rfl rfl rfl ((at15_ok c ((i : Int) + 1) B1).plain (by show renL _ [.agg (BufC c ((i : Int) + 1) B1)] = _; simp [renL, AV.ren, BufC_ren]) rfl)) ?_
            refine ro rfl rfl (OpOk.step (ok_move (.inl rfl))) ?_
            refine ro rfl rfl (OpOk.step (ok_add64 rfl ti_int rfl rfl (by omega) (by omega))) ?_
            refine ro rfl rfl (OpOk.step (OpOk.bool (d := false) (ok_binOp rfl ti_int rfl) (by simp))) ?_
            refine ro rfl rfl (OpOk.step (OpOk.bool (d := false) (ok_pickb rfl rfl rfl) (rfl))) ?_
            refine ro_nil ?_
            refine keepK hK34 [2, 3, 7, 9, 10, 11, 18, 130] (by dsimp) (by dsimp) ?_
            refine T.cond_false rfl ?_
            refine T.skip ?_
            refine keepK hK33 [2, 3, 7, 9, 10, 11, 18] (by dsimp) (by dsimp) ?_
            refine T.seq fun K35 hK35 => ?_
            refine T.seq fun K36 hK36 => ?_
            refine T.join hK36 [(2, .fz 1 (ints .u8 odd)), (3, .ref 0 0 0), (7, .ref 1 0 0), (9, .fz 1 (rowsA .u8 F)), (10, .int r), (11, .int i), (18, .int f1), (158, .b false)] [some (CB c), some (BufB c ((i : Int) + 1) B1)] (fun hJ37 => ?_) ?_
            ·
              refine T.drawH mixed [] ?_ -- region 25
              refine any_take 0 rfl (by first | rfl | decide +kernel) rfl (HeldL.refl _) (fun H' hH => OpOk.step (ok_move (.inl rfl))) ?_
              refine any_take 1 rfl (by first | rfl | decide +kernel) rfl (HeldL.refl _) (fun H' hH => OpOk.step (ok_move (.inl rfl))) ?_
              refine any_take 2 rfl (by first | rfl | decide +kernel) rfl (HeldL.refl _) (fun H' hH => OpOk.step (ok_binOp rfl ti_int rfl)) ?_
              refine any_take_case 3 rfl (by first | rfl | decide +kernel) rfl (HeldL.refl _) (fun H' hH => OpOk.step (ok_moveb (.inl rfl) rfl)) (fun hb => ?_) (fun hb => ?_)
              · (try simp only [decide_eq_true_eq, decide_eq_false_iff_not, beq_iff_eq, beq_eq_false_iff_ne, bne_iff_ne, bne_eq_false_iff_eq, ne_eq, Bool.not_eq_true', Bool.not_eq_false'] at hb)
                have hB1ne : B1 ≠ [] := by intro h; rw [h] at hB1n; simp at hB1n; omega
                have hpar : parC c B1 = overC c B1 := if_pos ⟨hchk, hB1ne⟩
                refine any_take 4 rfl (by first | rfl | decide +kernel) rfl (HeldL.refl _) (fun H' hH => OpOk.step ((ok_load rfl ti_stripe_Buf (locA_held hH rfl) rfl).eq (x' := .agg (BufC c ((i : Int) + 1) B1)) rfl rfl)) ?_
                refine any_take 7 rfl (by first | rfl | decide +kernel) rfl (HeldL.refl _) (fun H' hH => OpOk.step (ok_load rfl ti_api_Conf (locA_held hH rfl) rfl)) ?_
                refine any_take 8 rfl (by first | rfl | decide +kernel) rfl (HeldL.refl _) (fun H' hH => OpOk.step (ok_move (.inl rfl))) ?_
                refine any_take 9 rfl (by first | rfl | decide +kernel) rfl (HeldL.refl _) (fun H' hH => OpOk.step (ok_move (.inl rfl))) ?_
                refine any_take 10 rfl (by first | rfl | decide +kernel) rfl (HeldL.refl _) (fun H' hH => OpOk.step (ok_move (.inl rfl))) ?_
                refine any_take 11 rfl (by first | rfl | decide +kernel) rfl (HeldL.refl _) (fun H' hH => OpOk.step (ok_add64 rfl ti_int rfl rfl (by omega) (by omega))) ?_
                refine any_take 12 rfl (by first | rfl | decide +kernel) rfl (HeldL.refl _) (fun H' hH => OpOk.step ((ok_slice_fz (a := f1) (b := i + 1) rfl ti_LLuint8 rfl ti_Luint8 rfl rfl rfl rfl (by omega) (by simp; omega)).eq (x' := .fz 1 (rowsA .u8 B1)) (by rw [rows_cut, hB1e]) rfl)) ?_
                refine any_one 5 rfl (by first | rfl | decide +kernel) rfl rfl (ok_call rfl rfl rfl (((par_ok c ((i : Int) + 1) B1 hB1B (by omega) hB1L).plain (by show renL _ [.agg (BufC c ((i : Int) + 1) B1)] = _; simp [renL, AV.ren, BufC_ren]) (by simp [AV.ren, renL_ints])).eq (x' := .fz 1 (ints .u8 (overC c B1))) (by rw [hpar]) rfl)) (.inr (by first | (simp [HeldL]; done) | (simp only [HeldL, List.map_cons, List.map_nil, List.cons_append, List.nil_append, List.set_cons_zero, List.set_cons_succ]; (repeat' first | trivial | rfl | constructor)))) ?_
                refine any_take 6 rfl (by first | rfl | decide +kernel) rfl (by first | exact HeldL.refl _ | exact HeldL.append _ _ | simp [HeldL]) (fun H' hH => OpOk.step (ok_conv_str rfl ti_Luint8 ti_string rfl ti_uint8 rfl rfl (rowA_held hH rfl) rfl (bytesOf_ints _))) ?_
                refine any_one 13 rfl (by first | rfl | decide +kernel) rfl rfl (ok_call rfl rfl rfl ((rover_frz c B1 hB1B (by omega) hB1L).plain (by simp [renL, AV.ren, CC_take', CC_ren, renL_rowsA]) (by simp [AV.ren, renL_ints]))) (.inr (by first | (simp [HeldL]; done) | (simp only [HeldL, List.map_cons, List.map_nil, List.cons_append, List.nil_append, List.set_cons_zero, List.set_cons_succ]; (repeat' first | trivial | rfl | constructor)))) ?_
                refine any_take 14 rfl (by first | rfl | decide +kernel) rfl (by first | exact HeldL.refl _ | exact HeldL.append _ _ | simp [HeldL]) (fun H' hH => OpOk.step (ok_conv_str rfl ti_Luint8 ti_string rfl ti_uint8 rfl rfl (rowA_held hH rfl) rfl (bytesOf_ints _))) ?_
                refine any_take 15 rfl (by first | rfl | decide +kernel) rfl (by first | exact HeldL.refl _ | exact HeldL.append _ _ | simp [HeldL]) (fun H' hH => OpOk.step ((ok_binOp rfl ti_string rfl).eq (x' := .b (!strEq (overC c B1) (overC c B1))) rfl rfl)) ?_
                refine any_take 16 rfl (by first | rfl | decide +kernel) rfl (by first | exact HeldL.refl _ | exact HeldL.append _ _ | simp [HeldL]) (fun H' hH => OpOk.step (ok_pick rfl rfl)) ?_
                refine any_take 17 rfl (by first | rfl | decide +kernel) rfl (by first | exact HeldL.refl _ | exact HeldL.append _ _ | simp [HeldL]) (fun H' hH => OpOk.step (OpOk.bool (d := false) (ok_moveb (.inl rfl) rfl) (by first | rfl | (rw [strEq_refl]; rfl)))) ?_
                refine any_take 18 rfl (by first | rfl | decide +kernel) rfl (by first | exact HeldL.refl _ | exact HeldL.append _ _ | simp [HeldL]) (fun H' hH => OpOk.step (ok_move (.inl rfl))) ?_
                refine any_take 19 rfl (by first | rfl | decide +kernel) rfl (by first | exact HeldL.refl _ | exact HeldL.append _ _ | simp [HeldL]) (fun H' hH => OpOk.step (ok_move (.inl rfl))) ?_
                refine any_take 20 rfl (by first | rfl | decide +kernel) rfl (by first | exact HeldL.refl _ | exact HeldL.append _ _ | simp [HeldL]) (fun H' hH => OpOk.step (ok_binOp rfl ti_int rfl)) ?_
                refine any_take 21 rfl (by first | rfl | decide +kernel) rfl (by first | exact HeldL.refl _ | exact HeldL.append _ _ | simp [HeldL]) (fun H' hH => OpOk.step (OpOk.bool (d := false) (ok_moveb (.inl rfl) rfl) (by first | exact decide_eq_false (by omega) | exact decide_eq_true (by omega)))) ?_
                refine any_skip 22 rfl (by first | rfl | decide +kernel) rfl (by first | exact HeldL.refl _ | exact HeldL.append _ _ | simp [HeldL]) ?_
                refine any_one_skip 23 rfl (by first | rfl | decide +kernel) rfl rfl (.inr (by first | exact HeldL.refl _ | exact HeldL.append _ _ | simp [HeldL])) ?_
                refine any_skip 24 rfl (by first | rfl | decide +kernel) rfl (by first | exact HeldL.refl _ | exact HeldL.append _ _ | simp [HeldL]) ?_
                refine any_skip 25 rfl (by first | rfl | decide +kernel) rfl (by first | exact HeldL.refl _ | exact HeldL.append _ _ | simp [HeldL]) ?_
                refine any_take 26 rfl (by first | rfl | decide +kernel) rfl (by first | exact HeldL.refl _ | exact HeldL.append _ _ | simp [HeldL]) (fun H' hH => OpOk.step (ok_pickb (t := false) (d := false) rfl rfl rfl)) ?_
                refine any_take 27 rfl (by first | rfl | decide +kernel) rfl (by first | exact HeldL.refl _ | exact HeldL.append _ _ | simp [HeldL]) (fun H' hH => OpOk.step (ok_pickb (t := false) (d := false) rfl rfl rfl)) ?_
                refine any_done rfl ?_
                exact hJ37 _ _ (TEnt.fin [0, 1] (by decide) (by simp) (by show normH [0, 1] [some (CB c), some (BufB c ((i : Int) + 1) B1), some (BufB c ((i : Int) + 1) B1)] = _; simp [normH, hget, CB_ren, BufB_ren]) ⟨by simp [AV.ren, renL_ints], rfl, rfl, by simp [AV.ren, renL_rowsA], rfl, rfl, rfl, rfl, trivial⟩)
              · (try simp only [decide_eq_true_eq, decide_eq_false_iff_not, beq_iff_eq, beq_eq_false_iff_ne, bne_iff_ne, bne_eq_false_iff_eq, ne_eq, Bool.not_eq_true', Bool.not_eq_false'] at hb)
                have hB10 : B1 = [] := List.eq_nil_of_length_eq_zero (by omega)
                refine any_skip 4 rfl (by first | rfl | decide +kernel) rfl (HeldL.refl _) ?_
                refine any_skip 7 rfl (by first | rfl | decide +kernel) rfl (HeldL.refl _) ?_
                refine any_skip 8 rfl (by first | rfl | decide +kernel) rfl (HeldL.refl _) ?_
                refine any_skip 9 rfl (by first | rfl | decide +kernel) rfl (HeldL.refl _) ?_
                refine any_skip 10 rfl (by first | rfl | decide +kernel) rfl (HeldL.refl _) ?_
                refine any_skip 11 rfl (by first | rfl | decide +kernel) rfl (HeldL.refl _) ?_
                refine any_skip 12 rfl (by first | rfl | decide +kernel) rfl (HeldL.refl _) ?_
                refine any_one_skip 5 rfl (by first | rfl | decide +kernel) rfl rfl (.inr (HeldL.refl _)) ?_
                refine any_skip 6 rfl (by first | rfl | decide +kernel) rfl (by first | exact HeldL.refl _ | exact HeldL.append _ _ | simp [HeldL]) ?_
                refine any_one_skip 13 rfl (by first | rfl | decide +kernel) rfl rfl (.inr (by first | exact HeldL.refl _ | exact HeldL.append _ _ | simp [HeldL])) ?_
                refine any_skip 14 rfl (by first | rfl | decide +kernel) rfl (by first | exact HeldL.refl _ | exact HeldL.append _ _ | simp [HeldL]) ?_
                refine any_skip 15 rfl (by first | rfl | decide +kernel) rfl (by first | exact HeldL.refl _ | exact HeldL.append _ _ | simp [HeldL]) ?_
                refine any_take 16 rfl (by first | rfl | decide +kernel) rfl (by first | exact HeldL.refl _ | exact HeldL.append _ _ | simp [HeldL]) (fun H' hH => OpOk.step (ok_pickb (t := false) (d := false) rfl rfl rfl)) ?_
                refine any_take 17 rfl (by first | rfl | decide +kernel) rfl (by first | exact HeldL.refl _ | exact HeldL.append _ _ | simp [HeldL]) (fun H' hH => OpOk.step (OpOk.bool (d := false) (ok_moveb (.inl rfl) rfl) (by first | rfl | (rw [strEq_refl]; rfl)))) ?_
                refine any_take 18 rfl (by first | rfl | decide +kernel) rfl (by first | exact HeldL.refl _ | exact HeldL.append _ _ | simp [HeldL]) (fun H' hH => OpOk.step (ok_move (.inl rfl))) ?_
                refine any_take 19 rfl (by first | rfl | decide +kernel) rfl (by first | exact HeldL.refl _ | exact HeldL.append _ _ | simp [HeldL]) (fun H' hH => OpOk.step (ok_move (.inl rfl))) ?_
                refine any_take 20 rfl (by first | rfl | decide +kernel) rfl (by first | exact HeldL.refl _ | exact HeldL.append _ _ | simp [HeldL]) (fun H' hH => OpOk.step (ok_binOp rfl ti_int rfl)) ?_
                refine any_take 21 rfl (by first | rfl | decide +kernel) rfl (by first | exact HeldL.refl _ | exact HeldL.append _ _ | simp [HeldL]) (fun H' hH => OpOk.step (OpOk.bool (d := true) (ok_moveb (.inl rfl) rfl) (by first | exact decide_eq_false (by omega) | exact decide_eq_true (by omega)))) ?_
                refine any_take 22 rfl (by first | rfl | decide +kernel) rfl (by first | exact HeldL.refl _ | exact HeldL.append _ _ | simp [HeldL]) (fun H' hH => OpOk.step ((ok_load rfl ti_stripe_Buf (locA_held hH rfl) rfl).eq (x' := .agg (BufC c ((i : Int) + 1) B1)) rfl rfl)) ?_
                refine any_one 23 rfl (by first | rfl | decide +kernel) rfl rfl (ok_call rfl rfl rfl (((par_ok c ((i : Int) + 1) B1 hB1B (by omega) hB1L).plain (by show renL _ [.agg (BufC c ((i : Int) + 1) B1)] = _; simp [renL, AV.ren, BufC_ren]) (by simp [AV.ren, renL_ints])).eq (x' := .fz 1 (ints .u8 [])) (by rw [hB10, parC_nil]) rfl)) (.inr (by first | (simp [HeldL]; done) | (simp only [HeldL, List.map_cons, List.map_nil, List.cons_append, List.nil_append, List.set_cons_zero, List.set_cons_succ]; (repeat' first | trivial | rfl | constructor)))) ?_
                refine any_take 24 rfl (by first | rfl | decide +kernel) rfl (by first | exact HeldL.refl _ | exact HeldL.append _ _ | simp [HeldL]) (fun H' hH => OpOk.step (ok_len' rfl rfl ti_Luint8 rfl (by first | exact ints_length _ _ | exact rowsA_length _ _ | exact Cms_len _ | exact mapLen _ | rfl))) ?_
                refine any_take 25 rfl (by first | rfl | decide +kernel) rfl (by first | exact HeldL.refl _ | exact HeldL.append _ _ | simp [HeldL]) (fun H' hH => OpOk.step (OpOk.bool (d := false) (ok_binOp rfl ti_int rfl) (rfl))) ?_
                refine any_take 26 rfl (by first | rfl | decide +kernel) rfl (by first | exact HeldL.refl _ | exact HeldL.append _ _ | simp [HeldL]) (fun H' hH => OpOk.step (ok_pickb (t := true) (d := false) rfl rfl rfl)) ?_
                refine any_take 27 rfl (by first | rfl | decide +kernel) rfl (by first | exact HeldL.refl _ | exact HeldL.append _ _ | simp [HeldL]) (fun H' hH => OpOk.step (ok_pickb (t := false) (d := false) rfl rfl rfl)) ?_
                refine any_done rfl ?_
                exact hJ37 _ _ (TEnt.fin [0, 1] (by decide) (by simp) (by show normH [0, 1] [some (CB c), some (BufB c ((i : Int) + 1) B1), some (BufB c ((i : Int) + 1) B1)] = _; simp [normH, hget, CB_ren, BufB_ren]) ⟨by simp [AV.ren, renL_ints], rfl, rfl, by simp [AV.ren, renL_rowsA], rfl, rfl, rfl, rfl, trivial⟩)
            refine T.cond_false rfl ?_
            refine T.skip ?_
            refine keepK hK35 [2, 3, 7, 9, 10, 11, 18] (by dsimp) (by dsimp) ?_
            refine T.seq fun K38 hK38 => ?_
            refine T.region ?_ -- region 27
            refine ro rfl rfl (OpOk.step (ok_move (.inl rfl))) ?_
            refine ro rfl rfl (OpOk.step (ok_sub64 rfl ti_int rfl rfl (by omega) (by omega))) ?_
            refine ro rfl rfl (OpOk.step (ok_move (.inr rfl))) ?_
            refine ro_nil ?_
            refine keepK hK38 [2, 3, 7, 9, 10, 11, 18, 20] (by dsimp) (by dsimp) ?_
            refine T.block ?_
            refine T.loopI (ι := Nat) (fun m => (f1 : Int) - 1 + m ≤ i + 2) (fun m => i + 3 - m) (fun m => ([(2, .fz 1 (ints .u8 odd)), (3, .ref 0 0 0), (7, .ref 1 0 0), (9, .fz 1 (rowsA .u8 F)), (10, .int r), (11, .int i), (18, .int f1), (20, .int ((f1 : Int) - 1 + m))], [some (CB c), some (BufB c ((i : Int) + 1) B1)])) 0 (by omega) (TEnt.toH rfl ⟨rfl, rfl, rfl, rfl, rfl, rfl, rfl, by simp, trivial⟩) (fun i hi => ?_) -- loop 2
            rename Nat => m
            rename _ ≤ _ => hm
            obtain ⟨k, hk⟩ : ∃ k : Int, (f1 : Int) - 1 + m = k := ⟨_, rfl⟩
            rw [hk]
            refine T.seq fun K39 hK39 => ?_
            refine T.seq fun K40 hK40 => ?_
            refine T.region ?_ -- region 28
            refine ro rfl rfl (OpOk.step (ok_move (.inl rfl))) ?_
            refine ro rfl rfl (OpOk.step (ok_move (.inl rfl))) ?_
            refine ro rfl rfl (OpOk.step (ok_add64 rfl ti_int rfl rfl (by omega) (by omega))) ?_
            refine ro rfl rfl (OpOk.step (ok_binOp rfl ti_int rfl)) ?_
            refine ro_nil ?_
            refine keepK hK40 [2, 3, 7, 9, 10, 11, 18, 20, 164] (by dsimp) (by dsimp) ?_
            refine T.cond rfl (fun hc => ?_) (fun hc => ?_) -- cond 5
            · (try simp only [decide_eq_true_eq, decide_eq_false_iff_not, beq_iff_eq, beq_eq_false_iff_ne, bne_iff_ne, bne_eq_false_iff_eq, ne_eq, Bool.not_eq_true', Bool.not_eq_false'] at hc)
              have hki : k ≤ i + 1 := by omega
              have hrd := bread_all c F f1 i k hchk (by omega) hiF hf1i (by omega) (fun y hy => by rw [hFl y hy]; omega)
              rw [hB1e] at hrd
              refine T.skip ?_
              refine keepK hK39 [2, 3, 7, 9, 10, 11, 18, 20] (by dsimp) (by dsimp) ?_
              refine T.seq fun K41 hK41 => ?_
              refine T.block ?_
              refine T.seq fun K42 hK42 => ?_
              refine T.region ?_ -- region 30
              refine ro rfl rfl (OpOk.step ((ok_load rfl ti_stripe_Buf rfl rfl).eq (x' := .agg (BufC c ((i : Int) + 1) B1)) rfl rfl)) ?_
              refine ro rfl rfl (OpOk.step (ok_move (.inl rfl))) ?_
              refine ro rfl rfl (ok_call rfl rfl rfl (hrd.plain (by show renL _ [.agg (BufC c ((i : Int) + 1) B1), .int k] = _; simp [renL, AV.ren, BufC_ren]) (by simp [AV.ren, renL, renL_ints]))) ?_
              refine ro rfl rfl (OpOk.step (ok_move (.inl rfl))) ?_
              refine ro rfl rfl (OpOk.step (ok_extract rfl rfl rfl)) ?_
              refine ro rfl rfl (OpOk.step (ok_extract rfl rfl rfl)) ?_
              refine ro rfl rfl (OpOk.step (ok_move (.inr rfl))) ?_
              refine ro rfl rfl (OpOk.step (ok_move (.inr rfl))) ?_
              refine ro_nil ?_
              refine keepK hK42 [2, 3, 7, 9, 10, 11, 18, 20, 21, 22] (by dsimp) (by dsimp) ?_
              refine T.seq fun K43 hK43 => ?_
              refine T.join hK43 [(2, .fz 1 (ints .u8 odd)), (3, .ref 0 0 0), (7, .ref 1 0 0), (9, .fz 1 (rowsA .u8 F)), (10, .int r), (11, .int i), (18, .int f1), (20, .int k), (21, .fz 1 (ints .u8 (if (f1 : Int) ≤ k ∧ k ≤ i then F.getD k.toNat [] else []))), (22, .b (decide ((f1 : Int) ≤ k ∧ k ≤ i))), (23, .b (decide ((f1 : Int) ≤ k ∧ k ≤ i)))] [some (CB c), some (BufB c ((i : Int) + 1) B1)] (fun hJ44 => ?_) ?_
              ·
                refine T.region ?_ -- region 31
                refine ro rfl rfl (OpOk.step (ok_move (.inl rfl))) ?_
                refine ro rfl rfl (OpOk.step (ok_move (.inl rfl))) ?_
                refine ro rfl rfl (OpOk.step (ok_binOp rfl ti_int rfl)) ?_
                refine ro_case rfl rfl (OpOk.step (ok_moveb (.inl rfl) rfl)) (fun hb => ?_) (fun hb => ?_)
                · (try simp only [decide_eq_true_eq, decide_eq_false_iff_not, beq_iff_eq, beq_eq_false_iff_ne, bne_iff_ne, bne_eq_false_iff_eq, ne_eq, Bool.not_eq_true', Bool.not_eq_false'] at hb)
                  refine ro rfl rfl (OpOk.step (ok_move (.inl rfl))) ?_
                  refine ro rfl rfl (OpOk.step (ok_move (.inl rfl))) ?_
                  refine ro rfl rfl (OpOk.step (ok_binOp rfl ti_int rfl)) ?_
                  refine ro rfl rfl (OpOk.step (ok_pick rfl rfl)) ?_
                  refine ro rfl rfl (OpOk.step (ok_move (.inr rfl))) ?_
                  refine ro_nil ?_
                  exact hJ44 _ _ (TEnt.toH rfl ⟨rfl, rfl, rfl, rfl, rfl, rfl, rfl, rfl, rfl, rfl, by first | exact congrArg AV.b (decide_eq_false (by omega)).symm | exact congrArg AV.b (decide_eq_decide.2 (by omega)), trivial⟩)
                · (try simp only [decide_eq_true_eq, decide_eq_false_iff_not, beq_iff_eq, beq_eq_false_iff_ne, bne_iff_ne, bne_eq_false_iff_eq, ne_eq, Bool.not_eq_true', Bool.not_eq_false'] at hb)
                  refine ro_skip rfl rfl ?_
                  refine ro_skip rfl rfl ?_
                  refine ro_skip rfl rfl ?_
                  refine ro rfl rfl (OpOk.step (ok_pickb (t := false) (d := false) rfl rfl rfl)) ?_
                  refine ro rfl rfl (OpOk.step (ok_moveb (c := false) (.inr rfl) rfl)) ?_
                  refine ro_nil ?_
                  exact hJ44 _ _ (TEnt.toH rfl ⟨rfl, rfl, rfl, rfl, rfl, rfl, rfl, rfl, rfl, rfl, by first | exact congrArg AV.b (decide_eq_false (by omega)).symm | exact congrArg AV.b (decide_eq_decide.2 (by omega)), trivial⟩)
              refine T.seq fun K45 hK45 => ?_
              refine T.drawH mixed [] ?_ -- region 32
              refine any_take 0 rfl (by first | rfl | decide +kernel) rfl (HeldL.refl _) (fun H' hH => OpOk.step (ok_move (.inl rfl))) ?_
              refine any_take 1 rfl (by first | rfl | decide +kernel) rfl (HeldL.refl _) (fun H' hH => OpOk.step (ok_move (.inl rfl))) ?_
              refine any_take 2 rfl (by first | rfl | decide +kernel) rfl (HeldL.refl _) (fun H' hH => OpOk.step (ok_binOp rfl ti_bool rfl)) ?_
              refine any_take 3 rfl (by first | rfl | decide +kernel) rfl (HeldL.refl _) (fun H' hH => OpOk.step (OpOk.bool (d := false) (ok_moveb (.inl rfl) rfl) (by simp))) ?_
              refine any_take 4 rfl (by first | rfl | decide +kernel) rfl (HeldL.refl _) (fun H' hH => OpOk.step (ok_move (.inl rfl))) ?_
              refine any_take_case 5 rfl (by first | rfl | decide +kernel) rfl (HeldL.refl _) (fun H' hH => OpOk.step (ok_moveb (.inl rfl) rfl)) (fun hb => ?_) (fun hb => ?_)
              · (try simp only [decide_eq_true_eq, decide_eq_false_iff_not, beq_iff_eq, beq_eq_false_iff_ne, bne_iff_ne, bne_eq_false_iff_eq, ne_eq, Bool.not_eq_true', Bool.not_eq_false'] at hb)
                have hkin : (f1 : Int) ≤ k ∧ k ≤ i := by simpa using hb
                obtain ⟨y, hy⟩ : ∃ y, F[k.toNat]? = some y := ⟨_, List.getElem?_eq_getElem (by omega)⟩
                have hyd : F.getD k.toNat [] = y := by rw [List.getD_eq_getElem?_getD, hy]; rfl
                rw [if_pos hkin, hyd]
                refine any_take 6 rfl (by first | rfl | decide +kernel) rfl (HeldL.refl _) (fun H' hH => OpOk.step (ok_move (.inl rfl))) ?_
                refine any_take 7 rfl (by first | rfl | decide +kernel) rfl (HeldL.refl _) (fun H' hH => OpOk.step (ok_conv_str rfl ti_Luint8 ti_string rfl ti_uint8 rfl rfl (rowA_held hH rfl) rfl (bytesOf_ints _))) ?_
                refine any_take 8 rfl (by first | rfl | decide +kernel) rfl (HeldL.refl _) (fun H' hH => OpOk.step (ok_move (.inl rfl))) ?_
                refine any_take 9 rfl (by first | rfl | decide +kernel) rfl (HeldL.refl _) (fun H' hH => OpOk.step (ok_move (.inl rfl))) ?_
                refine any_take 10 rfl (by first | rfl | decide +kernel) rfl (HeldL.refl _) (fun H' hH => OpOk.step (by exact ok_index_fz rfl ti_LLuint8 rfl ti_Luint8 rfl rfl rfl (by omega) (rowsA_get_of hy) rfl)) ?_
                refine any_take 11 rfl (by first | rfl | decide +kernel) rfl (HeldL.refl _) (fun H' hH => OpOk.step (ok_load rfl ti_Luint8 (locA_held hH rfl) rfl)) ?_
                refine any_take 12 rfl (by first | rfl | decide +kernel) rfl (HeldL.refl _) (fun H' hH => OpOk.step (ok_conv_str rfl ti_Luint8 ti_string rfl ti_uint8 rfl rfl (rowA_held hH rfl) rfl (bytesOf_ints _))) ?_
                refine any_take 13 rfl (by first | rfl | decide +kernel) rfl (HeldL.refl _) (fun H' hH => OpOk.step ((ok_binOp rfl ti_string rfl).eq (x' := .b (!strEq y y)) rfl rfl)) ?_
                refine any_take 14 rfl (by first | rfl | decide +kernel) rfl (HeldL.refl _) (fun H' hH => OpOk.step (OpOk.bool (d := false) (ok_pickb rfl rfl rfl) (by first | rfl | (rw [strEq_refl]; rfl)))) ?_
                refine any_take 15 rfl (by first | rfl | decide +kernel) rfl (HeldL.refl _) (fun H' hH => OpOk.step (ok_pickb (t := false) (d := false) rfl rfl rfl)) ?_
                refine any_done rfl ?_
                refine keepK hK45 [2, 3, 7, 9, 10, 11, 18, 20, 196] (by dsimp) (by dsimp) ?_
                refine T.cond_false rfl ?_
                refine T.skip ?_
                refine keepK hK41 [2, 3, 7, 9, 10, 11, 18, 20] (by dsimp) (by dsimp) ?_
                refine T.region ?_ -- region 29
                refine ro rfl rfl (OpOk.step (ok_move (.inl rfl))) ?_
                refine ro rfl rfl (OpOk.step (ok_add64 rfl ti_int rfl rfl (by omega) (by omega))) ?_
                refine ro rfl rfl (OpOk.step (ok_move (.inr rfl))) ?_
                refine ro_nil ?_
                exact ⟨m + 1, by omega, by omega, TEnt.toH rfl ⟨rfl, rfl, rfl, rfl, rfl, rfl, rfl, by show AV.int (k + 1) = .int ((f1 : Int) - 1 + (m + 1 : Nat)); rw [← hk]; exact congrArg AV.int (by omega), trivial⟩⟩
              · (try simp only [decide_eq_true_eq, decide_eq_false_iff_not, beq_iff_eq, beq_eq_false_iff_ne, bne_iff_ne, bne_eq_false_iff_eq, ne_eq, Bool.not_eq_true', Bool.not_eq_false'] at hb)
                refine any_skip 6 rfl (by first | rfl | decide +kernel) rfl (HeldL.refl _) ?_
                refine any_skip 7 rfl (by first | rfl | decide +kernel) rfl (HeldL.refl _) ?_
                refine any_skip 8 rfl (by first | rfl | decide +kernel) rfl (HeldL.refl _) ?_
                refine any_skip 9 rfl (by first | rfl | decide +kernel) rfl (HeldL.refl _) ?_
                refine any_skip 10 rfl (by first | rfl | decide +kernel) rfl (HeldL.refl _) ?_
                refine any_skip 11 rfl (by first | rfl | decide +kernel) rfl (HeldL.refl _) ?_
                refine any_skip 12 rfl (by first | rfl | decide +kernel) rfl (HeldL.refl _) ?_
                refine any_skip 13 rfl (by first | rfl | decide +kernel) rfl (HeldL.refl _) ?_
                refine any_take 14 rfl (by first | rfl | decide +kernel) rfl (HeldL.refl _) (fun H' hH => OpOk.step (OpOk.bool (d := false) (ok_pickb rfl rfl rfl) (by first | rfl | (rw [strEq_refl]; rfl)))) ?_
                refine any_take 15 rfl (by first | rfl | decide +kernel) rfl (HeldL.refl _) (fun H' hH => OpOk.step (ok_pickb (t := false) (d := false) rfl rfl rfl)) ?_
                refine any_done rfl ?_
                refine keepK hK45 [2, 3, 7, 9, 10, 11, 18, 20, 196] (by dsimp) (by dsimp) ?_
                refine T.cond_false rfl ?_
                refine T.skip ?_
                refine keepK hK41 [2, 3, 7, 9, 10, 11, 18, 20] (by dsimp) (by dsimp) ?_
                refine T.region ?_ -- region 29
                refine ro rfl rfl (OpOk.step (ok_move (.inl rfl))) ?_
                refine ro rfl rfl (OpOk.step (ok_add64 rfl ti_int rfl rfl (by omega) (by omega))) ?_
                refine ro rfl rfl (OpOk.step (ok_move (.inr rfl))) ?_
                refine ro_nil ?_
                exact ⟨m + 1, by omega, by omega, TEnt.toH rfl ⟨rfl, rfl, rfl, rfl, rfl, rfl, rfl, by show AV.int (k + 1) = .int ((f1 : Int) - 1 + (m + 1 : Nat)); rw [← hk]; exact congrArg AV.int (by omega), trivial⟩⟩
            · (try simp only [decide_eq_true_eq, decide_eq_false_iff_not, beq_iff_eq, beq_eq_false_iff_ne, bne_iff_ne, bne_eq_false_iff_eq, ne_eq, Bool.not_eq_true', Bool.not_eq_false'] at hc)
              refine T.exit ?_
              refine keepK hK16 [2, 3, 7, 9, 10, 11] (by dsimp) (by dsimp) ?_
              refine T.region ?_ -- region 10
              refine ro rfl rfl (OpOk.step (ok_move (.inl rfl))) ?_
              refine ro rfl rfl (OpOk.step (ok_add64 rfl ti_int rfl rfl (by omega) (by omega))) ?_
              refine ro rfl rfl (OpOk.step (ok_move (.inr rfl))) ?_
              refine ro_nil ?_
              exact ⟨i + 1, ⟨by omega, by omega⟩, by omega, TEnt.toH (by rw [hB1]; rfl) ⟨rfl, rfl, rfl, rfl, rfl, rfl, trivial⟩⟩
        · (try simp only [decide_eq_true_eq, decide_eq_false_iff_not, beq_iff_eq, beq_eq_false_iff_ne, bne_iff_ne, bne_eq_false_iff_eq, ne_eq, Bool.not_eq_true', Bool.not_eq_false'] at hc)
          refine T.exit ?_
          refine keepK hK12 [] (by dsimp) (by dsimp) ?_
          refine T.seq fun K46 hK46 => ?_
          refine T.region ?_ -- region 34
          refine ro rfl rfl (ok_call rfl rfl rfl (live15_ok.plain rfl rfl)) ?_
          refine ro rfl rfl (OpOk.step (ok_move (.inr rfl))) ?_
          refine ro_nil ?_
          refine keepK hK46 [6] (by dsimp) (by dsimp) ?_
          refine T.ret (hQ _ _ _ rfl ?_).1 -- ret 5
          exact TEnt.fin [] (by decide) (by simp) rfl ⟨rfl, trivial⟩
end Go.Proofs.Ytknhemdpfdopaaa.AmF
