/- Walks over the abstract machine: records one behind the other. -/
import Derived.Test.YteonkbgfpocplaaAfRecgets
namespace Go.Proofs.Yteonkbgfpocplaa.AmF
open Go Go.AM
set_option maxRecDepth 100000
set_option linter.unusedSimpArgs false
set_option linter.unusedVariables false
attribute [local simp] tkeep tget tput ev cav argsTM pickA normT putA splice AV.cells ints_length rowsA_length enc_len
def Rcs (l : List Rc) : List AV := l.map fun x => .agg (RcC x)
theorem Rcs_len (l : List Rc) : (Rcs l).length = l.length := by simp [Rcs]
theorem Rcs_get {l : List Rc} {i : Nat} {x : Rc} (h : l[i]? = some x) : (Rcs l)[i]? = some (.agg (RcC x)) := by simp [Rcs, h]
theorem Rcs_ren (ρ : Nat → Option Nat) (l : List Rc) : renL ρ (Rcs l) = Rcs l := by
  rw [renL_map]; simp [Rcs, AV.ren, RcC_ren]
def joinR (k : Int) : List Rc → List Int
  | [] => []
  | x :: l => putR x k ++ joinR k l
theorem joinR_append (k : Int) (l m : List Rc) : joinR k (l ++ m) = joinR k l ++ joinR k m := by
  induction l with
  | nil => rfl
  | cons a l ih => simp [joinR, ih]
theorem joinR_snoc {k : Int} {l : List Rc} {i : Nat} {x : Rc} (h : l[i]? = some x) : joinR k (l.take (i + 1)) = joinR k (l.take i) ++ putR x k := by
  rw [take_succ_get h, joinR_append]
  simp [joinR]
theorem joinR_len (k : Int) (l : List Rc) : (joinR k l).length ≤ 2000000 * l.length := by
  induction l with
  | nil => simp [joinR]
  | cons x l ih =>
    have := putR_len x k
    simp only [joinR, List.length_append, List.length_cons]
    omega
theorem join_new (l : List Rc) (k : Int) (hB : ∀ x ∈ l, Bytes x.body) (hl : ∀ x ∈ l, x.body.length ≤ 140737488355328) (hn : l.length ≤ 100) : CSpec Try.prog 13 [] [.int k, .fz 10 (Rcs l)] [some ⟨1, true, ints .u8 (joinR k l)⟩] (.sl 0 0 (joinR k l).length) := by
  refine CSpec.body Try.func13 rfl rfl rfl rfl rfl fun Q hQ => ?_
  refine T.seq fun K1 hK1 => ?_
  refine T.region ?_ -- region 0
  refine ro rfl rfl (OpOk.step (ok_move (.inr rfl))) ?_
  refine ro_nil ?_
  refine keepK hK1 [0, 1] (by dsimp) (by dsimp) ?_
  refine T.seq fun K2 hK2 => ?_
  refine T.region ?_ -- region 1
  refine ro rfl rfl (OpOk.step (ok_move (.inr rfl))) ?_
  refine ro_nil ?_
  refine keepK hK2 [0, 1, 5] (by dsimp) (by dsimp) ?_
  refine T.seq fun K3 hK3 => ?_
  refine T.seq fun K4 hK4 => ?_
  refine T.region ?_ -- region 2
  refine ro rfl rfl (OpOk.step (ok_move (.inl rfl))) ?_
  refine ro rfl rfl (OpOk.step (by exact ok_len' rfl rfl ti_Lapi_Rec rfl (Rcs_len l))) ?_
  refine ro rfl rfl (OpOk.step (ok_move (.inl rfl))) ?_
  refine ro_nil ?_
  refine keepK hK4 [0, 5, 8, 9, 10] (by dsimp) (by dsimp) ?_
  refine T.block ?_
  refine T.loopI (ι := Nat) (fun i => i ≤ l.length) (fun i => l.length - i) (fun i => ([(0, .int k), (5, .sl 0 0 (joinR k (l.take i)).length), (8, .fz 10 (Rcs l)), (9, .int l.length), (10, .int i)], [some ⟨1, true, ints .u8 (joinR k (l.take i))⟩])) 0 (Nat.zero_le _) ((TEnt.empty 5 1 (by decide) (.inr rfl)).trans (TEnt.toH rfl ⟨rfl, rfl, rfl, rfl, rfl, trivial⟩)) (fun i hi => ?_) -- loop 1
  refine T.seq fun K5 hK5 => ?_
  refine T.region ?_ -- region 3
  refine ro rfl rfl (OpOk.step (ok_binOp rfl ti_int rfl)) ?_
  refine ro_nil ?_
  refine keepK hK5 [0, 5, 8, 9, 10, 11] (by dsimp) (by dsimp) ?_
  refine T.seq fun K6 hK6 => ?_
  refine T.cond rfl (fun hc => ?_) (fun hc => ?_) -- cond 1
  · (try simp only [decide_eq_true_eq, decide_eq_false_iff_not, beq_iff_eq, beq_eq_false_iff_ne, bne_iff_ne, bne_eq_false_iff_eq, ne_eq, Bool.not_eq_true', Bool.not_eq_false'] at hc)
    obtain ⟨x, hx⟩ : ∃ x, l[i]? = some x := ⟨_, List.getElem?_eq_getElem (by omega)⟩
    have hm := List.mem_of_getElem? hx
    have hjl := joinR_len k (l.take i)
    have hpl := putR_len x k
    have hti : (l.take i).length = i := by rw [List.length_take]; omega
    refine T.skip ?_
    refine keepK hK6 [0, 5, 8, 9, 10] (by dsimp) (by dsimp) ?_
    refine T.seq fun K7 hK7 => ?_
    refine T.block ?_
    refine T.seq fun K8 hK8 => ?_
    refine T.region ?_ -- region 4
    refine ro rfl rfl (OpOk.step (by exact ok_index_fz rfl ti_Lapi_Rec rfl ti_api_Rec rfl rfl rfl (by omega) (Rcs_get hx) rfl)) ?_
    refine ro rfl rfl (OpOk.step (ok_load rfl ti_api_Rec rfl rfl)) ?_
    refine ro rfl rfl (OpOk.step (ok_alloc rfl ti_api_Rec rfl (by decide))) ?_
    refine ro rfl rfl (OpOk.step (ok_store rfl ti_api_Rec (by decide) rfl rfl rfl rfl rfl (by first | exact Nat.le_of_ble_eq_true rfl | simp) (by first | exact .inl ⟨rfl, rfl⟩ | exact .inr rfl))) ?_
    refine ro_nil ?_
    refine keepK hK8 [0, 5, 7, 8, 9, 10] (by dsimp) (by dsimp) ?_
    refine T.region ?_ -- region 5
    refine ro rfl rfl (OpOk.step (ok_move (.inl rfl))) ?_
    refine ro rfl rfl (OpOk.step (ok_load rfl ti_api_Rec rfl rfl)) ?_
    refine ro rfl rfl (OpOk.step (ok_move (.inl rfl))) ?_
    refine ro rfl rfl (ok_call rfl rfl rfl ((put_ok x k (hB x hm) (hl x hm)).plain (by show renL (pos []) [.agg (RcC x), .int k] = _; simp [renL, AV.ren, RcC_ren]) (by simp [AV.ren, renL_ints]))) ?_
    refine ro rfl rfl (OpOk.step (by exact ok_append_ints (k := .u8) (xs := joinR k (l.take i)) (ys := putR x k) rfl ti_Luint8 rfl ti_uint8 rfl (by decide) rfl ti_Luint8 (by simp) rfl rfl rfl rfl rfl rfl rfl rfl rfl (by simp; omega))) ?_
    refine ro rfl rfl (OpOk.step (ok_move (.inr rfl))) ?_
    refine ro_nil ?_
    refine keepK hK7 [0, 5, 8, 9, 10] (by dsimp) (by dsimp) ?_
    refine T.region ?_ -- region 6
    refine ro rfl rfl (OpOk.step (ok_add64 rfl ti_int rfl rfl (by omega) (by omega))) ?_
    refine ro rfl rfl (OpOk.step (ok_move (.inl rfl))) ?_
    refine ro_nil ?_
    exact ⟨i + 1, by omega, by omega, TEnt.fin [2] (by decide) (by simp) (by rw [joinR_snoc hx]; simp [normH, hget, Blk.ren, renL_ints]) ⟨rfl, by rw [joinR_snoc hx]; rfl, by simp [AV.ren, Rcs_ren], rfl, rfl, trivial⟩⟩
  · (try simp only [decide_eq_true_eq, decide_eq_false_iff_not, beq_iff_eq, beq_eq_false_iff_ne, bne_iff_ne, bne_eq_false_iff_eq, ne_eq, Bool.not_eq_true', Bool.not_eq_false'] at hc)
    have hil : i = l.length := by omega
    subst hil
    rw [List.take_length]
    refine T.exit ?_
    refine keepK hK3 [5] (by dsimp) (by dsimp) ?_
    refine T.seq fun K9 hK9 => ?_
    refine T.region ?_ -- region 7
    refine ro rfl rfl (OpOk.step (ok_move (.inl rfl))) ?_
    refine ro rfl rfl (OpOk.step (ok_move (.inr rfl))) ?_
    refine ro_nil ?_
    refine keepK hK9 [4] (by dsimp) (by dsimp) ?_
    refine T.ret (hQ _ _ _ rfl ?_).1 -- ret 1
    exact TEnt.fin [0] (by decide) (by simp) (by simp [normH, hget, Blk.ren, renL_ints]) ⟨rfl, trivial⟩
theorem mk_le {m k : Int} (hm : 0 ≤ m) (hk : 1 ≤ k) : m ≤ m * k := by
  have := Int.mul_le_mul_of_nonneg_left hk hm
  simpa using this
theorem getR_fine {l : List Int} {k : Int} (h : (getR l k).2.2 = 0) : (1 ≤ k ∧ k ≤ 4096) ∧ 1 ≤ (getR l k).2.1 ∧ (getR l k).2.1 * k ≤ l.length ∧ (getR l k).2.1 ≤ l.length := by
  by_cases hk : ¬ (1 ≤ k ∧ k ≤ 4096)
  · rw [getR_1 hk] at h; cases h
  have hk : 1 ≤ k ∧ k ≤ 4096 := by omega
  by_cases h2 : l.length < 16
  · rw [getR_2 hk h2] at h; cases h
  by_cases h3 : (gQ1 l).2.1 ≠ 0
  · rw [getR_3 hk h2 h3] at h; cases h
  by_cases h4 : gM l k * k > l.length
  · rw [getR_4 hk h2 h3 h4] at h; cases h
  by_cases h5 : (gQ1 l).2.2 ≠ crcV (gP l)
  · rw [getR_5 hk h2 h3 h4 h5] at h; cases h
  by_cases h6 : ¬ (parOk (gP l) ∧ zeroB (gT l k) = true)
  · rw [getR_6 hk h2 h3 h4 h5 h6] at h; cases h
  have h6 : parOk (gP l) ∧ zeroB (gT l k) = true := Decidable.not_not.1 h6
  rw [getR_7 hk h2 h3 h4 h5 h6]
  have hn := gN_bd (l := l)
  have hm := gM_bd (l := l) hk
  have hle := mk_le hm.1 hk.1
  refine ⟨hk, ?_, by dsimp only; omega, by dsimp only; omega⟩
  dsimp only
  by_cases h0 : gM l k = 0
  · rw [h0] at hm; omega
  · omega
/-- Where so many records end, in blocks. -/
def atS (l : List Int) (k : Int) : Nat → Int
  | 0 => 0
  | n + 1 => atS l k n + (getR (l.drop (atS l k n * k).toNat) k).2.1
def gS (l : List Int) (k : Int) (n : Nat) : Rc × Int × Int := getR (l.drop (atS l k n * k).toNat) k
def recS (l : List Int) (k : Int) (n : Nat) : List Rc := (List.range n).map fun j => (gS l k j).1
theorem recS_succ (l : List Int) (k : Int) (n : Nat) : recS l k (n + 1) = recS l k n ++ [(gS l k n).1] := by simp [recS, List.range_succ]
theorem recS_len (l : List Int) (k : Int) (n : Nat) : (recS l k n).length = n := by simp [recS]
theorem atS_bd {l : List Int} {k : Int} : ∀ n, (∀ j, j < n → (gS l k j).2.2 = 0) → 0 ≤ atS l k n ∧ 0 ≤ atS l k n * k ∧ atS l k n * k ≤ l.length ∧ n ≤ atS l k n
  | 0, _ => by simp [atS]
  | n + 1, h => by
    obtain ⟨h1, h2, h3, h4⟩ := atS_bd n fun j hj => h j (by omega)
    have hf := getR_fine (h n (by omega))
    have hd : (l.drop (atS l k n * k).toNat).length = l.length - (atS l k n * k).toNat := List.length_drop
    have e : atS l k (n + 1) = atS l k n + (getR (l.drop (atS l k n * k).toNat) k).2.1 := rfl
    rw [e, Int.add_mul]
    have hmk := mk_le (m := (getR (l.drop (atS l k n * k).toNat) k).2.1) (by omega) hf.1.1
    rw [hd] at hf
    omega
theorem recAll_ok (l : List Int) (k : Int) (n : Nat) (hB : Bytes l) (hl : l.length ≤ 100000000) (h0 : ∀ j, j < n → (gS l k j).2.2 = 0) (h1 : (gS l k n).2.2 ≠ 0) : CSpec Try.prog 12 [] [.fz 1 (ints .u8 l), .int k] [] (.tup [.fz 10 (Rcs (recS l k n)), .int (atS l k n)]) := by
  refine CSpec.body Try.func12 rfl rfl rfl rfl rfl fun Q hQ => ?_
  refine T.seq fun K1 hK1 => ?_
  refine T.region ?_ -- region 0
  refine ro rfl rfl (OpOk.step (ok_move (.inr rfl))) ?_
  refine ro rfl rfl (OpOk.step (ok_move (.inr rfl))) ?_
  refine ro_nil ?_
  refine keepK hK1 [0, 1] (by dsimp) (by dsimp) ?_
  refine T.seq fun K2 hK2 => ?_
  refine T.region ?_ -- region 1
  refine ro rfl rfl (OpOk.step (ok_move (.inr rfl))) ?_
  refine ro_nil ?_
  refine keepK hK2 [0, 1, 6] (by dsimp) (by dsimp) ?_
  refine T.seq fun K3 hK3 => ?_
  refine T.region ?_ -- region 2
  refine ro rfl rfl (OpOk.step (ok_move (.inr rfl))) ?_
  refine ro_nil ?_
  refine keepK hK3 [0, 1, 6, 7] (by dsimp) (by dsimp) ?_
  refine T.seq fun K4 hK4 => ?_
  refine T.seq fun K5 hK5 => ?_
  refine T.region ?_ -- region 3
  refine ro rfl rfl (OpOk.step (ok_move (.inl rfl))) ?_
  refine ro rfl rfl (ok_call rfl rfl rfl ((fits_ok k).plain rfl rfl)) ?_
  refine ro rfl rfl (OpOk.step (ok_unOp rfl rfl)) ?_
  refine ro_nil ?_
  refine keepK hK5 [0, 1, 6, 7, 13] (by dsimp) (by dsimp) ?_
  refine T.cond rfl (fun hc => ?_) (fun hc => ?_) -- cond 1
  · (try simp only [decide_eq_true_eq, decide_eq_false_iff_not, beq_iff_eq, beq_eq_false_iff_ne, bne_iff_ne, bne_eq_false_iff_eq, ne_eq, Bool.not_eq_true', Bool.not_eq_false'] at hc)
    have hn0 : n = 0 := by
      rcases Nat.eq_zero_or_pos n with h | h
      · exact h
      · have := (getR_fine (h0 0 h)).1
        exfalso
        simp at hc
        omega
    subst hn0
    refine T.seq fun K6 hK6 => ?_
    refine T.region ?_ -- region 4
    refine ro rfl rfl (OpOk.step (ok_move (.inr rfl))) ?_
    refine ro rfl rfl (OpOk.step (ok_move (.inr rfl))) ?_
    refine ro_nil ?_
    refine keepK hK6 [4, 5] (by dsimp) (by dsimp) ?_
    refine T.ret (hQ _ _ _ rfl ?_).1 -- ret 1
    exact by first | exact (TEnt.put1 0 (x' := .tup [.fz 10 (Rcs (recS l k 0)), .int 0]) (by show Ent _ (.tup [.v (.slice none 0 0), .int _]) _; exact Ent.tup (EntL.cons (Ent.nil 10) (EntL.refl _)))).trans (TEnt.fin [] (by decide) (by simp) rfl ⟨by simp [AV.ren, renL, Rcs_ren]; rfl, trivial⟩) | exact (TEnt.freeze 0 rfl).trans ((TEnt.put1 0 (x' := .tup [.fz 10 (Rcs (recS l k i)), .int (atS l k i)]) (by show Ent _ (.tup [.sl 0 0 _, .int _]) _; exact Ent.tup (EntL.cons (Ent.sl0 (b := ⟨10, false, Rcs (recS l k i)⟩) rfl rfl (Rcs_len _)) (EntL.refl _)))).trans (TEnt.fin [] (by decide) (by simp) rfl ⟨by simp [AV.ren, renL, Rcs_ren], trivial⟩))
  · (try simp only [decide_eq_true_eq, decide_eq_false_iff_not, beq_iff_eq, beq_eq_false_iff_ne, bne_iff_ne, bne_eq_false_iff_eq, ne_eq, Bool.not_eq_true', Bool.not_eq_false'] at hc)
    have hk : 1 ≤ k ∧ k ≤ 4096 := by simpa using hc
    refine T.skip ?_
    refine keepK hK4 [0, 1, 6, 7] (by dsimp) (by dsimp) ?_
    refine T.block ?_
    refine T.loopI (ι := Nat) (fun i => i ≤ n) (fun i => n - i) (fun i => ([(0, .fz 1 (ints .u8 l)), (1, .int k), (6, .sl 0 0 (recS l k i).length), (7, .int (atS l k i))], [some ⟨10, true, Rcs (recS l k i)⟩])) 0 (Nat.zero_le _) ((TEnt.empty 6 10 (by decide) (.inr rfl)).trans (TEnt.toH rfl ⟨rfl, rfl, rfl, rfl, trivial⟩)) (fun i hi => ?_) -- loop 1
    obtain ⟨b1, b2, b3, b4⟩ := atS_bd (l := l) (k := k) i fun j hj => h0 j (by omega)
    have hdl : (l.drop (atS l k i * k).toNat).length ≤ l.length := by simp
    refine T.block ?_
    refine T.seq fun K7 hK7 => ?_
    refine T.region ?_ -- region 5
    refine ro rfl rfl (OpOk.step (ok_move (.inl rfl))) ?_
    refine ro rfl rfl (OpOk.step (ok_move (.inl rfl))) ?_
    refine ro rfl rfl (OpOk.step (ok_move (.inl rfl))) ?_
    refine ro rfl rfl (OpOk.step (ok_mul64 rfl ti_int rfl rfl (by omega) (by omega))) ?_
    refine ro rfl rfl (OpOk.step ((ok_slice rfl ti_Luint8 (.inl ⟨_, _, rfl, ti_uint8, rfl⟩) (zl := some (atS l k i * k)) (zh := none) rfl rfl rfl (r := .fz 1 (ints .u8 (l.drop (atS l k i * k).toNat))) (by
  simp [sliceA, b2, b3, ints, List.map_drop]
  rw [List.take_of_length_le (by simp)])))) ?_
    refine ro rfl rfl (OpOk.step (ok_move (.inl rfl))) ?_
    refine ro rfl rfl (ok_call rfl rfl rfl (((get_ok (l.drop (atS l k i * k).toNat) k (hB.drop _) (by omega)).plain (by simp [renL, AV.ren, renL_ints]) (by simp [AV.ren, renL, RcC_ren])).eq (x' := .tup [.agg (RcC (gS l k i).1), .int (gS l k i).2.1, .int (gS l k i).2.2]) rfl rfl)) ?_
    refine ro rfl rfl (OpOk.step (ok_move (.inl rfl))) ?_
    refine ro rfl rfl (OpOk.step (ok_extract rfl rfl rfl)) ?_
    refine ro rfl rfl (OpOk.step (ok_extract rfl rfl rfl)) ?_
    refine ro rfl rfl (OpOk.step (ok_extract rfl rfl rfl)) ?_
    refine ro rfl rfl (OpOk.step (ok_alloc rfl ti_api_Rec rfl (by decide))) ?_
    refine ro rfl rfl (OpOk.step (ok_store rfl ti_api_Rec (by decide) rfl rfl rfl rfl rfl (by first | exact Nat.le_of_ble_eq_true rfl | simp) (by first | exact .inl ⟨rfl, rfl⟩ | exact .inr rfl))) ?_
    refine ro rfl rfl (OpOk.step (ok_move (.inr rfl))) ?_
    refine ro rfl rfl (OpOk.step (ok_move (.inr rfl))) ?_
    refine ro_nil ?_
    refine keepK hK7 [0, 1, 6, 7, 8, 9, 10] (by dsimp) (by dsimp) ?_
    refine T.seq fun K8 hK8 => ?_
    refine T.seq fun K9 hK9 => ?_
    refine T.region ?_ -- region 6
    refine ro rfl rfl (OpOk.step (ok_move (.inl rfl))) ?_
    refine ro rfl rfl (OpOk.step (ok_binOp rfl ti_api_Errno rfl)) ?_
    refine ro_nil ?_
    refine keepK hK9 [0, 1, 6, 7, 8, 9, 26] (by dsimp) (by dsimp) ?_
    refine T.cond rfl (fun hc => ?_) (fun hc => ?_) -- cond 2
    · (try simp only [decide_eq_true_eq, decide_eq_false_iff_not, beq_iff_eq, beq_eq_false_iff_ne, bne_iff_ne, bne_eq_false_iff_eq, ne_eq, Bool.not_eq_true', Bool.not_eq_false'] at hc)
      have hin : i = n := by
        rcases Nat.lt_or_ge i n with h | h
        · exact absurd (h0 i h) (by simpa using hc)
        · omega
      subst hin
      refine T.seq fun K10 hK10 => ?_
      refine T.region ?_ -- region 7
      refine ro rfl rfl (OpOk.step (ok_move (.inl rfl))) ?_
      refine ro rfl rfl (OpOk.step (ok_move (.inl rfl))) ?_
      refine ro rfl rfl (OpOk.step (ok_move (.inr rfl))) ?_
      refine ro rfl rfl (OpOk.step (ok_move (.inr rfl))) ?_
      refine ro_nil ?_
      refine keepK hK10 [4, 5] (by dsimp) (by dsimp) ?_
      refine T.ret (hQ _ _ _ rfl ?_).1 -- ret 2
      exact by first | exact (TEnt.put1 0 (x' := .tup [.fz 10 (Rcs (recS l k 0)), .int 0]) (by show Ent _ (.tup [.v (.slice none 0 0), .int _]) _; exact Ent.tup (EntL.cons (Ent.nil 10) (EntL.refl _)))).trans (TEnt.fin [] (by decide) (by simp) rfl ⟨by simp [AV.ren, renL, Rcs_ren]; rfl, trivial⟩) | exact (TEnt.freeze 0 rfl).trans ((TEnt.put1 0 (x' := .tup [.fz 10 (Rcs (recS l k i)), .int (atS l k i)]) (by show Ent _ (.tup [.sl 0 0 _, .int _]) _; exact Ent.tup (EntL.cons (Ent.sl0 (b := ⟨10, false, Rcs (recS l k i)⟩) rfl rfl (Rcs_len _)) (EntL.refl _)))).trans (TEnt.fin [] (by decide) (by simp) rfl ⟨by simp [AV.ren, renL, Rcs_ren], trivial⟩))
    · (try simp only [decide_eq_true_eq, decide_eq_false_iff_not, beq_iff_eq, beq_eq_false_iff_ne, bne_iff_ne, bne_eq_false_iff_eq, ne_eq, Bool.not_eq_true', Bool.not_eq_false'] at hc)
      have hc0 : (gS l k i).2.2 = 0 := by simpa using hc
      have hin : i < n := by
        rcases Nat.lt_or_ge i n with h | h
        · exact h
        · obtain rfl : i = n := by omega
          exact absurd hc0 h1
      have hf : 1 ≤ (gS l k i).2.1 ∧ (gS l k i).2.1 ≤ l.length := by
        have := getR_fine hc0
        exact ⟨this.2.1, by have := this.2.2.2; show (getR _ k).2.1 ≤ _; omega⟩
      have hal := mk_le b1 hk.1
      have hrl := recS_len l k i
      refine T.skip ?_
      refine keepK hK8 [0, 1, 6, 7, 8, 9] (by dsimp) (by dsimp) ?_
      refine T.region ?_ -- region 8
      refine ro rfl rfl (OpOk.step (ok_move (.inl rfl))) ?_
      refine ro rfl rfl (OpOk.step (ok_load rfl ti_api_Rec rfl rfl)) ?_
      refine ro rfl rfl (OpOk.step ((ok_buildSlice (n := 1) (ps := #[(0, .tmp 30)]) rfl ti_Lapi_Rec rfl ti_api_Rec (by decide) rfl rfl (by decide) rfl rfl rfl).eq (x' := .sl 2 0 1) (H'' := [some ⟨10, true, Rcs (recS l k i)⟩, some (RcB (gS l k i).1), some ⟨10, true, [.agg (RcC (gS l k i).1)]⟩]) rfl rfl)) ?_
      refine ro rfl rfl (OpOk.step ((ok_append_sl rfl ti_Lapi_Rec rfl ti_api_Rec (by decide) (by decide) rfl ti_Lapi_Rec (by simp) rfl (.inl rfl) rfl rfl rfl rfl (by simp [Rcs_len]) (by simp; omega)).eq (x' := .sl 3 0 (recS l k (i + 1)).length) (H'' := [none, some (RcB (gS l k i).1), some ⟨10, true, [.agg (RcC (gS l k i).1)]⟩, some ⟨10, true, Rcs (recS l k (i + 1))⟩]) (by simp [recS_len]) (by simp [recS_succ, Rcs]))) ?_
      refine ro rfl rfl (OpOk.step (ok_move (.inl rfl))) ?_
      refine ro rfl rfl (OpOk.step (ok_move (.inl rfl))) ?_
      refine ro rfl rfl (OpOk.step (ok_add64 rfl ti_int rfl rfl (by omega) (by omega))) ?_
      refine ro rfl rfl (OpOk.step (ok_move (.inr rfl))) ?_
      refine ro rfl rfl (OpOk.step (ok_move (.inr rfl))) ?_
      refine ro_nil ?_
      exact ⟨i + 1, by omega, by omega, TEnt.fin [3] (by decide) (by simp) (by simp [normH, hget, Blk.ren, Rcs_ren]) ⟨by simp [AV.ren, renL_ints], rfl, rfl, rfl, trivial⟩⟩
def errS (l : List Int) (k : Int) (j : Nat) : Int := (gS l k j).2.2
/-- So many records stand one behind the other, and then none. -/
def Cnt (l : List Int) (k : Int) (n : Nat) : Prop := (∀ j, j < n → (gS l k j).2.2 = 0) ∧ (gS l k n).2.2 ≠ 0
theorem getR_16 {l : List Int} {k : Int} (h : (getR l k).2.2 = 0) : 16 ≤ (getR l k).2.1 * k := by
  by_cases hk : ¬ (1 ≤ k ∧ k ≤ 4096)
  · rw [getR_1 hk] at h; cases h
  have hk : 1 ≤ k ∧ k ≤ 4096 := by omega
  by_cases h2 : l.length < 16
  · rw [getR_2 hk h2] at h; cases h
  by_cases h3 : (gQ1 l).2.1 ≠ 0
  · rw [getR_3 hk h2 h3] at h; cases h
  by_cases h4 : gM l k * k > l.length
  · rw [getR_4 hk h2 h3 h4] at h; cases h
  by_cases h5 : (gQ1 l).2.2 ≠ crcV (gP l)
  · rw [getR_5 hk h2 h3 h4 h5] at h; cases h
  by_cases h6 : ¬ (parOk (gP l) ∧ zeroB (gT l k) = true)
  · rw [getR_6 hk h2 h3 h4 h5 h6] at h; cases h
  have h6 : parOk (gP l) ∧ zeroB (gT l k) = true := Decidable.not_not.1 h6
  rw [getR_7 hk h2 h3 h4 h5 h6]
  have hn := gN_bd (l := l)
  have hm := gM_bd (l := l) hk
  dsimp only
  omega
theorem atS_16 {l : List Int} {k : Int} : ∀ n : Nat, (∀ j, j < n → (gS l k j).2.2 = 0) → (16 * n : Int) ≤ atS l k n * k
  | 0, _ => by simp [atS]
  | n + 1, h => by
    have h1 := atS_16 n fun j hj => h j (by omega)
    have h2 : 16 ≤ (getR (l.drop (atS l k n * k).toNat) k).2.1 * k := getR_16 (h n (by omega))
    have e : atS l k (n + 1) = atS l k n + (getR (l.drop (atS l k n * k).toNat) k).2.1 := rfl
    rw [e, Int.add_mul]
    omega
theorem cnt_or (l : List Int) (k : Int) : ∀ N, (∀ j, j < N → (gS l k j).2.2 = 0) ∨ ∃ n, n < N ∧ Cnt l k n
  | 0 => .inl fun j hj => absurd hj (Nat.not_lt_zero _)
  | N + 1 => by
    rcases cnt_or l k N with h | ⟨n, h1, h2⟩
    · by_cases h0 : (gS l k N).2.2 = 0
      · refine .inl fun j hj => ?_
        rcases Nat.lt_or_ge j N with h' | h'
        · exact h j h'
        · obtain rfl : j = N := by omega
          exact h0
      · exact .inr ⟨N, by omega, h, h0⟩
    · exact .inr ⟨n, by omega, h2⟩
theorem cnt_more {l : List Int} {k : Int} (hl : l.length ≤ 300) : ∃ n, n ≤ 20 ∧ Cnt l k n := by
  rcases cnt_or l k 20 with h | ⟨n, h1, h2⟩
  · have h1 := atS_16 20 h
    have h2 := (atS_bd 20 h).2.2.1
    exfalso
    omega
  · exact ⟨n, by omega, h2⟩
theorem atS_shift {p l : List Int} {k m : Int} {x : Rc} (h : getR (p ++ l) k = (x, m, 0)) (hm : m * k = p.length) : ∀ n, (∀ j, j < n → (gS l k j).2.2 = 0) → atS (p ++ l) k (n + 1) = m + atS l k n ∧ (p ++ l).drop (atS (p ++ l) k (n + 1) * k).toNat = l.drop (atS l k n * k).toNat
  | 0, _ => by
    have e : atS (p ++ l) k 1 = m := by
      show 0 + (getR ((p ++ l).drop (0 * k).toNat) k).2.1 = m
      simp [h]
    rw [e, hm]
    simp [atS]
  | n + 1, hg => by
    obtain ⟨h1, h2⟩ := atS_shift h hm n fun j hj => hg j (by omega)
    have hb := atS_bd (l := l) (k := k) (n + 1) hg
    have e : atS (p ++ l) k (n + 1 + 1) = m + atS l k (n + 1) := by
      show atS (p ++ l) k (n + 1) + (getR ((p ++ l).drop (atS (p ++ l) k (n + 1) * k).toNat) k).2.1 = m + (atS l k n + (getR (l.drop (atS l k n * k).toNat) k).2.1)
      rw [h2, h1]
      omega
    refine ⟨e, ?_⟩
    rw [e, Int.add_mul, hm]
    have : ((p.length : Int) + atS l k (n + 1) * k).toNat = p.length + (atS l k (n + 1) * k).toNat := by omega
    rw [this, ← List.drop_drop, List.drop_left]
theorem cnt_shift {p l : List Int} {k m : Int} {x : Rc} {n : Nat} (h : getR (p ++ l) k = (x, m, 0)) (hm : m * k = p.length) (hn : Cnt l k n) : Cnt (p ++ l) k (n + 1) := by
  have hs : ∀ j, j ≤ n → gS (p ++ l) k (j + 1) = gS l k j := by
    intro j hj
    have := (atS_shift h hm j fun i hi => hn.1 i (by omega)).2
    unfold gS
    rw [this]
  refine ⟨fun j hj => ?_, by rw [hs n (Nat.le_refl _)]; exact hn.2⟩
  match j, hj with
  | 0, _ =>
    show (getR ((p ++ l).drop (0 * k).toNat) k).2.2 = 0
    simp [h]
  | j + 1, hj => rw [hs j (by omega)]; exact hn.1 j (by omega)
theorem cnt_join {k : Int} {more : List Int} (hm : more.length ≤ 300) : ∀ l : List Rc, ∃ n, n ≤ l.length + 20 ∧ Cnt (joinR k l ++ more) k n
  | [] => by
    obtain ⟨n, h1, h2⟩ := cnt_more (k := k) hm
    exact ⟨n, by simpa using h1, h2⟩
  | x :: l => by
    obtain ⟨n, h1, h2⟩ := cnt_join hm l
    by_cases hg : PR x ∧ 1 ≤ k ∧ k ≤ 4096
    · obtain ⟨hget, hmul⟩ := getR_put (more := joinR k l ++ more) hg.1 hg.2
      refine ⟨n + 1, by simp; omega, ?_⟩
      have := cnt_shift hget hmul h2
      rw [← List.append_assoc] at this
      exact this
    · refine ⟨n, by simp; omega, ?_⟩
      have e : joinR k (x :: l) = joinR k l := by
        show putR x k ++ joinR k l = _
        rw [putR_bad hg]
        rfl
      rw [e]
      exact h2
theorem join_ok (l : List Rc) (k : Int) (hB : ∀ x ∈ l, Bytes x.body) (hl : ∀ x ∈ l, x.body.length ≤ 140737488355328) (hn : l.length ≤ 100) : CSpec Try.prog 13 [] [.int k, .fz 10 (Rcs l)] [] (.fz 1 (ints .u8 (joinR k l))) := (join_new l k hB hl hn).frz' rfl
def strB (xs : List Int) : ByteArray := strOf (xs.map fun n => UInt8.ofNat n.toNat)
theorem strB_size (xs : List Int) : (strB xs).size = xs.length := by simp [strB, strOf, ByteArray.size]
theorem strB_append (a b : List Int) : strB (a ++ b) = strB a ++ strB b := by
  apply ByteArray.ext
  simp [strB, strOf, ByteArray.data_append]
theorem ok_addS {P : Program} {tm : TM} {H : Heap} {o : Oper} {t t' : TypeId} {p q : Operand} {i : TI} {a b : ByteArray} (ho : o.op = .binOp .add t p q t') (hi : tyI P t = some i) (hp : ev tm p = .v (.string a)) (hq : ev tm q = .v (.string b)) (h : a.size + b.size ≤ 9000000000) : OpOk P tm H o (.v (.string (a ++ b))) H := by
  refine ok_binOp ho hi ?_
  rw [hp, hq]
  show (binV .add i.desc (.string a) (.string b)).map AV.v = _
  have h1 : ¬ ((a.size + b.size : Nat) : Int) > IntKind.i64.max := by
    show ¬ _ > (9223372036854775807 : Int)
    omega
  simp only [binV]
  rw [if_neg h1]
  rfl
theorem bytesA_strB {xs : List Int} (h : Bytes xs) : bytesA (strB xs) = ints .u8 xs := by
  unfold bytesA strB strOf ints
  simp only [List.map_map]
  refine List.map_congr_left fun n hn => ?_
  have hb := h n hn
  have : ((UInt8.ofNat n.toNat).toNat : Int) = n := by
    rw [UInt8.toNat_ofNat']
    omega
  simp only [Function.comp]
  rw [this]
theorem joinR_bytes {k : Int} : ∀ {l : List Rc}, (∀ x ∈ l, Bytes x.body) → Bytes (joinR k l)
  | [], _ => Bytes.nil
  | x :: l, h => by
    refine Bytes.append ?_ (joinR_bytes fun y hy => h y (List.mem_cons_of_mem _ hy))
    unfold putR
    split
    · refine ((((enc_bytes _ _).append (enc_bytes _ _)).append (payR_bytes (h x List.mem_cons_self))).append ?_)
      intro y hy
      rw [List.eq_of_mem_replicate hy]
      decide
    · exact Bytes.nil
set_option maxHeartbeats 1000000 in
theorem recJoins_ok (l : List Rc) (k : Int) (more : List Int) (hB : ∀ x ∈ l, Bytes x.body) (hl : ∀ x ∈ l, x.body.length ≤ 140737488355328) (hn : l.length ≤ 140737488355328) (hM : Bytes more) (hml : more.length ≤ 140737488355328) : CSpec Try.prog 5 [] [.fz 10 (Rcs l), .int k, .fz 1 (ints .u8 more)] [] (.b true) := by
  refine CSpec.body Try.func5 rfl rfl rfl rfl rfl fun Q hQ => ?_
  refine T.seq fun K1 hK1 => ?_
  refine T.region ?_ -- region 0
  refine ro rfl rfl (OpOk.step (ok_moveb (c := false) (.inr rfl) rfl)) ?_
  refine ro_nil ?_
  refine keepK hK1 [0, 1, 2] (by dsimp) (by dsimp) ?_
  refine T.seq fun K2 hK2 => ?_
  refine T.seq fun K3 hK3 => ?_
  refine T.region ?_ -- region 1
  refine ro rfl rfl (OpOk.step (ok_move (.inl rfl))) ?_
  refine ro rfl rfl (OpOk.step (by exact ok_len' rfl rfl ti_Lapi_Rec rfl (Rcs_len l))) ?_
  refine ro rfl rfl (OpOk.step (ok_binOp rfl ti_int rfl)) ?_
  refine ro_case rfl rfl (OpOk.step (ok_moveb (.inl rfl) rfl)) (fun hb => ?_) (fun hb => ?_)
  · (try simp only [decide_eq_true_eq, decide_eq_false_iff_not, beq_iff_eq, beq_eq_false_iff_ne, bne_iff_ne, bne_eq_false_iff_eq, ne_eq, Bool.not_eq_true', Bool.not_eq_false'] at hb)
    refine ro_skip rfl rfl ?_
    refine ro_skip rfl rfl ?_
    refine ro_skip rfl rfl ?_
    refine ro rfl rfl (OpOk.step (ok_pickb (t := true) (d := true) rfl rfl rfl)) ?_
    refine ro_nil ?_
    refine keepK hK3 [0, 1, 2, 25] (by dsimp) (by dsimp) ?_
    refine T.cond_true rfl ?_
    refine T.seq fun K4 hK4 => ?_
    refine T.region ?_ -- region 2
    refine ro rfl rfl (ok_call rfl rfl rfl (live10_ok.plain rfl rfl)) ?_
    refine ro rfl rfl (OpOk.step (ok_move (.inr rfl))) ?_
    refine ro_nil ?_
    refine keepK hK4 [6] (by dsimp) (by dsimp) ?_
    refine T.ret (hQ _ _ _ rfl ?_).1 -- ret 1
    exact by first | (exfalso; omega) | exact TEnt.fin [] (by decide) (by simp) rfl ⟨rfl, trivial⟩
  · (try simp only [decide_eq_true_eq, decide_eq_false_iff_not, beq_iff_eq, beq_eq_false_iff_ne, bne_iff_ne, bne_eq_false_iff_eq, ne_eq, Bool.not_eq_true', Bool.not_eq_false'] at hb)
    refine ro rfl rfl (OpOk.step (ok_move (.inl rfl))) ?_
    refine ro rfl rfl (OpOk.step (ok_len' rfl rfl ti_Luint8 rfl (by first | exact ints_length _ _ | exact rowsA_length _ _ | rfl))) ?_
    refine ro rfl rfl (OpOk.step (ok_binOp rfl ti_int rfl)) ?_
    refine ro rfl rfl (OpOk.step (ok_pick rfl rfl)) ?_
    refine ro_nil ?_
    refine keepK hK3 [0, 1, 2, 25] (by dsimp) (by dsimp) ?_
    refine T.cond rfl (fun hc => ?_) (fun hc => ?_) -- cond 1
    · (try simp only [decide_eq_true_eq, decide_eq_false_iff_not, beq_iff_eq, beq_eq_false_iff_ne, bne_iff_ne, bne_eq_false_iff_eq, ne_eq, Bool.not_eq_true', Bool.not_eq_false'] at hc)
      refine T.seq fun K5 hK5 => ?_
      refine T.region ?_ -- region 2
      refine ro rfl rfl (ok_call rfl rfl rfl (live10_ok.plain rfl rfl)) ?_
      refine ro rfl rfl (OpOk.step (ok_move (.inr rfl))) ?_
      refine ro_nil ?_
      refine keepK hK5 [6] (by dsimp) (by dsimp) ?_
      refine T.ret (hQ _ _ _ rfl ?_).1 -- ret 2
      exact by first | (exfalso; omega) | exact TEnt.fin [] (by decide) (by simp) rfl ⟨rfl, trivial⟩
    · (try simp only [decide_eq_true_eq, decide_eq_false_iff_not, beq_iff_eq, beq_eq_false_iff_ne, bne_iff_ne, bne_eq_false_iff_eq, ne_eq, Bool.not_eq_true', Bool.not_eq_false'] at hc)
      have hn10 : l.length ≤ 10 ∧ more.length ≤ 300 := by omega
      have hjl := joinR_len k l
      have hJB := joinR_bytes (k := k) hB
      obtain ⟨n, hn20, hcnt⟩ := cnt_join (k := k) hn10.2 l
      obtain ⟨b, hb⟩ : ∃ b, joinR k l ++ more = b := ⟨_, rfl⟩
      rw [hb] at hcnt
      have hbB : Bytes b := hb ▸ hJB.append hM
      have hbl : b.length ≤ 20000300 := by rw [← hb, List.length_append]; omega
      have hk0 : k < 1 → n = 0 := by
        intro h
        rcases Nat.eq_zero_or_pos n with h' | h'
        · exact h'
        · have := (getR_fine (hcnt.1 0 h')).1
          omega
      refine T.skip ?_
      refine keepK hK2 [0, 1, 2] (by dsimp) (by dsimp) ?_
      refine T.seq fun K6 hK6 => ?_
      refine T.region ?_ -- region 3
      refine ro rfl rfl (OpOk.step (ok_move (.inr rfl))) ?_
      refine ro_nil ?_
      refine keepK hK6 [0, 1, 2, 7] (by dsimp) (by dsimp) ?_
      refine T.seq fun K7 hK7 => ?_
      refine T.region ?_ -- region 4
      refine ro rfl rfl (OpOk.step (ok_move (.inr rfl))) ?_
      refine ro rfl rfl (OpOk.step (ok_move (.inr rfl))) ?_
      refine ro_nil ?_
      refine keepK hK7 [0, 1, 2, 7, 8, 9] (by dsimp) (by dsimp) ?_
      refine T.seq fun K8 hK8 => ?_
      refine T.seq fun K9 hK9 => ?_
      refine T.region ?_ -- region 5
      refine ro rfl rfl (OpOk.step (ok_move (.inr rfl))) ?_
      refine ro_nil ?_
      refine keepK hK9 [0, 1, 2, 7, 8, 9, 10] (by dsimp) (by dsimp) ?_
      refine T.block ?_
      refine T.loopI (ι := Nat) (fun i => i ≤ l.length) (fun i => l.length - i) (fun i => ([(0, .fz 10 (Rcs l)), (1, .int k), (2, .fz 1 (ints .u8 more)), (7, .v (.string (strB (joinR k (l.take i))))), (8, .int 0), (9, .int 0), (10, .int i)], [])) 0 (Nat.zero_le _) (TEnt.toH rfl ⟨rfl, rfl, rfl, rfl, rfl, rfl, rfl, trivial⟩) (fun i hi => ?_) -- loop 1
      refine T.seq fun K10 hK10 => ?_
      refine T.seq fun K11 hK11 => ?_
      refine T.region ?_ -- region 6
      refine ro rfl rfl (OpOk.step (ok_move (.inl rfl))) ?_
      refine ro rfl rfl (OpOk.step (ok_move (.inl rfl))) ?_
      refine ro rfl rfl (OpOk.step (by exact ok_len' rfl rfl ti_Lapi_Rec rfl (Rcs_len l))) ?_
      refine ro rfl rfl (OpOk.step (ok_binOp rfl ti_int rfl)) ?_
      refine ro_nil ?_
      refine keepK hK11 [0, 1, 2, 7, 8, 9, 10, 30] (by dsimp) (by dsimp) ?_
      refine T.cond rfl (fun hc => ?_) (fun hc => ?_) -- cond 2
      · (try simp only [decide_eq_true_eq, decide_eq_false_iff_not, beq_iff_eq, beq_eq_false_iff_ne, bne_iff_ne, bne_eq_false_iff_eq, ne_eq, Bool.not_eq_true', Bool.not_eq_false'] at hc)
        obtain ⟨x, hx⟩ : ∃ x, l[i]? = some x := ⟨_, List.getElem?_eq_getElem (by omega)⟩
        have hxm := List.mem_of_getElem? hx
        have hti : (l.take i).length = i := by rw [List.length_take]; omega
        have hji := joinR_len k (l.take i)
        have hpl := putR_len x k
        refine T.skip ?_
        refine keepK hK10 [0, 1, 2, 7, 8, 9, 10] (by dsimp) (by dsimp) ?_
        refine T.seq fun K12 hK12 => ?_
        refine T.block ?_
        refine T.seq fun K13 hK13 => ?_
        refine T.seq fun K14 hK14 => ?_
        refine T.region ?_ -- region 8
        refine ro rfl rfl (OpOk.step (ok_move (.inl rfl))) ?_
        refine ro rfl rfl (OpOk.step (ok_move (.inl rfl))) ?_
        refine ro rfl rfl (OpOk.step (by exact ok_index_fz rfl ti_Lapi_Rec rfl ti_api_Rec rfl rfl rfl (by omega) (Rcs_get hx) rfl)) ?_
        refine ro rfl rfl (OpOk.step (ok_fieldAddr rfl ti_api_Rec rfl rfl ti_Luint8 (by decide) rfl)) ?_
        refine ro rfl rfl (OpOk.step (ok_load rfl ti_Luint8 rfl rfl)) ?_
        refine ro rfl rfl (OpOk.step (ok_len' rfl rfl ti_Luint8 rfl (by first | exact ints_length _ _ | exact rowsA_length _ _ | rfl))) ?_
        refine ro rfl rfl (OpOk.step (ok_binOp rfl ti_int rfl)) ?_
        refine ro_nil ?_
        refine keepK hK14 [0, 1, 2, 7, 8, 9, 10, 39] (by dsimp) (by dsimp) ?_
        refine T.cond rfl (fun hc => ?_) (fun hc => ?_) -- cond 3
        · (try simp only [decide_eq_true_eq, decide_eq_false_iff_not, beq_iff_eq, beq_eq_false_iff_ne, bne_iff_ne, bne_eq_false_iff_eq, ne_eq, Bool.not_eq_true', Bool.not_eq_false'] at hc)
          refine T.seq fun K15 hK15 => ?_
          refine T.region ?_ -- region 9
          refine ro rfl rfl (ok_call rfl rfl rfl (live10_ok.plain rfl rfl)) ?_
          refine ro rfl rfl (OpOk.step (ok_move (.inr rfl))) ?_
          refine ro_nil ?_
          refine keepK hK15 [6] (by dsimp) (by dsimp) ?_
          refine T.ret (hQ _ _ _ rfl ?_).1 -- ret 3
          exact by first | (exfalso; omega) | exact TEnt.fin [] (by decide) (by simp) rfl ⟨rfl, trivial⟩
        · (try simp only [decide_eq_true_eq, decide_eq_false_iff_not, beq_iff_eq, beq_eq_false_iff_ne, bne_iff_ne, bne_eq_false_iff_eq, ne_eq, Bool.not_eq_true', Bool.not_eq_false'] at hc)
          refine T.skip ?_
          refine keepK hK13 [0, 1, 2, 7, 8, 9, 10] (by dsimp) (by dsimp) ?_
          refine T.region ?_ -- region 10
          refine ro rfl rfl (OpOk.step (ok_move (.inl rfl))) ?_
          refine ro rfl rfl (OpOk.step (ok_move (.inl rfl))) ?_
          refine ro rfl rfl (OpOk.step (ok_move (.inl rfl))) ?_
          refine ro rfl rfl (OpOk.step (by exact ok_index_fz rfl ti_Lapi_Rec rfl ti_api_Rec rfl rfl rfl (by omega) (Rcs_get hx) rfl)) ?_
          refine ro rfl rfl (OpOk.step (ok_load rfl ti_api_Rec rfl rfl)) ?_
          refine ro rfl rfl (OpOk.step (ok_move (.inl rfl))) ?_
          refine ro rfl rfl (ok_call rfl rfl rfl ((rrput_ok x k (hB x hxm) (hl x hxm)).plain (by show renL (pos []) [.agg (RcC x), .int k] = _; simp [renL, AV.ren, RcC_ren]) (by simp [AV.ren, renL_ints]))) ?_
          refine ro rfl rfl (OpOk.step ((ok_conv_str rfl ti_Luint8 ti_string rfl ti_uint8 rfl rfl rfl rfl (bytesOf_ints _)).eq (x' := .v (.string (strB (putR x k)))) rfl rfl)) ?_
          refine ro rfl rfl (OpOk.step ((ok_addS rfl ti_string rfl rfl (by rw [strB_size, strB_size]; omega)).eq (x' := .v (.string (strB (joinR k (l.take (i + 1)))))) (by rw [joinR_snoc hx, strB_append]) rfl)) ?_
          refine ro rfl rfl (OpOk.step (ok_move (.inr rfl))) ?_
          refine ro_nil ?_
          refine keepK hK12 [0, 1, 2, 7, 8, 9, 10] (by dsimp) (by dsimp) ?_
          refine T.region ?_ -- region 7
          refine ro rfl rfl (OpOk.step (ok_move (.inl rfl))) ?_
          refine ro rfl rfl (OpOk.step (ok_add64 rfl ti_int rfl rfl (by omega) (by omega))) ?_
          refine ro rfl rfl (OpOk.step (ok_move (.inr rfl))) ?_
          refine ro_nil ?_
          exact ⟨i + 1, by omega, by omega, TEnt.fin [] (by decide) (by simp) rfl ⟨by simp [AV.ren, Rcs_ren], rfl, by simp [AV.ren, renL_ints], rfl, rfl, rfl, rfl, trivial⟩⟩
      · (try simp only [decide_eq_true_eq, decide_eq_false_iff_not, beq_iff_eq, beq_eq_false_iff_ne, bne_iff_ne, bne_eq_false_iff_eq, ne_eq, Bool.not_eq_true', Bool.not_eq_false'] at hc)
        have hil : i = l.length := by omega
        subst hil
        rw [List.take_length]
        refine T.exit ?_
        refine keepK hK8 [0, 1, 2, 7, 8, 9] (by dsimp) (by dsimp) ?_
        refine T.seq fun K16 hK16 => ?_
        refine T.region ?_ -- region 11
        refine ro rfl rfl (OpOk.step (ok_move (.inl rfl))) ?_
        refine ro rfl rfl (OpOk.step ((ok_bytes rfl ti_string ti_Luint8 rfl ti_uint8 rfl rfl).eq (x' := .sl 0 0 (joinR k l).length) (H'' := [some ⟨1, true, ints .u8 (joinR k l)⟩]) (by rw [strB_size]; rfl) (by rw [bytesA_strB hJB]; rfl))) ?_
        refine ro rfl rfl (OpOk.step (ok_move (.inl rfl))) ?_
        refine ro rfl rfl (OpOk.step (((ok_append_ints (k := .u8) (xs := joinR k l) (ys := more) rfl ti_Luint8 rfl ti_uint8 rfl (by decide) rfl ti_Luint8 (by simp) rfl rfl rfl rfl rfl rfl rfl rfl rfl (by simp; omega)).frz rfl (by simp)).eq (x' := .fz 1 (ints .u8 b)) (H'' := [none, some ⟨1, false, ints .u8 b⟩]) (by rw [hb]) (by rw [hb]; rfl))) ?_
        refine ro rfl rfl (OpOk.step (ok_move (.inr rfl))) ?_
        refine ro_nil ?_
        refine keepK hK16 [0, 1, 7, 8, 9, 11] (by dsimp) (by dsimp) ?_
        refine T.seq fun K17 hK17 => ?_
        refine T.seq fun K18 hK18 => ?_
        refine T.region ?_ -- region 12
        refine ro rfl rfl (OpOk.step (ok_move (.inr rfl))) ?_
        refine ro_nil ?_
        refine keepK hK18 [0, 1, 7, 8, 9, 11, 12] (by dsimp) (by dsimp) ?_
        refine T.block ?_
        refine T.loopI (ι := Nat) (fun j => j ≤ n) (fun j => n - j) (fun j => ([(0, .fz 10 (Rcs l)), (1, .int k), (7, .v (.string (strB (joinR k l)))), (8, .int j), (9, .int (atS b k j)), (11, .fz 1 (ints .u8 b)), (12, .int j)], [])) 0 (Nat.zero_le _) (TEnt.fin [] (by decide) (by simp) rfl ⟨by simp [AV.ren, Rcs_ren], rfl, rfl, rfl, rfl, by simp [AV.ren, renL_ints], rfl, trivial⟩) (fun i hi => ?_) -- loop 2
        rename Nat => j
        obtain ⟨b1, b2, b3, b4⟩ := atS_bd (l := b) (k := k) j fun j' hj => hcnt.1 j' (by omega)
        have he : ¬ (gS b k j).2.2 = 0 → j = n := by
          intro h
          rcases Nat.lt_or_ge j n with h' | h'
          · exact absurd (hcnt.1 j h') h
          · omega
        have he2 : (gS b k j).2.2 = 0 → j < n := by
          intro h
          rcases Nat.lt_or_ge j n with h' | h'
          · exact h'
          · obtain rfl : j = n := by omega
            exact absurd h hcnt.2
        have hdl : (b.drop (atS b k j * k).toNat).length ≤ b.length := by simp
        refine T.seq fun K19 hK19 => ?_
        refine T.seq fun K20 hK20 => ?_
        refine T.region ?_ -- region 13
        refine ro rfl rfl (OpOk.step (ok_move (.inl rfl))) ?_
        refine ro rfl rfl (OpOk.step (ok_move (.inl rfl))) ?_
        refine ro rfl rfl (OpOk.step (by exact ok_len' rfl rfl ti_Lapi_Rec rfl (Rcs_len l))) ?_
        refine ro rfl rfl (OpOk.step (ok_add64 rfl ti_int rfl rfl (by omega) (by omega))) ?_
        refine ro rfl rfl (OpOk.step (ok_binOp rfl ti_int rfl)) ?_
        refine ro_case rfl rfl (OpOk.step (ok_moveb (.inl rfl) rfl)) (fun hb => ?_) (fun hb => ?_)
        · (try simp only [decide_eq_true_eq, decide_eq_false_iff_not, beq_iff_eq, beq_eq_false_iff_ne, bne_iff_ne, bne_eq_false_iff_eq, ne_eq, Bool.not_eq_true', Bool.not_eq_false'] at hb)
          refine ro rfl rfl (OpOk.step (ok_move (.inl rfl))) ?_
          refine ro rfl rfl (OpOk.step (ok_binOp rfl ti_int rfl)) ?_
          refine ro rfl rfl (OpOk.step (ok_pick rfl rfl)) ?_
          refine ro_nil ?_
          refine keepK hK20 [0, 1, 7, 8, 9, 11, 12, 62] (by dsimp) (by dsimp) ?_
          refine T.cond rfl (fun hc => ?_) (fun hc => ?_) -- cond 4
          · (try simp only [decide_eq_true_eq, decide_eq_false_iff_not, beq_iff_eq, beq_eq_false_iff_ne, bne_iff_ne, bne_eq_false_iff_eq, ne_eq, Bool.not_eq_true', Bool.not_eq_false'] at hc)
            refine T.skip ?_
            refine keepK hK19 [0, 1, 7, 8, 9, 11, 12] (by dsimp) (by dsimp) ?_
            refine T.seq fun K21 hK21 => ?_
            refine T.block ?_
            refine T.seq fun K22 hK22 => ?_
            refine T.region ?_ -- region 15
            refine ro rfl rfl (OpOk.step (ok_move (.inl rfl))) ?_
            refine ro rfl rfl (OpOk.step (ok_move (.inl rfl))) ?_
            refine ro rfl rfl (OpOk.step (ok_move (.inl rfl))) ?_
            refine ro rfl rfl (OpOk.step (ok_mul64 rfl ti_int rfl rfl (by omega) (by omega))) ?_
            refine ro rfl rfl (OpOk.step ((ok_slice rfl ti_Luint8 (.inl ⟨_, _, rfl, ti_uint8, rfl⟩) (zl := some (atS b k j * k)) (zh := none) rfl rfl rfl (r := .fz 1 (ints .u8 (b.drop (atS b k j * k).toNat))) (by
  simp [sliceA, b2, b3, ints, List.map_drop]
  rw [List.take_of_length_le (by simp)])))) ?_
            refine ro rfl rfl (OpOk.step (ok_move (.inl rfl))) ?_
            refine ro rfl rfl (ok_call rfl rfl rfl (((r10get_ok (b.drop (atS b k j * k).toNat) k (hbB.drop _) (by omega)).plain (by simp [renL, AV.ren, renL_ints]) (by simp [AV.ren, renL, RcC_ren])).eq (x' := .tup [.agg (RcC (gS b k j).1), .int (gS b k j).2.1, .int (gS b k j).2.2]) rfl rfl)) ?_
            refine ro rfl rfl (OpOk.step (ok_move (.inl rfl))) ?_
            refine ro rfl rfl (OpOk.step (ok_extract rfl rfl rfl)) ?_
            refine ro rfl rfl (OpOk.step (ok_extract rfl rfl rfl)) ?_
            refine ro rfl rfl (OpOk.step (ok_extract rfl rfl rfl)) ?_
            refine ro rfl rfl (OpOk.step (ok_alloc rfl ti_api_Rec rfl (by decide))) ?_
            refine ro rfl rfl (OpOk.step (ok_store rfl ti_api_Rec (by decide) rfl rfl rfl rfl rfl (by first | exact Nat.le_of_ble_eq_true rfl | simp) (by first | exact .inl ⟨rfl, rfl⟩ | exact .inr rfl))) ?_
            refine ro rfl rfl (OpOk.step (ok_move (.inr rfl))) ?_
            refine ro rfl rfl (OpOk.step (ok_move (.inr rfl))) ?_
            refine ro_nil ?_
            refine keepK hK22 [0, 1, 7, 8, 9, 11, 12, 14, 15] (by dsimp) (by dsimp) ?_
            refine T.seq fun K23 hK23 => ?_
            refine T.seq fun K24 hK24 => ?_
            refine T.region ?_ -- region 16
            refine ro rfl rfl (OpOk.step (ok_move (.inl rfl))) ?_
            refine ro rfl rfl (OpOk.step (ok_binOp rfl ti_int rfl)) ?_
            refine ro_nil ?_
            refine keepK hK24 [0, 1, 7, 8, 9, 11, 12, 14, 77] (by dsimp) (by dsimp) ?_
            refine T.cond rfl (fun hc => ?_) (fun hc => ?_) -- cond 5
            · (try simp only [decide_eq_true_eq, decide_eq_false_iff_not, beq_iff_eq, beq_eq_false_iff_ne, bne_iff_ne, bne_eq_false_iff_eq, ne_eq, Bool.not_eq_true', Bool.not_eq_false'] at hc)
              refine T.exit ?_
              refine keepK hK17 [0, 1, 7, 8, 9, 11] (by dsimp) (by dsimp) ?_
              refine T.seq fun K25 hK25 => ?_
              have hjn : j = n := by omega
              subst hjn
              refine T.region ?_ -- region 19
              refine ro rfl rfl (OpOk.step (ok_move (.inl rfl))) ?_
              refine ro rfl rfl (OpOk.step (ok_move (.inl rfl))) ?_
              refine ro rfl rfl (ok_call rfl rfl rfl ((recAll_ok b k _ hbB (by omega) hcnt.1 hcnt.2).plain (by simp [renL, AV.ren, renL_ints]) (by simp [AV.ren, renL, Rcs_ren]))) ?_
              refine ro rfl rfl (OpOk.step (ok_move (.inl rfl))) ?_
              refine ro rfl rfl (OpOk.step (ok_extract rfl rfl rfl)) ?_
              refine ro rfl rfl (OpOk.step (ok_extract rfl rfl rfl)) ?_
              refine ro rfl rfl (OpOk.step (ok_move (.inr rfl))) ?_
              refine ro rfl rfl (OpOk.step (ok_move (.inr rfl))) ?_
              refine ro_nil ?_
              refine keepK hK25 [0, 1, 7, 8, 9, 16, 17] (by dsimp) (by dsimp) ?_
              refine T.seq fun K26 hK26 => ?_
              refine T.seq fun K27 hK27 => ?_
              refine T.region ?_ -- region 20
              refine ro rfl rfl (OpOk.step (ok_move (.inl rfl))) ?_
              refine ro rfl rfl (OpOk.step (ok_move (.inl rfl))) ?_
              refine ro rfl rfl (ok_call rfl rfl rfl ((join_ok l k hB hl (by omega)).plain (by simp [renL, AV.ren, Rcs_ren]) (by simp [AV.ren, renL_ints]))) ?_
              refine ro rfl rfl (OpOk.step ((ok_conv_str rfl ti_Luint8 ti_string rfl ti_uint8 rfl rfl rfl rfl (bytesOf_ints _)).eq (x' := .v (.string (strB (joinR k l)))) rfl rfl)) ?_
              refine ro rfl rfl (OpOk.step (ok_move (.inl rfl))) ?_
              refine ro rfl rfl (OpOk.step (ok_binOp rfl ti_string rfl)) ?_
              refine ro rfl rfl (OpOk.step (OpOk.bool (d := false) (ok_moveb (.inl rfl) rfl) (by simp))) ?_
              refine ro rfl rfl (OpOk.step (ok_move (.inl rfl))) ?_
              refine ro rfl rfl (OpOk.step (by exact ok_len' rfl rfl ti_Lapi_Rec rfl ((Rcs_len _).trans (recS_len b k j)))) ?_
              refine ro rfl rfl (OpOk.step (ok_move (.inl rfl))) ?_
              refine ro rfl rfl (OpOk.step (by exact ok_len' rfl rfl ti_Lapi_Rec rfl (Rcs_len l))) ?_
              refine ro rfl rfl (OpOk.step (ok_add64 rfl ti_int rfl rfl (by omega) (by omega))) ?_
              refine ro rfl rfl (OpOk.step (ok_binOp rfl ti_int rfl)) ?_
              refine ro rfl rfl (OpOk.step (ok_pick rfl rfl)) ?_
              refine ro_nil ?_
              refine keepK hK27 [8, 9, 16, 17, 102] (by dsimp) (by dsimp) ?_
              refine T.cond rfl (fun hc => ?_) (fun hc => ?_) -- cond 6
              · (try simp only [decide_eq_true_eq, decide_eq_false_iff_not, beq_iff_eq, beq_eq_false_iff_ne, bne_iff_ne, bne_eq_false_iff_eq, ne_eq, Bool.not_eq_true', Bool.not_eq_false'] at hc)
                refine T.seq fun K28 hK28 => ?_
                refine T.region ?_ -- region 21
                refine ro rfl rfl (OpOk.step (ok_moveb (c := false) (.inr rfl) rfl)) ?_
                refine ro_nil ?_
                refine keepK hK28 [6] (by dsimp) (by dsimp) ?_
                refine T.ret (hQ _ _ _ rfl ?_).1 -- ret 4
                exact by first | (exfalso; omega) | exact TEnt.fin [] (by decide) (by simp) rfl ⟨rfl, trivial⟩
              · (try simp only [decide_eq_true_eq, decide_eq_false_iff_not, beq_iff_eq, beq_eq_false_iff_ne, bne_iff_ne, bne_eq_false_iff_eq, ne_eq, Bool.not_eq_true', Bool.not_eq_false'] at hc)
                refine T.skip ?_
                refine keepK hK26 [8, 9, 16, 17] (by dsimp) (by dsimp) ?_
                refine T.seq fun K29 hK29 => ?_
                refine T.region ?_ -- region 22
                refine ro rfl rfl (OpOk.step (ok_move (.inl rfl))) ?_
                refine ro rfl rfl (OpOk.step (by exact ok_len' rfl rfl ti_Lapi_Rec rfl ((Rcs_len _).trans (recS_len b k j)))) ?_
                refine ro rfl rfl (OpOk.step (ok_move (.inl rfl))) ?_
                refine ro rfl rfl (OpOk.step (ok_binOp rfl ti_int rfl)) ?_
                refine ro rfl rfl (OpOk.step (OpOk.bool (d := true) (ok_moveb (.inl rfl) rfl) (by simp))) ?_
                refine ro rfl rfl (OpOk.step (ok_move (.inl rfl))) ?_
                refine ro rfl rfl (OpOk.step (ok_move (.inl rfl))) ?_
                refine ro rfl rfl (OpOk.step (ok_binOp rfl ti_int rfl)) ?_
                refine ro rfl rfl (OpOk.step (ok_pick rfl rfl)) ?_
                refine ro rfl rfl (OpOk.step (OpOk.bool (d := true) (ok_moveb (.inl rfl) rfl) (by simp))) ?_
                refine ro rfl rfl (ok_call rfl rfl rfl (live10_ok.plain rfl rfl)) ?_
                refine ro rfl rfl (OpOk.step (ok_pick rfl rfl)) ?_
                refine ro rfl rfl (OpOk.step (ok_move (.inr rfl))) ?_
                refine ro_nil ?_
                refine keepK hK29 [6] (by dsimp) (by dsimp) ?_
                refine T.ret (hQ _ _ _ rfl ?_).1 -- ret 5
                exact by first | (exfalso; omega) | exact TEnt.fin [] (by decide) (by simp) rfl ⟨rfl, trivial⟩
            · (try simp only [decide_eq_true_eq, decide_eq_false_iff_not, beq_iff_eq, beq_eq_false_iff_ne, bne_iff_ne, bne_eq_false_iff_eq, ne_eq, Bool.not_eq_true', Bool.not_eq_false'] at hc)
              refine T.skip ?_
              refine keepK hK23 [0, 1, 7, 8, 9, 11, 12, 14] (by dsimp) (by dsimp) ?_
              refine T.seq fun K30 hK30 => ?_
              have hc0 : (gS b k j).2.2 = 0 := by omega
              have hjn : j < n := he2 hc0
              have hf : 1 ≤ (gS b k j).2.1 ∧ (gS b k j).2.1 ≤ b.length := by
                have := getR_fine hc0
                exact ⟨this.2.1, by have := this.2.2.2; show (getR _ k).2.1 ≤ _; omega⟩
              have hal := mk_le b1 (getR_fine hc0).1.1
              refine T.region ?_ -- region 17
              refine ro rfl rfl (OpOk.step (ok_move (.inl rfl))) ?_
              refine ro rfl rfl (OpOk.step (ok_add64 rfl ti_int rfl rfl (by omega) (by omega))) ?_
              refine ro rfl rfl (OpOk.step (ok_move (.inr rfl))) ?_
              refine ro_nil ?_
              refine keepK hK30 [0, 1, 7, 8, 9, 11, 12, 14] (by dsimp) (by dsimp) ?_
              refine T.region ?_ -- region 18
              refine ro rfl rfl (OpOk.step (ok_move (.inl rfl))) ?_
              refine ro rfl rfl (OpOk.step (ok_move (.inl rfl))) ?_
              refine ro rfl rfl (OpOk.step (ok_add64 rfl ti_int rfl rfl (by omega) (by omega))) ?_
              refine ro rfl rfl (OpOk.step (ok_move (.inr rfl))) ?_
              refine ro_nil ?_
              refine keepK hK21 [0, 1, 7, 8, 9, 11, 12] (by dsimp) (by dsimp) ?_
              refine T.region ?_ -- region 14
              refine ro rfl rfl (OpOk.step (ok_move (.inl rfl))) ?_
              refine ro rfl rfl (OpOk.step (ok_add64 rfl ti_int rfl rfl (by omega) (by omega))) ?_
              refine ro rfl rfl (OpOk.step (ok_move (.inr rfl))) ?_
              refine ro_nil ?_
              exact ⟨j + 1, by omega, by omega, TEnt.fin [] (by decide) (by simp) rfl ⟨by simp [AV.ren, Rcs_ren], rfl, rfl, rfl, rfl, by simp [AV.ren, renL_ints], rfl, trivial⟩⟩
          · (try simp only [decide_eq_true_eq, decide_eq_false_iff_not, beq_iff_eq, beq_eq_false_iff_ne, bne_iff_ne, bne_eq_false_iff_eq, ne_eq, Bool.not_eq_true', Bool.not_eq_false'] at hc)
            refine T.exit ?_
            refine keepK hK17 [0, 1, 7, 8, 9, 11] (by dsimp) (by dsimp) ?_
            refine T.seq fun K31 hK31 => ?_
            have hjn : j = n := by omega
            subst hjn
            refine T.region ?_ -- region 19
            refine ro rfl rfl (OpOk.step (ok_move (.inl rfl))) ?_
            refine ro rfl rfl (OpOk.step (ok_move (.inl rfl))) ?_
            refine ro rfl rfl (ok_call rfl rfl rfl ((recAll_ok b k _ hbB (by omega) hcnt.1 hcnt.2).plain (by simp [renL, AV.ren, renL_ints]) (by simp [AV.ren, renL, Rcs_ren]))) ?_
            refine ro rfl rfl (OpOk.step (ok_move (.inl rfl))) ?_
            refine ro rfl rfl (OpOk.step (ok_extract rfl rfl rfl)) ?_
            refine ro rfl rfl (OpOk.step (ok_extract rfl rfl rfl)) ?_
            refine ro rfl rfl (OpOk.step (ok_move (.inr rfl))) ?_
            refine ro rfl rfl (OpOk.step (ok_move (.inr rfl))) ?_
            refine ro_nil ?_
            refine keepK hK31 [0, 1, 7, 8, 9, 16, 17] (by dsimp) (by dsimp) ?_
            refine T.seq fun K32 hK32 => ?_
            refine T.seq fun K33 hK33 => ?_
            refine T.region ?_ -- region 20
            refine ro rfl rfl (OpOk.step (ok_move (.inl rfl))) ?_
            refine ro rfl rfl (OpOk.step (ok_move (.inl rfl))) ?_
            refine ro rfl rfl (ok_call rfl rfl rfl ((join_ok l k hB hl (by omega)).plain (by simp [renL, AV.ren, Rcs_ren]) (by simp [AV.ren, renL_ints]))) ?_
            refine ro rfl rfl (OpOk.step ((ok_conv_str rfl ti_Luint8 ti_string rfl ti_uint8 rfl rfl rfl rfl (bytesOf_ints _)).eq (x' := .v (.string (strB (joinR k l)))) rfl rfl)) ?_
            refine ro rfl rfl (OpOk.step (ok_move (.inl rfl))) ?_
            refine ro rfl rfl (OpOk.step (ok_binOp rfl ti_string rfl)) ?_
            refine ro rfl rfl (OpOk.step (OpOk.bool (d := false) (ok_moveb (.inl rfl) rfl) (by simp))) ?_
            refine ro rfl rfl (OpOk.step (ok_move (.inl rfl))) ?_
            refine ro rfl rfl (OpOk.step (by exact ok_len' rfl rfl ti_Lapi_Rec rfl ((Rcs_len _).trans (recS_len b k j)))) ?_
            refine ro rfl rfl (OpOk.step (ok_move (.inl rfl))) ?_
            refine ro rfl rfl (OpOk.step (by exact ok_len' rfl rfl ti_Lapi_Rec rfl (Rcs_len l))) ?_
            refine ro rfl rfl (OpOk.step (ok_add64 rfl ti_int rfl rfl (by omega) (by omega))) ?_
            refine ro rfl rfl (OpOk.step (ok_binOp rfl ti_int rfl)) ?_
            refine ro rfl rfl (OpOk.step (ok_pick rfl rfl)) ?_
            refine ro_nil ?_
            refine keepK hK33 [8, 9, 16, 17, 102] (by dsimp) (by dsimp) ?_
            refine T.cond rfl (fun hc => ?_) (fun hc => ?_) -- cond 7
            · (try simp only [decide_eq_true_eq, decide_eq_false_iff_not, beq_iff_eq, beq_eq_false_iff_ne, bne_iff_ne, bne_eq_false_iff_eq, ne_eq, Bool.not_eq_true', Bool.not_eq_false'] at hc)
              refine T.seq fun K34 hK34 => ?_
              refine T.region ?_ -- region 21
              refine ro rfl rfl (OpOk.step (ok_moveb (c := false) (.inr rfl) rfl)) ?_
              refine ro_nil ?_
              refine keepK hK34 [6] (by dsimp) (by dsimp) ?_
              refine T.ret (hQ _ _ _ rfl ?_).1 -- ret 6
              exact by first | (exfalso; omega) | exact TEnt.fin [] (by decide) (by simp) rfl ⟨rfl, trivial⟩
            · (try simp only [decide_eq_true_eq, decide_eq_false_iff_not, beq_iff_eq, beq_eq_false_iff_ne, bne_iff_ne, bne_eq_false_iff_eq, ne_eq, Bool.not_eq_true', Bool.not_eq_false'] at hc)
              refine T.skip ?_
              refine keepK hK32 [8, 9, 16, 17] (by dsimp) (by dsimp) ?_
              refine T.seq fun K35 hK35 => ?_
              refine T.region ?_ -- region 22
              refine ro rfl rfl (OpOk.step (ok_move (.inl rfl))) ?_
              refine ro rfl rfl (OpOk.step (by exact ok_len' rfl rfl ti_Lapi_Rec rfl ((Rcs_len _).trans (recS_len b k j)))) ?_
              refine ro rfl rfl (OpOk.step (ok_move (.inl rfl))) ?_
              refine ro rfl rfl (OpOk.step (ok_binOp rfl ti_int rfl)) ?_
              refine ro rfl rfl (OpOk.step (OpOk.bool (d := true) (ok_moveb (.inl rfl) rfl) (by simp))) ?_
              refine ro rfl rfl (OpOk.step (ok_move (.inl rfl))) ?_
              refine ro rfl rfl (OpOk.step (ok_move (.inl rfl))) ?_
              refine ro rfl rfl (OpOk.step (ok_binOp rfl ti_int rfl)) ?_
              refine ro rfl rfl (OpOk.step (ok_pick rfl rfl)) ?_
              refine ro rfl rfl (OpOk.step (OpOk.bool (d := true) (ok_moveb (.inl rfl) rfl) (by simp))) ?_
              refine ro rfl rfl (ok_call rfl rfl rfl (live10_ok.plain rfl rfl)) ?_
              refine ro rfl rfl (OpOk.step (ok_pick rfl rfl)) ?_
              refine ro rfl rfl (OpOk.step (ok_move (.inr rfl))) ?_
              refine ro_nil ?_
              refine keepK hK35 [6] (by dsimp) (by dsimp) ?_
              refine T.ret (hQ _ _ _ rfl ?_).1 -- ret 7
              exact by first | (exfalso; omega) | exact TEnt.fin [] (by decide) (by simp) rfl ⟨rfl, trivial⟩
        · (try simp only [decide_eq_true_eq, decide_eq_false_iff_not, beq_iff_eq, beq_eq_false_iff_ne, bne_iff_ne, bne_eq_false_iff_eq, ne_eq, Bool.not_eq_true', Bool.not_eq_false'] at hb)
          refine ro_skip rfl rfl ?_
          refine ro_skip rfl rfl ?_
          refine ro rfl rfl (OpOk.step (ok_pickb (t := false) (d := false) rfl rfl rfl)) ?_
          refine ro_nil ?_
          refine keepK hK20 [0, 1, 7, 8, 9, 11, 12, 62] (by dsimp) (by dsimp) ?_
          refine T.cond_false rfl ?_
          refine T.exit ?_
          refine keepK hK17 [0, 1, 7, 8, 9, 11] (by dsimp) (by dsimp) ?_
          refine T.seq fun K36 hK36 => ?_
          have hjn : j = n := by omega
          subst hjn
          refine T.region ?_ -- region 19
          refine ro rfl rfl (OpOk.step (ok_move (.inl rfl))) ?_
          refine ro rfl rfl (OpOk.step (ok_move (.inl rfl))) ?_
          refine ro rfl rfl (ok_call rfl rfl rfl ((recAll_ok b k _ hbB (by omega) hcnt.1 hcnt.2).plain (by simp [renL, AV.ren, renL_ints]) (by simp [AV.ren, renL, Rcs_ren]))) ?_
          refine ro rfl rfl (OpOk.step (ok_move (.inl rfl))) ?_
          refine ro rfl rfl (OpOk.step (ok_extract rfl rfl rfl)) ?_
          refine ro rfl rfl (OpOk.step (ok_extract rfl rfl rfl)) ?_
          refine ro rfl rfl (OpOk.step (ok_move (.inr rfl))) ?_
          refine ro rfl rfl (OpOk.step (ok_move (.inr rfl))) ?_
          refine ro_nil ?_
          refine keepK hK36 [0, 1, 7, 8, 9, 16, 17] (by dsimp) (by dsimp) ?_
          refine T.seq fun K37 hK37 => ?_
          refine T.seq fun K38 hK38 => ?_
          refine T.region ?_ -- region 20
          refine ro rfl rfl (OpOk.step (ok_move (.inl rfl))) ?_
          refine ro rfl rfl (OpOk.step (ok_move (.inl rfl))) ?_
          refine ro rfl rfl (ok_call rfl rfl rfl ((join_ok l k hB hl (by omega)).plain (by simp [renL, AV.ren, Rcs_ren]) (by simp [AV.ren, renL_ints]))) ?_
          refine ro rfl rfl (OpOk.step ((ok_conv_str rfl ti_Luint8 ti_string rfl ti_uint8 rfl rfl rfl rfl (bytesOf_ints _)).eq (x' := .v (.string (strB (joinR k l)))) rfl rfl)) ?_
          refine ro rfl rfl (OpOk.step (ok_move (.inl rfl))) ?_
          refine ro rfl rfl (OpOk.step (ok_binOp rfl ti_string rfl)) ?_
          refine ro rfl rfl (OpOk.step (OpOk.bool (d := false) (ok_moveb (.inl rfl) rfl) (by simp))) ?_
          refine ro rfl rfl (OpOk.step (ok_move (.inl rfl))) ?_
          refine ro rfl rfl (OpOk.step (by exact ok_len' rfl rfl ti_Lapi_Rec rfl ((Rcs_len _).trans (recS_len b k j)))) ?_
          refine ro rfl rfl (OpOk.step (ok_move (.inl rfl))) ?_
          refine ro rfl rfl (OpOk.step (by exact ok_len' rfl rfl ti_Lapi_Rec rfl (Rcs_len l))) ?_
          refine ro rfl rfl (OpOk.step (ok_add64 rfl ti_int rfl rfl (by omega) (by omega))) ?_
          refine ro rfl rfl (OpOk.step (ok_binOp rfl ti_int rfl)) ?_
          refine ro rfl rfl (OpOk.step (ok_pick rfl rfl)) ?_
          refine ro_nil ?_
          refine keepK hK38 [8, 9, 16, 17, 102] (by dsimp) (by dsimp) ?_
          refine T.cond rfl (fun hc => ?_) (fun hc => ?_) -- cond 8
          · (try simp only [decide_eq_true_eq, decide_eq_false_iff_not, beq_iff_eq, beq_eq_false_iff_ne, bne_iff_ne, bne_eq_false_iff_eq, ne_eq, Bool.not_eq_true', Bool.not_eq_false'] at hc)
            refine T.seq fun K39 hK39 => ?_
            refine T.region ?_ -- region 21
            refine ro rfl rfl (OpOk.step (ok_moveb (c := false) (.inr rfl) rfl)) ?_
            refine ro_nil ?_
            refine keepK hK39 [6] (by dsimp) (by dsimp) ?_
            refine T.ret (hQ _ _ _ rfl ?_).1 -- ret 8
            exact by first | (exfalso; omega) | exact TEnt.fin [] (by decide) (by simp) rfl ⟨rfl, trivial⟩
          · (try simp only [decide_eq_true_eq, decide_eq_false_iff_not, beq_iff_eq, beq_eq_false_iff_ne, bne_iff_ne, bne_eq_false_iff_eq, ne_eq, Bool.not_eq_true', Bool.not_eq_false'] at hc)
            refine T.skip ?_
            refine keepK hK37 [8, 9, 16, 17] (by dsimp) (by dsimp) ?_
            refine T.seq fun K40 hK40 => ?_
            refine T.region ?_ -- region 22
            refine ro rfl rfl (OpOk.step (ok_move (.inl rfl))) ?_
            refine ro rfl rfl (OpOk.step (by exact ok_len' rfl rfl ti_Lapi_Rec rfl ((Rcs_len _).trans (recS_len b k j)))) ?_
            refine ro rfl rfl (OpOk.step (ok_move (.inl rfl))) ?_
            refine ro rfl rfl (OpOk.step (ok_binOp rfl ti_int rfl)) ?_
            refine ro rfl rfl (OpOk.step (OpOk.bool (d := true) (ok_moveb (.inl rfl) rfl) (by simp))) ?_
            refine ro rfl rfl (OpOk.step (ok_move (.inl rfl))) ?_
            refine ro rfl rfl (OpOk.step (ok_move (.inl rfl))) ?_
            refine ro rfl rfl (OpOk.step (ok_binOp rfl ti_int rfl)) ?_
            refine ro rfl rfl (OpOk.step (ok_pick rfl rfl)) ?_
            refine ro rfl rfl (OpOk.step (OpOk.bool (d := true) (ok_moveb (.inl rfl) rfl) (by simp))) ?_
            refine ro rfl rfl (ok_call rfl rfl rfl (live10_ok.plain rfl rfl)) ?_
            refine ro rfl rfl (OpOk.step (ok_pick rfl rfl)) ?_
            refine ro rfl rfl (OpOk.step (ok_move (.inr rfl))) ?_
            refine ro_nil ?_
            refine keepK hK40 [6] (by dsimp) (by dsimp) ?_
            refine T.ret (hQ _ _ _ rfl ?_).1 -- ret 9
            exact by first | (exfalso; omega) | exact TEnt.fin [] (by decide) (by simp) rfl ⟨rfl, trivial⟩
theorem recJoins_row (l : List Rc10) (k : Int) (more : List Int) (hl : l.length ≤ 140737488355328) (hs : ∀ x ∈ l, (rcOf x).body.length ≤ 140737488355328 ∧ Bytes (rcOf x).body) (hM : Bytes more) (hml : more.length ≤ 140737488355328) : CSpec Try.prog 5 [] [.fz 10 (l.map fun x => .agg (RcC (rcOf x))), .int k, .fz 1 (ints .u8 more)] [] (.b true) := by
  have e : (l.map fun x => AV.agg (RcC (rcOf x))) = Rcs (l.map rcOf) := by simp [Rcs]
  rw [e]
  refine recJoins_ok (l.map rcOf) k more ?_ ?_ (by simpa using hl) hM hml
  · intro x hx
    obtain ⟨y, hy, rfl⟩ := List.mem_map.1 hx
    exact (hs y hy).2
  · intro x hx
    obtain ⟨y, hy, rfl⟩ := List.mem_map.1 hx
    exact (hs y hy).1
end Go.Proofs.Yteonkbgfpocplaa.AmF
