/- Walks over the abstract machine: wear.Order and its reference, and the law. -/
import Derived.Test.YtknhemdpfdopaaaAfOrder3
import Derived.Test.YtknhemdpfdopaaaAfBase
namespace Go.Proofs.Ytknhemdpfdopaaa.AmF
open Go Go.AM
set_option maxRecDepth 100000
set_option linter.unusedSimpArgs false
set_option linter.unusedVariables false
attribute [local simp] tkeep tget tput ev cav argsTM pickA normT putA splice AV.cells ints_length rowsA_length
/-- A row of truths. -/
def bls (l : List Bool) : List AV := l.map fun b => .v (.bool b)
theorem bls_length (l : List Bool) : (bls l).length = l.length := by simp [bls]
theorem bls_get (l : List Bool) (i : Nat) : (bls l)[i]? = (l[i]?).map fun b => .v (.bool b) := by simp [bls]
theorem renL_bls (ρ : Nat → Option Nat) (l : List Bool) : renL ρ (bls l) = bls l := by
  rw [renL_map]
  simp [bls, AV.ren]
section
variable {P : Program} {tm : TM} {H : Heap} {o : Oper}
theorem locA_bls {x : AV} {id m f : Nat} {l : List Bool} {b : Blk} (hx : x = .ref id m f) (hb : hget H id = some b) (hel : b.els[m]? = some (.agg (bls l))) (hl : l ≠ []) : locA H x = some (bls l, f) := by
  subst hx
  have : bls l ≠ [] := by simpa [bls] using hl
  simp [locA, hb, hel, AV.cells, this]
theorem loadA_bls {i : TI} (hd : isAggD i.desc = false) {l : List Bool} {f : Nat} {y : Bool} (hy : l[f]? = some y) : loadA i (bls l) f = some (.v (.bool y)) := by
  simp [loadA, hd, bls_get, hy]
theorem loadA_agg {i : TI} (hd : isAggD i.desc = true) {l : List AV} (hl : l.length = i.size) : loadA i l 0 = some (.agg l) := by
  simp [loadA, hd, hl, List.take_of_length_le]
theorem fits_bls {l : List Bool} {n : Nat} (h : l.length = n) : fits (.agg (bls l)) n = true := by
  have h1 : (bls l).length = n := by rw [bls_length, h]
  unfold fits
  simp only [AV.cells, h1, beq_self_eq_true, Bool.true_and, List.all_eq_true]
  intro x hx
  simp only [bls, List.mem_map] at hx
  obtain ⟨y, _, rfl⟩ := hx
  rfl
theorem splice_bls {l : List Bool} {j : Nat} {y : Bool} (h : j < l.length) : splice (bls l) j [.v (.bool y)] = bls (l.set j y) := by
  unfold splice
  apply List.ext_getElem?
  intro m
  rw [bls_get, List.getElem?_set]
  by_cases hm : j = m
  · subst hm
    have hl : (List.take j (bls l)).length = j := by simp [bls]; omega
    rw [List.append_assoc, List.getElem?_append_right (by omega), hl, Nat.sub_self]
    simp [h]
  · rw [if_neg hm]
    rcases Nat.lt_or_ge m j with h1 | h1
    · rw [List.append_assoc, List.getElem?_append_left (by simp [bls]; omega), List.getElem?_take, if_pos h1, bls_get]
    · rw [List.getElem?_append_right (by simp [bls]; omega), List.getElem?_drop, bls_get]
      congr 2
      simp [bls]
      omega
end
/-- A table of truths. -/
def btb (ρ : Nat → Bool) : List Bool := (List.range 64).map ρ
theorem btb_len (ρ : Nat → Bool) : (btb ρ).length = 64 := by simp [btb]
theorem btb_get {ρ : Nat → Bool} {j : Nat} (h : j < 64) : (btb ρ)[j]? = some (ρ j) := by simp [btb, List.getElem?_map, List.getElem?_range h]
theorem btb_ne (ρ : Nat → Bool) : btb ρ ≠ [] := fun h => by have := btb_len ρ; rw [h] at this; simp at this
theorem btb_ext {ρ ρ' : Nat → Bool} (h : ∀ j, j < 64 → ρ j = ρ' j) : btb ρ = btb ρ' := by
  unfold btb
  exact List.map_congr_left fun j hj => h j (List.mem_range.1 hj)
theorem btb_set {ρ ρ' : Nat → Bool} {k : Nat} {b : Bool} (hk : k < 64) (h : ∀ j, j < 64 → ρ' j = if j = k then b else ρ j) : (btb ρ).set k b = btb ρ' := by
  apply List.ext_getElem?
  intro j
  rw [List.getElem?_set, btb_len]
  by_cases hj : j < 64
  · rw [btb_get hj, btb_get hj, h j hj]
    by_cases e : k = j
    · subst e; simp [hk]
    · rw [if_neg e, if_neg (Ne.symm e)]
  · have e : ∀ u, (btb u)[j]? = none := fun u => List.getElem?_eq_none (by rw [btb_len]; omega)
    rw [e, e, if_neg (by omega)]
/-- Numbers of slots as whole numbers. -/
def nI (l : List Nat) : List Int := l.map fun j : Nat => (j : Int)
theorem nI_length (l : List Nat) : (nI l).length = l.length := by simp [nI]
theorem nI_snoc (l : List Nat) (x : Nat) : nI l ++ [(x : Int)] = nI (l ++ [x]) := by simp [nI]
theorem nI_append (l m : List Nat) : nI l ++ nI m = nI (l ++ m) := by simp [nI]
theorem nI_take (l : List Nat) (k : Nat) : (nI l).take k = nI (l.take k) := by simp [nI, List.map_take]
theorem nI_drop (l : List Nat) (k : Nat) : (nI l).drop k = nI (l.drop k) := by simp [nI, List.map_drop]
theorem nI_mem {l : List Nat} {x : Nat} : (x : Int) ∈ nI l ↔ x ∈ l := by
  simp only [nI, List.mem_map]
  constructor
  · rintro ⟨a, h, e⟩
    have : a = x := by omega
    exact this ▸ h
  · exact fun h => ⟨x, h, rfl⟩
theorem nI_get {l : List Nat} {i x : Nat} (h : l[i]? = some x) : (nI l)[i]? = some (x : Int) := by simp [nI, h]
attribute [local simp] btb_len nI_length bls_length
/-- Those below n that are told. -/
def lf (ρ : Nat → Bool) (n : Nat) : List Nat := (List.range n).filter ρ
theorem lf_succ (ρ : Nat → Bool) (n : Nat) : lf ρ (n + 1) = lf ρ n ++ (if ρ n = true then [n] else []) := by
  simp only [lf, List.range_succ, List.filter_append]
  congr 1
  cases h : ρ n <;> simp [h]
theorem lf_mem {ρ : Nat → Bool} {n x : Nat} : x ∈ lf ρ n ↔ x < n ∧ ρ x = true := by simp [lf]
theorem lf_le (ρ : Nat → Bool) (n : Nat) : (lf ρ n).length ≤ n := by
  have := List.length_filter_le ρ (List.range n)
  simpa [lf] using this
def inS (slots : List Int) (i j : Nat) : Bool := decide ((j : Int) ∈ slots.take i)
theorem inS_succ {slots : List Int} {i : Nat} {s : Int} (h : slots[i]? = some s) (j : Nat) : inS slots (i + 1) j = (decide ((j : Int) = s) || inS slots i j) := by
  unfold inS
  rw [take_succ_get h, Bool.eq_iff_iff]
  simp only [List.mem_append, List.mem_singleton, decide_eq_true_eq, Bool.or_eq_true]
  exact Or.comm
def left (O : List Nat) (q j : Nat) : Bool := decide (j ∈ O.drop q)
/-- What is found least of those left. -/
theorem left_least {tb slots : List Int} {q : Nat} : lst tb (nI (lf (left (ordL (tf tb) slots 64) q) 64)) = match (ordL (tf tb) slots 64).drop q with
    | [] => (0, false)
    | x :: _ => (x, true) := by
  obtain ⟨hs, hm⟩ := ordL_spec (tf tb) slots 64
  have e : (ordL (tf tb) slots 64).drop q = ordL (tf tb) (nI (lf (left (ordL (tf tb) slots 64) q) 64)) 64 := by
    refine ordL_of (hs.sublist (List.drop_sublist _ _)) fun x => ?_
    rw [nI_mem, lf_mem]
    simp only [left, decide_eq_true_eq]
    constructor
    · intro h
      have := (hm x).1 (List.mem_of_mem_drop h)
      exact ⟨this.1, this.1, h⟩
    · exact fun h => h.2.2
  rw [lst_head, ← e]
  generalize (ordL (tf tb) slots 64).drop q = D
  cases D <;> rfl
theorem insO_len (t : Nat → Int) (s : Nat) : ∀ l : List Nat, (insO t s l).length = l.length + 1
  | [] => rfl
  | x :: l => by
    unfold insO
    split
    · simp
    · simp [insO_len t s l]
theorem ordL_len (t : Nat → Int) (slots : List Int) : ∀ n, (ordL t slots n).length ≤ n
  | 0 => Nat.le_refl _
  | n + 1 => by
    have := ordL_len t slots n
    unfold ordL
    split
    · rw [insO_len]; omega
    · omega
theorem left_step {O : List Nat} {t : Nat → Int} (hs : O.Pairwise (ltO t)) {q m : Nat} (hq : O[q]? = some m) (j : Nat) : left O (q + 1) j = if j = m then false else left O q j := by
  have hql := (List.getElem?_eq_some_iff.1 hq).1
  have hm := (List.getElem?_eq_some_iff.1 hq).2
  have hd : O.drop q = m :: O.drop (q + 1) := by rw [List.drop_eq_getElem_cons hql, hm]
  have hp : (m :: O.drop (q + 1)).Pairwise (ltO t) := hd ▸ hs.sublist (List.drop_sublist _ _)
  have h1 := (List.pairwise_cons.1 hp).1
  unfold left
  rw [hd]
  by_cases e : j = m
  · subst e
    rw [if_pos rfl, decide_eq_false_iff_not]
    exact fun h => ltO_irr (h1 j h)
  · rw [if_neg e, Bool.eq_iff_iff]
    simp [e]

set_option maxHeartbeats 2000000 in
theorem order_ok (tb : List Int) (slots : List Int) (hT : tb.length = 64) (hl : slots.length ≤ 100000000) : CSpec Try.prog 12 [] [.agg (ints .i64 tb), .fz 1 (ints .i64 slots)] [some ⟨1, true, ints .i64 (nI (ordL (tf tb) slots 64))⟩] (.sl 0 0 (nI (ordL (tf tb) slots 64)).length) := by
  have hTne : tb ≠ [] := fun h => by rw [h] at hT; cases hT
  obtain ⟨hOs, hOm⟩ := ordL_spec (tf tb) slots 64
  have hll := @left_least tb slots
  have hO64 := ordL_len (tf tb) slots 64
  generalize hO : ordL (tf tb) slots 64 = O at hOs hOm hll hO64 ⊢
  refine CSpec.body Try.func12 rfl rfl rfl rfl rfl fun Q hQ => ?_
  refine T.seq fun K1 hK1 => ?_
  refine T.region ?_ -- region 0
  refine ro rfl rfl (OpOk.step (by exact ok_box (x := .tmp 0) (n := 64) rfl (fits_ints hT) (by decide))) ?_
  refine ro rfl rfl (OpOk.step (ok_move (.inr rfl))) ?_
  refine ro_nil ?_
  refine keepK hK1 [1, 2] (by dsimp) (by dsimp) ?_
  refine T.seq fun K2 hK2 => ?_
  refine T.region ?_ -- region 1
  refine ro rfl rfl (OpOk.step (ok_alloc rfl ti_A64bool rfl (by decide))) ?_
  refine ro_nil ?_
  refine keepK hK2 [1, 2, 5] (by dsimp) (by dsimp) ?_
  refine T.seq fun K3 hK3 => ?_
  refine T.seq fun K4 hK4 => ?_
  refine T.region ?_ -- region 2
  refine ro rfl rfl (OpOk.step (ok_move (.inl rfl))) ?_
  refine ro rfl rfl (OpOk.step (ok_len' rfl rfl ti_Lint rfl (by first | exact ints_length _ _ | exact rowsA_length _ _ | rfl))) ?_
  refine ro rfl rfl (OpOk.step (ok_move (.inl rfl))) ?_
  refine ro_nil ?_
  refine keepK hK4 [2, 5, 14, 15, 16] (by dsimp) (by dsimp) ?_
  refine T.block ?_
  refine T.loopI (ι := Nat) (fun i => i ≤ slots.length) (fun i => slots.length - i) (fun i => ([(2, .ref 0 0 0), (5, .ref 1 0 0), (14, .fz 1 (ints .i64 slots)), (15, .int slots.length), (16, .int i)], [some ⟨64, true, [.agg (ints .i64 tb)]⟩, some ⟨64, true, [.agg (bls (btb (inS slots i)))]⟩])) 0 (Nat.zero_le _) (TEnt.toH rfl ⟨rfl, rfl, rfl, rfl, rfl, trivial⟩) (fun i hi => ?_) -- loop 1
  refine T.seq fun K5 hK5 => ?_
  refine T.region ?_ -- region 3
  refine ro rfl rfl (OpOk.step (ok_binOp rfl ti_int rfl)) ?_
  refine ro_nil ?_
  refine keepK hK5 [2, 5, 14, 15, 16, 17] (by dsimp) (by dsimp) ?_
  refine T.seq fun K6 hK6 => ?_
  refine T.cond rfl (fun hc => ?_) (fun hc => ?_) -- cond 1
  · (try simp only [decide_eq_true_eq, decide_eq_false_iff_not, beq_iff_eq, beq_eq_false_iff_ne, bne_iff_ne, bne_eq_false_iff_eq, ne_eq, Bool.not_eq_true', Bool.not_eq_false'] at hc)
    obtain ⟨s, hs0⟩ : ∃ s, slots[i]? = some s := ⟨_, List.getElem?_eq_getElem (by omega)⟩
    have hs := inS_succ hs0
    refine T.skip ?_
    refine keepK hK6 [2, 5, 14, 15, 16] (by dsimp) (by dsimp) ?_
    refine T.seq fun K7 hK7 => ?_
    refine T.block ?_
    refine T.seq fun K8 hK8 => ?_
    refine T.region ?_ -- region 4
    refine ro rfl rfl (OpOk.step (by exact ok_index_ints rfl ti_Lint rfl ti_int rfl rfl rfl (by omega) (by simpa using hs0))) ?_
    refine ro rfl rfl (OpOk.step (ok_load rfl ti_int rfl rfl)) ?_
    refine ro rfl rfl (OpOk.step (ok_move (.inr rfl))) ?_
    refine ro_nil ?_
    refine keepK hK8 [2, 5, 7, 14, 15, 16] (by dsimp) (by dsimp) ?_
    refine T.seq fun K9 hK9 => ?_
    refine T.region ?_ -- region 5
    refine ro rfl rfl (OpOk.step (ok_move (.inl rfl))) ?_
    refine ro rfl rfl (ok_call rfl rfl rfl ((thereG_ok s).plain rfl rfl)) ?_
    refine ro_nil ?_
    refine keepK hK9 [2, 5, 7, 14, 15, 16, 21] (by dsimp) (by dsimp) ?_
    refine T.join hK7 [(2, .ref 0 0 0), (5, .ref 1 0 0), (14, .fz 1 (ints .i64 slots)), (15, .int slots.length), (16, .int i)] [some ⟨64, true, [.agg (ints .i64 tb)]⟩, some ⟨64, true, [.agg (bls (btb (inS slots (i + 1))))]⟩] (fun hJ10 => ?_) ?_ -- join 1
    · -- the two ways
      refine T.cond rfl (fun hc => ?_) (fun hc => ?_) -- cond 2
      · (try simp only [decide_eq_true_eq, decide_eq_false_iff_not, beq_iff_eq, beq_eq_false_iff_ne, bne_iff_ne, bne_eq_false_iff_eq, ne_eq, Bool.not_eq_true', Bool.not_eq_false'] at hc)
        obtain ⟨s, rfl⟩ := Int.eq_ofNat_of_zero_le hc.1
        have hs64 : s < 64 := by omega
        have hset : ∀ j, inS slots (i + 1) j = if j = s then true else inS slots i j := fun j => by
          rw [hs j]
          by_cases e : j = s
          · subst e; simp
          · rw [if_neg e, decide_eq_false (by omega), Bool.false_or]
        refine T.region ?_ -- region 6
        refine ro rfl rfl (OpOk.step (ok_move (.inl rfl))) ?_
        refine ro rfl rfl (OpOk.step (by exact ok_indexAddr rfl ti_A64bool (.inr ⟨_, rfl⟩) ti_bool rfl (by omega) (show elemA _ _ (.ref 1 0 0) 1 (s : Int).toNat = some (.ref 1 0 s) by simp [elemA, shiftA]; omega))) ?_
        refine ro rfl rfl (OpOk.step (by exact ok_store rfl ti_bool (by decide) rfl rfl rfl (el := .agg (bls (btb (inS slots i)))) rfl rfl (Nat.succ_le_of_lt hs64) (.inr (by simp)))) ?_
        refine ro_nil ?_
        exact hJ10 _ _ (TEnt.toH (by rw [← btb_set hs64 (fun j _ => hset j), ← splice_bls (by simpa using hs64)]; simp) ⟨rfl, rfl, rfl, rfl, rfl, trivial⟩)
      · (try simp only [decide_eq_true_eq, decide_eq_false_iff_not, beq_iff_eq, beq_eq_false_iff_ne, bne_iff_ne, bne_eq_false_iff_eq, ne_eq, Bool.not_eq_true', Bool.not_eq_false'] at hc)
        have e : btb (inS slots (i + 1)) = btb (inS slots i) := btb_ext fun j hj => by
          have hne : ¬ (j : Int) = s := by first | omega | (simp at hc; omega)
          rw [hs, decide_eq_false hne, Bool.false_or]
        refine T.skip ?_
        exact hJ10 _ _ (TEnt.toH (by rw [e]) ⟨rfl, rfl, rfl, rfl, rfl, trivial⟩)
    refine T.region ?_ -- region 7
    refine ro rfl rfl (OpOk.step (ok_add64 rfl ti_int rfl rfl (by omega) (by omega))) ?_
    refine ro rfl rfl (OpOk.step (ok_move (.inl rfl))) ?_
    refine ro_nil ?_
    exact ⟨i + 1, by omega, by omega, TEnt.toH rfl ⟨rfl, rfl, rfl, rfl, rfl, trivial⟩⟩
  · (try simp only [decide_eq_true_eq, decide_eq_false_iff_not, beq_iff_eq, beq_eq_false_iff_ne, bne_iff_ne, bne_eq_false_iff_eq, ne_eq, Bool.not_eq_true', Bool.not_eq_false'] at hc)
    have hin : i = slots.length := by omega
    subst hin
    have e0 : btb (inS slots slots.length) = btb (left O 0) := btb_ext fun j hj => by
      have := hOm j
      simp only [inS, left, List.take_length, List.drop_zero, decide_eq_decide]
      rw [this]
      exact ⟨fun h => ⟨hj, h⟩, fun h => h.2⟩
    refine T.exit ?_
    refine keepK hK3 [2, 5] (by dsimp) (by dsimp) ?_
    refine T.seq fun K11 hK11 => ?_
    refine T.region ?_ -- region 8
    refine ro rfl rfl (OpOk.step (ok_move (.inr rfl))) ?_
    refine ro_nil ?_
    refine keepK hK11 [2, 5, 8] (by dsimp) (by dsimp) ?_
    refine T.block ?_
    refine T.loopI (ι := Nat) (fun i => i ≤ O.length) (fun i => O.length - i) (fun i => ([(2, .ref 0 0 0), (5, .ref 1 0 0), (8, .sl 2 0 (nI (O.take i)).length)], [some ⟨64, true, [.agg (ints .i64 tb)]⟩, some ⟨64, true, [.agg (bls (btb (left O i)))]⟩, some ⟨1, true, ints .i64 (nI (O.take i))⟩])) 0 (Nat.zero_le _) ((TEnt.empty 8 1 (by decide) (.inr rfl)).trans (TEnt.toH (by rw [← e0]; rfl) ⟨rfl, rfl, rfl, trivial⟩)) (fun i hi => ?_) -- loop 2
    rename Nat => q
    rename q ≤ O.length => hq
    refine T.block ?_
    refine T.seq fun K12 hK12 => ?_
    refine T.region ?_ -- region 9
    refine ro rfl rfl (OpOk.step (ok_move (.inr rfl))) ?_
    refine ro_nil ?_
    refine keepK hK12 [2, 5, 8, 9] (by dsimp) (by dsimp) ?_
    refine T.seq fun K13 hK13 => ?_
    refine T.seq fun K14 hK14 => ?_
    refine T.region ?_ -- region 10
    refine ro rfl rfl (OpOk.step (by exact ok_load rfl ti_A64bool (locA_bls rfl rfl rfl (btb_ne _)) (loadA_agg rfl (by simp)))) ?_
    refine ro rfl rfl (OpOk.step (ok_move (.inl rfl))) ?_
    refine ro_nil ?_
    refine keepK hK14 [2, 5, 8, 9, 25, 26] (by dsimp) (by dsimp) ?_
    refine T.block ?_
    refine T.loopI (ι := Nat) (fun i => i ≤ 64) (fun i => 64 - i) (fun i => ([(2, .ref 0 0 0), (5, .ref 1 0 0), (8, .sl 2 0 (nI (O.take q)).length), (9, .sl 3 0 (nI (lf (left O q) i)).length), (25, .agg (bls (btb (left O q)))), (26, .int i)], [some ⟨64, true, [.agg (ints .i64 tb)]⟩, some ⟨64, true, [.agg (bls (btb (left O q)))]⟩, some ⟨1, true, ints .i64 (nI (O.take q))⟩, some ⟨1, true, ints .i64 (nI (lf (left O q) i))⟩])) 0 (Nat.zero_le _) ((TEnt.empty 9 1 (by decide) (.inr rfl)).trans (TEnt.toH rfl ⟨rfl, rfl, rfl, rfl, rfl, rfl, trivial⟩)) (fun i hi => ?_) -- loop 3
    refine T.seq fun K15 hK15 => ?_
    refine T.region ?_ -- region 11
    refine ro rfl rfl (OpOk.step (ok_binOp rfl ti_int rfl)) ?_
    refine ro_nil ?_
    refine keepK hK15 [2, 5, 8, 9, 25, 26, 27] (by dsimp) (by dsimp) ?_
    refine T.seq fun K16 hK16 => ?_
    refine T.cond rfl (fun hc => ?_) (fun hc => ?_) -- cond 3
    · (try simp only [decide_eq_true_eq, decide_eq_false_iff_not, beq_iff_eq, beq_eq_false_iff_ne, bne_iff_ne, bne_eq_false_iff_eq, ne_eq, Bool.not_eq_true', Bool.not_eq_false'] at hc)
      have hi64 : i < 64 := by omega
      have hle := lf_le (left O q) i
      have hsc := lf_succ (left O q) i
      refine T.skip ?_
      refine keepK hK16 [2, 5, 8, 9, 25, 26] (by dsimp) (by dsimp) ?_
      refine T.seq fun K17 hK17 => ?_
      refine T.block ?_
      refine T.seq fun K18 hK18 => ?_
      refine T.region ?_ -- region 12
      refine ro rfl rfl (OpOk.step (ok_move (.inl rfl))) ?_
      refine ro rfl rfl (OpOk.step (by exact ok_index rfl ti_A64bool rfl ti_bool rfl rfl (by omega) (by omega) (loadA_bls rfl (f := (i : Int).toNat * 1) (y := left O q i) (by simpa using btb_get hi64)))) ?_
      refine ro rfl rfl (OpOk.step (ok_move (.inr rfl))) ?_
      refine ro rfl rfl (OpOk.step (ok_move (.inr rfl))) ?_
      refine ro_nil ?_
      refine keepK hK18 [2, 5, 8, 9, 10, 11, 25, 26] (by dsimp) (by dsimp) ?_
      refine T.seq fun K19 hK19 => ?_
      refine T.region ?_ -- region 13
      refine ro rfl rfl (OpOk.step (ok_move (.inl rfl))) ?_
      refine ro_nil ?_
      refine keepK hK19 [2, 5, 8, 9, 10, 25, 26, 30] (by dsimp) (by dsimp) ?_
      refine T.join hK17 [(2, .ref 0 0 0), (5, .ref 1 0 0), (8, .sl 2 0 (nI (O.take q)).length), (9, .sl 3 0 (nI (lf (left O q) (i + 1))).length), (25, .agg (bls (btb (left O q)))), (26, .int i)] [some ⟨64, true, [.agg (ints .i64 tb)]⟩, some ⟨64, true, [.agg (bls (btb (left O q)))]⟩, some ⟨1, true, ints .i64 (nI (O.take q))⟩, some ⟨1, true, ints .i64 (nI (lf (left O q) (i + 1)))⟩] (fun hJ20 => ?_) ?_ -- join 2
      · -- the two ways
        refine T.cond rfl (fun hc => ?_) (fun hc => ?_) -- cond 4
        · (try simp only [decide_eq_true_eq, decide_eq_false_iff_not, beq_iff_eq, beq_eq_false_iff_ne, bne_iff_ne, bne_eq_false_iff_eq, ne_eq, Bool.not_eq_true', Bool.not_eq_false'] at hc)
          refine T.region ?_ -- region 14
          refine ro rfl rfl (OpOk.step (ok_move (.inl rfl))) ?_
          refine ro rfl rfl (OpOk.step (ok_move (.inl rfl))) ?_
          refine ro rfl rfl (OpOk.step (ok_buildSlice (n := 1) (ps := #[(0, .tmp 32)]) rfl ti_Lint rfl ti_int (by decide) rfl rfl (by decide) rfl rfl rfl)) ?_
          refine ro rfl rfl (OpOk.step (by exact ok_append_ints (k := .i64) (xs := nI (lf (left O q) i)) (ys := [(i : Int)]) rfl ti_Lint rfl ti_int rfl (by decide) rfl ti_Lint (by simp) rfl rfl rfl rfl rfl rfl rfl rfl (by simp) (by simp <;> omega))) ?_
          refine ro rfl rfl (OpOk.step (ok_move (.inr rfl))) ?_
          refine ro_nil ?_
          exact hJ20 _ _ (TEnt.fin [0, 1, 2, 5] (by decide) (by simp) (by rw [hsc, if_pos hc, nI_snoc]; simp [normH, hget, Blk.ren, renL, AV.ren, renL_ints, renL_bls]) ⟨rfl, rfl, rfl, by rw [hsc, if_pos hc, ← nI_snoc]; rfl, by simp [AV.ren, renL_bls], rfl, trivial⟩)
        · (try simp only [decide_eq_true_eq, decide_eq_false_iff_not, beq_iff_eq, beq_eq_false_iff_ne, bne_iff_ne, bne_eq_false_iff_eq, ne_eq, Bool.not_eq_true', Bool.not_eq_false'] at hc)
          refine T.skip ?_
          exact hJ20 _ _ (TEnt.toH (by rw [hsc, if_neg (by simpa using hc), List.append_nil]) ⟨rfl, rfl, rfl, by rw [hsc, if_neg (by simpa using hc), List.append_nil]; rfl, rfl, rfl, trivial⟩)
      refine T.region ?_ -- region 15
      refine ro rfl rfl (OpOk.step (ok_add64 rfl ti_int rfl rfl (by omega) (by omega))) ?_
      refine ro rfl rfl (OpOk.step (ok_move (.inl rfl))) ?_
      refine ro_nil ?_
      exact ⟨i + 1, by omega, by omega, TEnt.toH rfl ⟨rfl, rfl, rfl, rfl, rfl, rfl, trivial⟩⟩
    · (try simp only [decide_eq_true_eq, decide_eq_false_iff_not, beq_iff_eq, beq_eq_false_iff_ne, bne_iff_ne, bne_eq_false_iff_eq, ne_eq, Bool.not_eq_true', Bool.not_eq_false'] at hc)
      have hin : i = 64 := by omega
      subst hin
      have hle := lf_le (left O q) 64
      obtain ⟨m, hm⟩ : ∃ m, lst tb (nI (lf (left O q) 64)) = (m, decide (q < O.length)) ∧ (q < O.length → O[q]? = some m) := by
        have h := @hll q
        rcases Nat.lt_or_ge q O.length with h1 | h1
        · refine ⟨O[q], ?_, fun _ => List.getElem?_eq_getElem h1⟩
          rw [h, List.drop_eq_getElem_cons h1, decide_eq_true h1]
        · refine ⟨0, ?_, fun h2 => by omega⟩
          rw [h, List.drop_eq_nil_of_le h1, decide_eq_false (by omega)]
      obtain ⟨hm, hmq⟩ := hm
      refine T.exit ?_
      refine keepK hK13 [2, 5, 8, 9] (by dsimp) (by dsimp) ?_
      refine T.seq fun K21 hK21 => ?_
      refine T.region ?_ -- region 16
      refine ro rfl rfl (OpOk.step (by exact ok_load rfl ti_wear_Table (locA_arr rfl rfl rfl hTne) (loadA_agg rfl (by simp [hT])))) ?_
      refine ro rfl rfl (OpOk.step (ok_move (.inl rfl))) ?_
      refine ro rfl rfl (ok_call rfl rfl rfl ((leastG_ok tb (nI (lf (left O q) 64)) hT (by simp; omega)).lendR (R := []) (R' := []) (x' := .tup [.int m, .b (decide (q < O.length))]) (EntL.append (l := [_]) (l' := [_]) (EntL.refl _) (EntL.cons (Ent.lent 3 1 (ints .i64 (nI (lf (left O q) 64))) rfl (by simp)) EntL.nil)) (by simp [renL, AV.ren, renL_ints]) rfl (by rw [hm]; rfl) rfl rfl)) ?_
      refine ro rfl rfl (OpOk.step (ok_move (.inl rfl))) ?_
      refine ro rfl rfl (OpOk.step (ok_extract rfl rfl rfl)) ?_
      refine ro rfl rfl (OpOk.step (ok_extract rfl rfl rfl)) ?_
      refine ro rfl rfl (OpOk.step (ok_move (.inr rfl))) ?_
      refine ro rfl rfl (OpOk.step (ok_move (.inr rfl))) ?_
      refine ro_nil ?_
      refine keepK hK21 [2, 5, 8, 12, 13] (by dsimp) (by dsimp) ?_
      refine T.seq fun K22 hK22 => ?_
      refine T.seq fun K23 hK23 => ?_
      refine T.region ?_ -- region 17
      refine ro rfl rfl (OpOk.step (ok_move (.inl rfl))) ?_
      refine ro rfl rfl (OpOk.step (ok_unOp rfl rfl)) ?_
      refine ro_nil ?_
      refine keepK hK23 [2, 5, 8, 12, 43] (by dsimp) (by dsimp) ?_
      refine T.cond rfl (fun hc => ?_) (fun hc => ?_) -- cond 5
      · (try simp only [decide_eq_true_eq, decide_eq_false_iff_not, beq_iff_eq, beq_eq_false_iff_ne, bne_iff_ne, bne_eq_false_iff_eq, ne_eq, Bool.not_eq_true', Bool.not_eq_false'] at hc)
        have hin : q = O.length := by first | omega | (simp at hc; omega)
        subst hin
        rw [List.take_length]
        refine T.seq fun K24 hK24 => ?_
        refine T.region ?_ -- region 18
        refine ro rfl rfl (OpOk.step (ok_move (.inl rfl))) ?_
        refine ro rfl rfl (OpOk.step (ok_move (.inr rfl))) ?_
        refine ro_nil ?_
        refine keepK hK24 [4] (by dsimp) (by dsimp) ?_
        refine T.ret (hQ _ _ _ rfl ?_).1 -- ret 1
        exact TEnt.fin [2] (by decide) (by simp) (by simp [normH, hget, Blk.ren, renL_ints]) ⟨rfl, trivial⟩
      · (try simp only [decide_eq_true_eq, decide_eq_false_iff_not, beq_iff_eq, beq_eq_false_iff_ne, bne_iff_ne, bne_eq_false_iff_eq, ne_eq, Bool.not_eq_true', Bool.not_eq_false'] at hc)
        have hqO : q < O.length := by first | omega | (simp at hc; omega)
        have hmm := hmq hqO
        have hm64 : m < 64 := ((hOm m).1 (List.mem_of_getElem? hmm)).1
        have htk := take_succ_get hmm
        have hlft := left_step hOs hmm
        refine T.skip ?_
        refine keepK hK22 [2, 5, 8, 12] (by dsimp) (by dsimp) ?_
        refine T.seq fun K25 hK25 => ?_
        refine T.region ?_ -- region 19
        refine ro rfl rfl (OpOk.step (ok_move (.inl rfl))) ?_
        refine ro rfl rfl (OpOk.step (ok_move (.inl rfl))) ?_
        refine ro rfl rfl (OpOk.step (ok_buildSlice (n := 1) (ps := #[(0, .tmp 46)]) rfl ti_Lint rfl ti_int (by decide) rfl rfl (by decide) rfl rfl rfl)) ?_
        refine ro rfl rfl (OpOk.step (by exact ok_append_ints (k := .i64) (xs := nI (O.take q)) (ys := [(m : Int)]) rfl ti_Lint rfl ti_int rfl (by decide) rfl ti_Lint (by simp) rfl rfl rfl rfl rfl rfl rfl rfl (by simp) (by simp <;> omega))) ?_
        refine ro rfl rfl (OpOk.step (ok_move (.inr rfl))) ?_
        refine ro_nil ?_
        refine keepK hK25 [2, 5, 8, 12] (by dsimp) (by dsimp) ?_
        refine T.region ?_ -- region 20
        refine ro rfl rfl (OpOk.step (ok_move (.inl rfl))) ?_
        refine ro rfl rfl (OpOk.step (by exact ok_indexAddr rfl ti_A64bool (.inr ⟨_, rfl⟩) ti_bool rfl (by omega) (show elemA _ _ (.ref 1 0 0) 1 (m : Int).toNat = some (.ref 1 0 m) by simp [elemA, shiftA]; omega))) ?_
        refine ro rfl rfl (OpOk.step (by exact ok_store rfl ti_bool (by decide) rfl rfl rfl (el := .agg (bls (btb (left O q)))) rfl rfl (Nat.succ_le_of_lt hm64) (.inr (by simp)))) ?_
        refine ro_nil ?_
        exact ⟨q + 1, by omega, by omega, TEnt.fin [0, 1, 5] (by decide) (by simp) (by rw [htk, ← nI_snoc, ← btb_set hm64 (fun j _ => hlft j), ← splice_bls (by simpa using hm64)]; simp [normH, hget, Blk.ren, renL_map, AV.ren, ints, bls, Function.comp_def, List.map_take, List.map_drop]) ⟨rfl, rfl, by rw [htk, ← nI_snoc]; rfl, trivial⟩⟩
end Go.Proofs.Ytknhemdpfdopaaa.AmF
