/- Walks over the abstract machine: tables of wear, arrays of 64. -/
import Derived.Test.YtlegolcbjjjofaaAmFacts
import Derived.Test.YtlegolcbjjjofaaAmNum
namespace Go.Proofs.Ytlegolcbjjjofaa.AmF
open Go Go.AM
set_option maxRecDepth 100000
set_option linter.unusedSimpArgs false
set_option linter.unusedVariables false
section
variable {P : Program} {tm : TM} {H : Heap} {o : Oper}
theorem ok_index_arr {t e : TypeId} {x ix : Operand} (ho : o.op = .indexAddr t x ix) {i : TI} (hi : tyI P t = some i) {n : Nat} (hd : i.desc = .array n e) {j : TI} (hj : tyI P e = some j) (hs : j.size = 1) {id m : Nat} (hx : ev tm x = .ref id m 0) {kd : IntKind} {z : Int} (hz : ev tm ix = .v (.int kd z)) {k : Nat} (hk : z = k) (h1 : k < n) : OpOk P tm H o (.ref id m k) H :=
  ok_indexAddr ho hi (.inr ⟨n, hd⟩) hj hz (by omega) (by subst hk; simp [hx, hd, elemA, shiftA, h1, hs])
theorem locA_arr {x : AV} {id m f : Nat} {k : IntKind} {l : List Int} {b : Blk} (hx : x = .ref id m f) (hb : hget H id = some b) (hel : b.els[m]? = some (.agg (ints k l))) (hl : l ≠ []) : locA H x = some (ints k l, f) := by
  subst hx
  have : ints k l ≠ [] := by simpa [ints] using hl
  simp [locA, hb, hel, AV.cells, this]
theorem loadA_ints {i : TI} (hd : isAggD i.desc = false) {k : IntKind} {l : List Int} {f : Nat} {y : Int} (hy : l[f]? = some y) : loadA i (ints k l) f = some (.v (.int k y)) := by
  simp [loadA, hd, ints_get, hy]
theorem fits_ints {k : IntKind} {l : List Int} {n : Nat} (h : l.length = n) : fits (.agg (ints k l)) n = true := by
  have h1 : (ints k l).length = n := by rw [ints_length, h]
  unfold fits
  simp only [AV.cells, h1, beq_self_eq_true, Bool.true_and, List.all_eq_true]
  intro x hx
  simp only [ints, List.mem_map] at hx
  obtain ⟨y, _, rfl⟩ := hx
  rfl
theorem splice_ints {k : IntKind} {l : List Int} {j : Nat} {y : Int} (h : j < l.length) : splice (ints k l) j [.v (.int k y)] = ints k (l.set j y) := by
  unfold splice
  apply List.ext_getElem?
  intro m
  rw [ints_get, List.getElem?_set]
  by_cases hm : j = m
  · subst hm
    have hl : (List.take j (ints k l)).length = j := by simp [ints]; omega
    rw [List.append_assoc, List.getElem?_append_right (by omega), hl, Nat.sub_self]
    simp [h]
  · rw [if_neg hm]
    rcases Nat.lt_or_ge m j with h1 | h1
    · rw [List.append_assoc, List.getElem?_append_left (by simp [ints]; omega), List.getElem?_take, if_pos h1, ints_get]
    · rw [List.getElem?_append_right (by simp [ints]; omega), List.getElem?_drop, ints_get]
      congr 2
      simp [ints]
      omega
end
attribute [local simp] tkeep tget tput ev cav argsTM pickA normT putA splice AV.cells ints_length rowsA_length
/-- A table. -/
def tbl (v : Nat → Nat) : List Int := (List.range 64).map fun j : Nat => (v j : Int)
theorem tbl_len (v : Nat → Nat) : (tbl v).length = 64 := by simp [tbl]
theorem tbl_get {v : Nat → Nat} {j : Nat} (h : j < 64) : (tbl v)[j]? = some (v j : Int) := by simp [tbl, List.getElem?_map, List.getElem?_range h]
theorem tbl_ne (v : Nat → Nat) : tbl v ≠ [] := fun h => by have := tbl_len v; rw [h] at this; simp at this
def bump (v : Nat → Nat) (k : Nat) : Nat → Nat := fun j => if j = k then v j + 1 else v j
theorem tbl_bump {v : Nat → Nat} {k : Nat} (h : k < 64) : (tbl v).set k ((v k : Int) + 1) = tbl (bump v k) := by
  apply List.ext_getElem?
  intro j
  rw [List.getElem?_set, tbl_len]
  by_cases hj : j < 64
  · rw [tbl_get hj, tbl_get hj]
    by_cases hk : k = j
    · subst hk; simp [h, bump]
    · rw [if_neg hk]; simp [bump]; rw [if_neg (Ne.symm hk)]
  · have e : ∀ u, (tbl u)[j]? = none := fun u => List.getElem?_eq_none (by rw [tbl_len]; omega)
    rw [e, e]
    have : k ≠ j := by omega
    rw [if_neg this]
def upto (n : Nat) : List Int := (List.range n).map fun j : Nat => (j : Int)
theorem upto_len (n : Nat) : (upto n).length = n := by simp [upto]
theorem upto_get {n j : Nat} (h : j < n) : (upto n)[j]? = some (j : Int) := by simp [upto, List.getElem?_map, List.getElem?_range h]
theorem upto_succ (n : Nat) : upto n ++ [(n : Int)] = upto (n + 1) := by simp [upto, List.range_succ]
attribute [local simp] tbl_len upto_len
theorem there_ok (k : Nat) (hk : k < 64) : CSpec Try.prog 124 [] [.int k] [] (.b true) := by
 refine CSpec.body Try.func124 rfl rfl rfl rfl rfl fun Q hQ => ?_
 refine T.seq fun K1 hK1 => ?_
 refine T.region ?_ -- region 0
 refine ro rfl rfl (OpOk.step (ok_moveb (c := false) (.inr rfl) rfl)) ?_
 refine ro_nil ?_
 refine keepK hK1 [0] (by dsimp) (by dsimp) ?_
 refine T.seq fun K2 hK2 => ?_
 refine T.region ?_ -- region 1
 refine ro rfl rfl (OpOk.step (ok_move (.inl rfl))) ?_
 refine ro rfl rfl (OpOk.step (OpOk.bool (d := true) (ok_binOp rfl ti_int rfl) (by simp))) ?_
 refine ro rfl rfl (OpOk.step (ok_moveb (c := true) (.inl rfl) rfl)) ?_
 refine ro rfl rfl (OpOk.step (ok_move (.inl rfl))) ?_
 refine ro rfl rfl (OpOk.step (OpOk.bool (d := true) (ok_binOp rfl ti_int rfl) (by simp; omega))) ?_
 refine ro rfl rfl (OpOk.step (ok_pickb (t := true) (d := true) rfl rfl rfl)) ?_
 refine ro rfl rfl (OpOk.step (ok_moveb (c := true) (.inr rfl) rfl)) ?_
 refine ro_nil ?_
 refine keepK hK2 [2] (by dsimp) (by dsimp) ?_
 refine T.ret (hQ _ _ _ rfl ?_).1 -- ret 1
 exact TEnt.toH rfl ⟨rfl, trivial⟩
theorem count_ok (c : Nat) (hc : c ≤ 1099511627776) : CSpec Try.prog 94 [] [.int c] [] (.int c) := by
 refine CSpec.body Try.func94 rfl rfl rfl rfl rfl fun Q hQ => ?_
 refine T.seq fun K1 hK1 => ?_
 refine T.region ?_ -- region 0
 refine ro rfl rfl (OpOk.step (ok_move (.inr rfl))) ?_
 refine ro_nil ?_
 refine keepK hK1 [0] (by dsimp) (by dsimp) ?_
 refine T.seq fun K2 hK2 => ?_
 refine T.region ?_ -- region 1
 refine ro rfl rfl (OpOk.step (ok_move (.inl rfl))) ?_
 refine ro rfl rfl (OpOk.step ((ok_max rfl rfl rfl).eq (x' := .int c) (by rw [show max (c : Int) 0 = c by omega]) rfl)) ?_
 refine ro rfl rfl (OpOk.step ((ok_min rfl rfl rfl).eq (x' := .int c) (by rw [show min (c : Int) 1099511627776 = c by omega]) rfl)) ?_
 refine ro rfl rfl (OpOk.step (ok_move (.inr rfl))) ?_
 refine ro_nil ?_
 refine keepK hK2 [2] (by dsimp) (by dsimp) ?_
 refine T.ret (hQ _ _ _ rfl ?_).1 -- ret 1
 exact TEnt.toH rfl ⟨rfl, trivial⟩
theorem add_ok (v : Nat → Nat) (k : Nat) (hk : k < 64) (hv : v k < 1099511627776) : CSpec Try.prog 93 [] [.agg (ints .i64 (tbl v)), .int k] [] (.agg (ints .i64 (tbl (bump v k)))) := by
 refine CSpec.body Try.func93 rfl rfl rfl rfl rfl fun Q hQ => ?_
 refine T.seq fun K1 hK1 => ?_
 refine T.region ?_ -- region 0
 refine ro rfl rfl (OpOk.step (by exact ok_box (x := .tmp 0) (n := 64) rfl (fits_ints (tbl_len v)) (by decide))) ?_
 refine ro rfl rfl (OpOk.step (ok_alloc rfl ti_wear_Table rfl (by decide))) ?_
 refine ro_nil ?_
 refine keepK hK1 [1, 2, 4] (by dsimp) (by dsimp) ?_
 refine T.seq fun K2 hK2 => ?_
 refine T.seq fun K3 hK3 => ?_
 refine T.region ?_ -- region 1
 refine ro rfl rfl (OpOk.step (ok_move (.inl rfl))) ?_
 refine ro rfl rfl ((ok_call rfl rfl rfl ((there_ok k hk).plain rfl rfl)).eq (x' := .b true) (congrArg AV.b (rfl)) rfl) ?_
 refine ro rfl rfl (OpOk.step (ok_moveb (c := true) (.inl rfl) rfl)) ?_
 refine ro rfl rfl (OpOk.step (ok_move (.inl rfl))) ?_
 refine ro rfl rfl (OpOk.step (ok_index_arr rfl ti_wear_Table rfl ti_int rfl rfl rfl rfl hk)) ?_
 refine ro rfl rfl (OpOk.step (ok_load rfl ti_int (locA_arr rfl rfl rfl (tbl_ne v)) (loadA_ints rfl (tbl_get hk)))) ?_
 refine ro rfl rfl (OpOk.step (OpOk.bool (d := true) (ok_binOp rfl ti_int rfl) (by simp; omega))) ?_
 refine ro rfl rfl (OpOk.step (ok_pickb (t := true) (d := true) rfl rfl rfl)) ?_
 refine ro_nil ?_
 refine keepK hK3 [1, 2, 4, 12] (by dsimp) (by dsimp) ?_
 refine T.cond_true rfl ?_
 refine T.region ?_ -- region 2
 refine ro rfl rfl (OpOk.step (ok_move (.inl rfl))) ?_
 refine ro rfl rfl (OpOk.step (ok_index_arr rfl ti_wear_Table rfl ti_int rfl rfl rfl rfl hk)) ?_
 refine ro rfl rfl (OpOk.step (ok_load rfl ti_int (locA_arr rfl rfl rfl (tbl_ne v)) (loadA_ints rfl (tbl_get hk)))) ?_
 refine ro rfl rfl (OpOk.step (ok_add64 rfl ti_int rfl rfl (by omega) (by omega))) ?_
 refine ro rfl rfl (OpOk.step (ok_index_arr rfl ti_wear_Table rfl ti_int rfl rfl rfl rfl hk)) ?_
 refine ro rfl rfl (OpOk.step (by exact ok_store rfl ti_int (by decide) rfl rfl rfl (el := .agg (ints .i64 (tbl v))) rfl rfl (Nat.succ_le_of_lt hk) (.inr (by simp)))) ?_
 refine ro_nil ?_
 refine keepK hK2 [2, 4] (by dsimp) (by dsimp) ?_
 refine T.seq fun K4 hK4 => ?_
 refine T.ent (TEnt.toH (tm' := [(2, .ref 0 0 0), (4, .ref 1 0 0)]) (H' := [some ⟨64, true, [.agg (ints .i64 (tbl (bump v k)))]⟩, some ⟨64, true, [cav (.agg (Array.replicate 64 (.int .i64 0)))]⟩]) (by rw [← tbl_bump hk, ← splice_ints (by simpa using hk)]; simp) ⟨rfl, rfl, trivial⟩) ?_
 refine T.region ?_ -- region 3
 refine ro rfl rfl (OpOk.step ((ok_load rfl ti_wear_Table (locA_arr rfl rfl rfl (tbl_ne _)) rfl).eq (x' := .agg (ints .i64 (tbl (bump v k)))) (by simp [List.take_of_length_le]) rfl)) ?_
 refine ro rfl rfl (OpOk.step (by exact ok_store (x := .tmp 18) rfl ti_wear_Table (by decide) rfl rfl rfl (el := cav (.agg (Array.replicate 64 (.int .i64 0)))) rfl (fits_ints (tbl_len _)) (by simp) (.inl ⟨rfl, rfl⟩))) ?_
 refine ro_nil ?_
 refine keepK hK4 [4] (by dsimp) (by dsimp) ?_
 refine T.ret (hQ _ _ _ rfl ?_).1 -- ret 1
 exact TEnt.fin [] (by decide) (by simp) rfl ⟨by show AV.ren _ (.agg (((ints .i64 (tbl (bump v k))).drop 0).take 64)) = _; simp [AV.ren, renL_ints, List.take_of_length_le], trivial⟩
def sumv (v : Nat → Nat) : Nat → Nat
  | 0 => 0
  | n + 1 => sumv v n + v n
theorem sumv_le {v : Nat → Nat} {m : Nat} (h : ∀ j, v j ≤ m) : ∀ n, sumv v n ≤ n * m
  | 0 => Nat.zero_le _
  | n + 1 => by have := sumv_le h n; have := h n; simp only [sumv]; rw [Nat.succ_mul]; omega
theorem sum_ok (v : Nat → Nat) (hv : ∀ j, v j ≤ 1099511627776) : CSpec Try.prog 43 [] [.agg (ints .i64 (tbl v))] [] (.int (sumv v 64 : Nat)) := by
 refine CSpec.body Try.func43 rfl rfl rfl rfl rfl fun Q hQ => ?_
 refine T.seq fun K1 hK1 => ?_
 refine T.region ?_ -- region 0
 refine ro rfl rfl (OpOk.step (by exact ok_box (x := .tmp 0) (n := 64) rfl (fits_ints (tbl_len v)) (by decide))) ?_
 refine ro rfl rfl (OpOk.step (ok_move (.inr rfl))) ?_
 refine ro_nil ?_
 refine keepK hK1 [1] (by dsimp) (by dsimp) ?_
 refine T.seq fun K2 hK2 => ?_
 refine T.region ?_ -- region 1
 refine ro rfl rfl (OpOk.step (ok_move (.inr rfl))) ?_
 refine ro_nil ?_
 refine keepK hK2 [1, 3] (by dsimp) (by dsimp) ?_
 refine T.seq fun K3 hK3 => ?_
 refine T.seq fun K4 hK4 => ?_
 refine T.region ?_ -- region 2
 refine ro rfl rfl (OpOk.step ((ok_load rfl ti_wear_Table (locA_arr rfl rfl rfl (tbl_ne _)) rfl).eq (x' := .agg (ints .i64 (tbl v))) (by simp [List.take_of_length_le]) rfl)) ?_
 refine ro rfl rfl (OpOk.step (ok_move (.inl rfl))) ?_
 refine ro_nil ?_
 refine keepK hK4 [3, 6, 7] (by dsimp) (by dsimp) ?_
 refine T.block ?_
 refine T.loopI (ι := Nat) (fun i => i ≤ 64) (fun i => 64 - i) (fun i => ([(3, .int (sumv v i : Nat)), (6, .agg (ints .i64 (tbl v))), (7, .int i)], [])) 0 (Nat.zero_le _) (TEnt.fin [] (by decide) (by simp) rfl ⟨rfl, by simp [AV.ren, renL_ints], rfl, trivial⟩) (fun i hi => ?_) -- loop 1
 refine T.seq fun K5 hK5 => ?_
 refine T.region ?_ -- region 3
 refine ro rfl rfl (OpOk.step (ok_binOp rfl ti_int rfl)) ?_
 refine ro_nil ?_
 refine keepK hK5 [3, 6, 7, 8] (by dsimp) (by dsimp) ?_
 refine T.seq fun K6 hK6 => ?_
 refine T.cond rfl (fun hc => ?_) (fun hc => ?_) -- cond 1
 ·(try simp only [dE] at hc)
  have hi64 : i < 64 := by omega
  have hs := sumv_le hv i
  refine T.skip ?_
  refine keepK hK6 [3, 6, 7] (by dsimp) (by dsimp) ?_
  refine T.seq fun K7 hK7 => ?_
  refine T.block ?_
  refine T.seq fun K8 hK8 => ?_
  refine T.region ?_ -- region 4
  refine ro rfl rfl (OpOk.step (by exact ok_index rfl ti_wear_Table rfl ti_int rfl rfl (by omega) (by omega) (loadA_ints rfl (f := (i : Int).toNat * 1) (y := (v i : Int)) (by simpa using tbl_get hi64)))) ?_
  refine ro rfl rfl (OpOk.step (ok_move (.inr rfl))) ?_
  refine ro_nil ?_
  refine keepK hK8 [3, 5, 6, 7] (by dsimp) (by dsimp) ?_
  refine T.region ?_ -- region 5
  refine ro rfl rfl (OpOk.step (ok_move (.inl rfl))) ?_
  refine ro rfl rfl (OpOk.step (ok_move (.inl rfl))) ?_
  refine ro rfl rfl (ok_call rfl rfl rfl ((count_ok (v i) (hv i)).plain rfl rfl)) ?_
  refine ro rfl rfl (OpOk.step ((ok_add64 rfl ti_int rfl rfl (by omega) (by have := hv i; omega)).eq (x' := .int (sumv v (i + 1) : Nat)) (by simp [sumv]) rfl)) ?_
  refine ro rfl rfl (OpOk.step (ok_move (.inr rfl))) ?_
  refine ro_nil ?_
  refine keepK hK7 [3, 6, 7] (by dsimp) (by dsimp) ?_
  refine T.region ?_ -- region 6
  refine ro rfl rfl (OpOk.step (ok_add64 rfl ti_int rfl rfl (by omega) (by omega))) ?_
  refine ro rfl rfl (OpOk.step (ok_move (.inl rfl))) ?_
  refine ro_nil ?_
  exact ⟨i + 1, by omega, by omega, TEnt.toH rfl ⟨rfl, rfl, rfl, trivial⟩⟩
 ·(try simp only [dE] at hc)
  have hin : i = 64 := by omega
  subst hin
  refine T.exit ?_
  refine keepK hK3 [3] (by dsimp) (by dsimp) ?_
  refine T.seq fun K9 hK9 => ?_
  refine T.region ?_ -- region 7
  refine ro rfl rfl (OpOk.step (ok_move (.inl rfl))) ?_
  refine ro rfl rfl (OpOk.step (ok_move (.inr rfl))) ?_
  refine ro_nil ?_
  refine keepK hK9 [2] (by dsimp) (by dsimp) ?_
  refine T.ret (hQ _ _ _ rfl ?_).1 -- ret 1
  exact TEnt.toH rfl ⟨rfl, trivial⟩
/-- The place of the least among the first n, and whether there is one. -/
def least (v : Nat → Nat) : Nat → Nat × Bool
  | 0 => (0, false)
  | n + 1 => if (least v n).2 = false ∨ v n < v (least v n).1 then (n, true) else least v n
theorem least_le (v : Nat → Nat) : ∀ n, (least v n).1 ≤ n
  | 0 => Nat.le_refl _
  | n + 1 => by have := least_le v n; unfold least; split <;> (try dsimp) <;> omega
theorem least_ok (v : Nat → Nat) (n : Nat) (hn : n ≤ 64) : CSpec Try.prog 91 [] [.agg (ints .i64 (tbl v)), .fz 1 (ints .i64 (upto n))] [] (.tup [.int (least v n).1, .b (least v n).2]) := by
 refine CSpec.body Try.func91 rfl rfl rfl rfl rfl fun Q hQ => ?_
 refine T.seq fun K1 hK1 => ?_
 refine T.region ?_ -- region 0
 refine ro rfl rfl (OpOk.step (by exact ok_box (x := .tmp 0) (n := 64) rfl (fits_ints (tbl_len v)) (by decide))) ?_
 refine ro rfl rfl (OpOk.step (ok_move (.inr rfl))) ?_
 refine ro rfl rfl (OpOk.step (ok_moveb (c := false) (.inr rfl) rfl)) ?_
 refine ro_nil ?_
 refine keepK hK1 [1, 2] (by dsimp) (by dsimp) ?_
 refine T.seq fun K2 hK2 => ?_
 refine T.region ?_ -- region 1
 refine ro rfl rfl (OpOk.step (ok_move (.inr rfl))) ?_
 refine ro rfl rfl (OpOk.step (ok_moveb (c := false) (.inr rfl) rfl)) ?_
 refine ro_nil ?_
 refine keepK hK2 [1, 2, 6, 7] (by dsimp) (by dsimp) ?_
 refine T.seq fun K3 hK3 => ?_
 refine T.seq fun K4 hK4 => ?_
 refine T.region ?_ -- region 2
 refine ro rfl rfl (OpOk.step (ok_move (.inl rfl))) ?_
 refine ro rfl rfl (OpOk.step ((ok_len rfl rfl ti_Lint rfl).eq (x' := .int n) (by simp) rfl)) ?_
 refine ro rfl rfl (OpOk.step (ok_move (.inl rfl))) ?_
 refine ro_nil ?_
 refine keepK hK4 [2, 6, 7, 10, 11, 12] (by dsimp) (by dsimp) ?_
 refine T.block ?_
 refine T.loopI (ι := Nat) (fun i => i ≤ n) (fun i => n - i) (fun i => ([(2, .ref 0 0 0), (6, .int (least v i).1), (7, .b (least v i).2), (10, .fz 1 (ints .i64 (upto n))), (11, .int n), (12, .int i)], [some ⟨64, true, [.agg (ints .i64 (tbl v))]⟩])) 0 (Nat.zero_le _) (TEnt.toH rfl ⟨rfl, rfl, rfl, rfl, rfl, rfl, trivial⟩) (fun i hi => ?_) -- loop 1
 refine T.seq fun K5 hK5 => ?_
 refine T.region ?_ -- region 3
 refine ro rfl rfl (OpOk.step (ok_binOp rfl ti_int rfl)) ?_
 refine ro_nil ?_
 refine keepK hK5 [2, 6, 7, 10, 11, 12, 13] (by dsimp) (by dsimp) ?_
 refine T.seq fun K6 hK6 => ?_
 refine T.cond rfl (fun hc => ?_) (fun hc => ?_) -- cond 1
 ·(try simp only [dE] at hc)
  have hi64 : i < 64 := by omega
  have hb64 : (least v i).1 < 64 := by have := least_le v i; omega
  have hlt : (least v i).1 ≤ i := least_le v i
  have hs : least v (i + 1) = if (least v i).2 = false ∨ v i < v (least v i).1 then (i, true) else least v i := rfl
  generalize hL : least v i = L at hs hb64 hlt ⊢
  obtain ⟨b, f⟩ := L
  dsimp only at hs hb64 hlt ⊢
  refine T.skip ?_
  refine keepK hK6 [2, 6, 7, 10, 11, 12] (by dsimp) (by dsimp) ?_
  refine T.seq fun K7 hK7 => ?_
  refine T.block ?_
  refine T.seq fun K8 hK8 => ?_
  refine T.region ?_ -- region 4
  refine ro rfl rfl (OpOk.step (by exact ok_index_ints rfl ti_Lint rfl ti_int rfl rfl rfl (by omega) (upto_get (by omega)))) ?_
  refine ro rfl rfl (OpOk.step (ok_load rfl ti_int rfl rfl)) ?_
  refine ro rfl rfl (OpOk.step (ok_move (.inr rfl))) ?_
  refine ro_nil ?_
  refine keepK hK8 [2, 6, 7, 9, 10, 11, 12] (by dsimp) (by dsimp) ?_
  refine T.seq fun K9 hK9 => ?_
  refine T.seq fun K10 hK10 => ?_
  refine T.region ?_ -- region 5
  refine ro rfl rfl (OpOk.step (ok_move (.inl rfl))) ?_
  refine ro rfl rfl ((ok_call rfl rfl rfl ((there_ok i hi64).plain rfl rfl)).eq (x' := .b true) (congrArg AV.b (rfl)) rfl) ?_
  refine ro rfl rfl (OpOk.step (OpOk.bool (d := false) (ok_unOp rfl rfl) (rfl))) ?_
  refine ro_nil ?_
  refine keepK hK10 [2, 6, 7, 9, 10, 11, 12, 18] (by dsimp) (by dsimp) ?_
  refine T.cond_false rfl ?_
  refine T.skip ?_
  refine keepK hK9 [2, 6, 7, 9, 10, 11, 12] (by dsimp) (by dsimp) ?_
  refine T.seq fun K11 hK11 => ?_
  refine T.drawH mixed [] ?_ -- region 6
  refine any_take 0 rfl (by first | rfl | decide +kernel) rfl (HeldL.refl _) (fun H' hH => OpOk.step (ok_move (.inl rfl))) ?_
  refine any_take 1 rfl (by first | rfl | decide +kernel) rfl (HeldL.refl _) (fun H' hH => OpOk.step (ok_unOp rfl rfl)) ?_
  refine any_take_case 2 rfl (by first | rfl | decide +kernel) rfl (HeldL.refl _) (fun H' hH => OpOk.step (ok_moveb (.inl rfl) rfl)) (fun hb => ?_) (fun hb => ?_)
  ·(try simp only [dE] at hb)
   refine any_skip 3 rfl (by first | rfl | decide +kernel) rfl (HeldL.refl _) ?_
   refine any_skip 4 rfl (by first | rfl | decide +kernel) rfl (HeldL.refl _) ?_
   refine any_skip 5 rfl (by first | rfl | decide +kernel) rfl (HeldL.refl _) ?_
   refine any_skip 6 rfl (by first | rfl | decide +kernel) rfl (HeldL.refl _) ?_
   refine any_skip 7 rfl (by first | rfl | decide +kernel) rfl (HeldL.refl _) ?_
   refine any_skip 8 rfl (by first | rfl | decide +kernel) rfl (HeldL.refl _) ?_
   refine any_skip 9 rfl (by first | rfl | decide +kernel) rfl (HeldL.refl _) ?_
   refine any_take 10 rfl (by first | rfl | decide +kernel) rfl (HeldL.refl _) (fun H' hH => OpOk.step (ok_pickb (t := true) (d := true) rfl rfl rfl)) ?_
   refine any_take 11 rfl (by first | rfl | decide +kernel) rfl (HeldL.refl _) (fun H' hH => OpOk.step (ok_moveb (c := true) (.inl rfl) rfl)) ?_
   refine any_skip 12 rfl (by first | rfl | decide +kernel) rfl (HeldL.refl _) ?_
   refine any_skip 13 rfl (by first | rfl | decide +kernel) rfl (HeldL.refl _) ?_
   refine any_skip 14 rfl (by first | rfl | decide +kernel) rfl (HeldL.refl _) ?_
   refine any_skip 15 rfl (by first | rfl | decide +kernel) rfl (HeldL.refl _) ?_
   refine any_skip 16 rfl (by first | rfl | decide +kernel) rfl (HeldL.refl _) ?_
   refine any_skip 17 rfl (by first | rfl | decide +kernel) rfl (HeldL.refl _) ?_
   refine any_skip 18 rfl (by first | rfl | decide +kernel) rfl (HeldL.refl _) ?_
   refine any_skip 19 rfl (by first | rfl | decide +kernel) rfl (HeldL.refl _) ?_
   refine any_skip 20 rfl (by first | rfl | decide +kernel) rfl (HeldL.refl _) ?_
   refine any_skip 21 rfl (by first | rfl | decide +kernel) rfl (HeldL.refl _) ?_
   refine any_skip 22 rfl (by first | rfl | decide +kernel) rfl (HeldL.refl _) ?_
   refine any_skip 23 rfl (by first | rfl | decide +kernel) rfl (HeldL.refl _) ?_
   refine any_take 24 rfl (by first | rfl | decide +kernel) rfl (HeldL.refl _) (fun H' hH => OpOk.step (ok_pickb (t := true) (d := true) rfl rfl rfl)) ?_
   refine any_done rfl ?_
   refine keepK hK11 [2, 6, 7, 9, 10, 11, 12, 43] (by dsimp) (by dsimp) ?_
   refine T.cond_true rfl ?_
   refine T.region ?_ -- region 7
   refine ro rfl rfl (OpOk.step (ok_move (.inl rfl))) ?_
   refine ro rfl rfl (OpOk.step (ok_move (.inr rfl))) ?_
   refine ro rfl rfl (OpOk.step (ok_moveb (c := true) (.inr rfl) rfl)) ?_
   refine ro_nil ?_
   refine keepK hK7 [2, 6, 7, 10, 11, 12] (by dsimp) (by dsimp) ?_
   refine T.region ?_ -- region 8
   refine ro rfl rfl (OpOk.step (ok_add64 rfl ti_int rfl rfl (by omega) (by omega))) ?_
   refine ro rfl rfl (OpOk.step (ok_move (.inl rfl))) ?_
   refine ro_nil ?_
   have key : (least v (i + 1) = (i, true) ∨ least v (i + 1) = (b, f)) := by rw [hs]; split <;> simp
   first
     | (have e : least v (i + 1) = (i, true) := by
          rw [hs]
          first
            | exact if_pos (.inl (by assumption))
            | exact if_pos (.inr (by omega))
            | (exfalso; omega)
        exact ⟨i + 1, by omega, by omega, TEnt.toH rfl ⟨rfl, by (try dsimp); rw [e], by (try dsimp); rw [e], rfl, rfl, rfl, trivial⟩⟩)
     | (have e : least v (i + 1) = (b, f) := by
          rw [hs]
          refine if_neg ?_
          rintro (h | h)
          · simp_all; done
          · omega
        exact ⟨i + 1, by omega, by omega, TEnt.toH rfl ⟨rfl, by (try dsimp); rw [e], by (try dsimp); rw [e], rfl, rfl, rfl, trivial⟩⟩)
  ·(try simp only [dE] at hb)
   refine any_take 3 rfl (by first | rfl | decide +kernel) rfl (HeldL.refl _) (fun H' hH => OpOk.step (ok_move (.inl rfl))) ?_
   refine any_take 4 rfl (by first | rfl | decide +kernel) rfl (HeldL.refl _) (fun H' hH => OpOk.step (by exact ok_index_arr rfl ti_wear_Table rfl ti_int rfl rfl rfl rfl hi64)) ?_
   refine any_take 5 rfl (by first | rfl | decide +kernel) rfl (HeldL.refl _) (fun H' hH => OpOk.step (by exact ok_load rfl ti_int (locA_held hH (locA_arr rfl rfl rfl (tbl_ne v))) (loadA_ints rfl (tbl_get hi64)))) ?_
   refine any_take 6 rfl (by first | rfl | decide +kernel) rfl (HeldL.refl _) (fun H' hH => OpOk.step (ok_move (.inl rfl))) ?_
   refine any_take 7 rfl (by first | rfl | decide +kernel) rfl (HeldL.refl _) (fun H' hH => OpOk.step (by exact ok_index_arr rfl ti_wear_Table rfl ti_int rfl rfl rfl rfl hb64)) ?_
   refine any_take 8 rfl (by first | rfl | decide +kernel) rfl (HeldL.refl _) (fun H' hH => OpOk.step (by exact ok_load rfl ti_int (locA_held hH (locA_arr rfl rfl rfl (tbl_ne v))) (loadA_ints rfl (tbl_get hb64)))) ?_
   refine any_take 9 rfl (by first | rfl | decide +kernel) rfl (HeldL.refl _) (fun H' hH => OpOk.step (ok_binOp rfl ti_int rfl)) ?_
   refine any_take 10 rfl (by first | rfl | decide +kernel) rfl (HeldL.refl _) (fun H' hH => OpOk.step (ok_pick rfl rfl)) ?_
   refine any_take_case 11 rfl (by first | rfl | decide +kernel) rfl (HeldL.refl _) (fun H' hH => OpOk.step (ok_moveb (.inl rfl) rfl)) (fun hb => ?_) (fun hb => ?_)
   ·(try simp only [dE] at hb)
    refine any_skip 12 rfl (by first | rfl | decide +kernel) rfl (HeldL.refl _) ?_
    refine any_skip 13 rfl (by first | rfl | decide +kernel) rfl (HeldL.refl _) ?_
    refine any_skip 14 rfl (by first | rfl | decide +kernel) rfl (HeldL.refl _) ?_
    refine any_skip 15 rfl (by first | rfl | decide +kernel) rfl (HeldL.refl _) ?_
    refine any_skip 16 rfl (by first | rfl | decide +kernel) rfl (HeldL.refl _) ?_
    refine any_skip 17 rfl (by first | rfl | decide +kernel) rfl (HeldL.refl _) ?_
    refine any_skip 18 rfl (by first | rfl | decide +kernel) rfl (HeldL.refl _) ?_
    refine any_skip 19 rfl (by first | rfl | decide +kernel) rfl (HeldL.refl _) ?_
    refine any_skip 20 rfl (by first | rfl | decide +kernel) rfl (HeldL.refl _) ?_
    refine any_skip 21 rfl (by first | rfl | decide +kernel) rfl (HeldL.refl _) ?_
    refine any_skip 22 rfl (by first | rfl | decide +kernel) rfl (HeldL.refl _) ?_
    refine any_skip 23 rfl (by first | rfl | decide +kernel) rfl (HeldL.refl _) ?_
    refine any_take 24 rfl (by first | rfl | decide +kernel) rfl (HeldL.refl _) (fun H' hH => OpOk.step (ok_pickb (t := true) (d := true) rfl rfl rfl)) ?_
    refine any_done rfl ?_
    refine keepK hK11 [2, 6, 7, 9, 10, 11, 12, 43] (by dsimp) (by dsimp) ?_
    refine T.cond_true rfl ?_
    refine T.region ?_ -- region 7
    refine ro rfl rfl (OpOk.step (ok_move (.inl rfl))) ?_
    refine ro rfl rfl (OpOk.step (ok_move (.inr rfl))) ?_
    refine ro rfl rfl (OpOk.step (ok_moveb (c := true) (.inr rfl) rfl)) ?_
    refine ro_nil ?_
    refine keepK hK7 [2, 6, 7, 10, 11, 12] (by dsimp) (by dsimp) ?_
    refine T.region ?_ -- region 8
    refine ro rfl rfl (OpOk.step (ok_add64 rfl ti_int rfl rfl (by omega) (by omega))) ?_
    refine ro rfl rfl (OpOk.step (ok_move (.inl rfl))) ?_
    refine ro_nil ?_
    have key : (least v (i + 1) = (i, true) ∨ least v (i + 1) = (b, f)) := by rw [hs]; split <;> simp
    first
      | (have e : least v (i + 1) = (i, true) := by
           rw [hs]
           first
             | exact if_pos (.inl (by assumption))
             | exact if_pos (.inr (by omega))
             | (exfalso; omega)
         exact ⟨i + 1, by omega, by omega, TEnt.toH rfl ⟨rfl, by (try dsimp); rw [e], by (try dsimp); rw [e], rfl, rfl, rfl, trivial⟩⟩)
      | (have e : least v (i + 1) = (b, f) := by
           rw [hs]
           refine if_neg ?_
           rintro (h | h)
           · simp_all; done
           · omega
         exact ⟨i + 1, by omega, by omega, TEnt.toH rfl ⟨rfl, by (try dsimp); rw [e], by (try dsimp); rw [e], rfl, rfl, rfl, trivial⟩⟩)
   ·(try simp only [dE] at hb)
    refine any_take 12 rfl (by first | rfl | decide +kernel) rfl (HeldL.refl _) (fun H' hH => OpOk.step (ok_move (.inl rfl))) ?_
    refine any_take 13 rfl (by first | rfl | decide +kernel) rfl (HeldL.refl _) (fun H' hH => OpOk.step (by exact ok_index_arr rfl ti_wear_Table rfl ti_int rfl rfl rfl rfl hi64)) ?_
    refine any_take 14 rfl (by first | rfl | decide +kernel) rfl (HeldL.refl _) (fun H' hH => OpOk.step (by exact ok_load rfl ti_int (locA_held hH (locA_arr rfl rfl rfl (tbl_ne v))) (loadA_ints rfl (tbl_get hi64)))) ?_
    refine any_take 15 rfl (by first | rfl | decide +kernel) rfl (HeldL.refl _) (fun H' hH => OpOk.step (ok_move (.inl rfl))) ?_
    refine any_take 16 rfl (by first | rfl | decide +kernel) rfl (HeldL.refl _) (fun H' hH => OpOk.step (by exact ok_index_arr rfl ti_wear_Table rfl ti_int rfl rfl rfl rfl hb64)) ?_
    refine any_take 17 rfl (by first | rfl | decide +kernel) rfl (HeldL.refl _) (fun H' hH => OpOk.step (by exact ok_load rfl ti_int (locA_held hH (locA_arr rfl rfl rfl (tbl_ne v))) (loadA_ints rfl (tbl_get hb64)))) ?_
    refine any_take 18 rfl (by first | rfl | decide +kernel) rfl (HeldL.refl _) (fun H' hH => OpOk.step (ok_binOp rfl ti_int rfl)) ?_
    refine any_take_case 19 rfl (by first | rfl | decide +kernel) rfl (HeldL.refl _) (fun H' hH => OpOk.step (ok_moveb (.inl rfl) rfl)) (fun hb => ?_) (fun hb => ?_)
    ·(try simp only [dE] at hb)
     refine any_take 20 rfl (by first | rfl | decide +kernel) rfl (HeldL.refl _) (fun H' hH => OpOk.step (ok_move (.inl rfl))) ?_
     refine any_take 21 rfl (by first | rfl | decide +kernel) rfl (HeldL.refl _) (fun H' hH => OpOk.step (ok_move (.inl rfl))) ?_
     refine any_take 22 rfl (by first | rfl | decide +kernel) rfl (HeldL.refl _) (fun H' hH => OpOk.step (ok_binOp rfl ti_int rfl)) ?_
     refine any_take 23 rfl (by first | rfl | decide +kernel) rfl (HeldL.refl _) (fun H' hH => OpOk.step (ok_pick rfl rfl)) ?_
     refine any_take 24 rfl (by first | rfl | decide +kernel) rfl (HeldL.refl _) (fun H' hH => OpOk.step (ok_pick rfl rfl)) ?_
     refine any_done rfl ?_
     refine keepK hK11 [2, 6, 7, 9, 10, 11, 12, 43] (by dsimp) (by dsimp) ?_
     refine T.cond rfl (fun hc => ?_) (fun hc => ?_) -- cond 2
     ·(try simp only [dE] at hc)
      refine T.region ?_ -- region 7
      refine ro rfl rfl (OpOk.step (ok_move (.inl rfl))) ?_
      refine ro rfl rfl (OpOk.step (ok_move (.inr rfl))) ?_
      refine ro rfl rfl (OpOk.step (ok_moveb (c := true) (.inr rfl) rfl)) ?_
      refine ro_nil ?_
      refine keepK hK7 [2, 6, 7, 10, 11, 12] (by dsimp) (by dsimp) ?_
      refine T.region ?_ -- region 8
      refine ro rfl rfl (OpOk.step (ok_add64 rfl ti_int rfl rfl (by omega) (by omega))) ?_
      refine ro rfl rfl (OpOk.step (ok_move (.inl rfl))) ?_
      refine ro_nil ?_
      have key : (least v (i + 1) = (i, true) ∨ least v (i + 1) = (b, f)) := by rw [hs]; split <;> simp
      first
        | (have e : least v (i + 1) = (i, true) := by
             rw [hs]
             first
               | exact if_pos (.inl (by assumption))
               | exact if_pos (.inr (by omega))
               | (exfalso; omega)
           exact ⟨i + 1, by omega, by omega, TEnt.toH rfl ⟨rfl, by (try dsimp); rw [e], by (try dsimp); rw [e], rfl, rfl, rfl, trivial⟩⟩)
        | (have e : least v (i + 1) = (b, f) := by
             rw [hs]
             refine if_neg ?_
             rintro (h | h)
             · simp_all; done
             · omega
           exact ⟨i + 1, by omega, by omega, TEnt.toH rfl ⟨rfl, by (try dsimp); rw [e], by (try dsimp); rw [e], rfl, rfl, rfl, trivial⟩⟩)
     ·(try simp only [dE] at hc)
      refine T.skip ?_
      refine keepK hK7 [2, 6, 7, 10, 11, 12] (by dsimp) (by dsimp) ?_
      refine T.region ?_ -- region 8
      refine ro rfl rfl (OpOk.step (ok_add64 rfl ti_int rfl rfl (by omega) (by omega))) ?_
      refine ro rfl rfl (OpOk.step (ok_move (.inl rfl))) ?_
      refine ro_nil ?_
      have key : (least v (i + 1) = (i, true) ∨ least v (i + 1) = (b, f)) := by rw [hs]; split <;> simp
      first
        | (have e : least v (i + 1) = (i, true) := by
             rw [hs]
             first
               | exact if_pos (.inl (by assumption))
               | exact if_pos (.inr (by omega))
               | (exfalso; omega)
           exact ⟨i + 1, by omega, by omega, TEnt.toH rfl ⟨rfl, by (try dsimp); rw [e], by (try dsimp); rw [e], rfl, rfl, rfl, trivial⟩⟩)
        | (have e : least v (i + 1) = (b, f) := by
             rw [hs]
             refine if_neg ?_
             rintro (h | h)
             · simp_all; done
             · omega
           exact ⟨i + 1, by omega, by omega, TEnt.toH rfl ⟨rfl, by (try dsimp); rw [e], by (try dsimp); rw [e], rfl, rfl, rfl, trivial⟩⟩)
    ·(try simp only [dE] at hb)
     refine any_skip 20 rfl (by first | rfl | decide +kernel) rfl (HeldL.refl _) ?_
     refine any_skip 21 rfl (by first | rfl | decide +kernel) rfl (HeldL.refl _) ?_
     refine any_skip 22 rfl (by first | rfl | decide +kernel) rfl (HeldL.refl _) ?_
     refine any_take 23 rfl (by first | rfl | decide +kernel) rfl (HeldL.refl _) (fun H' hH => OpOk.step (ok_pickb (t := false) (d := false) rfl rfl rfl)) ?_
     refine any_take 24 rfl (by first | rfl | decide +kernel) rfl (HeldL.refl _) (fun H' hH => OpOk.step (ok_pickb (t := false) (d := false) rfl rfl rfl)) ?_
     refine any_done rfl ?_
     refine keepK hK11 [2, 6, 7, 9, 10, 11, 12, 43] (by dsimp) (by dsimp) ?_
     refine T.cond_false rfl ?_
     refine T.skip ?_
     refine keepK hK7 [2, 6, 7, 10, 11, 12] (by dsimp) (by dsimp) ?_
     refine T.region ?_ -- region 8
     refine ro rfl rfl (OpOk.step (ok_add64 rfl ti_int rfl rfl (by omega) (by omega))) ?_
     refine ro rfl rfl (OpOk.step (ok_move (.inl rfl))) ?_
     refine ro_nil ?_
     have key : (least v (i + 1) = (i, true) ∨ least v (i + 1) = (b, f)) := by rw [hs]; split <;> simp
     first
       | (have e : least v (i + 1) = (i, true) := by
            rw [hs]
            first
              | exact if_pos (.inl (by assumption))
              | exact if_pos (.inr (by omega))
              | (exfalso; omega)
          exact ⟨i + 1, by omega, by omega, TEnt.toH rfl ⟨rfl, by (try dsimp); rw [e], by (try dsimp); rw [e], rfl, rfl, rfl, trivial⟩⟩)
       | (have e : least v (i + 1) = (b, f) := by
            rw [hs]
            refine if_neg ?_
            rintro (h | h)
            · simp_all; done
            · omega
          exact ⟨i + 1, by omega, by omega, TEnt.toH rfl ⟨rfl, by (try dsimp); rw [e], by (try dsimp); rw [e], rfl, rfl, rfl, trivial⟩⟩)
 ·(try simp only [dE] at hc)
  have hin : i = n := by omega
  subst hin
  refine T.exit ?_
  refine keepK hK3 [6, 7] (by dsimp) (by dsimp) ?_
  refine T.seq fun K12 hK12 => ?_
  refine T.region ?_ -- region 9
  refine ro rfl rfl (OpOk.step (ok_move (.inl rfl))) ?_
  refine ro rfl rfl (OpOk.step (ok_move (.inl rfl))) ?_
  refine ro rfl rfl (OpOk.step (ok_move (.inr rfl))) ?_
  refine ro rfl rfl (OpOk.step (ok_move (.inr rfl))) ?_
  refine ro_nil ?_
  refine keepK hK12 [4, 5] (by dsimp) (by dsimp) ?_
  refine T.ret (hQ _ _ _ rfl ?_).1 -- ret 1
  exact TEnt.fin [] (by decide) (by simp) rfl ⟨rfl, trivial⟩
theorem class50 : CSpec Try.prog 92 [] [.int 50] [] (.int 2) := by
 refine CSpec.body Try.func92 rfl rfl rfl rfl rfl fun Q hQ => ?_
 refine T.seq fun K1 hK1 => ?_
 refine T.region ?_ -- region 0
 refine ro rfl rfl (OpOk.step (ok_move (.inr rfl))) ?_
 refine ro_nil ?_
 refine keepK hK1 [0] (by dsimp) (by dsimp) ?_
 refine T.seq fun K2 hK2 => ?_
 refine T.block ?_
 refine T.seq fun K3 hK3 => ?_
 refine T.region ?_ -- region 1
 refine ro rfl rfl (OpOk.step (ok_move (.inl rfl))) ?_
 refine ro rfl rfl (OpOk.step (OpOk.bool (d := false) (ok_binOp rfl ti_int rfl) (by decide))) ?_
 refine ro rfl rfl (OpOk.step (ok_moveb (c := false) (.inr rfl) rfl)) ?_
 refine ro_nil ?_
 refine keepK hK3 [0, 3] (by dsimp) (by dsimp) ?_
 refine T.cond_false rfl ?_
 refine T.seq fun K4 hK4 => ?_
 refine T.region ?_ -- region 3
 refine ro rfl rfl (OpOk.step (ok_move (.inl rfl))) ?_
 refine ro rfl rfl (OpOk.step (OpOk.bool (d := false) (ok_binOp rfl ti_int rfl) (by decide))) ?_
 refine ro rfl rfl (OpOk.step (ok_moveb (c := false) (.inr rfl) rfl)) ?_
 refine ro_nil ?_
 refine keepK hK4 [0, 6] (by dsimp) (by dsimp) ?_
 refine T.cond_false rfl ?_
 refine T.seq fun K5 hK5 => ?_
 refine T.region ?_ -- region 5
 refine ro rfl rfl (OpOk.step (ok_move (.inl rfl))) ?_
 refine ro rfl rfl (OpOk.step (OpOk.bool (d := true) (ok_binOp rfl ti_int rfl) (by decide))) ?_
 refine ro rfl rfl (OpOk.step (ok_moveb (c := true) (.inr rfl) rfl)) ?_
 refine ro_nil ?_
 refine keepK hK5 [9] (by dsimp) (by dsimp) ?_
 refine T.cond_true rfl ?_
 refine T.seq fun K6 hK6 => ?_
 refine T.region ?_ -- region 6
 refine ro rfl rfl (OpOk.step (ok_move (.inr rfl))) ?_
 refine ro_nil ?_
 refine keepK hK6 [2] (by dsimp) (by dsimp) ?_
 refine T.ret (hQ _ _ _ rfl ?_).1 -- ret 1
 exact TEnt.toH rfl ⟨rfl, trivial⟩
def lo (v : Nat → Nat) : Nat → Nat
  | 0 => 0
  | n + 1 => if n = 0 then v 0 else min (lo v n) (v n)
def hiv (v : Nat → Nat) : Nat → Nat
  | 0 => 0
  | n + 1 => if n = 0 then v 0 else max (hiv v n) (v n)
theorem lohi {v : Nat → Nat} {n a : Nat} (h : ∀ j, j < n → a ≤ v j ∧ v j ≤ a + 1) : ∀ j, 0 < j → j ≤ n → a ≤ lo v j ∧ hiv v j ≤ a + 1
  | j + 1, _, hj => by
    have h1 := h j (by omega)
    have h0 := h 0 (by omega)
    unfold lo hiv
    by_cases e : j = 0
    · rw [if_pos e, if_pos e]; omega
    · rw [if_neg e, if_neg e]
      have := lohi h j (by omega) (by omega)
      omega
theorem lo_le {v : Nat → Nat} {m : Nat} (h : ∀ j, v j ≤ m) : ∀ j, lo v j ≤ m ∧ hiv v j ≤ m
  | 0 => ⟨Nat.zero_le _, Nat.zero_le _⟩
  | j + 1 => by
    have h1 := h j
    have h0 := h 0
    have := lo_le h j
    unfold lo hiv
    split <;> omega
def v211 (j : Nat) : Nat := if j = 0 then 2 else if j = 1 ∨ j = 2 then 1 else 0
theorem live40_ok : CSpec Try.prog 41 [] [] [] (.b true) := by
 refine CSpec.body Try.func41 rfl rfl rfl rfl rfl fun Q hQ => ?_
 refine T.seq fun K1 hK1 => ?_
 refine T.region ?_ -- region 0
 refine ro rfl rfl (OpOk.step (ok_moveb (c := false) (.inr rfl) rfl)) ?_
 refine ro_nil ?_
 refine keepK hK1 [] (by dsimp) (by dsimp) ?_
 refine T.seq fun K2 hK2 => ?_
 refine T.region ?_ -- region 1
 refine ro rfl rfl (OpOk.step ((ok_build rfl ti_wear_Table rfl).eq (x' := .agg (ints .i64 (tbl v211))) rfl rfl)) ?_
 refine ro rfl rfl (OpOk.step (ok_buildSlice (n := 3) (ps := #[(0, .const (.int .i64 (0))), (1, .const (.int .i64 (1))), (2, .const (.int .i64 (2)))]) rfl ti_Lint rfl ti_int (by decide) rfl rfl (by decide) rfl rfl rfl)) ?_
 refine ro rfl rfl (ok_call rfl rfl rfl ((least_ok v211 3 (by decide)).lendR (R := []) (R' := []) (x' := .tup [.int 1, .b true]) (EntL.append (l := [_]) (l' := [_]) (EntL.refl _) (EntL.cons (Ent.lent 0 1 (ints .i64 (upto 3)) rfl rfl) EntL.nil)) (by simp [renL, AV.ren, renL_ints]) rfl rfl rfl rfl)) ?_
 refine ro rfl rfl (OpOk.step (ok_move (.inl rfl))) ?_
 refine ro rfl rfl (OpOk.step (ok_extract rfl rfl rfl)) ?_
 refine ro rfl rfl (OpOk.step (OpOk.bool (d := true) (ok_extract rfl rfl rfl) (rfl))) ?_
 refine ro rfl rfl (OpOk.step (ok_move (.inr rfl))) ?_
 refine ro rfl rfl (OpOk.step (ok_moveb (c := true) (.inr rfl) rfl)) ?_
 refine ro_nil ?_
 refine keepK hK2 [1, 2] (by dsimp) (by dsimp) ?_
 refine T.seq fun K3 hK3 => ?_
 refine T.region ?_ -- region 2
 refine ro rfl rfl (OpOk.step (ok_move (.inl rfl))) ?_
 refine ro rfl rfl (OpOk.step (OpOk.bool (d := true) (ok_binOp rfl ti_int rfl) (by decide))) ?_
 refine ro rfl rfl (OpOk.step (ok_moveb (c := true) (.inl rfl) rfl)) ?_
 refine ro rfl rfl (OpOk.step (ok_moveb (c := true) (.inl rfl) rfl)) ?_
 refine ro rfl rfl (OpOk.step (ok_pickb (t := true) (d := true) rfl rfl rfl)) ?_
 refine ro rfl rfl (OpOk.step (ok_moveb (c := true) (.inl rfl) rfl)) ?_
 refine ro rfl rfl (ok_call rfl rfl rfl (class50.plain rfl rfl)) ?_
 refine ro rfl rfl (OpOk.step (OpOk.bool (d := true) (ok_binOp rfl ti_int rfl) (by decide))) ?_
 refine ro rfl rfl (OpOk.step (ok_pickb (t := true) (d := true) rfl rfl rfl)) ?_
 refine ro rfl rfl (OpOk.step (ok_moveb (c := true) (.inr rfl) rfl)) ?_
 refine ro_nil ?_
 refine keepK hK3 [0] (by dsimp) (by dsimp) ?_
 refine T.ret (hQ _ _ _ rfl ?_).1 -- ret 1
 exact TEnt.fin [] (by decide) (by simp) rfl ⟨rfl, trivial⟩
/-- The table after i turns over n places. -/
def E (n i j : Nat) : Nat := if j < n then i / n + (if j < i % n then 1 else 0) else 0
theorem E_zero (n : Nat) : E n 0 = fun _ => 0 := by
  funext j
  unfold E
  rw [Nat.zero_div, Nat.zero_mod, if_neg (Nat.not_lt_zero j)]
  split <;> rfl
theorem E_succ {n : Nat} (hn : 0 < n) (i : Nat) : bump (E n i) (i % n) = E n (i + 1) := by
  have hr := Nat.mod_lt i hn
  have hd := Nat.div_add_mod i n
  obtain ⟨q, hq⟩ : ∃ q, i / n = q := ⟨_, rfl⟩
  obtain ⟨r, hr'⟩ : ∃ r, i % n = r := ⟨_, rfl⟩
  rw [hq, hr'] at hd
  rw [hr'] at hr
  funext j
  unfold bump E
  rw [hq, hr']
  by_cases h : r + 1 < n
  · have e1 : (i + 1) / n = q := by rw [← hd, Nat.add_assoc, Nat.mul_add_div hn, Nat.div_eq_of_lt h, Nat.add_zero]
    have e2 : (i + 1) % n = r + 1 := by rw [← hd, Nat.add_assoc, Nat.mul_add_mod, Nat.mod_eq_of_lt h]
    rw [e1, e2]
    split <;> split <;> (try split) <;> (try split) <;> omega
  · have e0 : i + 1 = n * (q + 1) := by rw [Nat.mul_add, Nat.mul_one]; omega
    have e1 : (i + 1) / n = q + 1 := by rw [e0, Nat.mul_div_cancel_left _ hn]
    have e2 : (i + 1) % n = 0 := by rw [e0, Nat.mul_mod_right]
    rw [e1, e2]
    split <;> split <;> (try split) <;> (try split) <;> omega
theorem E_le (n i j : Nat) : E n i j ≤ i + 1 := by
  have := Nat.div_le_self i n
  unfold E
  split <;> (try split) <;> omega
theorem E_in {n : Nat} (i : Nat) : ∀ j, j < n → i / n ≤ E n i j ∧ E n i j ≤ i / n + 1 := by
  intro j hj
  unfold E
  rw [if_pos hj]
  split <;> omega
theorem E_lt {n i j : Nat} (hj : j < n) : E n i j = i / n + (if j < i % n then 1 else 0) := if_pos hj
theorem least_E {n : Nat} (hn : 0 < n) (i : Nat) : ∀ j, j ≤ n → least (E n i) j = if j = 0 then (0, false) else if j ≤ i % n then (0, true) else (i % n, true)
  | 0, _ => rfl
  | j + 1, hj => by
    have ih := least_E hn i j (by omega)
    have hr := Nat.mod_lt i hn
    unfold least
    rw [ih]
    by_cases h0 : j = 0
    · subst h0
      simp only [if_true]
      by_cases h1 : 0 + 1 ≤ i % n
      · simp [h1]
      · have : i % n = 0 := by omega
        simp [this]
    · rw [if_neg h0, if_neg (by omega : ¬ j + 1 = 0)]
      by_cases h1 : j ≤ i % n
      · rw [if_pos h1]
        simp only [Bool.true_eq_false, false_or]
        rw [E_lt (by omega : j < n), E_lt hn]
        by_cases h2 : j = i % n
        · rw [if_neg (by omega : ¬ j < i % n), if_pos (by omega : 0 < i % n), if_pos (by omega), if_neg (by omega), h2]
        · rw [if_pos (by omega : j < i % n), if_pos (by omega : 0 < i % n), if_neg (by omega), if_pos (by omega)]
      · rw [if_neg h1, if_neg (by omega : ¬ j + 1 ≤ i % n)]
        simp only [Bool.true_eq_false, false_or]
        rw [E_lt (by omega : j < n), E_lt hr, if_neg (by omega : ¬ j < i % n), if_neg (Nat.lt_irrefl _), if_neg (Nat.lt_irrefl _)]
theorem sum_bump (v : Nat → Nat) (k : Nat) : ∀ n, sumv (bump v k) n = sumv v n + (if k < n then 1 else 0)
  | 0 => by simp [sumv]
  | n + 1 => by
    simp only [sumv, sum_bump v k n, bump]
    by_cases h : n = k
    · subst h; rw [if_pos rfl, if_neg (Nat.lt_irrefl _), if_pos (by omega)]; omega
    · rw [if_neg h]
      by_cases h2 : k < n
      · rw [if_pos h2, if_pos (by omega)]; omega
      · rw [if_neg h2, if_neg (by omega)]; omega
theorem sum_zero : ∀ n, sumv (fun _ => 0) n = 0
  | 0 => rfl
  | n + 1 => by simp [sumv, sum_zero n]
theorem sum_E {n : Nat} (hn : 0 < n) (h64 : n ≤ 64) : ∀ i, sumv (E n i) 64 = i
  | 0 => by rw [E_zero, sum_zero]
  | i + 1 => by
    have := Nat.mod_lt i hn
    rw [← E_succ hn i, sum_bump, sum_E hn h64 i, if_pos (by omega)]
end Go.Proofs.Ytlegolcbjjjofaa.AmF
