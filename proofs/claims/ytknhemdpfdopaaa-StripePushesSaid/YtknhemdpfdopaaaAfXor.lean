/- Walks over the abstract machine: parities. -/
import Derived.Test.YtknhemdpfdopaaaAmFacts
import Derived.Test.YtknhemdpfdopaaaAmNum
import Derived.Test.YtknhemdpfdopaaaAfClone
namespace Go.Proofs.Ytknhemdpfdopaaa.AmF
open Go Go.AM
set_option maxRecDepth 100000
set_option linter.unusedSimpArgs false
set_option linter.unusedVariables false
attribute [local simp] tkeep tget tput ev cav argsTM pickA normT putA splice AV.cells ints_length rowsA_length
def X (a b : Int) : Int := Go.bits .xor .u8 a b
theorem X_nat (a b : Nat) (ha : a < 256) (hb : b < 256) : X a b = ((a ^^^ b : Nat) : Int) := xor8_nat a b ha hb
theorem X_byte (a b : Int) (ha : 0 ≤ a ∧ a < 256) (hb : 0 ≤ b ∧ b < 256) : 0 ≤ X a b ∧ X a b < 256 := by
  obtain ⟨n, rfl⟩ := Int.eq_ofNat_of_zero_le ha.1
  obtain ⟨m, rfl⟩ := Int.eq_ofNat_of_zero_le hb.1
  rw [X_nat n m (by omega) (by omega)]
  have : n ^^^ m < 2 ^ 8 := Nat.xor_lt_two_pow (by omega) (by omega)
  omega
theorem X_comm (a b : Int) (ha : 0 ≤ a ∧ a < 256) (hb : 0 ≤ b ∧ b < 256) : X a b = X b a := by
  obtain ⟨n, rfl⟩ := Int.eq_ofNat_of_zero_le ha.1
  obtain ⟨m, rfl⟩ := Int.eq_ofNat_of_zero_le hb.1
  rw [X_nat n m (by omega) (by omega), X_nat m n (by omega) (by omega), Nat.xor_comm]
theorem X_zero (a : Int) (ha : 0 ≤ a ∧ a < 256) : X a 0 = a := by
  obtain ⟨n, rfl⟩ := Int.eq_ofNat_of_zero_le ha.1
  have := X_nat n 0 (by omega) (by omega)
  rw [show ((0 : Nat) : Int) = 0 from rfl] at this
  rw [this, Nat.xor_zero]
theorem byte_at {l : List Int} (h : Bytes l) (i : Nat) : 0 ≤ l.getD i 0 ∧ l.getD i 0 < 256 := by
  rw [List.getD_eq_getElem?_getD]
  cases hi : l[i]? with
  | none => simp
  | some c => exact h c (List.mem_of_getElem? hi)
theorem ext0 {a b : List Int} (hl : a.length = b.length) (h : ∀ i, a.getD i 0 = b.getD i 0) : a = b := by
  apply List.ext_getElem hl
  intro i h1 h2
  have := h i
  rwa [List.getD_eq_getElem?_getD, List.getD_eq_getElem?_getD, List.getElem?_eq_getElem h1, List.getElem?_eq_getElem h2] at this
theorem get_map (f : Nat → Int) (n i : Nat) : ((List.range n).map f).getD i 0 = if i < n then f i else 0 := by
  rw [List.getD_eq_getElem?_getD, List.getElem?_map]
  by_cases h : i < n
  · rw [if_pos h, List.getElem?_range h]; rfl
  · rw [if_neg h, List.getElem?_eq_none (by simp; omega)]; rfl
theorem getD_none {l : List Int} {i : Nat} (h : l.length ≤ i) : l.getD i 0 = 0 := by
  rw [List.getD_eq_getElem?_getD, List.getElem?_eq_none h]; rfl
/-- Place by place; 0 behind an end. -/
def zipx (a b : List Int) : List Int := (List.range (max a.length b.length)).map fun i => X (a.getD i 0) (b.getD i 0)
theorem zipx_len (a b : List Int) : (zipx a b).length = max a.length b.length := by simp [zipx]
theorem zipx_get (a b : List Int) (i : Nat) : (zipx a b).getD i 0 = X (a.getD i 0) (b.getD i 0) := by
  unfold zipx
  rw [get_map]
  split
  · rfl
  · rw [getD_none (by omega), getD_none (by omega)]; decide +kernel
theorem zipx_comm {a b : List Int} (ha : Bytes a) (hb : Bytes b) : zipx a b = zipx b a :=
  ext0 (by rw [zipx_len, zipx_len, Nat.max_comm]) fun i => by rw [zipx_get, zipx_get, X_comm _ _ (byte_at ha i) (byte_at hb i)]
theorem bytes_get {l : List Int} (h : ∀ i, 0 ≤ l.getD i 0 ∧ l.getD i 0 < 256) : Bytes l := by
  intro x hx
  obtain ⟨i, hi⟩ := List.getElem?_of_mem hx
  have := h i
  rwa [List.getD_eq_getElem?_getD, hi] at this
theorem zipx_bytes {a b : List Int} (ha : Bytes a) (hb : Bytes b) : Bytes (zipx a b) :=
  bytes_get fun i => by rw [zipx_get]; exact X_byte _ _ (byte_at ha i) (byte_at hb i)
/-- The first i places turned. -/
def upd (a b : List Int) (i : Nat) : List Int := (List.range a.length).map fun j => if j < i then X (a.getD j 0) (b.getD j 0) else a.getD j 0
theorem upd_len (a b : List Int) (i : Nat) : (upd a b i).length = a.length := by simp [upd]
theorem upd_get (a b : List Int) (i j : Nat) : (upd a b i).getD j 0 = if j < a.length then (if j < i then X (a.getD j 0) (b.getD j 0) else a.getD j 0) else 0 := get_map _ _ _
theorem upd_zero (a b : List Int) : upd a b 0 = a := ext0 (upd_len _ _ _) fun i => by
  rw [upd_get]
  split
  · rfl
  · rw [getD_none (by omega)]
theorem upd_at {a b : List Int} {i : Nat} (h : i < a.length) : (upd a b i)[i]? = some (a.getD i 0) := by
  have h1 := upd_get a b i i
  rw [if_pos h, if_neg (Nat.lt_irrefl _), List.getD_eq_getElem?_getD, List.getElem?_eq_getElem (by rw [upd_len]; exact h)] at h1
  rw [List.getElem?_eq_getElem (by rw [upd_len]; exact h)]
  exact congrArg some h1
theorem upd_succ {a b : List Int} {i : Nat} (h : i < a.length) : (upd a b i).set i (X (a.getD i 0) (b.getD i 0)) = upd a b (i + 1) := by
  apply List.ext_getElem?
  intro j
  have e : ∀ m, (upd a b m)[j]? = if j < a.length then some (if j < m then X (a.getD j 0) (b.getD j 0) else a.getD j 0) else none := by
    intro m
    unfold upd
    rw [List.getElem?_map]
    by_cases hj : j < a.length
    · rw [List.getElem?_range hj, if_pos hj]; rfl
    · rw [List.getElem?_eq_none (by simp; omega), if_neg hj]; rfl
  rw [List.getElem?_set, e, e, upd_len]
  by_cases hj : i = j
  · subst hj
    rw [if_pos rfl, if_pos h, if_pos h, if_pos (by omega)]
  · rw [if_neg hj]
    by_cases hl : j < a.length
    · rw [if_pos hl, if_pos hl]
      by_cases hi : j < i
      · rw [if_pos hi, if_pos (by omega)]
      · rw [if_neg hi, if_neg (by omega)]
    · rw [if_neg hl, if_neg hl]
theorem upd_all {a b : List Int} (ha : Bytes a) (h : b.length ≤ a.length) : upd a b b.length = zipx a b := ext0 (by rw [upd_len, zipx_len]; omega) fun i => by
  rw [upd_get, zipx_get]
  by_cases h1 : i < a.length
  · rw [if_pos h1]
    split
    · rfl
    · rw [getD_none (l := b) (by omega), X_zero _ (byte_at ha i)]
  · rw [if_neg h1, getD_none (by omega), getD_none (l := b) (by omega)]; decide +kernel
def fit (a : List Int) (n : Nat) : List Int := (List.range n).map fun i => a.getD i 0
theorem fit_len (a : List Int) (n : Nat) : (fit a n).length = n := by simp [fit]
attribute [local simp] fit_len zipx_len upd_len
theorem fit_succ (a : List Int) (n : Nat) : fit a n ++ [a.getD n 0] = fit a (n + 1) := by simp [fit, List.range_succ]
theorem fit_bytes {a : List Int} (h : Bytes a) (n : Nat) : Bytes (fit a n) := by
  intro x hx
  simp only [fit, List.mem_map] at hx
  obtain ⟨i, _, rfl⟩ := hx
  exact byte_at h i
def par (ls : List (List Int)) : List Int := ls.foldl zipx []
theorem fold_bytes {ls : List (List Int)} : ∀ {s : List Int}, Bytes s → (∀ l ∈ ls, Bytes l) → Bytes (ls.foldl zipx s) := by
  induction ls with
  | nil => exact fun hs _ => hs
  | cons l ls ih => exact fun hs h => ih (zipx_bytes hs (h l (by simp))) fun x hx => h x (by simp [hx])
theorem par_bytes {ls : List (List Int)} (h : ∀ l ∈ ls, Bytes l) : Bytes (par ls) := fold_bytes .nil h
theorem fold_le {ls : List (List Int)} {m : Nat} : ∀ {s : List Int}, s.length ≤ m → (∀ l ∈ ls, l.length ≤ m) → (ls.foldl zipx s).length ≤ m := by
  induction ls with
  | nil => exact fun hs _ => hs
  | cons l ls ih => exact fun hs h => ih (by rw [zipx_len]; have := h l (by simp); omega) fun x hx => h x (by simp [hx])
theorem par_le {ls : List (List Int)} {m : Nat} (h : ∀ l ∈ ls, l.length ≤ m) : (par ls).length ≤ m := fold_le (Nat.zero_le _) h
theorem par_succ {ls : List (List Int)} {i : Nat} {l : List Int} (h : ls[i]? = some l) : par (ls.take (i + 1)) = zipx (par (ls.take i)) l := by
  unfold par
  rw [take_succ_get h, List.foldl_append]; rfl
theorem at_ok (l : List Int) (i : Nat) : CSpec Try.prog 62 [] [.fz 1 (ints .u8 l), .int i] [] (.v (.int .u8 (l.getD i 0))) := by
  refine CSpec.body Try.func62 rfl rfl rfl rfl rfl fun Q hQ => ?_
  refine T.seq fun K1 hK1 => ?_
  refine T.region ?_ -- region 0
  refine ro rfl rfl (OpOk.step (ok_move (.inr rfl))) ?_
  refine ro_nil ?_
  refine keepK hK1 [0, 1] (by dsimp) (by dsimp) ?_
  refine T.seq fun K2 hK2 => ?_
  refine T.seq fun K3 hK3 => ?_
  refine T.region ?_ -- region 1
  refine ro rfl rfl (OpOk.step (ok_move (.inl rfl))) ?_
  refine ro rfl rfl (OpOk.step (ok_move (.inl rfl))) ?_
  refine ro rfl rfl (OpOk.step ((ok_len rfl rfl ti_Luint8 rfl).eq (x' := .int l.length) (by rw [ints_length]) rfl)) ?_
  refine ro rfl rfl (OpOk.step (ok_binOp rfl ti_int rfl)) ?_
  refine ro_nil ?_
  refine keepK hK3 [0, 1, 8] (by dsimp) (by dsimp) ?_
  refine T.cond rfl (fun hc => ?_) (fun hc => ?_) -- cond 1
  · (try simp only [decide_eq_true_eq, decide_eq_false_iff_not, beq_iff_eq, beq_eq_false_iff_ne, bne_iff_ne, bne_eq_false_iff_eq, ne_eq, Bool.not_eq_true', Bool.not_eq_false'] at hc)
    obtain ⟨c, hci⟩ : ∃ c, l[i]? = some c := ⟨_, List.getElem?_eq_getElem (by omega)⟩
    have hcd : l.getD i 0 = c := by rw [List.getD_eq_getElem?_getD, hci]; rfl
    refine T.seq fun K4 hK4 => ?_
    refine T.region ?_ -- region 2
    refine ro rfl rfl (OpOk.step (ok_move (.inl rfl))) ?_
    refine ro rfl rfl (OpOk.step (ok_move (.inl rfl))) ?_
    refine ro rfl rfl (OpOk.step (ok_index_ints rfl ti_Luint8 rfl ti_uint8 rfl rfl rfl (by omega) hci)) ?_
    refine ro rfl rfl (OpOk.step (ok_load rfl ti_uint8 rfl rfl)) ?_
    refine ro rfl rfl (OpOk.step (ok_move (.inr rfl))) ?_
    refine ro_nil ?_
    refine keepK hK4 [4] (by dsimp) (by dsimp) ?_
    refine T.ret (hQ _ _ _ rfl ?_).1 -- ret 1
    exact TEnt.toH rfl ⟨by dsimp [tupA]; rw [hcd], trivial⟩
  · (try simp only [decide_eq_true_eq, decide_eq_false_iff_not, beq_iff_eq, beq_eq_false_iff_ne, bne_iff_ne, bne_eq_false_iff_eq, ne_eq, Bool.not_eq_true', Bool.not_eq_false'] at hc)
    have hcd : l.getD i 0 = 0 := getD_none (by omega)
    refine T.skip ?_
    refine keepK hK2 [] (by dsimp) (by dsimp) ?_
    refine T.seq fun K5 hK5 => ?_
    refine T.region ?_ -- region 3
    refine ro rfl rfl (OpOk.step (ok_move (.inr rfl))) ?_
    refine ro_nil ?_
    refine keepK hK5 [4] (by dsimp) (by dsimp) ?_
    refine T.ret (hQ _ _ _ rfl ?_).1 -- ret 2
    exact TEnt.toH rfl ⟨by dsimp [tupA]; rw [hcd], trivial⟩
theorem fit_new (l : List Int) (n : Nat) (hn : n ≤ 1000000) : CSpec Try.prog 20 [] [.fz 1 (ints .u8 l), .int n] [some ⟨1, true, ints .u8 (fit l n)⟩] (.sl 0 0 n) := by
  refine CSpec.body Try.func20 rfl rfl rfl rfl rfl fun Q hQ => ?_
  refine T.seq fun K1 hK1 => ?_
  refine T.region ?_ -- region 0
  refine ro rfl rfl (OpOk.step (ok_move (.inr rfl))) ?_
  refine ro_nil ?_
  refine keepK hK1 [0, 1] (by dsimp) (by dsimp) ?_
  refine T.seq fun K2 hK2 => ?_
  refine T.region ?_ -- region 1
  refine ro rfl rfl (OpOk.step (ok_move (.inr rfl))) ?_
  refine ro_nil ?_
  refine keepK hK2 [0, 1, 5] (by dsimp) (by dsimp) ?_
  refine T.seq fun K3 hK3 => ?_
  refine T.seq fun K4 hK4 => ?_
  refine T.region ?_ -- region 2
  refine ro rfl rfl (OpOk.step (ok_move (.inr rfl))) ?_
  refine ro_nil ?_
  refine keepK hK4 [0, 1, 5, 6] (by dsimp) (by dsimp) ?_
  refine T.block ?_
  refine T.loopI (ι := Nat) (fun i => i ≤ n) (fun i => n - i) (fun i => ([(0, .fz 1 (ints .u8 l)), (1, .int n), (5, .sl 0 0 i), (6, .int i)], [some ⟨1, true, ints .u8 (fit l i)⟩])) 0 (Nat.zero_le _) ((TEnt.empty 5 1 (by decide) (.inr rfl)).trans (TEnt.toH rfl ⟨rfl, rfl, rfl, rfl, trivial⟩)) (fun i hi => ?_) -- loop 1
  refine T.seq fun K5 hK5 => ?_
  refine T.seq fun K6 hK6 => ?_
  refine T.region ?_ -- region 3
  refine ro rfl rfl (OpOk.step (ok_move (.inl rfl))) ?_
  refine ro rfl rfl (OpOk.step (ok_move (.inl rfl))) ?_
  refine ro rfl rfl (OpOk.step (ok_binOp rfl ti_int rfl)) ?_
  refine ro_nil ?_
  refine keepK hK6 [0, 1, 5, 6, 9] (by dsimp) (by dsimp) ?_
  refine T.cond rfl (fun hc => ?_) (fun hc => ?_) -- cond 1
  · (try simp only [decide_eq_true_eq, decide_eq_false_iff_not, beq_iff_eq, beq_eq_false_iff_ne, bne_iff_ne, bne_eq_false_iff_eq, ne_eq, Bool.not_eq_true', Bool.not_eq_false'] at hc)
    refine T.skip ?_
    refine keepK hK5 [0, 1, 5, 6] (by dsimp) (by dsimp) ?_
    refine T.seq fun K7 hK7 => ?_
    refine T.block ?_
    refine T.region ?_ -- region 5
    refine ro rfl rfl (OpOk.step (ok_move (.inl rfl))) ?_
    refine ro rfl rfl (OpOk.step (ok_move (.inl rfl))) ?_
    refine ro rfl rfl (OpOk.step (ok_move (.inl rfl))) ?_
    refine ro rfl rfl (ok_call rfl rfl rfl ((at_ok l i).plain (by simp [renL, AV.ren, renL_ints]) rfl)) ?_
    refine ro rfl rfl (OpOk.step (ok_buildSlice (n := 1) (ps := #[(0, .tmp 15)]) rfl ti_Luint8 rfl ti_uint8 (by decide) rfl rfl (by decide) rfl rfl rfl)) ?_
    refine ro rfl rfl (OpOk.step (by exact ok_append_ints (k := .u8) (xs := fit l i) (ys := [l.getD i 0]) rfl ti_Luint8 rfl ti_uint8 rfl (by decide) rfl ti_Luint8 (by simp) rfl rfl rfl rfl rfl rfl rfl rfl (by simp) (by simp <;> omega))) ?_
    refine ro rfl rfl (OpOk.step (ok_move (.inr rfl))) ?_
    refine ro_nil ?_
    refine keepK hK7 [0, 1, 5, 6] (by dsimp) (by dsimp) ?_
    refine T.region ?_ -- region 4
    refine ro rfl rfl (OpOk.step (ok_move (.inl rfl))) ?_
    refine ro rfl rfl (OpOk.step (ok_add64 rfl ti_int rfl rfl (by omega) (by omega))) ?_
    refine ro rfl rfl (OpOk.step (ok_move (.inr rfl))) ?_
    refine ro_nil ?_
    exact ⟨i + 1, by omega, by omega, TEnt.fin [2] (by decide) (by simp) (by rw [fit_succ]; simp [normH, hget, Blk.ren, renL_ints]) ⟨by simp [AV.ren, renL_ints], rfl, by rw [fit_succ, fit_len]; rfl, rfl, trivial⟩⟩
  · (try simp only [decide_eq_true_eq, decide_eq_false_iff_not, beq_iff_eq, beq_eq_false_iff_ne, bne_iff_ne, bne_eq_false_iff_eq, ne_eq, Bool.not_eq_true', Bool.not_eq_false'] at hc)
    have hin : i = n := by omega
    subst hin
    refine T.exit ?_
    refine keepK hK3 [5] (by dsimp) (by dsimp) ?_
    refine T.seq fun K8 hK8 => ?_
    refine T.region ?_ -- region 6
    refine ro rfl rfl (OpOk.step (ok_move (.inl rfl))) ?_
    refine ro rfl rfl (OpOk.step (ok_move (.inr rfl))) ?_
    refine ro_nil ?_
    refine keepK hK8 [4] (by dsimp) (by dsimp) ?_
    refine T.ret (hQ _ _ _ rfl ?_).1 -- ret 1
    exact TEnt.fin [0] (by decide) (by simp) (by simp [normH, hget, Blk.ren, renL_ints]) ⟨rfl, trivial⟩
theorem into_new (a b : List Int) (ha : Bytes a) (hb : Bytes b) (la : a.length ≤ 140737488355328) (lb : b.length ≤ 140737488355328) : CSpec Try.prog 87 [] [.fz 1 (ints .u8 a), .fz 1 (ints .u8 b)] [some ⟨1, true, ints .u8 (zipx a b)⟩] (.sl 0 0 (zipx a b).length) := by
  refine CSpec.body Try.func87 rfl rfl rfl rfl rfl fun Q hQ => ?_
  refine T.seq fun K1 hK1 => ?_
  refine T.region ?_ -- region 0
  refine ro rfl rfl (OpOk.step (ok_move (.inr rfl))) ?_
  refine ro_nil ?_
  refine keepK hK1 [0, 1] (by dsimp) (by dsimp) ?_
  refine T.seq fun K2 hK2 => ?_
  refine T.seq fun K3 hK3 => ?_
  refine T.region ?_ -- region 1
  refine ro rfl rfl (OpOk.step (ok_move (.inl rfl))) ?_
  refine ro rfl rfl (OpOk.step ((ok_len rfl rfl ti_Luint8 rfl).eq (x' := .int a.length) (by rw [ints_length]) rfl)) ?_
  refine ro rfl rfl (OpOk.step (ok_move (.inl rfl))) ?_
  refine ro rfl rfl (OpOk.step ((ok_len rfl rfl ti_Luint8 rfl).eq (x' := .int b.length) (by rw [ints_length]) rfl)) ?_
  refine ro rfl rfl (OpOk.step (ok_binOp rfl ti_int rfl)) ?_
  refine ro_nil ?_
  refine keepK hK3 [0, 1, 12] (by dsimp) (by dsimp) ?_
  refine T.join hK2 [(0, .fz 1 (ints .u8 (if a.length < b.length then b else a))), (1, .fz 1 (ints .u8 (if a.length < b.length then a else b)))] [] (fun hJ4 => ?_) ?_ -- join 1
  · -- the two ways
    refine T.cond rfl (fun hc => ?_) (fun hc => ?_) -- cond 1
    · (try simp only [decide_eq_true_eq, decide_eq_false_iff_not, beq_iff_eq, beq_eq_false_iff_ne, bne_iff_ne, bne_eq_false_iff_eq, ne_eq, Bool.not_eq_true', Bool.not_eq_false'] at hc)
      refine T.region ?_ -- region 2
      refine ro rfl rfl (OpOk.step (ok_move (.inl rfl))) ?_
      refine ro rfl rfl (OpOk.step (ok_move (.inl rfl))) ?_
      refine ro rfl rfl (OpOk.step (ok_move (.inr rfl))) ?_
      refine ro rfl rfl (OpOk.step (ok_move (.inr rfl))) ?_
      refine ro_nil ?_
      have hc' : a.length < b.length := by omega
      exact hJ4 _ _ (TEnt.toH rfl ⟨by rw [if_pos hc']; rfl, by rw [if_pos hc']; rfl, trivial⟩)
    · (try simp only [decide_eq_true_eq, decide_eq_false_iff_not, beq_iff_eq, beq_eq_false_iff_ne, bne_iff_ne, bne_eq_false_iff_eq, ne_eq, Bool.not_eq_true', Bool.not_eq_false'] at hc)
      refine T.skip ?_
      have hc' : ¬ a.length < b.length := by omega
      exact hJ4 _ _ (TEnt.toH rfl ⟨by rw [if_neg hc']; rfl, by rw [if_neg hc']; rfl, trivial⟩)
  refine T.seq fun K5 hK5 => ?_
  obtain ⟨A, B, hA, hB, hAB, lA, hZ, bA⟩ : ∃ A B, (if a.length < b.length then b else a) = A ∧ (if a.length < b.length then a else b) = B ∧ B.length ≤ A.length ∧ A.length ≤ 140737488355328 ∧ zipx A B = zipx a b ∧ Bytes A := by
    by_cases h : a.length < b.length
    · exact ⟨b, a, if_pos h, if_pos h, by omega, lb, zipx_comm hb ha, hb⟩
    · exact ⟨a, b, if_neg h, if_neg h, by omega, la, rfl, ha⟩
  rw [hA, hB]
  rw [← hZ] at hQ
  refine T.region ?_ -- region 3
  refine ro rfl rfl (OpOk.step (ok_move (.inl rfl))) ?_
  refine ro rfl rfl (ok_call rfl rfl rfl ((clone_new A lA).fresh (H' := [some ⟨1, true, ints .u8 A⟩]) (by simp [renL, AV.ren, renL_ints]) rfl (by simp [renH, Blk.ren, renL_ints]))) ?_
  refine ro rfl rfl (OpOk.step (ok_move (.inr rfl))) ?_
  refine ro_nil ?_
  refine keepK hK5 [1, 5] (by dsimp) (by dsimp) ?_
  refine T.seq fun K6 hK6 => ?_
  refine T.seq fun K7 hK7 => ?_
  refine T.region ?_ -- region 4
  refine ro rfl rfl (OpOk.step (ok_move (.inl rfl))) ?_
  refine ro rfl rfl (OpOk.step ((ok_len rfl rfl ti_Luint8 rfl).eq (x' := .int B.length) (by rw [ints_length]) rfl)) ?_
  refine ro rfl rfl (OpOk.step (ok_move (.inl rfl))) ?_
  refine ro_nil ?_
  refine keepK hK7 [5, 17, 18, 19] (by dsimp) (by dsimp) ?_
  refine T.block ?_
  refine T.loopI (ι := Nat) (fun i => i ≤ B.length) (fun i => B.length - i) (fun i => ([(5, .sl 0 0 A.length), (17, .fz 1 (ints .u8 B)), (18, .int B.length), (19, .int i)], [some ⟨1, true, ints .u8 (upd A B i)⟩])) 0 (Nat.zero_le _) (TEnt.toH (by rw [upd_zero]) ⟨rfl, rfl, rfl, rfl, trivial⟩) (fun i hi => ?_) -- loop 1
  refine T.seq fun K8 hK8 => ?_
  refine T.region ?_ -- region 5
  refine ro rfl rfl (OpOk.step (ok_binOp rfl ti_int rfl)) ?_
  refine ro_nil ?_
  refine keepK hK8 [5, 17, 18, 19, 20] (by dsimp) (by dsimp) ?_
  refine T.seq fun K9 hK9 => ?_
  refine T.cond rfl (fun hc => ?_) (fun hc => ?_) -- cond 2
  · (try simp only [decide_eq_true_eq, decide_eq_false_iff_not, beq_iff_eq, beq_eq_false_iff_ne, bne_iff_ne, bne_eq_false_iff_eq, ne_eq, Bool.not_eq_true', Bool.not_eq_false'] at hc)
    obtain ⟨c, hci⟩ : ∃ c, B[i]? = some c := ⟨_, List.getElem?_eq_getElem (by omega)⟩
    have hcd : B.getD i 0 = c := by rw [List.getD_eq_getElem?_getD, hci]; rfl
    refine T.skip ?_
    refine keepK hK9 [5, 17, 18, 19] (by dsimp) (by dsimp) ?_
    refine T.seq fun K10 hK10 => ?_
    refine T.block ?_
    refine T.seq fun K11 hK11 => ?_
    refine T.region ?_ -- region 6
    refine ro rfl rfl (OpOk.step (ok_move (.inl rfl))) ?_
    refine ro rfl rfl (OpOk.step (ok_index_ints rfl ti_Luint8 rfl ti_uint8 rfl rfl rfl (by omega) hci)) ?_
    refine ro rfl rfl (OpOk.step (ok_load rfl ti_uint8 rfl rfl)) ?_
    refine ro rfl rfl (OpOk.step (ok_move (.inr rfl))) ?_
    refine ro rfl rfl (OpOk.step (ok_move (.inr rfl))) ?_
    refine ro_nil ?_
    refine keepK hK11 [5, 6, 7, 17, 18, 19] (by dsimp) (by dsimp) ?_
    refine T.region ?_ -- region 7
    refine ro rfl rfl (OpOk.step (ok_move (.inl rfl))) ?_
    refine ro rfl rfl (OpOk.step (ok_move (.inl rfl))) ?_
    refine ro rfl rfl (OpOk.step (by exact ok_index_sl rfl ti_Luint8 rfl ti_uint8 rfl rfl rfl rfl (by omega) (by omega))) ?_
    refine ro rfl rfl (OpOk.step (by exact ok_load_ints rfl ti_uint8 rfl rfl rfl rfl (y := A.getD i 0) (by simpa using upd_at (a := A) (b := B) (i := i) (by omega)))) ?_
    refine ro rfl rfl (OpOk.step (ok_move (.inl rfl))) ?_
    refine ro rfl rfl (OpOk.step (ok_bits .xor rfl ti_uint8 rfl rfl (.inr (.inr rfl)))) ?_
    refine ro rfl rfl (OpOk.step (by exact ok_index_sl rfl ti_Luint8 rfl ti_uint8 rfl rfl rfl rfl (by omega) (by omega))) ?_
    refine ro rfl rfl (OpOk.step (by exact ok_store rfl ti_uint8 (by decide) rfl rfl rfl (el := .v (.int .u8 (A.getD i 0))) (by simpa using ints_get_of (upd_at (a := A) (b := B) (i := i) (by omega))) rfl (Nat.le_refl 1) (.inl ⟨rfl, rfl⟩))) ?_
    refine ro_nil ?_
    refine keepK hK10 [5, 17, 18, 19] (by dsimp) (by dsimp) ?_
    refine T.region ?_ -- region 8
    refine ro rfl rfl (OpOk.step (ok_add64 rfl ti_int rfl rfl (by omega) (by omega))) ?_
    refine ro rfl rfl (OpOk.step (ok_move (.inl rfl))) ?_
    refine ro_nil ?_
    exact ⟨i + 1, by omega, by omega, TEnt.toH (by rw [← upd_succ (by omega), hcd]; simp [ints_set, putA, X]) ⟨rfl, rfl, rfl, rfl, trivial⟩⟩
  · (try simp only [decide_eq_true_eq, decide_eq_false_iff_not, beq_iff_eq, beq_eq_false_iff_ne, bne_iff_ne, bne_eq_false_iff_eq, ne_eq, Bool.not_eq_true', Bool.not_eq_false'] at hc)
    have hin : i = B.length := by omega
    subst hin
    refine T.exit ?_
    refine keepK hK6 [5] (by dsimp) (by dsimp) ?_
    refine T.seq fun K12 hK12 => ?_
    refine T.region ?_ -- region 9
    refine ro rfl rfl (OpOk.step (ok_move (.inl rfl))) ?_
    refine ro rfl rfl (OpOk.step (ok_move (.inr rfl))) ?_
    refine ro_nil ?_
    refine keepK hK12 [4] (by dsimp) (by dsimp) ?_
    refine T.ret (hQ _ _ _ rfl ?_).1 -- ret 1
    exact TEnt.fin [0] (by decide) (by simp) (by rw [upd_all bA hAB]; simp [normH, hget, Blk.ren, renL_ints]) ⟨by rw [zipx_len, Nat.max_eq_left hAB]; rfl, trivial⟩
theorem of_new (ls : List (List Int)) (hn : ls.length ≤ 140737488355328) (hB : ∀ l ∈ ls, Bytes l) (hl : ∀ l ∈ ls, l.length ≤ 140737488355328) : CSpec Try.prog 59 [] [.fz 1 (rowsA .u8 ls)] [some ⟨1, true, ints .u8 (par ls)⟩] (.sl 0 0 (par ls).length) := by
  refine CSpec.body Try.func59 rfl rfl rfl rfl rfl fun Q hQ => ?_
  refine T.seq fun K1 hK1 => ?_
  refine T.region ?_ -- region 0
  refine ro rfl rfl (OpOk.step (ok_move (.inr rfl))) ?_
  refine ro_nil ?_
  refine keepK hK1 [0] (by dsimp) (by dsimp) ?_
  refine T.seq fun K2 hK2 => ?_
  refine T.region ?_ -- region 1
  refine ro rfl rfl (OpOk.step (ok_move (.inr rfl))) ?_
  refine ro_nil ?_
  refine keepK hK2 [0, 3] (by dsimp) (by dsimp) ?_
  refine T.seq fun K3 hK3 => ?_
  refine T.seq fun K4 hK4 => ?_
  refine T.region ?_ -- region 2
  refine ro rfl rfl (OpOk.step (ok_move (.inl rfl))) ?_
  refine ro rfl rfl (OpOk.step ((ok_len rfl rfl ti_LLuint8 rfl).eq (x' := .int ls.length) (by rw [rowsA_length]) rfl)) ?_
  refine ro rfl rfl (OpOk.step (ok_move (.inl rfl))) ?_
  refine ro_nil ?_
  refine keepK hK4 [3, 6, 7, 8] (by dsimp) (by dsimp) ?_
  refine T.block ?_
  refine T.loopI (ι := Nat) (fun i => i ≤ ls.length) (fun i => ls.length - i) (fun i => ([(3, .sl 0 0 (par (ls.take i)).length), (6, .fz 1 (rowsA .u8 ls)), (7, .int ls.length), (8, .int i)], [some ⟨1, true, ints .u8 (par (ls.take i))⟩])) 0 (Nat.zero_le _) ((TEnt.empty 3 1 (by decide) (.inr rfl)).trans (TEnt.toH rfl ⟨rfl, rfl, rfl, rfl, trivial⟩)) (fun i hi => ?_) -- loop 1
  refine T.seq fun K5 hK5 => ?_
  refine T.region ?_ -- region 3
  refine ro rfl rfl (OpOk.step (ok_binOp rfl ti_int rfl)) ?_
  refine ro_nil ?_
  refine keepK hK5 [3, 6, 7, 8, 9] (by dsimp) (by dsimp) ?_
  refine T.seq fun K6 hK6 => ?_
  refine T.cond rfl (fun hc => ?_) (fun hc => ?_) -- cond 1
  · (try simp only [decide_eq_true_eq, decide_eq_false_iff_not, beq_iff_eq, beq_eq_false_iff_ne, bne_iff_ne, bne_eq_false_iff_eq, ne_eq, Bool.not_eq_true', Bool.not_eq_false'] at hc)
    obtain ⟨l, hli⟩ : ∃ l, ls[i]? = some l := ⟨_, List.getElem?_eq_getElem (by omega)⟩
    have hpb : Bytes (par (ls.take i)) := par_bytes fun x hx => hB x (List.mem_of_mem_take hx)
    have hpl : (par (ls.take i)).length ≤ 140737488355328 := par_le fun x hx => hl x (List.mem_of_mem_take hx)
    have hm := List.mem_of_getElem? hli
    refine T.skip ?_
    refine keepK hK6 [3, 6, 7, 8] (by dsimp) (by dsimp) ?_
    refine T.seq fun K7 hK7 => ?_
    refine T.block ?_
    refine T.seq fun K8 hK8 => ?_
    refine T.region ?_ -- region 4
    refine ro rfl rfl (OpOk.step (ok_index_fz rfl ti_LLuint8 rfl ti_Luint8 rfl rfl rfl (by omega) (rowsA_get_of hli) rfl)) ?_
    refine ro rfl rfl (OpOk.step (ok_load rfl ti_Luint8 rfl rfl)) ?_
    refine ro rfl rfl (OpOk.step (ok_move (.inr rfl))) ?_
    refine ro_nil ?_
    refine keepK hK8 [3, 5, 6, 7, 8] (by dsimp) (by dsimp) ?_
    refine T.region ?_ -- region 5
    refine ro rfl rfl (OpOk.step (ok_move (.inl rfl))) ?_
    refine ro rfl rfl (OpOk.step (ok_move (.inl rfl))) ?_
    refine ro rfl rfl (ok_call rfl rfl rfl ((into_new (par (ls.take i)) l hpb (hB l hm) hpl (hl l hm)).lendR (R := [⟨1, true, ints .u8 (zipx (par (ls.take i)) l)⟩]) (R' := [⟨1, true, ints .u8 (zipx (par (ls.take i)) l)⟩]) (x' := .sl 1 0 (zipx (par (ls.take i)) l).length) (.cons (.lent 0 1 (ints .u8 (par (ls.take i))) rfl (by simp)) (.refl _)) (by simp [renL, AV.ren, renL_ints]) (by simp [Blk.ren, renL_ints]) rfl rfl (by simp [nofzL_ints]))) ?_
    refine ro rfl rfl (OpOk.step (ok_move (.inr rfl))) ?_
    refine ro_nil ?_
    refine keepK hK7 [3, 6, 7, 8] (by dsimp) (by dsimp) ?_
    refine T.region ?_ -- region 6
    refine ro rfl rfl (OpOk.step (ok_add64 rfl ti_int rfl rfl (by omega) (by omega))) ?_
    refine ro rfl rfl (OpOk.step (ok_move (.inl rfl))) ?_
    refine ro_nil ?_
    exact ⟨i + 1, by omega, by omega, TEnt.fin [1] (by decide) (by simp) (by rw [par_succ hli]; simp [normH, hget, Blk.ren, renL_ints]) ⟨by rw [par_succ hli]; rfl, by simp [AV.ren, renL_rowsA], rfl, rfl, trivial⟩⟩
  · (try simp only [decide_eq_true_eq, decide_eq_false_iff_not, beq_iff_eq, beq_eq_false_iff_ne, bne_iff_ne, bne_eq_false_iff_eq, ne_eq, Bool.not_eq_true', Bool.not_eq_false'] at hc)
    have hil : i = ls.length := by omega
    subst hil
    refine T.exit ?_
    refine keepK hK3 [3] (by dsimp) (by dsimp) ?_
    refine T.seq fun K9 hK9 => ?_
    refine T.region ?_ -- region 7
    refine ro rfl rfl (OpOk.step (ok_move (.inl rfl))) ?_
    refine ro rfl rfl (OpOk.step (ok_move (.inr rfl))) ?_
    refine ro_nil ?_
    refine keepK hK9 [2] (by dsimp) (by dsimp) ?_
    refine T.ret (hQ _ _ _ rfl ?_).1 -- ret 1
    exact TEnt.fin [0] (by decide) (by simp) (by rw [List.take_length]; simp [normH, hget, Blk.ren, renL_ints]) ⟨by rw [List.take_length]; rfl, trivial⟩
theorem of_frz (ls : List (List Int)) (hn : ls.length ≤ 140737488355328) (hB : ∀ l ∈ ls, Bytes l) (hl : ∀ l ∈ ls, l.length ≤ 140737488355328) : CSpec Try.prog 59 [] [.fz 1 (rowsA .u8 ls)] [] (.fz 1 (ints .u8 (par ls))) :=
  (of_new ls hn hB hl).frz (by simp) (renL_ints _ _ _)
theorem fit_frz (l : List Int) (n : Nat) (hn : n ≤ 1000000) : CSpec Try.prog 20 [] [.fz 1 (ints .u8 l), .int n] [] (.fz 1 (ints .u8 (fit l n))) :=
  (fit_new l n hn).frz (by simp) (renL_ints _ _ _)
theorem of_live {p : List Int} (hp : par [[1, 2], [3]] = p) : CSpec Try.prog 59 [] [.fz 1 (rowsA .u8 [[1, 2], [3]])] [some ⟨1, true, ints .u8 p⟩] (.sl 0 0 p.length) :=
  hp ▸ of_new [[1, 2], [3]] (by decide) (by intro x hx; simp at hx; rcases hx with rfl | rfl <;> intro y hy <;> simp at hy <;> omega) (by simp)
theorem live03_ok : CSpec Try.prog 15 [] [] [] (.b true) := by
  obtain ⟨p, hp⟩ : ∃ p, par [[1, 2], [3]] = p := ⟨_, rfl⟩
  refine CSpec.body Try.func15 rfl rfl rfl rfl rfl fun Q hQ => ?_
  refine T.seq fun K1 hK1 => ?_
  refine T.region ?_ -- region 0
  refine ro rfl rfl (OpOk.step (ok_moveb (c := false) (.inr rfl) rfl)) ?_
  refine ro_nil ?_
  refine keepK hK1 [] (by dsimp) (by dsimp) ?_
  refine T.seq fun K2 hK2 => ?_
  refine T.region ?_ -- region 1
  refine ro rfl rfl (OpOk.step (ok_buildSlice (n := 2) (ps := #[(0, .const (.int .u8 (1))), (1, .const (.int .u8 (2)))]) rfl ti_Luint8 rfl ti_uint8 (by decide) rfl rfl (by decide) rfl rfl rfl)) ?_
  refine ro rfl rfl (OpOk.step (ok_buildSlice (n := 1) (ps := #[(0, .const (.int .u8 (3)))]) rfl ti_Luint8 rfl ti_uint8 (by decide) rfl rfl (by decide) rfl rfl rfl)) ?_
  refine ro rfl rfl (OpOk.step (ok_buildSlice (n := 2) (ps := #[(0, .tmp 1), (1, .tmp 2)]) rfl ti_LLuint8 rfl ti_Luint8 (by decide) rfl rfl (by decide) rfl rfl rfl)) ?_
  refine ro rfl rfl (ok_call rfl rfl rfl ((of_live hp).lendR (R := [⟨1, true, ints .u8 p⟩]) (R' := [⟨1, true, ints .u8 p⟩]) (x' := .sl 3 0 p.length) (.cons ((Ent.lent 2 1 [.sl 0 0 2, .sl 1 0 1] rfl rfl).trans (.fz (EntL.cons (Ent.lent 0 1 (ints .u8 [1, 2]) rfl rfl) (EntL.cons (Ent.lent 1 1 (ints .u8 [3]) rfl rfl) EntL.nil)))) .nil) (by simp [renL, AV.ren, renL_ints, rowsA]) (by simp [Blk.ren, renL_ints]) rfl rfl (by simp [nofzL_ints]))) ?_
  refine ro rfl rfl (OpOk.step (by exact ok_conv_str rfl ti_Luint8 ti_string rfl ti_uint8 rfl rfl (rowA_sl rfl rfl (ints_length _ _)) rfl (bytesOf_ints _))) ?_
  refine ro rfl rfl (OpOk.step (OpOk.bool (d := true) (ok_binOp rfl ti_string rfl) (by subst hp; decide +kernel))) ?_
  refine ro rfl rfl (OpOk.step (ok_moveb (c := true) (.inr rfl) rfl)) ?_
  refine ro_nil ?_
  refine keepK hK2 [0] (by dsimp) (by dsimp) ?_
  refine T.ret (hQ _ _ _ rfl ?_).1 -- ret 1
  exact TEnt.fin [] (by decide) (by simp) rfl ⟨rfl, trivial⟩
def tot (ls : List (List Int)) (i : Nat) : Nat := ((ls.take i).map List.length).sum
theorem tot_succ {ls : List (List Int)} {i : Nat} {l : List Int} (h : ls[i]? = some l) : tot ls (i + 1) = tot ls i + l.length := by
  unfold tot
  rw [take_succ_get h]
  simp
theorem tot_mono {ls : List (List Int)} {i : Nat} : ∀ {j : Nat}, i ≤ j → tot ls i ≤ tot ls j
  | 0, h => by rw [show i = 0 by omega]; exact Nat.le_refl _
  | j + 1, h => by
    by_cases hi : i = j + 1
    · subst hi; exact Nat.le_refl _
    · refine Nat.le_trans (tot_mono (j := j) (by omega)) ?_
      cases hj : ls[j]? with
      | some l => rw [tot_succ hj]; omega
      | none =>
        have hl := List.getElem?_eq_none_iff.1 hj
        unfold tot
        rw [List.take_of_length_le hl, List.take_of_length_le (by omega)]
        exact Nat.le_refl _
def much (ls : List (List Int)) : Bool := decide (2000 < tot ls (min 30 ls.length)) || decide (20 < ls.length)
def alls (F : Nat → List Int) : Nat → List (List Int)
  | 0 => []
  | i + 1 => alls F i ++ [F i]
/-- All but the one at 'q'. -/
def lacks (F : Nat → List Int) (q : Nat) : Nat → List (List Int)
  | 0 => []
  | i + 1 => if i = q then lacks F q i else F i :: lacks F q i
theorem alls_len (F : Nat → List Int) : ∀ i, (alls F i).length = i
  | 0 => rfl
  | i + 1 => by simp [alls, alls_len F i]
theorem alls_get (F : Nat → List Int) {q : Nat} : ∀ {i : Nat}, q < i → (alls F i)[q]? = some (F q)
  | i + 1, h => by
    unfold alls
    by_cases hq : q = i
    · subst hq
      rw [List.getElem?_append_right (by rw [alls_len]; exact Nat.le_refl _), alls_len]
      simp
    · rw [List.getElem?_append_left (by rw [alls_len]; omega)]
      exact alls_get F (by omega)
theorem alls_mem (F : Nat → List Int) : ∀ {i : Nat} {l : List Int}, l ∈ alls F i → ∃ j, l = F j
  | i + 1, l, h => by
    unfold alls at h
    rcases List.mem_append.1 h with h | h
    · exact alls_mem F h
    · simp at h; exact ⟨i, h⟩
theorem lacks_mem (F : Nat → List Int) (q : Nat) : ∀ {i : Nat} {l : List Int}, l ∈ lacks F q i → ∃ j, l = F j
  | i + 1, l, h => by
    unfold lacks at h
    split at h
    · exact lacks_mem F q h
    · rcases List.mem_cons.1 h with h | h
      · exact ⟨i, h⟩
      · exact lacks_mem F q h
theorem lacks_len (F : Nat → List Int) (q : Nat) : ∀ i, (lacks F q i).length ≤ i
  | 0 => Nat.le_refl _
  | i + 1 => by
    unfold lacks
    have := lacks_len F q i
    split
    · omega
    · simp; omega
attribute [local simp] alls_len
/-- The bytes at one place, as numbers. -/
def nx (ls : List (List Int)) (i : Nat) (s : Nat) : Nat := ls.foldl (fun s l => s ^^^ (l.getD i 0).toNat) s
theorem nx_append (ls ms : List (List Int)) (i s : Nat) : nx (ls ++ ms) i s = nx ms i (nx ls i s) := by simp [nx]
theorem nx_start (ls : List (List Int)) (i : Nat) : ∀ s, nx ls i s = s ^^^ nx ls i 0 := by
  induction ls with
  | nil => intro s; simp [nx]
  | cons l ls ih =>
    intro s
    show nx ls i (s ^^^ _) = s ^^^ nx ls i (0 ^^^ _)
    rw [ih (s ^^^ _), ih (0 ^^^ _), Nat.zero_xor, Nat.xor_assoc]
theorem X_to (a b : Int) (ha : 0 ≤ a ∧ a < 256) (hb : 0 ≤ b ∧ b < 256) : (X a b).toNat = a.toNat ^^^ b.toNat := by
  obtain ⟨n, rfl⟩ := Int.eq_ofNat_of_zero_le ha.1
  obtain ⟨m, rfl⟩ := Int.eq_ofNat_of_zero_le hb.1
  rw [X_nat n m (by omega) (by omega)]; rfl
theorem fold_get {ls : List (List Int)} (i : Nat) : ∀ {s : List Int}, Bytes s → (∀ l ∈ ls, Bytes l) → ((ls.foldl zipx s).getD i 0).toNat = nx ls i (s.getD i 0).toNat := by
  induction ls with
  | nil => exact fun _ _ => rfl
  | cons l ls ih =>
    intro s hs h
    have hb := h l (by simp)
    show ((ls.foldl zipx (zipx s l)).getD i 0).toNat = nx ls i (_ ^^^ _)
    rw [ih (zipx_bytes hs hb) fun x hx => h x (by simp [hx]), zipx_get, X_to _ _ (byte_at hs i) (byte_at hb i)]
theorem par_get {ls : List (List Int)} (h : ∀ l ∈ ls, Bytes l) (i : Nat) : ((par ls).getD i 0).toNat = nx ls i 0 := fold_get i .nil h
theorem fold_eq {ls : List (List Int)} {m : Nat} : ∀ {s : List Int}, s.length = m → (∀ l ∈ ls, l.length = m) → (ls.foldl zipx s).length = m := by
  induction ls with
  | nil => exact fun hs _ => hs
  | cons l ls ih => exact fun hs h => ih (by rw [zipx_len, hs, h l (by simp)]; exact Nat.max_self m) fun x hx => h x (by simp [hx])
theorem par_eq {ls : List (List Int)} {m : Nat} (hne : ls ≠ []) (h : ∀ l ∈ ls, l.length = m) : (par ls).length = m := by
  cases ls with
  | nil => exact absurd rfl hne
  | cons l ls =>
    show (ls.foldl zipx (zipx [] l)).length = m
    exact fold_eq (by rw [zipx_len, h l (by simp)]; exact Nat.max_eq_right (Nat.zero_le _)) fun x hx => h x (by simp [hx])
theorem nx_lacks (F : Nat → List Int) (q i : Nat) : ∀ n, nx (alls F n) i 0 = nx (lacks F q n) i 0 ^^^ (if q < n then ((F q).getD i 0).toNat else 0)
  | 0 => by simp [alls, lacks, nx]
  | n + 1 => by
    have ih := nx_lacks F q i n
    have one : ∀ (l : List Int) (s : Nat), nx [l] i s = s ^^^ (l.getD i 0).toNat := fun _ _ => rfl
    unfold alls lacks
    rw [nx_append, one]
    by_cases h : n = q
    · subst h
      rw [if_pos rfl, if_pos (by omega), ih, if_neg (Nat.lt_irrefl _), Nat.xor_zero]
    · rw [if_neg h, show nx (F n :: lacks F q n) i 0 = nx (lacks F q n) i (0 ^^^ ((F n).getD i 0).toNat) from rfl, nx_start _ _ (0 ^^^ _), Nat.zero_xor, ih, Nat.xor_comm ((F n).getD i 0).toNat]
      by_cases hq : q < n
      · rw [if_pos hq, if_pos (by omega), Nat.xor_assoc, Nat.xor_assoc, Nat.xor_comm ((F q).getD i 0).toNat]
      · rw [if_neg hq, if_neg (by omega), Nat.xor_zero, Nat.xor_zero]
/-- What lacks comes back. -/
theorem lacks_law (F : Nat → List Int) (m q n : Nat) (hq : q < n) (hB : ∀ j, Bytes (F j)) (hl : ∀ j, (F j).length = m) : par (lacks F q n ++ [par (alls F n)]) = F q := by
  have ha : ∀ l ∈ alls F n, Bytes l := fun l h => by obtain ⟨j, rfl⟩ := alls_mem F h; exact hB j
  have hk : ∀ l ∈ lacks F q n, Bytes l := fun l h => by obtain ⟨j, rfl⟩ := lacks_mem F q h; exact hB j
  have hS := par_bytes ha
  have hne : alls F n ≠ [] := fun h => by have := alls_len F n; rw [h] at this; simp at this; omega
  have hSl : (par (alls F n)).length = m := par_eq hne fun l h => by obtain ⟨j, rfl⟩ := alls_mem F h; exact hl j
  have hkS : ∀ l ∈ lacks F q n ++ [par (alls F n)], Bytes l := fun l h => (List.mem_append.1 h).elim (hk l) fun h => by simp at h; rw [h]; exact hS
  refine ext0 ?_ fun i => ?_
  · rw [hl, par_eq (m := m) (by simp)]
    intro l h
    rcases List.mem_append.1 h with h | h
    · obtain ⟨j, rfl⟩ := lacks_mem F q h; exact hl j
    · simp at h; rw [h]; exact hSl
  · have h1 := par_get hkS i
    rw [nx_append] at h1
    have h2 : nx [par (alls F n)] i (nx (lacks F q n) i 0) = nx (lacks F q n) i 0 ^^^ ((par (alls F n)).getD i 0).toNat := rfl
    rw [h2, par_get ha, nx_lacks F q i n, if_pos hq, ← Nat.xor_assoc, Nat.xor_self, Nat.zero_xor] at h1
    have p1 := (byte_at (par_bytes hkS) i).1
    have p2 := (byte_at (hB q) i).1
    omega
end Go.Proofs.Ytknhemdpfdopaaa.AmF
