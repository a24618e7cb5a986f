/- Walks over the abstract machine: scripts got of bytes. -/
import Derived.Test.YtmegpanmiagheaaAfCmd
namespace Go.Proofs.Ytmegpanmiagheaa.AmF
open Go Go.AM
set_option maxRecDepth 100000
set_option linter.unusedSimpArgs false
set_option linter.unusedVariables false
attribute [local simp] tkeep tget tput ev cav argsTM pickA normT putA splice AV.cells ints_length rowsA_length enc_len
abbrev mA : Int := -1099511627776
abbrev mB : Int := 1099511627776
/-- So many numbers read from a state on, all between the same bounds. -/
def rdK (l : List Int) (s : Nat × Int) : Nat → Nat × Int
  | 0 => s
  | n + 1 => ((ri l (rdK l s n).1 (rdK l s n).2 mA mB).1, (ri l (rdK l s n).1 (rdK l s n).2 mA mB).2.1)
def rdKV (l : List Int) (s : Nat × Int) (n : Nat) : Int := (ri l (rdK l s n).1 (rdK l s n).2 mA mB).2.2
theorem rdK_le (l : List Int) (s : Nat × Int) (h : s.1 ≤ l.length) : ∀ n, (rdK l s n).1 ≤ l.length
  | 0 => h
  | n + 1 => ri_le (rdK_le l s h n)
/-- Cells into which numbers are read. -/
def putN (l : List Int) (s : Nat × Int) (cells : List AV) (fs : List Nat) : Nat → List AV
  | 0 => cells
  | n + 1 => splice (putN l s cells fs n) (fs.getD n 0) [.int (rdKV l s n)]
theorem splice_len {α : Type} {c : List α} {f : Nat} {x : α} (h : f < c.length) : (splice c f [x]).length = c.length := by
  simp [splice]; omega
theorem putN_len (l : List Int) (s : Nat × Int) (cells : List AV) (fs : List Nat) (h : ∀ f ∈ fs, f < cells.length) : ∀ n, n ≤ fs.length → (putN l s cells fs n).length = cells.length
  | 0, _ => rfl
  | n + 1, hn => by
    have ih := putN_len l s cells fs h n (by omega)
    have hg : fs.getD n 0 < cells.length := by
      rw [List.getD_eq_getElem?_getD, List.getElem?_eq_getElem (by omega)]
      exact h _ (List.getElem_mem _)
    simp only [putN]
    rw [splice_len (by omega), ih]
theorem splice_ren (ρ : Nat → Option Nat) {c : List AV} (h : renL ρ c = c) (f : Nat) (v : Int) : renL ρ (splice c f [.int v]) = splice c f [.int v] := by
  rw [renL_map] at h ⊢
  simp only [splice, List.map_append, List.map_take, List.map_drop, h]
  rfl
theorem putN_ren (ρ : Nat → Option Nat) (l : List Int) (s : Nat × Int) {cells : List AV} (h : renL ρ cells = cells) (fs : List Nat) : ∀ n, renL ρ (putN l s cells fs n) = putN l s cells fs n
  | 0 => h
  | n + 1 => splice_ren ρ (putN_ren ρ l s h fs n) _ _
def XB (es : Nat) (cells : List AV) : Blk := ⟨es, true, [.agg cells]⟩
def FB (id : Nat) (fs : List Nat) : Blk := ⟨1, true, fs.map fun f => .ref id 0 f⟩
theorem FB_get {id i f : Nat} {fs : List Nat} (h : fs[i]? = some f) : (FB id fs).els[i]? = some (.ref id 0 f) := by simp [FB, h]
theorem read_ok (l : List Int) (s : Nat × Int) (es : Nat) (cells : List AV) (fs : List Nat) (hB : Bytes l) (hs : s.1 ≤ l.length) (hl : l.length ≤ 140737488355328) (hes : cells.length = es) (he1 : 1 ≠ es) (hf : ∀ f ∈ fs, f < es) (hfl : fs.length ≤ 100) : CSpec Try.prog 133 [R l s.1 s.2, XB es cells, FB 1 fs] [.ref 0 0 0, .sl 2 0 fs.length] [some (R l (rdK l s fs.length).1 (rdK l s fs.length).2), some (XB es (putN l s cells fs fs.length)), some (FB 1 fs)] (.tup []) := by
  have hp := rdK_le l s hs
  have hlen := putN_len l s cells fs (by rw [hes]; exact hf)
  refine CSpec.body Try.func133 rfl rfl rfl rfl rfl fun Q hQ => ?_
  refine T.seq fun K1 hK1 => ?_
  refine T.region ?_ -- region 0
  refine ro rfl rfl (OpOk.step (ok_move (.inl rfl))) ?_
  refine ro rfl rfl (OpOk.step (ok_len' rfl rfl ti_LPint rfl (by first | exact ints_length _ _ | exact rowsA_length _ _ | rfl))) ?_
  refine ro rfl rfl (OpOk.step (ok_move (.inl rfl))) ?_
  refine ro_nil ?_
  refine keepK hK1 [0, 6, 7, 8] (by dsimp) (by dsimp) ?_
  refine T.block ?_
  refine T.loopI (ι := Nat) (fun i => i ≤ fs.length) (fun i => fs.length - i) (fun i => ([(0, .ref 0 0 0), (6, .sl 2 0 fs.length), (7, .int fs.length), (8, .int i)], [some (R l (rdK l s i).1 (rdK l s i).2), some (XB es (putN l s cells fs i)), some (FB 1 fs)])) 0 (Nat.zero_le _) (TEnt.toH rfl ⟨rfl, rfl, rfl, rfl, trivial⟩) (fun i hi => ?_) -- loop 1
  refine T.seq fun K2 hK2 => ?_
  refine T.region ?_ -- region 1
  refine ro rfl rfl (OpOk.step (ok_binOp rfl ti_int rfl)) ?_
  refine ro_nil ?_
  refine keepK hK2 [0, 6, 7, 8, 9] (by dsimp) (by dsimp) ?_
  refine T.seq fun K3 hK3 => ?_
  refine T.cond rfl (fun hc => ?_) (fun hc => ?_) -- cond 1
  · (try simp only [decide_eq_true_eq, decide_eq_false_iff_not, beq_iff_eq, beq_eq_false_iff_ne, bne_iff_ne, bne_eq_false_iff_eq, ne_eq, Bool.not_eq_true', Bool.not_eq_false'] at hc)
    obtain ⟨f, hfi⟩ : ∃ f, fs[i]? = some f := ⟨_, List.getElem?_eq_getElem (by omega)⟩
    have hfd : fs.getD i 0 = f := by rw [List.getD_eq_getElem?_getD, hfi]; rfl
    have hfe := hf f (List.mem_of_getElem? hfi)
    have hli := hlen i hi
    have hnx : putN l s cells fs (i + 1) = splice (putN l s cells fs i) f [.int (rdKV l s i)] := by rw [← hfd]; rfl
    refine T.skip ?_
    refine keepK hK3 [0, 6, 7, 8] (by dsimp) (by dsimp) ?_
    refine T.seq fun K4 hK4 => ?_
    refine T.block ?_
    refine T.seq fun K5 hK5 => ?_
    refine T.region ?_ -- region 2
    refine ro rfl rfl (OpOk.step (by exact ok_index_sl rfl ti_LPint rfl ti_Pint rfl rfl rfl rfl (by omega) (by omega))) ?_
    refine ro rfl rfl (OpOk.step (by exact ok_load rfl ti_Pint (cl := [.ref 1 0 f]) (f := 0) (by show locA [_, _, some (FB 1 fs)] (.ref 2 (0 + ((i : Nat) : Int).toNat) 0) = _; simp [locA, hget, FB_get hfi, AV.cells]) rfl)) ?_
    refine ro rfl rfl (OpOk.step (ok_move (.inr rfl))) ?_
    refine ro_nil ?_
    refine keepK hK5 [0, 5, 6, 7, 8] (by dsimp) (by dsimp) ?_
    refine T.region ?_ -- region 3
    refine ro rfl rfl (OpOk.step (ok_move (.inl rfl))) ?_
    refine ro rfl rfl (OpOk.step (ok_move (.inl rfl))) ?_
    refine ro rfl rfl (ok_call rfl rfl rfl (((int_ok l (rdK l s i).1 (rdK l s i).2 mA mB hB (hp i) hl).passR 0 rfl rfl (fun _ => rfl)).eq (x' := .int (rdKV l s i)) (H'' := [some (R l (rdK l s (i + 1)).1 (rdK l s (i + 1)).2), some (XB es (putN l s cells fs i)), some (FB 1 fs)]) rfl rfl)) ?_
    refine ro rfl rfl (OpOk.step (ok_nilCheck rfl rfl)) ?_
    refine ro rfl rfl (OpOk.step ((ok_store rfl ti_int (by decide) (id := 1) (j := 0) (f := f) rfl rfl rfl rfl rfl (by show f + 1 ≤ es; omega) (.inr (by show (putN l s cells fs i).length = es; omega))).eq (H'' := [some (R l (rdK l s (i + 1)).1 (rdK l s (i + 1)).2), some (XB es (putN l s cells fs (i + 1))), some (FB 1 fs)]) rfl (by show [_, some (⟨es, true, [putA es (.agg (putN l s cells fs i)) f (.int (rdKV l s i)) 1]⟩ : Blk), _] = _; rw [putA_ne he1, hnx]; rfl))) ?_
    refine ro_nil ?_
    refine keepK hK4 [0, 6, 7, 8] (by dsimp) (by dsimp) ?_
    refine T.region ?_ -- region 4
    refine ro rfl rfl (OpOk.step (ok_add64 rfl ti_int rfl rfl (by omega) (by omega))) ?_
    refine ro rfl rfl (OpOk.step (ok_move (.inl rfl))) ?_
    refine ro_nil ?_
    exact ⟨i + 1, by omega, by omega, TEnt.toH rfl ⟨rfl, rfl, rfl, rfl, trivial⟩⟩
  · (try simp only [decide_eq_true_eq, decide_eq_false_iff_not, beq_iff_eq, beq_eq_false_iff_ne, bne_iff_ne, bne_eq_false_iff_eq, ne_eq, Bool.not_eq_true', Bool.not_eq_false'] at hc)
    have hil : i = fs.length := by omega
    subst hil
    refine T.exit ?_
    exact (hQ _ _ _ rfl (TEnt.toH rfl ⟨rfl, trivial⟩)).2 -- end
/-- The numbers of a step read, its rows, its truth: the step, the place, the error. -/
def rdA (l : List Int) (s : Nat × Int) : Ac × Nat × Int :=
  let s1 := rdK l s 3
  let k := rb l s1.1 s1.2 1048576
  let s2 := rdK l (k.1, k.2.1) 4
  let d := rb l s2.1 s2.2 1048576
  let f := rf l d.1 d.2.1
  (⟨rdKV l s 0, rdKV l (k.1, k.2.1) 0, rdKV l (k.1, k.2.1) 1, rdKV l (k.1, k.2.1) 2, rdKV l (k.1, k.2.1) 3, d.2.2, f.2.2, rdKV l s 1, rdKV l s 2, k.2.2⟩, f.1, f.2.1)
theorem rdA_le {l : List Int} {s : Nat × Int} (h : s.1 ≤ l.length) : (rdA l s).2.1 ≤ l.length := rf_le (rb_le (rdK_le _ _ (rb_le (rdK_le _ _ h _)) _))
/-- So many steps read, up to the first error. -/
def getAs (l : List Int) : Nat → Nat × Int → List Ac × Nat × Int
  | 0, s => ([], s)
  | k + 1, s => if (rdA l s).2.2 ≠ 0 then ([], (rdA l s).2) else ((rdA l s).1 :: (getAs l k (rdA l s).2).1, (getAs l k (rdA l s).2).2)
def gC (l : List Int) : Nat × Int × Int := ri l (rdK l (0, 0) 11).1 (rdK l (0, 0) 11).2 0 4096
def gAs (l : List Int) : List Ac × Nat × Int := getAs l (gC l).2.2.toNat ((gC l).1, (gC l).2.1)
/-- A script read of bytes: the settings, the steps, the error. -/
def getS (l : List Int) : Cf × List Ac × Int := if (gAs l).2.2 ≠ 0 then (cf0, [], (gAs l).2.2) else if (gAs l).2.1 < l.length then (cf0, [], 13) else (cf11 (rdKV l (0, 0)), (gAs l).1, 0)
theorem getS_1 {l : List Int} (h : (gAs l).2.2 ≠ 0) : getS l = (cf0, [], (gAs l).2.2) := if_pos h
theorem getS_2 {l : List Int} (h : ¬ (gAs l).2.2 ≠ 0) (h2 : (gAs l).2.1 < l.length) : getS l = (cf0, [], 13) := by unfold getS; rw [if_neg h, if_pos h2]
theorem getS_3 {l : List Int} (h : ¬ (gAs l).2.2 ≠ 0) (h2 : ¬ (gAs l).2.1 < l.length) : getS l = (cf11 (rdKV l (0, 0)), (gAs l).1, 0) := by unfold getS; rw [if_neg h, if_neg h2]
def zA : List AV := [.int 0, .int 0, .int 0, .int 0, .int 0, .v (.slice none 0 0), .b false, .int 0, .int 0, .v (.slice none 0 0)]
theorem XB_ren (ρ : Nat → Option Nat) (es : Nat) {cells : List AV} (h : renL ρ cells = cells) : Blk.ren ρ (XB es cells) = XB es cells := by simp [XB, Blk.ren, renL, AV.ren, h]
theorem FB_ren {ρ : Nat → Option Nat} {i j : Nat} (h : ρ i = some j) (fs : List Nat) : Blk.ren ρ (FB i fs) = FB j fs := by
  simp only [FB, Blk.ren, renL_map, List.map_map, Blk.mk.injEq, true_and]
  refine List.map_congr_left fun f _ => ?_
  simp [AV.ren, h]
/-- A call of read. -/
theorem read_call {H : Heap} {l : List Int} {s : Nat × Int} {es : Nat} {cells : List AV} {fs : List Nat} (hB : Bytes l) (hs : s.1 ≤ l.length) (hl : l.length ≤ 140737488355328) (hes : cells.length = es) (he1 : 1 ≠ es) (hf : ∀ f ∈ fs, f < es) (hfl : fs.length ≤ 100) (hren : ∀ ρ, renL ρ cells = cells)
    (i j : Nat) (hnd : [1, i, j].Nodup) (h1 : pos [1, i, j] 1 = some 0) (hi : pos [1, i, j] i = some 1) (hj : pos [1, i, j] j = some 2) (hg1 : hget H 1 = some (R l s.1 s.2)) (hgi : hget H i = some (XB es cells)) (hgj : hget H j = some (FB i fs)) :
    CallOk Try.prog 133 H [.ref 1 0 0, .sl j 0 fs.length] (.tup []) (((H.set 1 (some (R l (rdK l s fs.length).1 (rdK l s fs.length).2))).set i (some (XB es (putN l s cells fs fs.length)))).set j (some (FB i fs))) := by
  have hl1 := hget_lt hg1
  have hli := hget_lt hgi
  have hlj := hget_lt hgj
  refine ((read_ok l s es cells fs hB hs hl hes he1 hf hfl).pass (H := H) (args := [.ref 1 0 0, .sl j 0 fs.length]) [1, i, j] hnd (by simp; omega) ?_ ?_).eq rfl ?_
  · simp [normH, hg1, hgi, hgj, R_ren, XB_ren _ es (hren _), FB_ren hi]
  · simp [renL, AV.ren, h1, hj]
  · simp [mergeH, setIds, renH, R_ren, XB_ren _ es (putN_ren _ l s (hren _) fs _), FB_ren (ρ := fun j' => some (back [1, i, j] H.length j')) (i := 1) (j := i) rfl]
def acL (k ck cz ca cn : Int) (d : AV) (f : Bool) (m n : Int) (kp : AV) : List AV := [.int k, .int ck, .int cz, .int ca, .int cn, d, .b f, .int m, .int n, kp]
theorem acL_ren {k ck cz ca cn : Int} {d : AV} {f : Bool} {m n : Int} {kp : AV} (hd : ∀ ρ, d.ren ρ = d) (hk : ∀ ρ, kp.ren ρ = kp) (ρ : Nat → Option Nat) : renL ρ (acL k ck cz ca cn d f m n kp) = acL k ck cz ca cn d f m n kp := by
  simp only [acL, renL, hd, hk]; rfl
theorem gC_bd (l : List Int) : 0 ≤ (gC l).2.2 ∧ (gC l).2.2 ≤ 4096 := by
  unfold gC ri
  split
  · dsimp only; omega
  · split
    · dsimp only; omega
    · split
      · dsimp only; omega
      · dsimp only; omega
theorem putN_conf (l : List Int) (s : Nat × Int) : putN l s (CC cf0) [0, 1, 2, 3, 4, 5, 6, 7, 8, 9, 10] 11 = CC (cf11 (rdKV l s)) := by
  simp [putN, splice, CC, ints, Cf.l, cf0, cf11]
set_option maxHeartbeats 2000000 in
theorem get27_ok (l : List Int) (hB : Bytes l) (hl : l.length ≤ 140737488355328) : CSpec Try.prog 74 [] [.fz 1 (ints .u8 l)] [] (.tup [.agg (CC (getS l).1), .fz 10 (Acs (getS l).2.1), .int (getS l).2.2]) := by
  have hp11 := rdK_le l (0, 0) (Nat.zero_le _) 11
  have hgC := gC_bd l
  have hgp : (gC l).1 ≤ l.length := ri_le hp11
  obtain ⟨nn, hnn⟩ : ∃ nn, (gC l).2.2.toNat = nn := ⟨_, rfl⟩
  have hgAs : gAs l = getAs l nn ((gC l).1, (gC l).2.1) := by unfold gAs; rw [hnn]
  refine CSpec.body Try.func74 rfl rfl rfl rfl rfl fun Q hQ => ?_
  refine T.seq fun K1 hK1 => ?_
  refine T.region ?_ -- region 0
  refine ro rfl rfl (OpOk.step (ok_alloc rfl ti_api_Conf rfl (by decide))) ?_
  refine ro rfl rfl (OpOk.step (ok_move (.inr rfl))) ?_
  refine ro rfl rfl (OpOk.step (ok_move (.inr rfl))) ?_
  refine ro_nil ?_
  refine keepK hK1 [0, 2] (by dsimp) (by dsimp) ?_
  refine T.seq fun K2 hK2 => ?_
  refine T.region ?_ -- region 1
  refine ro rfl rfl (OpOk.step (ok_move (.inl rfl))) ?_
  refine ro rfl rfl (ok_call rfl rfl rfl ((new_ok l hl).fresh (x' := .ref 1 0 0) (H' := [some (R l 0 0)]) (by simp [renL, AV.ren, renL_ints]) rfl (by simp [renH, R_ren]))) ?_
  refine ro rfl rfl (OpOk.step (ok_move (.inr rfl))) ?_
  refine ro_nil ?_
  refine keepK hK2 [2, 5] (by dsimp) (by dsimp) ?_
  refine T.seq fun K3 hK3 => ?_
  refine T.region ?_ -- region 2
  refine ro rfl rfl (OpOk.step (ok_alloc rfl ti_api_Conf rfl (by decide))) ?_
  refine ro_nil ?_
  refine keepK hK3 [2, 5, 6] (by dsimp) (by dsimp) ?_
  refine T.seq fun K4 hK4 => ?_
  refine T.region ?_ -- region 3
  refine ro rfl rfl (OpOk.step (ok_move (.inl rfl))) ?_
  refine ro rfl rfl (OpOk.step (ok_fieldAddr rfl ti_api_Conf rfl rfl ti_int (by decide) rfl)) ?_
  refine ro rfl rfl (OpOk.step (ok_fieldAddr rfl ti_api_Conf rfl rfl ti_int (by decide) rfl)) ?_
  refine ro rfl rfl (OpOk.step (ok_fieldAddr rfl ti_api_Conf rfl rfl ti_int (by decide) rfl)) ?_
  refine ro rfl rfl (OpOk.step (ok_fieldAddr rfl ti_api_Conf rfl rfl ti_int (by decide) rfl)) ?_
  refine ro rfl rfl (OpOk.step (ok_fieldAddr rfl ti_api_Conf rfl rfl ti_int (by decide) rfl)) ?_
  refine ro rfl rfl (OpOk.step (ok_fieldAddr rfl ti_api_Conf rfl rfl ti_int (by decide) rfl)) ?_
  refine ro rfl rfl (OpOk.step (ok_fieldAddr rfl ti_api_Conf rfl rfl ti_int (by decide) rfl)) ?_
  refine ro rfl rfl (OpOk.step (ok_fieldAddr rfl ti_api_Conf rfl rfl ti_int (by decide) rfl)) ?_
  refine ro rfl rfl (OpOk.step (ok_fieldAddr rfl ti_api_Conf rfl rfl ti_int (by decide) rfl)) ?_
  refine ro rfl rfl (OpOk.step (ok_fieldAddr rfl ti_api_Conf rfl rfl ti_int (by decide) rfl)) ?_
  refine ro rfl rfl (OpOk.step (ok_fieldAddr rfl ti_api_Conf rfl rfl ti_int (by decide) rfl)) ?_
  refine ro rfl rfl (OpOk.step ((ok_buildSlice (n := 11) (ps := #[(0, .tmp 13), (1, .tmp 14), (2, .tmp 15), (3, .tmp 16), (4, .tmp 17), (5, .tmp 18), (6, .tmp 19), (7, .tmp 20), (8, .tmp 21), (9, .tmp 22), (10, .tmp 23)]) rfl ti_LPint rfl ti_Pint (by decide) rfl rfl (by decide) rfl rfl rfl).eq (x' := .sl 3 0 11) (H'' := [some (CB cf0), some (R l 0 0), some (XB 11 (CC cf0)), some (FB 2 [0, 1, 2, 3, 4, 5, 6, 7, 8, 9, 10])]) rfl rfl)) ?_
  refine ro rfl rfl (ok_call rfl rfl rfl ((read_call (s := (0, 0)) (cells := CC cf0) (fs := [0, 1, 2, 3, 4, 5, 6, 7, 8, 9, 10]) (es := 11) hB (Nat.zero_le _) hl rfl (by decide) (by decide) (by decide) (fun ρ => CC_ren ρ cf0) 2 3 (by decide) rfl rfl rfl rfl rfl rfl).eq (x' := .tup []) (H'' := [some (CB cf0), some (R l (rdK l (0, 0) 11).1 (rdK l (0, 0) 11).2), some (CB (cf11 (rdKV l (0, 0)))), some (FB 2 [0, 1, 2, 3, 4, 5, 6, 7, 8, 9, 10])]) rfl (by have e := putN_conf l (0, 0); show [_, _, some (XB 11 (putN l (0, 0) (CC cf0) [0, 1, 2, 3, 4, 5, 6, 7, 8, 9, 10] 11)), _] = _; rw [e]; rfl))) ?_
  refine ro_nil ?_
  refine keepK hK4 [2, 5, 6] (by dsimp) (by dsimp) ?_
  refine T.seq fun K5 hK5 => ?_
  refine T.region ?_ -- region 4
  refine ro rfl rfl (OpOk.step (ok_move (.inr rfl))) ?_
  refine ro_nil ?_
  refine keepK hK5 [2, 5, 6, 7] (by dsimp) (by dsimp) ?_
  refine T.seq fun K6 hK6 => ?_
  refine T.seq fun K7 hK7 => ?_
  refine T.region ?_ -- region 5
  refine ro rfl rfl (OpOk.step (ok_move (.inl rfl))) ?_
  refine ro rfl rfl (ok_call rfl rfl rfl (((int_ok l (rdK l (0, 0) 11).1 (rdK l (0, 0) 11).2 0 4096 hB hp11 hl).passR 1 rfl rfl (fun _ => rfl)).eq (x' := .int (gC l).2.2) (H'' := [some (CB cf0), some (R l (gC l).1 (gC l).2.1), some (CB (cf11 (rdKV l (0, 0)))), some (FB 2 [0, 1, 2, 3, 4, 5, 6, 7, 8, 9, 10])]) rfl rfl)) ?_
  refine ro rfl rfl (OpOk.step (ok_move (.inl rfl))) ?_
  refine ro_nil ?_
  refine keepK hK7 [2, 5, 6, 7, 27, 28] (by dsimp) (by dsimp) ?_
  refine T.block ?_
  refine T.loopI (ι := Nat × List Ac × Nat × Int) (fun z => z.1 ≤ nn ∧ z.2.1.length = z.1 ∧ z.2.2.1 ≤ l.length ∧ gAs l = (z.2.1 ++ (getAs l (nn - z.1) z.2.2).1, (getAs l (nn - z.1) z.2.2).2)) (fun z => nn - z.1) (fun z => ([(2, .ref 0 0 0), (5, .ref 1 0 0), (6, .ref 2 0 0), (7, .sl 3 0 z.2.1.length), (27, .int (gC l).2.2), (28, .int z.1)], [some (CB cf0), some (R l z.2.2.1 z.2.2.2), some (CB (cf11 (rdKV l (0, 0)))), some ⟨10, true, Acs z.2.1⟩])) (0, [], (gC l).1, (gC l).2.1) ⟨Nat.zero_le _, rfl, hgp, by rw [hgAs]; simp⟩ ((TEnt.empty 7 10 (by decide) (.inr rfl)).trans (TEnt.fin [0, 1, 2, 4] (by decide) (by simp) (by simp [normH, hget, CB_ren, R_ren]; rfl) ⟨rfl, rfl, rfl, rfl, rfl, rfl, trivial⟩)) (fun i hi => ?_) -- loop 1
  obtain ⟨i, A, s⟩ := i
  obtain ⟨hi, hAl, hsl, hinv⟩ := hi
  dsimp only at hi hAl hsl hinv ⊢
  refine T.seq fun K8 hK8 => ?_
  refine T.region ?_ -- region 6
  refine ro rfl rfl (OpOk.step (ok_binOp rfl ti_int rfl)) ?_
  refine ro_nil ?_
  refine keepK hK8 [2, 5, 6, 7, 27, 28, 29] (by dsimp) (by dsimp) ?_
  refine T.seq fun K9 hK9 => ?_
  refine T.cond rfl (fun hc => ?_) (fun hc => ?_) -- cond 1
  · (try simp only [decide_eq_true_eq, decide_eq_false_iff_not, beq_iff_eq, beq_eq_false_iff_ne, bne_iff_ne, bne_eq_false_iff_eq, ne_eq, Bool.not_eq_true', Bool.not_eq_false'] at hc)
    have hin : i < nn := by omega
    obtain ⟨m, hm⟩ : ∃ m, nn - i = m + 1 := ⟨nn - i - 1, by omega⟩
    rw [hm] at hinv
    have hs3 := rdK_le l s hsl 3
    have hk := rb_le (l := l) (e := (rdK l s 3).2) (m := 1048576) hs3
    obtain ⟨k, hk0⟩ : ∃ k, rb l (rdK l s 3).1 (rdK l s 3).2 1048576 = k := ⟨_, rfl⟩
    rw [hk0] at hk
    have hs4 := rdK_le l (k.1, k.2.1) hk 4
    have hd := rb_le (l := l) (e := (rdK l (k.1, k.2.1) 4).2) (m := 1048576) hs4
    obtain ⟨d, hd0⟩ : ∃ d, rb l (rdK l (k.1, k.2.1) 4).1 (rdK l (k.1, k.2.1) 4).2 1048576 = d := ⟨_, rfl⟩
    rw [hd0] at hd
    have hf := rf_le (l := l) (e := d.2.1) hd
    obtain ⟨f, hf0⟩ : ∃ f, rf l d.1 d.2.1 = f := ⟨_, rfl⟩
    rw [hf0] at hf
    obtain ⟨a, ha0⟩ : ∃ a : Ac, a = ⟨rdKV l s 0, rdKV l (k.1, k.2.1) 0, rdKV l (k.1, k.2.1) 1, rdKV l (k.1, k.2.1) 2, rdKV l (k.1, k.2.1) 3, d.2.2, f.2.2, rdKV l s 1, rdKV l s 2, k.2.2⟩ := ⟨_, rfl⟩
    have hrd : rdA l s = (a, f.1, f.2.1) := by simp only [rdA, hk0, hd0, hf0, ha0]
    refine T.skip ?_
    refine keepK hK9 [2, 5, 6, 7, 27, 28] (by dsimp) (by dsimp) ?_
    refine T.seq fun K10 hK10 => ?_
    refine T.block ?_
    refine T.seq fun K11 hK11 => ?_
    refine T.region ?_ -- region 7
    refine ro rfl rfl (OpOk.step (ok_alloc rfl ti_api_Act rfl (by decide))) ?_
    refine ro_nil ?_
    refine keepK hK11 [2, 5, 6, 7, 8, 27, 28] (by dsimp) (by dsimp) ?_
    refine T.seq fun K12 hK12 => ?_
    refine T.region ?_ -- region 8
    refine ro rfl rfl (OpOk.step (ok_move (.inl rfl))) ?_
    refine ro rfl rfl (OpOk.step (ok_fieldAddr rfl ti_api_Act rfl rfl ti_int (by decide) rfl)) ?_
    refine ro rfl rfl (OpOk.step (ok_fieldAddr rfl ti_api_Act rfl rfl ti_int (by decide) rfl)) ?_
    refine ro rfl rfl (OpOk.step (ok_fieldAddr rfl ti_api_Act rfl rfl ti_int (by decide) rfl)) ?_
    refine ro rfl rfl (OpOk.step ((ok_buildSlice (n := 3) (ps := #[(0, .tmp 31), (1, .tmp 32), (2, .tmp 33)]) rfl ti_LPint rfl ti_Pint (by decide) rfl rfl (by decide) rfl rfl rfl).eq (x' := .sl 5 0 3) (H'' := [some (CB cf0), some (R l s.1 s.2), some (CB (cf11 (rdKV l (0, 0)))), some ⟨10, true, Acs A⟩, some (XB 10 (acL (0) (0) (0) (0) (0) (.v (.slice none 0 0)) (false) (0) (0) (.v (.slice none 0 0)))), some (FB 4 [0, 7, 8])]) rfl rfl)) ?_
    refine ro rfl rfl (ok_call rfl rfl rfl ((read_call (s := s) (cells := (acL (0) (0) (0) (0) (0) (.v (.slice none 0 0)) (false) (0) (0) (.v (.slice none 0 0)))) (fs := [0, 7, 8]) (es := 10) hB hsl hl rfl (by decide) (by decide) (by decide) (acL_ren (fun _ => rfl) (fun _ => rfl)) 4 5 (by decide) rfl rfl rfl rfl rfl rfl).eq (x' := .tup []) (H'' := [some (CB cf0), some (R l (rdK l s 3).1 (rdK l s 3).2), some (CB (cf11 (rdKV l (0, 0)))), some ⟨10, true, Acs A⟩, some (XB 10 (acL (rdKV l s 0) (0) (0) (0) (0) (.v (.slice none 0 0)) (false) (rdKV l s 1) (rdKV l s 2) (.v (.slice none 0 0)))), some (FB 4 [0, 7, 8])]) rfl rfl)) ?_
    refine ro_nil ?_
    refine keepK hK12 [2, 5, 6, 7, 8, 27, 28] (by dsimp) (by dsimp) ?_
    refine T.seq fun K13 hK13 => ?_
    refine T.region ?_ -- region 9
    refine ro rfl rfl (OpOk.step (ok_move (.inl rfl))) ?_
    refine ro rfl rfl (ok_call rfl rfl rfl (((bytes_ok l (rdK l s 3).1 (rdK l s 3).2 1048576 hB hs3 hl).passR 1 rfl rfl (fun _ => by simp [AV.ren, renL_ints])).eq (x' := .fz 1 (ints .u8 k.2.2)) (H'' := [some (CB cf0), some (R l k.1 k.2.1), some (CB (cf11 (rdKV l (0, 0)))), some ⟨10, true, Acs A⟩, some (XB 10 (acL (rdKV l s 0) (0) (0) (0) (0) (.v (.slice none 0 0)) (false) (rdKV l s 1) (rdKV l s 2) (.v (.slice none 0 0)))), some (FB 4 [0, 7, 8])]) (by rw [hk0]) (by rw [hk0]; rfl))) ?_
    refine ro rfl rfl (OpOk.step (ok_fieldAddr rfl ti_api_Act rfl rfl ti_Luint8 (by decide) rfl)) ?_
    refine ro rfl rfl (OpOk.step ((ok_store rfl ti_Luint8 (by decide) rfl rfl rfl rfl rfl (by first | exact Nat.le_of_ble_eq_true rfl | simp) (by first | exact .inl ⟨rfl, rfl⟩ | exact .inr rfl)).eq (H'' := [some (CB cf0), some (R l k.1 k.2.1), some (CB (cf11 (rdKV l (0, 0)))), some ⟨10, true, Acs A⟩, some (XB 10 (acL (rdKV l s 0) (0) (0) (0) (0) (.v (.slice none 0 0)) (false) (rdKV l s 1) (rdKV l s 2) (.fz 1 (ints .u8 k.2.2)))), some (FB 4 [0, 7, 8])]) rfl rfl)) ?_
    refine ro_nil ?_
    refine keepK hK13 [2, 5, 6, 7, 8, 27, 28] (by dsimp) (by dsimp) ?_
    refine T.seq fun K14 hK14 => ?_
    refine T.region ?_ -- region 10
    refine ro rfl rfl (OpOk.step (ok_move (.inl rfl))) ?_
    refine ro rfl rfl (OpOk.step (ok_fieldAddr rfl ti_api_Act rfl rfl ti_api_Cmd (by decide) rfl)) ?_
    refine ro rfl rfl (OpOk.step (ok_fieldAddr rfl ti_api_Cmd rfl rfl ti_int (by decide) rfl)) ?_
    refine ro rfl rfl (OpOk.step (ok_fieldAddr rfl ti_api_Act rfl rfl ti_api_Cmd (by decide) rfl)) ?_
    refine ro rfl rfl (OpOk.step (ok_fieldAddr rfl ti_api_Cmd rfl rfl ti_int (by decide) rfl)) ?_
    refine ro rfl rfl (OpOk.step (ok_fieldAddr rfl ti_api_Act rfl rfl ti_api_Cmd (by decide) rfl)) ?_
    refine ro rfl rfl (OpOk.step (ok_fieldAddr rfl ti_api_Cmd rfl rfl ti_int (by decide) rfl)) ?_
    refine ro rfl rfl (OpOk.step (ok_fieldAddr rfl ti_api_Act rfl rfl ti_api_Cmd (by decide) rfl)) ?_
    refine ro rfl rfl (OpOk.step (ok_fieldAddr rfl ti_api_Cmd rfl rfl ti_int (by decide) rfl)) ?_
    refine ro rfl rfl (OpOk.step ((ok_buildSlice (n := 4) (ps := #[(0, .tmp 41), (1, .tmp 43), (2, .tmp 45), (3, .tmp 47)]) rfl ti_LPint rfl ti_Pint (by decide) rfl rfl (by decide) rfl rfl rfl).eq (x' := .sl 6 0 4) (H'' := [some (CB cf0), some (R l k.1 k.2.1), some (CB (cf11 (rdKV l (0, 0)))), some ⟨10, true, Acs A⟩, some (XB 10 (acL (rdKV l s 0) (0) (0) (0) (0) (.v (.slice none 0 0)) (false) (rdKV l s 1) (rdKV l s 2) (.fz 1 (ints .u8 k.2.2)))), some (FB 4 [0, 7, 8]), some (FB 4 [1, 2, 3, 4])]) rfl rfl)) ?_
    refine ro rfl rfl (ok_call rfl rfl rfl ((read_call (s := (k.1, k.2.1)) (cells := (acL (rdKV l s 0) (0) (0) (0) (0) (.v (.slice none 0 0)) (false) (rdKV l s 1) (rdKV l s 2) (.fz 1 (ints .u8 k.2.2)))) (fs := [1, 2, 3, 4]) (es := 10) hB hk hl rfl (by decide) (by decide) (by decide) (acL_ren (fun _ => rfl) (fun _ => by simp [AV.ren, renL_ints])) 4 6 (by decide) rfl rfl rfl rfl rfl rfl).eq (x' := .tup []) (H'' := [some (CB cf0), some (R l (rdK l (k.1, k.2.1) 4).1 (rdK l (k.1, k.2.1) 4).2), some (CB (cf11 (rdKV l (0, 0)))), some ⟨10, true, Acs A⟩, some (XB 10 (acL (rdKV l s 0) (rdKV l (k.1, k.2.1) 0) (rdKV l (k.1, k.2.1) 1) (rdKV l (k.1, k.2.1) 2) (rdKV l (k.1, k.2.1) 3) (.v (.slice none 0 0)) (false) (rdKV l s 1) (rdKV l s 2) (.fz 1 (ints .u8 k.2.2)))), some (FB 4 [0, 7, 8]), some (FB 4 [1, 2, 3, 4])]) rfl rfl)) ?_
    refine ro_nil ?_
    refine keepK hK14 [2, 5, 6, 7, 8, 27, 28] (by dsimp) (by dsimp) ?_
    refine T.seq fun K15 hK15 => ?_
    refine T.region ?_ -- region 11
    refine ro rfl rfl (OpOk.step (ok_move (.inl rfl))) ?_
    refine ro rfl rfl (ok_call rfl rfl rfl (((bytes_ok l (rdK l (k.1, k.2.1) 4).1 (rdK l (k.1, k.2.1) 4).2 1048576 hB hs4 hl).passR 1 rfl rfl (fun _ => by simp [AV.ren, renL_ints])).eq (x' := .fz 1 (ints .u8 d.2.2)) (H'' := [some (CB cf0), some (R l d.1 d.2.1), some (CB (cf11 (rdKV l (0, 0)))), some ⟨10, true, Acs A⟩, some (XB 10 (acL (rdKV l s 0) (rdKV l (k.1, k.2.1) 0) (rdKV l (k.1, k.2.1) 1) (rdKV l (k.1, k.2.1) 2) (rdKV l (k.1, k.2.1) 3) (.v (.slice none 0 0)) (false) (rdKV l s 1) (rdKV l s 2) (.fz 1 (ints .u8 k.2.2)))), some (FB 4 [0, 7, 8]), some (FB 4 [1, 2, 3, 4])]) (by rw [hd0]) (by rw [hd0]; rfl))) ?_
    refine ro rfl rfl (OpOk.step (ok_fieldAddr rfl ti_api_Act rfl rfl ti_api_Cmd (by decide) rfl)) ?_
    refine ro rfl rfl (OpOk.step (ok_fieldAddr rfl ti_api_Cmd rfl rfl ti_Luint8 (by decide) rfl)) ?_
    refine ro rfl rfl (OpOk.step ((ok_store rfl ti_Luint8 (by decide) rfl rfl rfl rfl rfl (by first | exact Nat.le_of_ble_eq_true rfl | simp) (by first | exact .inl ⟨rfl, rfl⟩ | exact .inr rfl)).eq (H'' := [some (CB cf0), some (R l d.1 d.2.1), some (CB (cf11 (rdKV l (0, 0)))), some ⟨10, true, Acs A⟩, some (XB 10 (acL (rdKV l s 0) (rdKV l (k.1, k.2.1) 0) (rdKV l (k.1, k.2.1) 1) (rdKV l (k.1, k.2.1) 2) (rdKV l (k.1, k.2.1) 3) (.fz 1 (ints .u8 d.2.2)) (false) (rdKV l s 1) (rdKV l s 2) (.fz 1 (ints .u8 k.2.2)))), some (FB 4 [0, 7, 8]), some (FB 4 [1, 2, 3, 4])]) rfl rfl)) ?_
    refine ro_nil ?_
    refine keepK hK15 [2, 5, 6, 7, 8, 27, 28] (by dsimp) (by dsimp) ?_
    refine T.seq fun K16 hK16 => ?_
    refine T.region ?_ -- region 12
    refine ro rfl rfl (OpOk.step (ok_move (.inl rfl))) ?_
    refine ro rfl rfl (ok_call rfl rfl rfl (((flag_ok l d.1 d.2.1 hd hl).passR 1 rfl rfl (fun _ => rfl)).eq (x' := .b f.2.2) (H'' := [some (CB cf0), some (R l f.1 f.2.1), some (CB (cf11 (rdKV l (0, 0)))), some ⟨10, true, Acs A⟩, some (XB 10 (acL (rdKV l s 0) (rdKV l (k.1, k.2.1) 0) (rdKV l (k.1, k.2.1) 1) (rdKV l (k.1, k.2.1) 2) (rdKV l (k.1, k.2.1) 3) (.fz 1 (ints .u8 d.2.2)) (false) (rdKV l s 1) (rdKV l s 2) (.fz 1 (ints .u8 k.2.2)))), some (FB 4 [0, 7, 8]), some (FB 4 [1, 2, 3, 4])]) (by rw [hf0]) (by rw [hf0]; rfl))) ?_
    refine ro rfl rfl (OpOk.step (ok_fieldAddr rfl ti_api_Act rfl rfl ti_api_Cmd (by decide) rfl)) ?_
    refine ro rfl rfl (OpOk.step (ok_fieldAddr rfl ti_api_Cmd rfl rfl ti_bool (by decide) rfl)) ?_
    refine ro rfl rfl (OpOk.step ((ok_store rfl ti_bool (by decide) rfl rfl rfl rfl rfl (by first | exact Nat.le_of_ble_eq_true rfl | simp) (by first | exact .inl ⟨rfl, rfl⟩ | exact .inr rfl)).eq (H'' := [some (CB cf0), some (R l f.1 f.2.1), some (CB (cf11 (rdKV l (0, 0)))), some ⟨10, true, Acs A⟩, some (AcB a), some (FB 4 [0, 7, 8]), some (FB 4 [1, 2, 3, 4])]) rfl (by rw [ha0]; rfl))) ?_
    refine ro_nil ?_
    refine keepK hK16 [2, 5, 6, 7, 8, 27, 28] (by dsimp) (by dsimp) ?_
    refine T.seq fun K17 hK17 => ?_
    refine T.seq fun K18 hK18 => ?_
    refine T.region ?_ -- region 13
    refine ro rfl rfl (OpOk.step (ok_move (.inl rfl))) ?_
    refine ro rfl rfl (ok_call rfl rfl rfl (((err_ok l f.1 f.2.1).passR 1 rfl rfl (fun _ => rfl)).eq (x' := .int f.2.1) (H'' := [some (CB cf0), some (R l f.1 f.2.1), some (CB (cf11 (rdKV l (0, 0)))), some ⟨10, true, Acs A⟩, some (AcB a), some (FB 4 [0, 7, 8]), some (FB 4 [1, 2, 3, 4])]) rfl rfl)) ?_
    refine ro rfl rfl (OpOk.step (ok_binOp rfl ti_api_Errno rfl)) ?_
    refine ro_nil ?_
    refine keepK hK18 [2, 5, 6, 7, 8, 27, 28, 60] (by dsimp) (by dsimp) ?_
    refine T.cond rfl (fun hc => ?_) (fun hc => ?_) -- cond 2
    · (try simp only [decide_eq_true_eq, decide_eq_false_iff_not, beq_iff_eq, beq_eq_false_iff_ne, bne_iff_ne, bne_eq_false_iff_eq, ne_eq, Bool.not_eq_true', Bool.not_eq_false'] at hc)
      have hbr : gAs l = (A, f.1, f.2.1) := by rw [hinv]; simp only [getAs, hrd]; rw [if_pos hc]; simp
      obtain ⟨z, hz⟩ : ∃ z : Nat × Int, z = (f.1, f.2.1) := ⟨_, rfl⟩
      have hzz : R l f.1 f.2.1 = R l z.1 z.2 := by rw [hz]
      have hgz : gAs l = (A, z) := by rw [hz]; exact hbr
      have hzl : z.1 ≤ l.length := by rw [hz]; exact hf
      refine T.exit ?_
      refine keepK hK6 [2, 5, 6, 7] (by dsimp) (by dsimp) ?_
      refine T.seq fun K19 hK19 => ?_
      refine T.ent (TEnt.fin (tm' := [(2, .ref 0 0 0), (5, .ref 1 0 0), (6, .ref 2 0 0), (7, .sl 3 0 A.length)]) (H' := [some (CB cf0), some (R l z.1 z.2), some (CB (cf11 (rdKV l (0, 0)))), some ⟨10, true, Acs A⟩]) [0, 1, 2, 3] (by decide) (by simp) (by simp [normH, hget, CB_ren, R_ren, hzz]; simp [Blk.ren, Acs_ren]) ⟨rfl, rfl, rfl, rfl, trivial⟩) ?_
      have hz1 : (gAs l).2.2 = z.2 := by rw [hgz]
      have hz2 : (gAs l).2.1 = z.1 := by rw [hgz]
      have hz3 : (gAs l).1 = A := by rw [hgz]
      refine T.region ?_ -- region 16
      refine ro rfl rfl (OpOk.step (ok_move (.inl rfl))) ?_
      refine ro rfl rfl (ok_call rfl rfl rfl (((err_ok l z.1 z.2).passR 1 rfl rfl (fun _ => rfl)).eq (x' := .int z.2) (H'' := [some (CB cf0), some (R l z.1 z.2), some (CB (cf11 (rdKV l (0, 0)))), some ⟨10, true, Acs A⟩]) rfl rfl)) ?_
      refine ro rfl rfl (OpOk.step (ok_move (.inr rfl))) ?_
      refine ro_nil ?_
      refine keepK hK19 [2, 5, 6, 7, 9] (by dsimp) (by dsimp) ?_
      refine T.seq fun K20 hK20 => ?_
      refine T.seq fun K21 hK21 => ?_
      refine T.region ?_ -- region 17
      refine ro rfl rfl (OpOk.step (ok_move (.inl rfl))) ?_
      refine ro rfl rfl (OpOk.step (ok_binOp rfl ti_api_Errno rfl)) ?_
      refine ro_case rfl rfl (OpOk.step (ok_moveb (.inl rfl) rfl)) (fun hb => ?_) (fun hb => ?_)
      · (try simp only [decide_eq_true_eq, decide_eq_false_iff_not, beq_iff_eq, beq_eq_false_iff_ne, bne_iff_ne, bne_eq_false_iff_eq, ne_eq, Bool.not_eq_true', Bool.not_eq_false'] at hb)
        refine ro rfl rfl (OpOk.step (ok_move (.inl rfl))) ?_
        refine ro rfl rfl (ok_call rfl rfl rfl (((left_ok l z.1 z.2 hzl hl).passR 1 rfl rfl (fun _ => rfl)).eq (x' := .int ((l.length : Int) - z.1)) (H'' := [some (CB cf0), some (R l z.1 z.2), some (CB (cf11 (rdKV l (0, 0)))), some ⟨10, true, Acs A⟩]) rfl rfl)) ?_
        refine ro rfl rfl (OpOk.step (ok_binOp rfl ti_int rfl)) ?_
        refine ro rfl rfl (OpOk.step (ok_pick rfl rfl)) ?_
        refine ro_nil ?_
        refine keepK hK21 [2, 6, 7, 9, 74] (by dsimp) (by dsimp) ?_
        refine T.cond rfl (fun hc => ?_) (fun hc => ?_) -- cond 3
        · (try simp only [decide_eq_true_eq, decide_eq_false_iff_not, beq_iff_eq, beq_eq_false_iff_ne, bne_iff_ne, bne_eq_false_iff_eq, ne_eq, Bool.not_eq_true', Bool.not_eq_false'] at hc)
          refine T.region ?_ -- region 18
          refine ro rfl rfl (OpOk.step (ok_move (.inr rfl))) ?_
          refine ro_nil ?_
          refine keepK hK20 [2, 6, 7, 9] (by dsimp) (by dsimp) ?_
          refine T.seq fun K22 hK22 => ?_
          refine T.seq fun K23 hK23 => ?_
          refine T.region ?_ -- region 19
          refine ro rfl rfl (OpOk.step (ok_move (.inl rfl))) ?_
          refine ro rfl rfl (OpOk.step (ok_binOp rfl ti_api_Errno rfl)) ?_
          refine ro_nil ?_
          refine keepK hK23 [2, 6, 7, 9, 76] (by dsimp) (by dsimp) ?_
          refine T.cond rfl (fun hc => ?_) (fun hc => ?_) -- cond 4
          · (try simp only [decide_eq_true_eq, decide_eq_false_iff_not, beq_iff_eq, beq_eq_false_iff_ne, bne_iff_ne, bne_eq_false_iff_eq, ne_eq, Bool.not_eq_true', Bool.not_eq_false'] at hc)
            refine T.seq fun K24 hK24 => ?_
            refine T.region ?_ -- region 20
            refine ro rfl rfl (OpOk.step (ok_build rfl ti_api_Conf rfl)) ?_
            refine ro rfl rfl (OpOk.step (ok_move (.inl rfl))) ?_
            refine ro rfl rfl (OpOk.step (ok_store rfl ti_api_Conf (by decide) rfl rfl rfl rfl rfl (by first | exact Nat.le_of_ble_eq_true rfl | simp) (by first | exact .inl ⟨rfl, rfl⟩ | exact .inr rfl))) ?_
            refine ro rfl rfl (OpOk.step (ok_move (.inr rfl))) ?_
            refine ro rfl rfl (OpOk.step (ok_move (.inr rfl))) ?_
            refine ro_nil ?_
            refine keepK hK24 [2, 3, 4] (by dsimp) (by dsimp) ?_
            refine T.ret (hQ _ _ _ rfl ?_).1 -- ret 1
            exact by first | (exfalso; omega) | (exact absurd hc (by decide)) | (rw [getS_2 (by omega) (by omega)]; exact (TEnt.put1 0 (x' := .tup [.agg (CC cf0), .fz 10 (Acs []), .int 13]) (by show Ent _ (.tup [.agg (CC cf0), .v (.slice none 0 0), .int _]) _; exact Ent.tup (EntL.cons (Ent.refl _) (EntL.cons (Ent.nil 10) (EntL.refl _))))).trans (TEnt.fin [] (by decide) (by simp) rfl ⟨by simp [AV.ren, renL, CC_ren, Acs_ren], trivial⟩)) | (rw [getS_1 (by omega), hz1]; exact (TEnt.put1 0 (x' := .tup [.agg (CC cf0), .fz 10 (Acs []), .int z.2]) (by show Ent _ (.tup [.agg (CC cf0), .v (.slice none 0 0), .int _]) _; exact Ent.tup (EntL.cons (Ent.refl _) (EntL.cons (Ent.nil 10) (EntL.refl _))))).trans (TEnt.fin [] (by decide) (by simp) rfl ⟨by simp [AV.ren, renL, CC_ren, Acs_ren], trivial⟩)) | (rw [getS_3 (by omega) (by omega), hz3]; exact (TEnt.freeze 3 (b := ⟨10, true, Acs A⟩) rfl).trans ((TEnt.put1 0 (x' := .tup [.agg (CC (cf11 (rdKV l (0, 0)))), .fz 10 (Acs A), .int 0]) (by show Ent _ (.tup [.agg (CC (cf11 (rdKV l (0, 0)))), .sl 3 0 _, .int 0]) _; exact Ent.tup (EntL.cons (Ent.refl _) (EntL.cons (Ent.sl0 (b := ⟨10, false, Acs A⟩) rfl rfl (Acs_len A)) (EntL.refl _))))).trans (TEnt.fin [] (by decide) (by simp) rfl ⟨by simp [AV.ren, renL, CC_ren, Acs_ren], trivial⟩)))
          · (try simp only [decide_eq_true_eq, decide_eq_false_iff_not, beq_iff_eq, beq_eq_false_iff_ne, bne_iff_ne, bne_eq_false_iff_eq, ne_eq, Bool.not_eq_true', Bool.not_eq_false'] at hc)
            refine T.skip ?_
            refine keepK hK22 [2, 6, 7] (by dsimp) (by dsimp) ?_
            refine T.seq fun K25 hK25 => ?_
            refine T.region ?_ -- region 21
            refine ro rfl rfl (OpOk.step (ok_load rfl ti_api_Conf rfl rfl)) ?_
            refine ro rfl rfl (OpOk.step (ok_move (.inl rfl))) ?_
            refine ro rfl rfl (OpOk.step (ok_store rfl ti_api_Conf (by decide) rfl rfl rfl rfl rfl (by first | exact Nat.le_of_ble_eq_true rfl | simp) (by first | exact .inl ⟨rfl, rfl⟩ | exact .inr rfl))) ?_
            refine ro rfl rfl (OpOk.step (ok_move (.inr rfl))) ?_
            refine ro rfl rfl (OpOk.step (ok_move (.inr rfl))) ?_
            refine ro_nil ?_
            refine keepK hK25 [2, 3, 4] (by dsimp) (by dsimp) ?_
            refine T.ret (hQ _ _ _ rfl ?_).1 -- ret 2
            exact by first | (exfalso; omega) | (exact absurd hc (by decide)) | (rw [getS_2 (by omega) (by omega)]; exact (TEnt.put1 0 (x' := .tup [.agg (CC cf0), .fz 10 (Acs []), .int 13]) (by show Ent _ (.tup [.agg (CC cf0), .v (.slice none 0 0), .int _]) _; exact Ent.tup (EntL.cons (Ent.refl _) (EntL.cons (Ent.nil 10) (EntL.refl _))))).trans (TEnt.fin [] (by decide) (by simp) rfl ⟨by simp [AV.ren, renL, CC_ren, Acs_ren], trivial⟩)) | (rw [getS_1 (by omega), hz1]; exact (TEnt.put1 0 (x' := .tup [.agg (CC cf0), .fz 10 (Acs []), .int z.2]) (by show Ent _ (.tup [.agg (CC cf0), .v (.slice none 0 0), .int _]) _; exact Ent.tup (EntL.cons (Ent.refl _) (EntL.cons (Ent.nil 10) (EntL.refl _))))).trans (TEnt.fin [] (by decide) (by simp) rfl ⟨by simp [AV.ren, renL, CC_ren, Acs_ren], trivial⟩)) | (rw [getS_3 (by omega) (by omega), hz3]; exact (TEnt.freeze 3 (b := ⟨10, true, Acs A⟩) rfl).trans ((TEnt.put1 0 (x' := .tup [.agg (CC (cf11 (rdKV l (0, 0)))), .fz 10 (Acs A), .int 0]) (by show Ent _ (.tup [.agg (CC (cf11 (rdKV l (0, 0)))), .sl 3 0 _, .int 0]) _; exact Ent.tup (EntL.cons (Ent.refl _) (EntL.cons (Ent.sl0 (b := ⟨10, false, Acs A⟩) rfl rfl (Acs_len A)) (EntL.refl _))))).trans (TEnt.fin [] (by decide) (by simp) rfl ⟨by simp [AV.ren, renL, CC_ren, Acs_ren], trivial⟩)))
        · (try simp only [decide_eq_true_eq, decide_eq_false_iff_not, beq_iff_eq, beq_eq_false_iff_ne, bne_iff_ne, bne_eq_false_iff_eq, ne_eq, Bool.not_eq_true', Bool.not_eq_false'] at hc)
          refine T.skip ?_
          refine keepK hK20 [2, 6, 7, 9] (by dsimp) (by dsimp) ?_
          refine T.seq fun K26 hK26 => ?_
          refine T.seq fun K27 hK27 => ?_
          refine T.region ?_ -- region 19
          refine ro rfl rfl (OpOk.step (ok_move (.inl rfl))) ?_
          refine ro rfl rfl (OpOk.step (ok_binOp rfl ti_api_Errno rfl)) ?_
          refine ro_nil ?_
          refine keepK hK27 [2, 6, 7, 9, 76] (by dsimp) (by dsimp) ?_
          refine T.cond rfl (fun hc => ?_) (fun hc => ?_) -- cond 5
          · (try simp only [decide_eq_true_eq, decide_eq_false_iff_not, beq_iff_eq, beq_eq_false_iff_ne, bne_iff_ne, bne_eq_false_iff_eq, ne_eq, Bool.not_eq_true', Bool.not_eq_false'] at hc)
            refine T.seq fun K28 hK28 => ?_
            refine T.region ?_ -- region 20
            refine ro rfl rfl (OpOk.step (ok_build rfl ti_api_Conf rfl)) ?_
            refine ro rfl rfl (OpOk.step (ok_move (.inl rfl))) ?_
            refine ro rfl rfl (OpOk.step (ok_store rfl ti_api_Conf (by decide) rfl rfl rfl rfl rfl (by first | exact Nat.le_of_ble_eq_true rfl | simp) (by first | exact .inl ⟨rfl, rfl⟩ | exact .inr rfl))) ?_
            refine ro rfl rfl (OpOk.step (ok_move (.inr rfl))) ?_
            refine ro rfl rfl (OpOk.step (ok_move (.inr rfl))) ?_
            refine ro_nil ?_
            refine keepK hK28 [2, 3, 4] (by dsimp) (by dsimp) ?_
            refine T.ret (hQ _ _ _ rfl ?_).1 -- ret 3
            exact by first | (exfalso; omega) | (exact absurd hc (by decide)) | (rw [getS_2 (by omega) (by omega)]; exact (TEnt.put1 0 (x' := .tup [.agg (CC cf0), .fz 10 (Acs []), .int 13]) (by show Ent _ (.tup [.agg (CC cf0), .v (.slice none 0 0), .int _]) _; exact Ent.tup (EntL.cons (Ent.refl _) (EntL.cons (Ent.nil 10) (EntL.refl _))))).trans (TEnt.fin [] (by decide) (by simp) rfl ⟨by simp [AV.ren, renL, CC_ren, Acs_ren], trivial⟩)) | (rw [getS_1 (by omega), hz1]; exact (TEnt.put1 0 (x' := .tup [.agg (CC cf0), .fz 10 (Acs []), .int z.2]) (by show Ent _ (.tup [.agg (CC cf0), .v (.slice none 0 0), .int _]) _; exact Ent.tup (EntL.cons (Ent.refl _) (EntL.cons (Ent.nil 10) (EntL.refl _))))).trans (TEnt.fin [] (by decide) (by simp) rfl ⟨by simp [AV.ren, renL, CC_ren, Acs_ren], trivial⟩)) | (rw [getS_3 (by omega) (by omega), hz3]; exact (TEnt.freeze 3 (b := ⟨10, true, Acs A⟩) rfl).trans ((TEnt.put1 0 (x' := .tup [.agg (CC (cf11 (rdKV l (0, 0)))), .fz 10 (Acs A), .int 0]) (by show Ent _ (.tup [.agg (CC (cf11 (rdKV l (0, 0)))), .sl 3 0 _, .int 0]) _; exact Ent.tup (EntL.cons (Ent.refl _) (EntL.cons (Ent.sl0 (b := ⟨10, false, Acs A⟩) rfl rfl (Acs_len A)) (EntL.refl _))))).trans (TEnt.fin [] (by decide) (by simp) rfl ⟨by simp [AV.ren, renL, CC_ren, Acs_ren], trivial⟩)))
          · (try simp only [decide_eq_true_eq, decide_eq_false_iff_not, beq_iff_eq, beq_eq_false_iff_ne, bne_iff_ne, bne_eq_false_iff_eq, ne_eq, Bool.not_eq_true', Bool.not_eq_false'] at hc)
            refine T.skip ?_
            refine keepK hK26 [2, 6, 7] (by dsimp) (by dsimp) ?_
            refine T.seq fun K29 hK29 => ?_
            refine T.region ?_ -- region 21
            refine ro rfl rfl (OpOk.step (ok_load rfl ti_api_Conf rfl rfl)) ?_
            refine ro rfl rfl (OpOk.step (ok_move (.inl rfl))) ?_
            refine ro rfl rfl (OpOk.step (ok_store rfl ti_api_Conf (by decide) rfl rfl rfl rfl rfl (by first | exact Nat.le_of_ble_eq_true rfl | simp) (by first | exact .inl ⟨rfl, rfl⟩ | exact .inr rfl))) ?_
            refine ro rfl rfl (OpOk.step (ok_move (.inr rfl))) ?_
            refine ro rfl rfl (OpOk.step (ok_move (.inr rfl))) ?_
            refine ro_nil ?_
            refine keepK hK29 [2, 3, 4] (by dsimp) (by dsimp) ?_
            refine T.ret (hQ _ _ _ rfl ?_).1 -- ret 4
            exact by first | (exfalso; omega) | (exact absurd hc (by decide)) | (rw [getS_2 (by omega) (by omega)]; exact (TEnt.put1 0 (x' := .tup [.agg (CC cf0), .fz 10 (Acs []), .int 13]) (by show Ent _ (.tup [.agg (CC cf0), .v (.slice none 0 0), .int _]) _; exact Ent.tup (EntL.cons (Ent.refl _) (EntL.cons (Ent.nil 10) (EntL.refl _))))).trans (TEnt.fin [] (by decide) (by simp) rfl ⟨by simp [AV.ren, renL, CC_ren, Acs_ren], trivial⟩)) | (rw [getS_1 (by omega), hz1]; exact (TEnt.put1 0 (x' := .tup [.agg (CC cf0), .fz 10 (Acs []), .int z.2]) (by show Ent _ (.tup [.agg (CC cf0), .v (.slice none 0 0), .int _]) _; exact Ent.tup (EntL.cons (Ent.refl _) (EntL.cons (Ent.nil 10) (EntL.refl _))))).trans (TEnt.fin [] (by decide) (by simp) rfl ⟨by simp [AV.ren, renL, CC_ren, Acs_ren], trivial⟩)) | (rw [getS_3 (by omega) (by omega), hz3]; exact (TEnt.freeze 3 (b := ⟨10, true, Acs A⟩) rfl).trans ((TEnt.put1 0 (x' := .tup [.agg (CC (cf11 (rdKV l (0, 0)))), .fz 10 (Acs A), .int 0]) (by show Ent _ (.tup [.agg (CC (cf11 (rdKV l (0, 0)))), .sl 3 0 _, .int 0]) _; exact Ent.tup (EntL.cons (Ent.refl _) (EntL.cons (Ent.sl0 (b := ⟨10, false, Acs A⟩) rfl rfl (Acs_len A)) (EntL.refl _))))).trans (TEnt.fin [] (by decide) (by simp) rfl ⟨by simp [AV.ren, renL, CC_ren, Acs_ren], trivial⟩)))
      · (try simp only [decide_eq_true_eq, decide_eq_false_iff_not, beq_iff_eq, beq_eq_false_iff_ne, bne_iff_ne, bne_eq_false_iff_eq, ne_eq, Bool.not_eq_true', Bool.not_eq_false'] at hb)
        refine ro_skip rfl rfl ?_
        refine ro_skip rfl rfl ?_
        refine ro_skip rfl rfl ?_
        refine ro rfl rfl (OpOk.step (ok_pickb (t := false) (d := false) rfl rfl rfl)) ?_
        refine ro_nil ?_
        refine keepK hK21 [2, 6, 7, 9, 74] (by dsimp) (by dsimp) ?_
        refine T.cond_false rfl ?_
        refine T.skip ?_
        refine keepK hK20 [2, 6, 7, 9] (by dsimp) (by dsimp) ?_
        refine T.seq fun K30 hK30 => ?_
        refine T.seq fun K31 hK31 => ?_
        refine T.region ?_ -- region 19
        refine ro rfl rfl (OpOk.step (ok_move (.inl rfl))) ?_
        refine ro rfl rfl (OpOk.step (ok_binOp rfl ti_api_Errno rfl)) ?_
        refine ro_nil ?_
        refine keepK hK31 [2, 6, 7, 9, 76] (by dsimp) (by dsimp) ?_
        refine T.cond rfl (fun hc => ?_) (fun hc => ?_) -- cond 6
        · (try simp only [decide_eq_true_eq, decide_eq_false_iff_not, beq_iff_eq, beq_eq_false_iff_ne, bne_iff_ne, bne_eq_false_iff_eq, ne_eq, Bool.not_eq_true', Bool.not_eq_false'] at hc)
          refine T.seq fun K32 hK32 => ?_
          refine T.region ?_ -- region 20
          refine ro rfl rfl (OpOk.step (ok_build rfl ti_api_Conf rfl)) ?_
          refine ro rfl rfl (OpOk.step (ok_move (.inl rfl))) ?_
          refine ro rfl rfl (OpOk.step (ok_store rfl ti_api_Conf (by decide) rfl rfl rfl rfl rfl (by first | exact Nat.le_of_ble_eq_true rfl | simp) (by first | exact .inl ⟨rfl, rfl⟩ | exact .inr rfl))) ?_
          refine ro rfl rfl (OpOk.step (ok_move (.inr rfl))) ?_
          refine ro rfl rfl (OpOk.step (ok_move (.inr rfl))) ?_
          refine ro_nil ?_
          refine keepK hK32 [2, 3, 4] (by dsimp) (by dsimp) ?_
          refine T.ret (hQ _ _ _ rfl ?_).1 -- ret 5
          exact by first | (exfalso; omega) | (exact absurd hc (by decide)) | (rw [getS_2 (by omega) (by omega)]; exact (TEnt.put1 0 (x' := .tup [.agg (CC cf0), .fz 10 (Acs []), .int 13]) (by show Ent _ (.tup [.agg (CC cf0), .v (.slice none 0 0), .int _]) _; exact Ent.tup (EntL.cons (Ent.refl _) (EntL.cons (Ent.nil 10) (EntL.refl _))))).trans (TEnt.fin [] (by decide) (by simp) rfl ⟨by simp [AV.ren, renL, CC_ren, Acs_ren], trivial⟩)) | (rw [getS_1 (by omega), hz1]; exact (TEnt.put1 0 (x' := .tup [.agg (CC cf0), .fz 10 (Acs []), .int z.2]) (by show Ent _ (.tup [.agg (CC cf0), .v (.slice none 0 0), .int _]) _; exact Ent.tup (EntL.cons (Ent.refl _) (EntL.cons (Ent.nil 10) (EntL.refl _))))).trans (TEnt.fin [] (by decide) (by simp) rfl ⟨by simp [AV.ren, renL, CC_ren, Acs_ren], trivial⟩)) | (rw [getS_3 (by omega) (by omega), hz3]; exact (TEnt.freeze 3 (b := ⟨10, true, Acs A⟩) rfl).trans ((TEnt.put1 0 (x' := .tup [.agg (CC (cf11 (rdKV l (0, 0)))), .fz 10 (Acs A), .int 0]) (by show Ent _ (.tup [.agg (CC (cf11 (rdKV l (0, 0)))), .sl 3 0 _, .int 0]) _; exact Ent.tup (EntL.cons (Ent.refl _) (EntL.cons (Ent.sl0 (b := ⟨10, false, Acs A⟩) rfl rfl (Acs_len A)) (EntL.refl _))))).trans (TEnt.fin [] (by decide) (by simp) rfl ⟨by simp [AV.ren, renL, CC_ren, Acs_ren], trivial⟩)))
        · (try simp only [decide_eq_true_eq, decide_eq_false_iff_not, beq_iff_eq, beq_eq_false_iff_ne, bne_iff_ne, bne_eq_false_iff_eq, ne_eq, Bool.not_eq_true', Bool.not_eq_false'] at hc)
          refine T.skip ?_
          refine keepK hK30 [2, 6, 7] (by dsimp) (by dsimp) ?_
          refine T.seq fun K33 hK33 => ?_
          refine T.region ?_ -- region 21
          refine ro rfl rfl (OpOk.step (ok_load rfl ti_api_Conf rfl rfl)) ?_
          refine ro rfl rfl (OpOk.step (ok_move (.inl rfl))) ?_
          refine ro rfl rfl (OpOk.step (ok_store rfl ti_api_Conf (by decide) rfl rfl rfl rfl rfl (by first | exact Nat.le_of_ble_eq_true rfl | simp) (by first | exact .inl ⟨rfl, rfl⟩ | exact .inr rfl))) ?_
          refine ro rfl rfl (OpOk.step (ok_move (.inr rfl))) ?_
          refine ro rfl rfl (OpOk.step (ok_move (.inr rfl))) ?_
          refine ro_nil ?_
          refine keepK hK33 [2, 3, 4] (by dsimp) (by dsimp) ?_
          refine T.ret (hQ _ _ _ rfl ?_).1 -- ret 6
          exact by first | (exfalso; omega) | (exact absurd hc (by decide)) | (rw [getS_2 (by omega) (by omega)]; exact (TEnt.put1 0 (x' := .tup [.agg (CC cf0), .fz 10 (Acs []), .int 13]) (by show Ent _ (.tup [.agg (CC cf0), .v (.slice none 0 0), .int _]) _; exact Ent.tup (EntL.cons (Ent.refl _) (EntL.cons (Ent.nil 10) (EntL.refl _))))).trans (TEnt.fin [] (by decide) (by simp) rfl ⟨by simp [AV.ren, renL, CC_ren, Acs_ren], trivial⟩)) | (rw [getS_1 (by omega), hz1]; exact (TEnt.put1 0 (x' := .tup [.agg (CC cf0), .fz 10 (Acs []), .int z.2]) (by show Ent _ (.tup [.agg (CC cf0), .v (.slice none 0 0), .int _]) _; exact Ent.tup (EntL.cons (Ent.refl _) (EntL.cons (Ent.nil 10) (EntL.refl _))))).trans (TEnt.fin [] (by decide) (by simp) rfl ⟨by simp [AV.ren, renL, CC_ren, Acs_ren], trivial⟩)) | (rw [getS_3 (by omega) (by omega), hz3]; exact (TEnt.freeze 3 (b := ⟨10, true, Acs A⟩) rfl).trans ((TEnt.put1 0 (x' := .tup [.agg (CC (cf11 (rdKV l (0, 0)))), .fz 10 (Acs A), .int 0]) (by show Ent _ (.tup [.agg (CC (cf11 (rdKV l (0, 0)))), .sl 3 0 _, .int 0]) _; exact Ent.tup (EntL.cons (Ent.refl _) (EntL.cons (Ent.sl0 (b := ⟨10, false, Acs A⟩) rfl rfl (Acs_len A)) (EntL.refl _))))).trans (TEnt.fin [] (by decide) (by simp) rfl ⟨by simp [AV.ren, renL, CC_ren, Acs_ren], trivial⟩)))
    · (try simp only [decide_eq_true_eq, decide_eq_false_iff_not, beq_iff_eq, beq_eq_false_iff_ne, bne_iff_ne, bne_eq_false_iff_eq, ne_eq, Bool.not_eq_true', Bool.not_eq_false'] at hc)
      have hst : gAs l = ((A ++ [a]) ++ (getAs l m (f.1, f.2.1)).1, (getAs l m (f.1, f.2.1)).2) := by rw [hinv]; simp only [getAs, hrd]; rw [if_neg (by simpa using hc)]; simp
      refine T.skip ?_
      refine keepK hK17 [2, 5, 6, 7, 8, 27, 28] (by dsimp) (by dsimp) ?_
      refine T.region ?_ -- region 14
      refine ro rfl rfl (OpOk.step (ok_move (.inl rfl))) ?_
      refine ro rfl rfl (OpOk.step (ok_load rfl ti_api_Act rfl rfl)) ?_
      refine ro rfl rfl (OpOk.step ((ok_buildSlice (n := 1) (ps := #[(0, .tmp 62)]) rfl ti_Lapi_Act rfl ti_api_Act (by decide) rfl rfl (by decide) rfl rfl rfl).eq (x' := .sl 7 0 1) (H'' := [some (CB cf0), some (R l f.1 f.2.1), some (CB (cf11 (rdKV l (0, 0)))), some ⟨10, true, Acs A⟩, some (AcB a), some (FB 4 [0, 7, 8]), some (FB 4 [1, 2, 3, 4]), some ⟨10, true, [.agg (AcC a)]⟩]) rfl rfl)) ?_
      refine ro rfl rfl (OpOk.step ((ok_append_sl rfl ti_Lapi_Act rfl ti_api_Act (by decide) (by decide) rfl ti_Lapi_Act (by simp) rfl (.inl rfl) rfl rfl rfl rfl (by simp [Acs_len]) (by simp; omega)).eq (x' := .sl 8 0 (A ++ [a]).length) (H'' := [some (CB cf0), some (R l f.1 f.2.1), some (CB (cf11 (rdKV l (0, 0)))), none, some (AcB a), some (FB 4 [0, 7, 8]), some (FB 4 [1, 2, 3, 4]), some ⟨10, true, [.agg (AcC a)]⟩, some ⟨10, true, Acs (A ++ [a])⟩]) (by simp) (by simp [Acs]))) ?_
      refine ro rfl rfl (OpOk.step (ok_move (.inr rfl))) ?_
      refine ro_nil ?_
      refine keepK hK10 [2, 5, 6, 7, 27, 28] (by dsimp) (by dsimp) ?_
      refine T.region ?_ -- region 15
      refine ro rfl rfl (OpOk.step (ok_add64 rfl ti_int rfl rfl (by omega) (by omega))) ?_
      refine ro rfl rfl (OpOk.step (ok_move (.inl rfl))) ?_
      refine ro_nil ?_
      exact ⟨(i + 1, A ++ [a], f.1, f.2.1), ⟨by dsimp only; omega, by simp [hAl], hf, by dsimp only; rw [show nn - (i + 1) = m by omega]; exact hst⟩, by dsimp only; omega, TEnt.fin [0, 1, 2, 8] (by decide) (by simp) (by simp [normH, hget, CB_ren, R_ren]; simp [Blk.ren, Acs_ren]) ⟨rfl, rfl, rfl, by simp [AV.ren]; rfl, rfl, rfl, trivial⟩⟩
  · (try simp only [decide_eq_true_eq, decide_eq_false_iff_not, beq_iff_eq, beq_eq_false_iff_ne, bne_iff_ne, bne_eq_false_iff_eq, ne_eq, Bool.not_eq_true', Bool.not_eq_false'] at hc)
    have hin : i = nn := by omega
    subst hin
    have hfin : gAs l = (A, s) := by rw [hinv]; simp [getAs]
    obtain ⟨z, hz⟩ : ∃ z : Nat × Int, z = s := ⟨_, rfl⟩
    have hzz : R l s.1 s.2 = R l z.1 z.2 := by rw [hz]
    have hgz : gAs l = (A, z) := by rw [hz]; exact hfin
    have hzl : z.1 ≤ l.length := by rw [hz]; exact hsl
    refine T.exit ?_
    refine keepK hK6 [2, 5, 6, 7] (by dsimp) (by dsimp) ?_
    refine T.seq fun K34 hK34 => ?_
    refine T.ent (TEnt.fin (tm' := [(2, .ref 0 0 0), (5, .ref 1 0 0), (6, .ref 2 0 0), (7, .sl 3 0 A.length)]) (H' := [some (CB cf0), some (R l z.1 z.2), some (CB (cf11 (rdKV l (0, 0)))), some ⟨10, true, Acs A⟩]) [0, 1, 2, 3] (by decide) (by simp) (by simp [normH, hget, CB_ren, R_ren, hzz]; simp [Blk.ren, Acs_ren]) ⟨rfl, rfl, rfl, rfl, trivial⟩) ?_
    have hz1 : (gAs l).2.2 = z.2 := by rw [hgz]
    have hz2 : (gAs l).2.1 = z.1 := by rw [hgz]
    have hz3 : (gAs l).1 = A := by rw [hgz]
    refine T.region ?_ -- region 16
    refine ro rfl rfl (OpOk.step (ok_move (.inl rfl))) ?_
    refine ro rfl rfl (ok_call rfl rfl rfl (((err_ok l z.1 z.2).passR 1 rfl rfl (fun _ => rfl)).eq (x' := .int z.2) (H'' := [some (CB cf0), some (R l z.1 z.2), some (CB (cf11 (rdKV l (0, 0)))), some ⟨10, true, Acs A⟩]) rfl rfl)) ?_
    refine ro rfl rfl (OpOk.step (ok_move (.inr rfl))) ?_
    refine ro_nil ?_
    refine keepK hK34 [2, 5, 6, 7, 9] (by dsimp) (by dsimp) ?_
    refine T.seq fun K35 hK35 => ?_
    refine T.seq fun K36 hK36 => ?_
    refine T.region ?_ -- region 17
    refine ro rfl rfl (OpOk.step (ok_move (.inl rfl))) ?_
    refine ro rfl rfl (OpOk.step (ok_binOp rfl ti_api_Errno rfl)) ?_
    refine ro_case rfl rfl (OpOk.step (ok_moveb (.inl rfl) rfl)) (fun hb => ?_) (fun hb => ?_)
    · (try simp only [decide_eq_true_eq, decide_eq_false_iff_not, beq_iff_eq, beq_eq_false_iff_ne, bne_iff_ne, bne_eq_false_iff_eq, ne_eq, Bool.not_eq_true', Bool.not_eq_false'] at hb)
      refine ro rfl rfl (OpOk.step (ok_move (.inl rfl))) ?_
      refine ro rfl rfl (ok_call rfl rfl rfl (((left_ok l z.1 z.2 hzl hl).passR 1 rfl rfl (fun _ => rfl)).eq (x' := .int ((l.length : Int) - z.1)) (H'' := [some (CB cf0), some (R l z.1 z.2), some (CB (cf11 (rdKV l (0, 0)))), some ⟨10, true, Acs A⟩]) rfl rfl)) ?_
      refine ro rfl rfl (OpOk.step (ok_binOp rfl ti_int rfl)) ?_
      refine ro rfl rfl (OpOk.step (ok_pick rfl rfl)) ?_
      refine ro_nil ?_
      refine keepK hK36 [2, 6, 7, 9, 74] (by dsimp) (by dsimp) ?_
      refine T.cond rfl (fun hc => ?_) (fun hc => ?_) -- cond 7
      · (try simp only [decide_eq_true_eq, decide_eq_false_iff_not, beq_iff_eq, beq_eq_false_iff_ne, bne_iff_ne, bne_eq_false_iff_eq, ne_eq, Bool.not_eq_true', Bool.not_eq_false'] at hc)
        refine T.region ?_ -- region 18
        refine ro rfl rfl (OpOk.step (ok_move (.inr rfl))) ?_
        refine ro_nil ?_
        refine keepK hK35 [2, 6, 7, 9] (by dsimp) (by dsimp) ?_
        refine T.seq fun K37 hK37 => ?_
        refine T.seq fun K38 hK38 => ?_
        refine T.region ?_ -- region 19
        refine ro rfl rfl (OpOk.step (ok_move (.inl rfl))) ?_
        refine ro rfl rfl (OpOk.step (ok_binOp rfl ti_api_Errno rfl)) ?_
        refine ro_nil ?_
        refine keepK hK38 [2, 6, 7, 9, 76] (by dsimp) (by dsimp) ?_
        refine T.cond rfl (fun hc => ?_) (fun hc => ?_) -- cond 8
        · (try simp only [decide_eq_true_eq, decide_eq_false_iff_not, beq_iff_eq, beq_eq_false_iff_ne, bne_iff_ne, bne_eq_false_iff_eq, ne_eq, Bool.not_eq_true', Bool.not_eq_false'] at hc)
          refine T.seq fun K39 hK39 => ?_
          refine T.region ?_ -- region 20
          refine ro rfl rfl (OpOk.step (ok_build rfl ti_api_Conf rfl)) ?_
          refine ro rfl rfl (OpOk.step (ok_move (.inl rfl))) ?_
          refine ro rfl rfl (OpOk.step (ok_store rfl ti_api_Conf (by decide) rfl rfl rfl rfl rfl (by first | exact Nat.le_of_ble_eq_true rfl | simp) (by first | exact .inl ⟨rfl, rfl⟩ | exact .inr rfl))) ?_
          refine ro rfl rfl (OpOk.step (ok_move (.inr rfl))) ?_
          refine ro rfl rfl (OpOk.step (ok_move (.inr rfl))) ?_
          refine ro_nil ?_
          refine keepK hK39 [2, 3, 4] (by dsimp) (by dsimp) ?_
          refine T.ret (hQ _ _ _ rfl ?_).1 -- ret 7
          exact by first | (exfalso; omega) | (exact absurd hc (by decide)) | (rw [getS_2 (by omega) (by omega)]; exact (TEnt.put1 0 (x' := .tup [.agg (CC cf0), .fz 10 (Acs []), .int 13]) (by show Ent _ (.tup [.agg (CC cf0), .v (.slice none 0 0), .int _]) _; exact Ent.tup (EntL.cons (Ent.refl _) (EntL.cons (Ent.nil 10) (EntL.refl _))))).trans (TEnt.fin [] (by decide) (by simp) rfl ⟨by simp [AV.ren, renL, CC_ren, Acs_ren], trivial⟩)) | (rw [getS_1 (by omega), hz1]; exact (TEnt.put1 0 (x' := .tup [.agg (CC cf0), .fz 10 (Acs []), .int z.2]) (by show Ent _ (.tup [.agg (CC cf0), .v (.slice none 0 0), .int _]) _; exact Ent.tup (EntL.cons (Ent.refl _) (EntL.cons (Ent.nil 10) (EntL.refl _))))).trans (TEnt.fin [] (by decide) (by simp) rfl ⟨by simp [AV.ren, renL, CC_ren, Acs_ren], trivial⟩)) | (rw [getS_3 (by omega) (by omega), hz3]; exact (TEnt.freeze 3 (b := ⟨10, true, Acs A⟩) rfl).trans ((TEnt.put1 0 (x' := .tup [.agg (CC (cf11 (rdKV l (0, 0)))), .fz 10 (Acs A), .int 0]) (by show Ent _ (.tup [.agg (CC (cf11 (rdKV l (0, 0)))), .sl 3 0 _, .int 0]) _; exact Ent.tup (EntL.cons (Ent.refl _) (EntL.cons (Ent.sl0 (b := ⟨10, false, Acs A⟩) rfl rfl (Acs_len A)) (EntL.refl _))))).trans (TEnt.fin [] (by decide) (by simp) rfl ⟨by simp [AV.ren, renL, CC_ren, Acs_ren], trivial⟩)))
        · (try simp only [decide_eq_true_eq, decide_eq_false_iff_not, beq_iff_eq, beq_eq_false_iff_ne, bne_iff_ne, bne_eq_false_iff_eq, ne_eq, Bool.not_eq_true', Bool.not_eq_false'] at hc)
          refine T.skip ?_
          refine keepK hK37 [2, 6, 7] (by dsimp) (by dsimp) ?_
          refine T.seq fun K40 hK40 => ?_
          refine T.region ?_ -- region 21
          refine ro rfl rfl (OpOk.step (ok_load rfl ti_api_Conf rfl rfl)) ?_
          refine ro rfl rfl (OpOk.step (ok_move (.inl rfl))) ?_
          refine ro rfl rfl (OpOk.step (ok_store rfl ti_api_Conf (by decide) rfl rfl rfl rfl rfl (by first | exact Nat.le_of_ble_eq_true rfl | simp) (by first | exact .inl ⟨rfl, rfl⟩ | exact .inr rfl))) ?_
          refine ro rfl rfl (OpOk.step (ok_move (.inr rfl))) ?_
          refine ro rfl rfl (OpOk.step (ok_move (.inr rfl))) ?_
          refine ro_nil ?_
          refine keepK hK40 [2, 3, 4] (by dsimp) (by dsimp) ?_
          refine T.ret (hQ _ _ _ rfl ?_).1 -- ret 8
          exact by first | (exfalso; omega) | (exact absurd hc (by decide)) | (rw [getS_2 (by omega) (by omega)]; exact (TEnt.put1 0 (x' := .tup [.agg (CC cf0), .fz 10 (Acs []), .int 13]) (by show Ent _ (.tup [.agg (CC cf0), .v (.slice none 0 0), .int _]) _; exact Ent.tup (EntL.cons (Ent.refl _) (EntL.cons (Ent.nil 10) (EntL.refl _))))).trans (TEnt.fin [] (by decide) (by simp) rfl ⟨by simp [AV.ren, renL, CC_ren, Acs_ren], trivial⟩)) | (rw [getS_1 (by omega), hz1]; exact (TEnt.put1 0 (x' := .tup [.agg (CC cf0), .fz 10 (Acs []), .int z.2]) (by show Ent _ (.tup [.agg (CC cf0), .v (.slice none 0 0), .int _]) _; exact Ent.tup (EntL.cons (Ent.refl _) (EntL.cons (Ent.nil 10) (EntL.refl _))))).trans (TEnt.fin [] (by decide) (by simp) rfl ⟨by simp [AV.ren, renL, CC_ren, Acs_ren], trivial⟩)) | (rw [getS_3 (by omega) (by omega), hz3]; exact (TEnt.freeze 3 (b := ⟨10, true, Acs A⟩) rfl).trans ((TEnt.put1 0 (x' := .tup [.agg (CC (cf11 (rdKV l (0, 0)))), .fz 10 (Acs A), .int 0]) (by show Ent _ (.tup [.agg (CC (cf11 (rdKV l (0, 0)))), .sl 3 0 _, .int 0]) _; exact Ent.tup (EntL.cons (Ent.refl _) (EntL.cons (Ent.sl0 (b := ⟨10, false, Acs A⟩) rfl rfl (Acs_len A)) (EntL.refl _))))).trans (TEnt.fin [] (by decide) (by simp) rfl ⟨by simp [AV.ren, renL, CC_ren, Acs_ren], trivial⟩)))
      · (try simp only [decide_eq_true_eq, decide_eq_false_iff_not, beq_iff_eq, beq_eq_false_iff_ne, bne_iff_ne, bne_eq_false_iff_eq, ne_eq, Bool.not_eq_true', Bool.not_eq_false'] at hc)
        refine T.skip ?_
        refine keepK hK35 [2, 6, 7, 9] (by dsimp) (by dsimp) ?_
        refine T.seq fun K41 hK41 => ?_
        refine T.seq fun K42 hK42 => ?_
        refine T.region ?_ -- region 19
        refine ro rfl rfl (OpOk.step (ok_move (.inl rfl))) ?_
        refine ro rfl rfl (OpOk.step (ok_binOp rfl ti_api_Errno rfl)) ?_
        refine ro_nil ?_
        refine keepK hK42 [2, 6, 7, 9, 76] (by dsimp) (by dsimp) ?_
        refine T.cond rfl (fun hc => ?_) (fun hc => ?_) -- cond 9
        · (try simp only [decide_eq_true_eq, decide_eq_false_iff_not, beq_iff_eq, beq_eq_false_iff_ne, bne_iff_ne, bne_eq_false_iff_eq, ne_eq, Bool.not_eq_true', Bool.not_eq_false'] at hc)
          refine T.seq fun K43 hK43 => ?_
          refine T.region ?_ -- region 20
          refine ro rfl rfl (OpOk.step (ok_build rfl ti_api_Conf rfl)) ?_
          refine ro rfl rfl (OpOk.step (ok_move (.inl rfl))) ?_
          refine ro rfl rfl (OpOk.step (ok_store rfl ti_api_Conf (by decide) rfl rfl rfl rfl rfl (by first | exact Nat.le_of_ble_eq_true rfl | simp) (by first | exact .inl ⟨rfl, rfl⟩ | exact .inr rfl))) ?_
          refine ro rfl rfl (OpOk.step (ok_move (.inr rfl))) ?_
          refine ro rfl rfl (OpOk.step (ok_move (.inr rfl))) ?_
          refine ro_nil ?_
          refine keepK hK43 [2, 3, 4] (by dsimp) (by dsimp) ?_
          refine T.ret (hQ _ _ _ rfl ?_).1 -- ret 9
          exact by first | (exfalso; omega) | (exact absurd hc (by decide)) | (rw [getS_2 (by omega) (by omega)]; exact (TEnt.put1 0 (x' := .tup [.agg (CC cf0), .fz 10 (Acs []), .int 13]) (by show Ent _ (.tup [.agg (CC cf0), .v (.slice none 0 0), .int _]) _; exact Ent.tup (EntL.cons (Ent.refl _) (EntL.cons (Ent.nil 10) (EntL.refl _))))).trans (TEnt.fin [] (by decide) (by simp) rfl ⟨by simp [AV.ren, renL, CC_ren, Acs_ren], trivial⟩)) | (rw [getS_1 (by omega), hz1]; exact (TEnt.put1 0 (x' := .tup [.agg (CC cf0), .fz 10 (Acs []), .int z.2]) (by show Ent _ (.tup [.agg (CC cf0), .v (.slice none 0 0), .int _]) _; exact Ent.tup (EntL.cons (Ent.refl _) (EntL.cons (Ent.nil 10) (EntL.refl _))))).trans (TEnt.fin [] (by decide) (by simp) rfl ⟨by simp [AV.ren, renL, CC_ren, Acs_ren], trivial⟩)) | (rw [getS_3 (by omega) (by omega), hz3]; exact (TEnt.freeze 3 (b := ⟨10, true, Acs A⟩) rfl).trans ((TEnt.put1 0 (x' := .tup [.agg (CC (cf11 (rdKV l (0, 0)))), .fz 10 (Acs A), .int 0]) (by show Ent _ (.tup [.agg (CC (cf11 (rdKV l (0, 0)))), .sl 3 0 _, .int 0]) _; exact Ent.tup (EntL.cons (Ent.refl _) (EntL.cons (Ent.sl0 (b := ⟨10, false, Acs A⟩) rfl rfl (Acs_len A)) (EntL.refl _))))).trans (TEnt.fin [] (by decide) (by simp) rfl ⟨by simp [AV.ren, renL, CC_ren, Acs_ren], trivial⟩)))
        · (try simp only [decide_eq_true_eq, decide_eq_false_iff_not, beq_iff_eq, beq_eq_false_iff_ne, bne_iff_ne, bne_eq_false_iff_eq, ne_eq, Bool.not_eq_true', Bool.not_eq_false'] at hc)
          refine T.skip ?_
          refine keepK hK41 [2, 6, 7] (by dsimp) (by dsimp) ?_
          refine T.seq fun K44 hK44 => ?_
          refine T.region ?_ -- region 21
          refine ro rfl rfl (OpOk.step (ok_load rfl ti_api_Conf rfl rfl)) ?_
          refine ro rfl rfl (OpOk.step (ok_move (.inl rfl))) ?_
          refine ro rfl rfl (OpOk.step (ok_store rfl ti_api_Conf (by decide) rfl rfl rfl rfl rfl (by first | exact Nat.le_of_ble_eq_true rfl | simp) (by first | exact .inl ⟨rfl, rfl⟩ | exact .inr rfl))) ?_
          refine ro rfl rfl (OpOk.step (ok_move (.inr rfl))) ?_
          refine ro rfl rfl (OpOk.step (ok_move (.inr rfl))) ?_
          refine ro_nil ?_
          refine keepK hK44 [2, 3, 4] (by dsimp) (by dsimp) ?_
          refine T.ret (hQ _ _ _ rfl ?_).1 -- ret 10
          exact by first | (exfalso; omega) | (exact absurd hc (by decide)) | (rw [getS_2 (by omega) (by omega)]; exact (TEnt.put1 0 (x' := .tup [.agg (CC cf0), .fz 10 (Acs []), .int 13]) (by show Ent _ (.tup [.agg (CC cf0), .v (.slice none 0 0), .int _]) _; exact Ent.tup (EntL.cons (Ent.refl _) (EntL.cons (Ent.nil 10) (EntL.refl _))))).trans (TEnt.fin [] (by decide) (by simp) rfl ⟨by simp [AV.ren, renL, CC_ren, Acs_ren], trivial⟩)) | (rw [getS_1 (by omega), hz1]; exact (TEnt.put1 0 (x' := .tup [.agg (CC cf0), .fz 10 (Acs []), .int z.2]) (by show Ent _ (.tup [.agg (CC cf0), .v (.slice none 0 0), .int _]) _; exact Ent.tup (EntL.cons (Ent.refl _) (EntL.cons (Ent.nil 10) (EntL.refl _))))).trans (TEnt.fin [] (by decide) (by simp) rfl ⟨by simp [AV.ren, renL, CC_ren, Acs_ren], trivial⟩)) | (rw [getS_3 (by omega) (by omega), hz3]; exact (TEnt.freeze 3 (b := ⟨10, true, Acs A⟩) rfl).trans ((TEnt.put1 0 (x' := .tup [.agg (CC (cf11 (rdKV l (0, 0)))), .fz 10 (Acs A), .int 0]) (by show Ent _ (.tup [.agg (CC (cf11 (rdKV l (0, 0)))), .sl 3 0 _, .int 0]) _; exact Ent.tup (EntL.cons (Ent.refl _) (EntL.cons (Ent.sl0 (b := ⟨10, false, Acs A⟩) rfl rfl (Acs_len A)) (EntL.refl _))))).trans (TEnt.fin [] (by decide) (by simp) rfl ⟨by simp [AV.ren, renL, CC_ren, Acs_ren], trivial⟩)))
    · (try simp only [decide_eq_true_eq, decide_eq_false_iff_not, beq_iff_eq, beq_eq_false_iff_ne, bne_iff_ne, bne_eq_false_iff_eq, ne_eq, Bool.not_eq_true', Bool.not_eq_false'] at hb)
      refine ro_skip rfl rfl ?_
      refine ro_skip rfl rfl ?_
      refine ro_skip rfl rfl ?_
      refine ro rfl rfl (OpOk.step (ok_pickb (t := false) (d := false) rfl rfl rfl)) ?_
      refine ro_nil ?_
      refine keepK hK36 [2, 6, 7, 9, 74] (by dsimp) (by dsimp) ?_
      refine T.cond_false rfl ?_
      refine T.skip ?_
      refine keepK hK35 [2, 6, 7, 9] (by dsimp) (by dsimp) ?_
      refine T.seq fun K45 hK45 => ?_
      refine T.seq fun K46 hK46 => ?_
      refine T.region ?_ -- region 19
      refine ro rfl rfl (OpOk.step (ok_move (.inl rfl))) ?_
      refine ro rfl rfl (OpOk.step (ok_binOp rfl ti_api_Errno rfl)) ?_
      refine ro_nil ?_
      refine keepK hK46 [2, 6, 7, 9, 76] (by dsimp) (by dsimp) ?_
      refine T.cond rfl (fun hc => ?_) (fun hc => ?_) -- cond 10
      · (try simp only [decide_eq_true_eq, decide_eq_false_iff_not, beq_iff_eq, beq_eq_false_iff_ne, bne_iff_ne, bne_eq_false_iff_eq, ne_eq, Bool.not_eq_true', Bool.not_eq_false'] at hc)
        refine T.seq fun K47 hK47 => ?_
        refine T.region ?_ -- region 20
        refine ro rfl rfl (OpOk.step (ok_build rfl ti_api_Conf rfl)) ?_
        refine ro rfl rfl (OpOk.step (ok_move (.inl rfl))) ?_
        refine ro rfl rfl (OpOk.step (ok_store rfl ti_api_Conf (by decide) rfl rfl rfl rfl rfl (by first | exact Nat.le_of_ble_eq_true rfl | simp) (by first | exact .inl ⟨rfl, rfl⟩ | exact .inr rfl))) ?_
        refine ro rfl rfl (OpOk.step (ok_move (.inr rfl))) ?_
        refine ro rfl rfl (OpOk.step (ok_move (.inr rfl))) ?_
        refine ro_nil ?_
        refine keepK hK47 [2, 3, 4] (by dsimp) (by dsimp) ?_
        refine T.ret (hQ _ _ _ rfl ?_).1 -- ret 11
        exact by first | (exfalso; omega) | (exact absurd hc (by decide)) | (rw [getS_2 (by omega) (by omega)]; exact (TEnt.put1 0 (x' := .tup [.agg (CC cf0), .fz 10 (Acs []), .int 13]) (by show Ent _ (.tup [.agg (CC cf0), .v (.slice none 0 0), .int _]) _; exact Ent.tup (EntL.cons (Ent.refl _) (EntL.cons (Ent.nil 10) (EntL.refl _))))).trans (TEnt.fin [] (by decide) (by simp) rfl ⟨by simp [AV.ren, renL, CC_ren, Acs_ren], trivial⟩)) | (rw [getS_1 (by omega), hz1]; exact (TEnt.put1 0 (x' := .tup [.agg (CC cf0), .fz 10 (Acs []), .int z.2]) (by show Ent _ (.tup [.agg (CC cf0), .v (.slice none 0 0), .int _]) _; exact Ent.tup (EntL.cons (Ent.refl _) (EntL.cons (Ent.nil 10) (EntL.refl _))))).trans (TEnt.fin [] (by decide) (by simp) rfl ⟨by simp [AV.ren, renL, CC_ren, Acs_ren], trivial⟩)) | (rw [getS_3 (by omega) (by omega), hz3]; exact (TEnt.freeze 3 (b := ⟨10, true, Acs A⟩) rfl).trans ((TEnt.put1 0 (x' := .tup [.agg (CC (cf11 (rdKV l (0, 0)))), .fz 10 (Acs A), .int 0]) (by show Ent _ (.tup [.agg (CC (cf11 (rdKV l (0, 0)))), .sl 3 0 _, .int 0]) _; exact Ent.tup (EntL.cons (Ent.refl _) (EntL.cons (Ent.sl0 (b := ⟨10, false, Acs A⟩) rfl rfl (Acs_len A)) (EntL.refl _))))).trans (TEnt.fin [] (by decide) (by simp) rfl ⟨by simp [AV.ren, renL, CC_ren, Acs_ren], trivial⟩)))
      · (try simp only [decide_eq_true_eq, decide_eq_false_iff_not, beq_iff_eq, beq_eq_false_iff_ne, bne_iff_ne, bne_eq_false_iff_eq, ne_eq, Bool.not_eq_true', Bool.not_eq_false'] at hc)
        refine T.skip ?_
        refine keepK hK45 [2, 6, 7] (by dsimp) (by dsimp) ?_
        refine T.seq fun K48 hK48 => ?_
        refine T.region ?_ -- region 21
        refine ro rfl rfl (OpOk.step (ok_load rfl ti_api_Conf rfl rfl)) ?_
        refine ro rfl rfl (OpOk.step (ok_move (.inl rfl))) ?_
        refine ro rfl rfl (OpOk.step (ok_store rfl ti_api_Conf (by decide) rfl rfl rfl rfl rfl (by first | exact Nat.le_of_ble_eq_true rfl | simp) (by first | exact .inl ⟨rfl, rfl⟩ | exact .inr rfl))) ?_
        refine ro rfl rfl (OpOk.step (ok_move (.inr rfl))) ?_
        refine ro rfl rfl (OpOk.step (ok_move (.inr rfl))) ?_
        refine ro_nil ?_
        refine keepK hK48 [2, 3, 4] (by dsimp) (by dsimp) ?_
        refine T.ret (hQ _ _ _ rfl ?_).1 -- ret 12
        exact by first | (exfalso; omega) | (exact absurd hc (by decide)) | (rw [getS_2 (by omega) (by omega)]; exact (TEnt.put1 0 (x' := .tup [.agg (CC cf0), .fz 10 (Acs []), .int 13]) (by show Ent _ (.tup [.agg (CC cf0), .v (.slice none 0 0), .int _]) _; exact Ent.tup (EntL.cons (Ent.refl _) (EntL.cons (Ent.nil 10) (EntL.refl _))))).trans (TEnt.fin [] (by decide) (by simp) rfl ⟨by simp [AV.ren, renL, CC_ren, Acs_ren], trivial⟩)) | (rw [getS_1 (by omega), hz1]; exact (TEnt.put1 0 (x' := .tup [.agg (CC cf0), .fz 10 (Acs []), .int z.2]) (by show Ent _ (.tup [.agg (CC cf0), .v (.slice none 0 0), .int _]) _; exact Ent.tup (EntL.cons (Ent.refl _) (EntL.cons (Ent.nil 10) (EntL.refl _))))).trans (TEnt.fin [] (by decide) (by simp) rfl ⟨by simp [AV.ren, renL, CC_ren, Acs_ren], trivial⟩)) | (rw [getS_3 (by omega) (by omega), hz3]; exact (TEnt.freeze 3 (b := ⟨10, true, Acs A⟩) rfl).trans ((TEnt.put1 0 (x' := .tup [.agg (CC (cf11 (rdKV l (0, 0)))), .fz 10 (Acs A), .int 0]) (by show Ent _ (.tup [.agg (CC (cf11 (rdKV l (0, 0)))), .sl 3 0 _, .int 0]) _; exact Ent.tup (EntL.cons (Ent.refl _) (EntL.cons (Ent.sl0 (b := ⟨10, false, Acs A⟩) rfl rfl (Acs_len A)) (EntL.refl _))))).trans (TEnt.fin [] (by decide) (by simp) rfl ⟨by simp [AV.ren, renL, CC_ren, Acs_ren], trivial⟩)))

end Go.Proofs.Ytmegpanmiagheaa.AmF
