/- Walks over the abstract machine: records got of bytes. -/
import Derived.Test.YteonkbgfpocplaaAfRec
namespace Go.Proofs.Yteonkbgfpocplaa.AmF
open Go Go.AM
set_option maxRecDepth 100000
set_option linter.unusedSimpArgs false
set_option linter.unusedVariables false
attribute [local simp] tkeep tget tput ev cav argsTM pickA normT putA splice AV.cells ints_length rowsA_length enc_len
def zeroB (l : List Int) : Bool := l.all (· == 0)
def firstNZ : List Int → Nat → Option Nat
  | [], _ => none
  | c :: l, i => if c ≠ 0 then some i else firstNZ l (i + 1)
def nzI (l : List Int) (i : Nat) : Int := match firstNZ l i with
  | some k => k
  | none => -1
theorem nzI_zero : ∀ (l : List Int) (i : Nat), (decide (nzI l i ≥ 0)) = !zeroB l
  | [], i => by simp [nzI, firstNZ, zeroB]
  | c :: l, i => by
    have ih := nzI_zero l (i + 1)
    by_cases h : c ≠ 0
    · have : (c == 0) = false := by simpa using h
      simp [nzI, firstNZ, zeroB, h]
    · have h0 : c = 0 := by omega
      subst h0
      have e : nzI (0 :: l) i = nzI l (i + 1) := by simp [nzI, firstNZ]
      rw [e, ih]
      simp [zeroB]
theorem nzI_step {l : List Int} {i : Nat} {c : Int} (h : l[i]? = some c) (hc : c = 0) : nzI (l.drop i) i = nzI (l.drop (i + 1)) (i + 1) := by
  have hi := (List.getElem?_eq_some_iff.1 h).1
  have hcc : l[i] = c := (List.getElem?_eq_some_iff.1 h).2
  rw [List.drop_eq_getElem_cons hi, hcc, hc]
  simp [nzI, firstNZ]
theorem nzI_hit {l : List Int} {i : Nat} {c : Int} (h : l[i]? = some c) (hc : c ≠ 0) : nzI (l.drop i) i = i := by
  have hi := (List.getElem?_eq_some_iff.1 h).1
  have hcc : l[i] = c := (List.getElem?_eq_some_iff.1 h).2
  rw [List.drop_eq_getElem_cons hi, hcc]
  simp [nzI, firstNZ, hc]
theorem zero1_ok (c : Int) : CSpec Try.prog 38 [] [.v (.int .u8 c)] [] (.b (c != 0)) := by
  refine CSpec.body Try.func38 rfl rfl rfl rfl rfl fun Q hQ => ?_
  refine T.seq fun K1 hK1 => ?_
  refine T.region ?_ -- region 0
  refine ro rfl rfl (OpOk.step (ok_moveb (c := false) (.inr rfl) rfl)) ?_
  refine ro_nil ?_
  refine keepK hK1 [0] (by dsimp) (by dsimp) ?_
  refine T.seq fun K2 hK2 => ?_
  refine T.region ?_ -- region 1
  refine ro rfl rfl (OpOk.step (ok_move (.inl rfl))) ?_
  refine ro rfl rfl (OpOk.step (ok_binOp rfl ti_uint8 rfl)) ?_
  refine ro rfl rfl (OpOk.step (ok_move (.inr rfl))) ?_
  refine ro_nil ?_
  refine keepK hK2 [2] (by dsimp) (by dsimp) ?_
  refine T.ret (hQ _ _ _ rfl ?_).1 -- ret 1
  exact TEnt.fin [] (by decide) (by simp) rfl ⟨rfl, trivial⟩
theorem indexfunc_ok (l : List Int) (hl : l.length ≤ 140737488355328) : CSpec Try.prog 46 [] [.fz 1 (ints .u8 l), .fn (.func 38) [] []] [] (.int (nzI l 0)) := by
  refine CSpec.body Try.func46 rfl rfl rfl rfl rfl fun Q hQ => ?_
  refine T.seq fun K1 hK1 => ?_
  refine T.region ?_ -- region 0
  refine ro rfl rfl (OpOk.step (ok_move (.inr rfl))) ?_
  refine ro_nil ?_
  refine keepK hK1 [0, 1] (by dsimp) (by dsimp) ?_
  refine T.seq fun K2 hK2 => ?_
  refine T.seq fun K3 hK3 => ?_
  refine T.region ?_ -- region 1
  refine ro rfl rfl (OpOk.step (ok_move (.inl rfl))) ?_
  refine ro rfl rfl (OpOk.step (ok_len' rfl rfl ti_Luint8 rfl (by first | exact ints_length _ _ | exact rowsA_length _ _ | rfl))) ?_
  refine ro rfl rfl (OpOk.step (ok_move (.inl rfl))) ?_
  refine ro_nil ?_
  refine keepK hK3 [0, 1, 7, 8] (by dsimp) (by dsimp) ?_
  refine T.block ?_
  refine T.loopI (ι := Nat) (fun i => i ≤ l.length ∧ nzI l 0 = nzI (l.drop i) i) (fun i => l.length - i) (fun i => ([(0, .fz 1 (ints .u8 l)), (1, .fn (.func 38) [] []), (7, .int l.length), (8, .int i)], [])) 0 ⟨Nat.zero_le _, rfl⟩ (TEnt.toH rfl ⟨rfl, rfl, rfl, rfl, trivial⟩) (fun i hi => ?_) -- loop 1
  obtain ⟨hi, hnz⟩ := hi
  refine T.seq fun K4 hK4 => ?_
  refine T.region ?_ -- region 2
  refine ro rfl rfl (OpOk.step (ok_binOp rfl ti_int rfl)) ?_
  refine ro_nil ?_
  refine keepK hK4 [0, 1, 7, 8, 9] (by dsimp) (by dsimp) ?_
  refine T.seq fun K5 hK5 => ?_
  refine T.cond rfl (fun hc => ?_) (fun hc => ?_) -- cond 1
  · (try simp only [decide_eq_true_eq, decide_eq_false_iff_not, beq_iff_eq, beq_eq_false_iff_ne, bne_iff_ne, bne_eq_false_iff_eq, ne_eq, Bool.not_eq_true', Bool.not_eq_false'] at hc)
    obtain ⟨c, hc0⟩ : ∃ c, l[i]? = some c := ⟨_, List.getElem?_eq_getElem (by omega)⟩
    refine T.skip ?_
    refine keepK hK5 [0, 1, 7, 8] (by dsimp) (by dsimp) ?_
    refine T.seq fun K6 hK6 => ?_
    refine T.block ?_
    refine T.seq fun K7 hK7 => ?_
    refine T.region ?_ -- region 3
    refine ro rfl rfl (OpOk.step (ok_move (.inl rfl))) ?_
    refine ro rfl rfl (OpOk.step (ok_move (.inr rfl))) ?_
    refine ro_nil ?_
    refine keepK hK7 [0, 1, 5, 7, 8] (by dsimp) (by dsimp) ?_
    refine T.seq fun K8 hK8 => ?_
    refine T.region ?_ -- region 4
    refine ro rfl rfl (OpOk.step (ok_move (.inl rfl))) ?_
    refine ro rfl rfl (OpOk.step (ok_move (.inl rfl))) ?_
    refine ro rfl rfl (OpOk.step (ok_move (.inl rfl))) ?_
    refine ro rfl rfl (OpOk.step (by exact ok_index_ints rfl ti_Luint8 rfl ti_uint8 rfl rfl rfl (by omega) (by simpa using hc0))) ?_
    refine ro rfl rfl (OpOk.step (ok_load rfl ti_uint8 rfl rfl)) ?_
    refine ro rfl rfl (ok_call rfl rfl rfl ((zero1_ok c).plain rfl rfl)) ?_
    refine ro_nil ?_
    refine keepK hK8 [0, 1, 5, 7, 8, 16] (by dsimp) (by dsimp) ?_
    refine T.cond rfl (fun hc => ?_) (fun hc => ?_) -- cond 2
    · (try simp only [decide_eq_true_eq, decide_eq_false_iff_not, beq_iff_eq, beq_eq_false_iff_ne, bne_iff_ne, bne_eq_false_iff_eq, ne_eq, Bool.not_eq_true', Bool.not_eq_false'] at hc)
      rw [hnz, nzI_hit hc0 hc] at hQ
      refine T.seq fun K9 hK9 => ?_
      refine T.region ?_ -- region 5
      refine ro rfl rfl (OpOk.step (ok_move (.inl rfl))) ?_
      refine ro rfl rfl (OpOk.step (ok_move (.inr rfl))) ?_
      refine ro_nil ?_
      refine keepK hK9 [4] (by dsimp) (by dsimp) ?_
      refine T.ret (hQ _ _ _ rfl ?_).1 -- ret 1
      exact TEnt.fin [] (by decide) (by simp) rfl ⟨rfl, trivial⟩
    · (try simp only [decide_eq_true_eq, decide_eq_false_iff_not, beq_iff_eq, beq_eq_false_iff_ne, bne_iff_ne, bne_eq_false_iff_eq, ne_eq, Bool.not_eq_true', Bool.not_eq_false'] at hc)
      refine T.skip ?_
      refine keepK hK6 [0, 1, 7, 8] (by dsimp) (by dsimp) ?_
      refine T.region ?_ -- region 6
      refine ro rfl rfl (OpOk.step (ok_add64 rfl ti_int rfl rfl (by omega) (by omega))) ?_
      refine ro rfl rfl (OpOk.step (ok_move (.inl rfl))) ?_
      refine ro_nil ?_
      exact ⟨i + 1, ⟨by omega, by rw [hnz, nzI_step hc0 (by simpa using hc)]⟩, by omega, TEnt.toH rfl ⟨rfl, rfl, rfl, rfl, trivial⟩⟩
  · (try simp only [decide_eq_true_eq, decide_eq_false_iff_not, beq_iff_eq, beq_eq_false_iff_ne, bne_iff_ne, bne_eq_false_iff_eq, ne_eq, Bool.not_eq_true', Bool.not_eq_false'] at hc)
    have hil : i = l.length := by omega
    subst hil
    have h1 : nzI l 0 = -1 := by rw [hnz, List.drop_length]; rfl
    rw [h1] at hQ
    refine T.exit ?_
    refine keepK hK2 [] (by dsimp) (by dsimp) ?_
    refine T.seq fun K10 hK10 => ?_
    refine T.region ?_ -- region 7
    refine ro rfl rfl (OpOk.step (ok_move (.inr rfl))) ?_
    refine ro_nil ?_
    refine keepK hK10 [4] (by dsimp) (by dsimp) ?_
    refine T.ret (hQ _ _ _ rfl ?_).1 -- ret 2
    exact TEnt.fin [] (by decide) (by simp) rfl ⟨rfl, trivial⟩
theorem containsfunc_ok (l : List Int) (hl : l.length ≤ 140737488355328) : CSpec Try.prog 37 [] [.fz 1 (ints .u8 l), .fn (.func 38) [] []] [] (.b (!zeroB l)) := by
  refine CSpec.body Try.func37 rfl rfl rfl rfl rfl fun Q hQ => ?_
  refine T.seq fun K1 hK1 => ?_
  refine T.region ?_ -- region 0
  refine ro rfl rfl (OpOk.step (ok_moveb (c := false) (.inr rfl) rfl)) ?_
  refine ro_nil ?_
  refine keepK hK1 [0, 1] (by dsimp) (by dsimp) ?_
  refine T.seq fun K2 hK2 => ?_
  refine T.region ?_ -- region 1
  refine ro rfl rfl (OpOk.step (ok_move (.inl rfl))) ?_
  refine ro rfl rfl (OpOk.step (ok_move (.inl rfl))) ?_
  refine ro rfl rfl (ok_call rfl rfl rfl ((indexfunc_ok l hl).plain (by simp [renL, AV.ren, renL_ints]) rfl)) ?_
  refine ro rfl rfl (OpOk.step ((ok_binOp rfl ti_int rfl).eq (x' := .b (!zeroB l)) (congrArg AV.b (nzI_zero l 0)) rfl)) ?_
  refine ro rfl rfl (OpOk.step (ok_move (.inr rfl))) ?_
  refine ro_nil ?_
  refine keepK hK2 [4] (by dsimp) (by dsimp) ?_
  refine T.ret (hQ _ _ _ rfl ?_).1 -- ret 1
  exact TEnt.fin [] (by decide) (by simp) rfl ⟨rfl, trivial⟩
theorem zero_ok (l : List Int) (hl : l.length ≤ 140737488355328) : CSpec Try.prog 21 [] [.fz 1 (ints .u8 l)] [] (.b (zeroB l)) := by
  refine CSpec.body Try.func21 rfl rfl rfl rfl rfl fun Q hQ => ?_
  refine T.seq fun K1 hK1 => ?_
  refine T.region ?_ -- region 0
  refine ro rfl rfl (OpOk.step (ok_moveb (c := false) (.inr rfl) rfl)) ?_
  refine ro_nil ?_
  refine keepK hK1 [0] (by dsimp) (by dsimp) ?_
  refine T.seq fun K2 hK2 => ?_
  refine T.region ?_ -- region 1
  refine ro rfl rfl (OpOk.step (ok_move (.inl rfl))) ?_
  refine ro rfl rfl (ok_call rfl rfl rfl ((containsfunc_ok l hl).plain (by simp [renL, AV.ren, renL_ints]) rfl)) ?_
  refine ro rfl rfl (OpOk.step ((ok_unOp rfl rfl).eq (x' := .b (zeroB l)) (congrArg AV.b (by simp)) rfl)) ?_
  refine ro rfl rfl (OpOk.step (ok_move (.inr rfl))) ?_
  refine ro_nil ?_
  refine keepK hK2 [2] (by dsimp) (by dsimp) ?_
  refine T.ret (hQ _ _ _ rfl ?_).1 -- ret 1
  exact TEnt.fin [] (by decide) (by simp) rfl ⟨rfl, trivial⟩
/-- Numbers read one behind the other, each between bounds of its own. -/
def rdF (l : List Int) (lo hi : Nat → Int) : Nat → Nat × Int
  | 0 => (0, 0)
  | n + 1 => ((ri l (rdF l lo hi n).1 (rdF l lo hi n).2 (lo n) (hi n)).1, (ri l (rdF l lo hi n).1 (rdF l lo hi n).2 (lo n) (hi n)).2.1)
def rdFV (l : List Int) (lo hi : Nat → Int) (n : Nat) : Int := (ri l (rdF l lo hi n).1 (rdF l lo hi n).2 (lo n) (hi n)).2.2
theorem rdF_le (l : List Int) (lo hi : Nat → Int) : ∀ n, (rdF l lo hi n).1 ≤ l.length
  | 0 => Nat.zero_le _
  | n + 1 => ri_le (rdF_le l lo hi n)
def rLo (i : Nat) : Int := if i = 5 then -1 else 0
def rHi (i : Nat) : Int := if i = 0 then 6 else 1099511627776
/-- The row of bytes behind the nine numbers. -/
def rBody (l : List Int) : Nat × Int × List Int := rb l (rdF l rLo rHi 9).1 (rdF l rLo rHi 9).2 1048576
def xr (l : List Int) : Rc := ⟨rdFV l rLo rHi 0, rdFV l rLo rHi 1, rdFV l rLo rHi 2, rdFV l rLo rHi 3, rdFV l rLo rHi 4, rdFV l rLo rHi 5, rdFV l rLo rHi 6, rdFV l rLo rHi 7, rdFV l rLo rHi 8, (rBody l).2.2⟩
def parOk (l : List Int) : Prop := (rBody l).2.1 = 0 ∧ (rBody l).1 = l.length
instance (l : List Int) : Decidable (parOk l) := by unfold parOk; infer_instance
/-- A cell that holds the pointer to a reader. -/
def PB (k : Nat) : Blk := ⟨1, true, [.ref k 0 0]⟩
/-- A call that is handed a reader, and a cell that points to it. -/
theorem _root_.Go.AM.CSpec.passRP {H : Heap} {f : FuncId} {l l' : List Int} {p p' : Nat} {e e' : Int} {args args' : List AV} {x : AV} (h : CSpec Try.prog f [R l p e, PB 0] args' [some (R l' p' e'), some (PB 0)] x) (hg : hget H 1 = some (R l p e)) (hg2 : hget H 2 = some (PB 1)) (ha : renL (pos [1, 2]) args = args') (hx : ∀ ρ, x.ren ρ = x) :
    CallOk Try.prog f H args x ((H.set 1 (some (R l' p' e'))).set 2 (some (PB 1))) := by
  have hid := hget_lt hg
  have hid2 := hget_lt hg2
  have := h.pass (H := H) (args := args) [1, 2] (by decide) (by simp; omega) (by simp [normH, hg, hg2, R_ren]; rfl) ha
  exact this.eq (hx _) (by simp [mergeH, setIds, renH, R_ren]; rfl)
theorem num_ok (l : List Int) (p : Nat) (e : Int) (hB : Bytes l) (hp : p ≤ l.length) (hl : l.length ≤ 140737488355328) : CSpec Try.prog 34 [R l p e, PB 0] [.ref 1 0 0] [some (R l (ri l p e 0 1099511627776).1 (ri l p e 0 1099511627776).2.1), some (PB 0)] (.int (ri l p e 0 1099511627776).2.2) := by
  refine CSpec.body Try.func34 rfl rfl rfl rfl rfl fun Q hQ => ?_
  refine T.seq fun K1 hK1 => ?_
  refine T.region ?_ -- region 0
  refine ro rfl rfl (OpOk.step (ok_move (.inr rfl))) ?_
  refine ro_nil ?_
  refine keepK hK1 [0] (by dsimp) (by dsimp) ?_
  refine T.seq fun K2 hK2 => ?_
  refine T.region ?_ -- region 1
  refine ro rfl rfl (OpOk.step (ok_load rfl ti_Ppack_Reader rfl rfl)) ?_
  refine ro rfl rfl (ok_call rfl rfl rfl ((int_ok l p e 0 1099511627776 hB hp hl).passR 0 rfl rfl (fun _ => rfl))) ?_
  refine ro rfl rfl (OpOk.step (ok_move (.inr rfl))) ?_
  refine ro_nil ?_
  refine keepK hK2 [1] (by dsimp) (by dsimp) ?_
  refine T.ret (hQ _ _ _ rfl ?_).1 -- ret 1
  exact TEnt.toH rfl ⟨rfl, trivial⟩
def ZB : Blk := ⟨10, true, [.agg [.int 0, .int 0, .int 0, .int 0, .int 0, .int 0, .int 0, .int 0, .int 0, .v (.slice none 0 0)]]⟩
set_option maxHeartbeats 1000000 in
theorem parse_ok (l : List Int) (hB : Bytes l) (hl : l.length ≤ 140737488355328) : CSpec Try.prog 20 [] [.fz 1 (ints .u8 l)] [] (.tup [.agg (RcC (xr l)), .b (decide (parOk l))]) := by
  have hp := rdF_le l rLo rHi
  have hb9 := rb_le (l := l) (e := (rdF l rLo rHi 9).2) (m := 1048576) (hp 9)
  refine CSpec.body Try.func20 rfl rfl rfl rfl rfl fun Q hQ => ?_
  refine T.seq fun K1 hK1 => ?_
  refine T.region ?_ -- region 0
  refine ro rfl rfl (OpOk.step (ok_alloc rfl ti_api_Rec rfl (by decide))) ?_
  refine ro rfl rfl (OpOk.step (ok_moveb (c := false) (.inr rfl) rfl)) ?_
  refine ro_nil ?_
  refine keepK hK1 [0, 2] (by dsimp) (by dsimp) ?_
  refine T.seq fun K2 hK2 => ?_
  refine T.region ?_ -- region 1
  refine ro rfl rfl (OpOk.step (ok_move (.inl rfl))) ?_
  refine ro rfl rfl (ok_call rfl rfl rfl ((new_ok l hl).fresh (x' := .ref 1 0 0) (H' := [some (R l 0 0)]) (by simp [renL, AV.ren, renL_ints]) rfl (by simp [renH, R_ren]))) ?_
  refine ro rfl rfl (OpOk.step (ok_alloc rfl ti_Ppack_Reader rfl (by decide))) ?_
  refine ro rfl rfl (OpOk.step (ok_store rfl ti_Ppack_Reader (by decide) rfl rfl rfl rfl rfl (by first | exact Nat.le_of_ble_eq_true rfl | simp) (by first | exact .inl ⟨rfl, rfl⟩ | exact .inr rfl))) ?_
  refine ro_nil ?_
  refine keepK hK2 [2, 4] (by dsimp) (by dsimp) ?_
  refine T.seq fun K3 hK3 => ?_
  refine T.region ?_ -- region 2
  refine ro rfl rfl (OpOk.step (ok_makeFunc rfl)) ?_
  refine ro rfl rfl (OpOk.step (ok_move (.inr rfl))) ?_
  refine ro_nil ?_
  refine keepK hK3 [2, 4, 5] (by dsimp) (by dsimp) ?_
  refine T.seq fun K4 hK4 => ?_
  refine T.region ?_ -- region 3
  refine ro rfl rfl (OpOk.step (ok_load rfl ti_Ppack_Reader rfl rfl)) ?_
  refine ro rfl rfl (ok_call rfl rfl rfl (((int_ok l (rdF l rLo rHi 0).1 (rdF l rLo rHi 0).2 0 6 hB (hp 0) hl).passR 1 rfl rfl (fun _ => rfl)).eq (x' := .int (rdFV l rLo rHi 0)) (H'' := [some ZB, some (R l (rdF l rLo rHi 1).1 (rdF l rLo rHi 1).2), some (PB 1)]) rfl rfl)) ?_
  refine ro rfl rfl (OpOk.step (ok_build rfl ti_api_Rec rfl)) ?_
  refine ro rfl rfl (OpOk.step (ok_alloc rfl ti_api_Rec rfl (by decide))) ?_
  refine ro rfl rfl (OpOk.step (ok_store rfl ti_api_Rec (by decide) rfl rfl rfl rfl rfl (by first | exact Nat.le_of_ble_eq_true rfl | simp) (by first | exact .inl ⟨rfl, rfl⟩ | exact .inr rfl))) ?_
  refine ro_nil ?_
  refine keepK hK4 [2, 4, 5, 6] (by dsimp) (by dsimp) ?_
  refine T.seq fun K5 hK5 => ?_
  refine T.region ?_ -- region 4
  refine ro rfl rfl (OpOk.step (ok_move (.inl rfl))) ?_
  refine ro rfl rfl (ok_call rfl rfl rfl (((num_ok l (rdF l rLo rHi 1).1 (rdF l rLo rHi 1).2 hB (hp 1) hl).passRP rfl rfl rfl (fun _ => rfl)).eq (x' := .int (rdFV l rLo rHi 1)) (H'' := [some ZB, some (R l (rdF l rLo rHi 2).1 (rdF l rLo rHi 2).2), some (PB 1), some ⟨10, true, [.agg [.int (rdFV l rLo rHi 0), .int 0, .int 0, .int 0, .int 0, .int 0, .int 0, .int 0, .int 0, .v (.slice none 0 0)]]⟩]) rfl rfl)) ?_
  refine ro rfl rfl (OpOk.step (ok_move (.inl rfl))) ?_
  refine ro rfl rfl (ok_call rfl rfl rfl (((num_ok l (rdF l rLo rHi 2).1 (rdF l rLo rHi 2).2 hB (hp 2) hl).passRP rfl rfl rfl (fun _ => rfl)).eq (x' := .int (rdFV l rLo rHi 2)) (H'' := [some ZB, some (R l (rdF l rLo rHi 3).1 (rdF l rLo rHi 3).2), some (PB 1), some ⟨10, true, [.agg [.int (rdFV l rLo rHi 0), .int 0, .int 0, .int 0, .int 0, .int 0, .int 0, .int 0, .int 0, .v (.slice none 0 0)]]⟩]) rfl rfl)) ?_
  refine ro rfl rfl (OpOk.step (ok_move (.inl rfl))) ?_
  refine ro rfl rfl (ok_call rfl rfl rfl (((num_ok l (rdF l rLo rHi 3).1 (rdF l rLo rHi 3).2 hB (hp 3) hl).passRP rfl rfl rfl (fun _ => rfl)).eq (x' := .int (rdFV l rLo rHi 3)) (H'' := [some ZB, some (R l (rdF l rLo rHi 4).1 (rdF l rLo rHi 4).2), some (PB 1), some ⟨10, true, [.agg [.int (rdFV l rLo rHi 0), .int 0, .int 0, .int 0, .int 0, .int 0, .int 0, .int 0, .int 0, .v (.slice none 0 0)]]⟩]) rfl rfl)) ?_
  refine ro rfl rfl (OpOk.step (ok_move (.inl rfl))) ?_
  refine ro rfl rfl (ok_call rfl rfl rfl (((num_ok l (rdF l rLo rHi 4).1 (rdF l rLo rHi 4).2 hB (hp 4) hl).passRP rfl rfl rfl (fun _ => rfl)).eq (x' := .int (rdFV l rLo rHi 4)) (H'' := [some ZB, some (R l (rdF l rLo rHi 5).1 (rdF l rLo rHi 5).2), some (PB 1), some ⟨10, true, [.agg [.int (rdFV l rLo rHi 0), .int 0, .int 0, .int 0, .int 0, .int 0, .int 0, .int 0, .int 0, .v (.slice none 0 0)]]⟩]) rfl rfl)) ?_
  refine ro rfl rfl (OpOk.step (ok_fieldAddr rfl ti_api_Rec rfl rfl ti_int (by decide) rfl)) ?_
  refine ro rfl rfl (OpOk.step (ok_store rfl ti_int (by decide) rfl rfl rfl rfl rfl (by first | exact Nat.le_of_ble_eq_true rfl | simp) (by first | exact .inl ⟨rfl, rfl⟩ | exact .inr rfl))) ?_
  refine ro rfl rfl (OpOk.step (ok_fieldAddr rfl ti_api_Rec rfl rfl ti_int (by decide) rfl)) ?_
  refine ro rfl rfl (OpOk.step (ok_store rfl ti_int (by decide) rfl rfl rfl rfl rfl (by first | exact Nat.le_of_ble_eq_true rfl | simp) (by first | exact .inl ⟨rfl, rfl⟩ | exact .inr rfl))) ?_
  refine ro rfl rfl (OpOk.step (ok_fieldAddr rfl ti_api_Rec rfl rfl ti_int (by decide) rfl)) ?_
  refine ro rfl rfl (OpOk.step (ok_store rfl ti_int (by decide) rfl rfl rfl rfl rfl (by first | exact Nat.le_of_ble_eq_true rfl | simp) (by first | exact .inl ⟨rfl, rfl⟩ | exact .inr rfl))) ?_
  refine ro rfl rfl (OpOk.step (ok_fieldAddr rfl ti_api_Rec rfl rfl ti_int (by decide) rfl)) ?_
  refine ro rfl rfl (OpOk.step (ok_store rfl ti_int (by decide) rfl rfl rfl rfl rfl (by first | exact Nat.le_of_ble_eq_true rfl | simp) (by first | exact .inl ⟨rfl, rfl⟩ | exact .inr rfl))) ?_
  refine ro_nil ?_
  refine keepK hK5 [2, 4, 5, 6] (by dsimp) (by dsimp) ?_
  refine T.seq fun K6 hK6 => ?_
  refine T.region ?_ -- region 5
  refine ro rfl rfl (OpOk.step (ok_load rfl ti_Ppack_Reader rfl rfl)) ?_
  refine ro rfl rfl (ok_call rfl rfl rfl (((int_ok l (rdF l rLo rHi 5).1 (rdF l rLo rHi 5).2 (-1) 1099511627776 hB (hp 5) hl).passR 1 rfl rfl (fun _ => rfl)).eq (x' := .int (rdFV l rLo rHi 5)) (H'' := [some ZB, some (R l (rdF l rLo rHi 6).1 (rdF l rLo rHi 6).2), some (PB 1), some ⟨10, true, [.agg [.int (rdFV l rLo rHi 0), .int (rdFV l rLo rHi 1), .int (rdFV l rLo rHi 2), .int (rdFV l rLo rHi 3), .int (rdFV l rLo rHi 4), .int 0, .int 0, .int 0, .int 0, .v (.slice none 0 0)]]⟩]) rfl rfl)) ?_
  refine ro rfl rfl (OpOk.step (ok_fieldAddr rfl ti_api_Rec rfl rfl ti_int (by decide) rfl)) ?_
  refine ro rfl rfl (OpOk.step (ok_store rfl ti_int (by decide) rfl rfl rfl rfl rfl (by first | exact Nat.le_of_ble_eq_true rfl | simp) (by first | exact .inl ⟨rfl, rfl⟩ | exact .inr rfl))) ?_
  refine ro_nil ?_
  refine keepK hK6 [2, 4, 5, 6] (by dsimp) (by dsimp) ?_
  refine T.seq fun K7 hK7 => ?_
  refine T.region ?_ -- region 6
  refine ro rfl rfl (OpOk.step (ok_move (.inl rfl))) ?_
  refine ro rfl rfl (ok_call rfl rfl rfl (((num_ok l (rdF l rLo rHi 6).1 (rdF l rLo rHi 6).2 hB (hp 6) hl).passRP rfl rfl rfl (fun _ => rfl)).eq (x' := .int (rdFV l rLo rHi 6)) (H'' := [some ZB, some (R l (rdF l rLo rHi 7).1 (rdF l rLo rHi 7).2), some (PB 1), some ⟨10, true, [.agg [.int (rdFV l rLo rHi 0), .int (rdFV l rLo rHi 1), .int (rdFV l rLo rHi 2), .int (rdFV l rLo rHi 3), .int (rdFV l rLo rHi 4), .int (rdFV l rLo rHi 5), .int 0, .int 0, .int 0, .v (.slice none 0 0)]]⟩]) rfl rfl)) ?_
  refine ro rfl rfl (OpOk.step (ok_move (.inl rfl))) ?_
  refine ro rfl rfl (ok_call rfl rfl rfl (((num_ok l (rdF l rLo rHi 7).1 (rdF l rLo rHi 7).2 hB (hp 7) hl).passRP rfl rfl rfl (fun _ => rfl)).eq (x' := .int (rdFV l rLo rHi 7)) (H'' := [some ZB, some (R l (rdF l rLo rHi 8).1 (rdF l rLo rHi 8).2), some (PB 1), some ⟨10, true, [.agg [.int (rdFV l rLo rHi 0), .int (rdFV l rLo rHi 1), .int (rdFV l rLo rHi 2), .int (rdFV l rLo rHi 3), .int (rdFV l rLo rHi 4), .int (rdFV l rLo rHi 5), .int 0, .int 0, .int 0, .v (.slice none 0 0)]]⟩]) rfl rfl)) ?_
  refine ro rfl rfl (OpOk.step (ok_move (.inl rfl))) ?_
  refine ro rfl rfl (ok_call rfl rfl rfl (((num_ok l (rdF l rLo rHi 8).1 (rdF l rLo rHi 8).2 hB (hp 8) hl).passRP rfl rfl rfl (fun _ => rfl)).eq (x' := .int (rdFV l rLo rHi 8)) (H'' := [some ZB, some (R l (rdF l rLo rHi 9).1 (rdF l rLo rHi 9).2), some (PB 1), some ⟨10, true, [.agg [.int (rdFV l rLo rHi 0), .int (rdFV l rLo rHi 1), .int (rdFV l rLo rHi 2), .int (rdFV l rLo rHi 3), .int (rdFV l rLo rHi 4), .int (rdFV l rLo rHi 5), .int 0, .int 0, .int 0, .v (.slice none 0 0)]]⟩]) rfl rfl)) ?_
  refine ro rfl rfl (OpOk.step (ok_fieldAddr rfl ti_api_Rec rfl rfl ti_int (by decide) rfl)) ?_
  refine ro rfl rfl (OpOk.step (ok_store rfl ti_int (by decide) rfl rfl rfl rfl rfl (by first | exact Nat.le_of_ble_eq_true rfl | simp) (by first | exact .inl ⟨rfl, rfl⟩ | exact .inr rfl))) ?_
  refine ro rfl rfl (OpOk.step (ok_fieldAddr rfl ti_api_Rec rfl rfl ti_int (by decide) rfl)) ?_
  refine ro rfl rfl (OpOk.step (ok_store rfl ti_int (by decide) rfl rfl rfl rfl rfl (by first | exact Nat.le_of_ble_eq_true rfl | simp) (by first | exact .inl ⟨rfl, rfl⟩ | exact .inr rfl))) ?_
  refine ro rfl rfl (OpOk.step (ok_fieldAddr rfl ti_api_Rec rfl rfl ti_int (by decide) rfl)) ?_
  refine ro rfl rfl (OpOk.step (ok_store rfl ti_int (by decide) rfl rfl rfl rfl rfl (by first | exact Nat.le_of_ble_eq_true rfl | simp) (by first | exact .inl ⟨rfl, rfl⟩ | exact .inr rfl))) ?_
  refine ro_nil ?_
  refine keepK hK7 [2, 4, 6] (by dsimp) (by dsimp) ?_
  refine T.seq fun K8 hK8 => ?_
  refine T.region ?_ -- region 7
  refine ro rfl rfl (OpOk.step (ok_load rfl ti_Ppack_Reader rfl rfl)) ?_
  refine ro rfl rfl (ok_call rfl rfl rfl (((bytes_ok l (rdF l rLo rHi 9).1 (rdF l rLo rHi 9).2 1048576 hB (hp 9) hl).passR 1 rfl rfl (fun _ => by simp [AV.ren, renL_ints])).eq (x' := .fz 1 (ints .u8 (rBody l).2.2)) (H'' := [some ZB, some (R l (rBody l).1 (rBody l).2.1), some (PB 1), some ⟨10, true, [.agg [.int (rdFV l rLo rHi 0), .int (rdFV l rLo rHi 1), .int (rdFV l rLo rHi 2), .int (rdFV l rLo rHi 3), .int (rdFV l rLo rHi 4), .int (rdFV l rLo rHi 5), .int (rdFV l rLo rHi 6), .int (rdFV l rLo rHi 7), .int (rdFV l rLo rHi 8), .v (.slice none 0 0)]]⟩]) rfl rfl)) ?_
  refine ro rfl rfl (OpOk.step (ok_fieldAddr rfl ti_api_Rec rfl rfl ti_Luint8 (by decide) rfl)) ?_
  refine ro rfl rfl (OpOk.step (ok_store rfl ti_Luint8 (by decide) rfl rfl rfl rfl rfl (by first | exact Nat.le_of_ble_eq_true rfl | simp) (by first | exact .inl ⟨rfl, rfl⟩ | exact .inr rfl))) ?_
  refine ro_nil ?_
  refine keepK hK8 [2, 4, 6] (by dsimp) (by dsimp) ?_
  refine T.seq fun K9 hK9 => ?_
  refine T.draw mixed (SH [] (HeldL ([none, some (R l (rBody l).1 (rBody l).2.1), some (PB 1), some (RcB (xr l))]))) ?_ -- region 8
  refine any_take 0 rfl (by first | rfl | decide +kernel) rfl (by first | (simp [HeldL]; done) | (simp only [HeldL, List.map_cons, List.map_nil, List.cons_append, List.nil_append, List.set_cons_zero, List.set_cons_succ]; (repeat' first | trivial | rfl | constructor))) (fun H' hH => OpOk.step (ok_load rfl ti_api_Rec (locA_held hH rfl) rfl)) ?_
  refine any_take 1 rfl (by first | rfl | decide +kernel) rfl (by first | (simp [HeldL]; done) | (simp only [HeldL, List.map_cons, List.map_nil, List.cons_append, List.nil_append, List.set_cons_zero, List.set_cons_succ]; (repeat' first | trivial | rfl | constructor))) (fun H' hH => OpOk.step (ok_load rfl ti_Ppack_Reader (locA_held hH rfl) rfl)) ?_
  refine any_one 2 rfl (by first | rfl | decide +kernel) rfl rfl (ok_call rfl rfl rfl (((err_ok l (rBody l).1 (rBody l).2.1).passR 1 rfl rfl (fun _ => rfl)).eq (x' := .int (rBody l).2.1) (H'' := [some ZB, some (R l (rBody l).1 (rBody l).2.1), some (PB 1), some (RcB (xr l))]) rfl rfl)) (.inr (by first | (simp [HeldL]; done) | (simp only [HeldL, List.map_cons, List.map_nil, List.cons_append, List.nil_append, List.set_cons_zero, List.set_cons_succ]; (repeat' first | trivial | rfl | constructor)))) ?_
  refine any_take 3 rfl (by first | rfl | decide +kernel) rfl (by first | (simp [HeldL]; done) | (simp only [HeldL, List.map_cons, List.map_nil, List.cons_append, List.nil_append, List.set_cons_zero, List.set_cons_succ]; (repeat' first | trivial | rfl | constructor))) (fun H' hH => OpOk.step (ok_binOp rfl ti_api_Errno rfl)) ?_
  refine any_take_case 4 rfl (by first | rfl | decide +kernel) rfl (by first | (simp [HeldL]; done) | (simp only [HeldL, List.map_cons, List.map_nil, List.cons_append, List.nil_append, List.set_cons_zero, List.set_cons_succ]; (repeat' first | trivial | rfl | constructor))) (fun H' hH => OpOk.step (ok_moveb (.inl rfl) rfl)) (fun hb => ?_) (fun hb => ?_)
  · (try simp only [decide_eq_true_eq, decide_eq_false_iff_not, beq_iff_eq, beq_eq_false_iff_ne, bne_iff_ne, bne_eq_false_iff_eq, ne_eq, Bool.not_eq_true', Bool.not_eq_false'] at hb)
    refine any_take 5 rfl (by first | rfl | decide +kernel) rfl (by first | (simp [HeldL]; done) | (simp only [HeldL, List.map_cons, List.map_nil, List.cons_append, List.nil_append, List.set_cons_zero, List.set_cons_succ]; (repeat' first | trivial | rfl | constructor))) (fun H' hH => OpOk.step (ok_load rfl ti_Ppack_Reader (locA_held hH rfl) rfl)) ?_
    refine any_one 6 rfl (by first | rfl | decide +kernel) rfl rfl (ok_call rfl rfl rfl (((left_ok l (rBody l).1 (rBody l).2.1 hb9 hl).passR 1 rfl rfl (fun _ => rfl)).eq (x' := .int ((l.length : Int) - (rBody l).1)) (H'' := [some ZB, some (R l (rBody l).1 (rBody l).2.1), some (PB 1), some (RcB (xr l))]) rfl rfl)) (.inr (by first | (simp [HeldL]; done) | (simp only [HeldL, List.map_cons, List.map_nil, List.cons_append, List.nil_append, List.set_cons_zero, List.set_cons_succ]; (repeat' first | trivial | rfl | constructor)))) ?_
    refine any_take 7 rfl (by first | rfl | decide +kernel) rfl (by first | (simp [HeldL]; done) | (simp only [HeldL, List.map_cons, List.map_nil, List.cons_append, List.nil_append, List.set_cons_zero, List.set_cons_succ]; (repeat' first | trivial | rfl | constructor))) (fun H' hH => OpOk.step (ok_binOp rfl ti_int rfl)) ?_
    refine any_take 8 rfl (by first | rfl | decide +kernel) rfl (by first | (simp [HeldL]; done) | (simp only [HeldL, List.map_cons, List.map_nil, List.cons_append, List.nil_append, List.set_cons_zero, List.set_cons_succ]; (repeat' first | trivial | rfl | constructor))) (fun H' hH => OpOk.step (ok_pick rfl rfl)) ?_
    refine any_one 9 rfl (by first | rfl | decide +kernel) rfl rfl (OpOk.step (ok_store rfl ti_api_Rec (by decide) rfl rfl rfl rfl rfl (by first | exact Nat.le_of_ble_eq_true rfl | simp) (by first | exact .inl ⟨rfl, rfl⟩ | exact .inr rfl))) (.inr (by first | (simp [HeldL]; done) | (simp only [HeldL, List.map_cons, List.map_nil, List.cons_append, List.nil_append, List.set_cons_zero, List.set_cons_succ]; (repeat' first | trivial | rfl | constructor)))) ?_
    refine any_take 10 rfl (by first | rfl | decide +kernel) rfl (by first | (simp [HeldL]; done) | (simp only [HeldL, List.map_cons, List.map_nil, List.cons_append, List.nil_append, List.set_cons_zero, List.set_cons_succ]; (repeat' first | trivial | rfl | constructor))) (fun H' hH => OpOk.step (ok_move (.inr rfl))) ?_
    refine any_done rfl ?_
    refine keepK hK9 [2, 3] (by dsimp) (by dsimp) ?_
    refine T.ret (hQ _ _ _ rfl ?_).1 -- ret 1
    exact by first | (have e : decide (parOk l) = false := decide_eq_false (by unfold parOk; omega); rw [e]; exact TEnt.fin [] (by decide) (by simp) rfl ⟨by show AV.ren (pos []) (.tup [.agg (RcC (xr l)), .b _]) = _; simp [AV.ren, renL, RcC_ren], trivial⟩) | (have e : decide (parOk l) = (((l.length : Int) - (rBody l).1) == 0) := (show decide (parOk l) = decide (((l.length : Int) - (rBody l).1) = 0) from decide_eq_decide.2 (by unfold parOk; omega)); rw [e]; exact TEnt.fin [] (by decide) (by simp) rfl ⟨by show AV.ren (pos []) (.tup [.agg (RcC (xr l)), .b _]) = _; simp [AV.ren, renL, RcC_ren], trivial⟩)
  · (try simp only [decide_eq_true_eq, decide_eq_false_iff_not, beq_iff_eq, beq_eq_false_iff_ne, bne_iff_ne, bne_eq_false_iff_eq, ne_eq, Bool.not_eq_true', Bool.not_eq_false'] at hb)
    refine any_skip 5 rfl (by first | rfl | decide +kernel) rfl (by first | (simp [HeldL]; done) | (simp only [HeldL, List.map_cons, List.map_nil, List.cons_append, List.nil_append, List.set_cons_zero, List.set_cons_succ]; (repeat' first | trivial | rfl | constructor))) ?_
    refine any_one_skip 6 rfl (by first | rfl | decide +kernel) rfl rfl (.inr (by first | (simp [HeldL]; done) | (simp only [HeldL, List.map_cons, List.map_nil, List.cons_append, List.nil_append, List.set_cons_zero, List.set_cons_succ]; (repeat' first | trivial | rfl | constructor)))) ?_
    refine any_skip 7 rfl (by first | rfl | decide +kernel) rfl (by first | (simp [HeldL]; done) | (simp only [HeldL, List.map_cons, List.map_nil, List.cons_append, List.nil_append, List.set_cons_zero, List.set_cons_succ]; (repeat' first | trivial | rfl | constructor))) ?_
    refine any_take 8 rfl (by first | rfl | decide +kernel) rfl (by first | (simp [HeldL]; done) | (simp only [HeldL, List.map_cons, List.map_nil, List.cons_append, List.nil_append, List.set_cons_zero, List.set_cons_succ]; (repeat' first | trivial | rfl | constructor))) (fun H' hH => OpOk.step (ok_pickb (t := false) (d := false) rfl rfl rfl)) ?_
    refine any_one 9 rfl (by first | rfl | decide +kernel) rfl rfl (OpOk.step (ok_store rfl ti_api_Rec (by decide) rfl rfl rfl rfl rfl (by first | exact Nat.le_of_ble_eq_true rfl | simp) (by first | exact .inl ⟨rfl, rfl⟩ | exact .inr rfl))) (.inr (by first | (simp [HeldL]; done) | (simp only [HeldL, List.map_cons, List.map_nil, List.cons_append, List.nil_append, List.set_cons_zero, List.set_cons_succ]; (repeat' first | trivial | rfl | constructor)))) ?_
    refine any_take 10 rfl (by first | rfl | decide +kernel) rfl (by first | (simp [HeldL]; done) | (simp only [HeldL, List.map_cons, List.map_nil, List.cons_append, List.nil_append, List.set_cons_zero, List.set_cons_succ]; (repeat' first | trivial | rfl | constructor))) (fun H' hH => OpOk.step (ok_moveb (c := false) (.inr rfl) rfl)) ?_
    refine any_done rfl ?_
    refine keepK hK9 [2, 3] (by dsimp) (by dsimp) ?_
    refine T.ret (hQ _ _ _ rfl ?_).1 -- ret 2
    exact by first | (have e : decide (parOk l) = false := decide_eq_false (by unfold parOk; omega); rw [e]; exact TEnt.fin [] (by decide) (by simp) rfl ⟨by show AV.ren (pos []) (.tup [.agg (RcC (xr l)), .b _]) = _; simp [AV.ren, renL, RcC_ren], trivial⟩) | (have e : decide (parOk l) = (((l.length : Int) - (rBody l).1) == 0) := (show decide (parOk l) = decide (((l.length : Int) - (rBody l).1) = 0) from decide_eq_decide.2 (by unfold parOk; omega)); rw [e]; exact TEnt.fin [] (by decide) (by simp) rfl ⟨by show AV.ren (pos []) (.tup [.agg (RcC (xr l)), .b _]) = _; simp [AV.ren, renL, RcC_ren], trivial⟩)
theorem ri_good {l : List Int} {p : Nat} {e a b : Int} (h : (ri l p e a b).2.1 = 0) : e = 0 ∧ a ≤ (ri l p e a b).2.2 ∧ (ri l p e a b).2.2 ≤ b := by
  unfold ri at h ⊢
  split at h
  · rename_i h1; exact absurd h h1
  · rename_i h1
    rw [if_neg h1]
    split at h
    · cases h
    · rename_i h2
      rw [if_neg h2]
      split at h
      · cases h
      · rename_i h3
        rw [if_neg h3]
        dsimp only
        omega
def gQ0 (l : List Int) : Nat × Int × Int := ri (l.take 16) 0 0 0 1048656
def gQ1 (l : List Int) : Nat × Int × Int := ri (l.take 16) (gQ0 l).1 (gQ0 l).2.1 (-9223372036854775808) 9223372036854775807
def gN (l : List Int) : Int := (gQ0 l).2.2
def gM (l : List Int) (k : Int) : Int := (16 + gN l + k - 1) / k
def gP (l : List Int) : List Int := (l.take (16 + gN l).toNat).drop 16
def gT (l : List Int) (k : Int) : List Int := (l.take (gM l k * k).toNat).drop (16 + gN l).toNat
/-- The record that bytes begin with, how many blocks it has, the error. -/
def getR (l : List Int) (k : Int) : Rc × Int × Int :=
  if ¬ (1 ≤ k ∧ k ≤ 4096) then (rc0, 0, 1) else if l.length < 16 then (rc0, 0, 14) else if (gQ1 l).2.1 ≠ 0 then (rc0, 0, 13) else if gM l k * k > l.length then (rc0, 0, 14) else if (gQ1 l).2.2 ≠ crcV (gP l) then (rc0, 0, 15) else if ¬ (parOk (gP l) ∧ zeroB (gT l k) = true) then (rc0, 0, 13) else (xr (gP l), gM l k, 0)
section
variable {l : List Int} {k : Int}
theorem getR_1 (h : ¬ (1 ≤ k ∧ k ≤ 4096)) : getR l k = (rc0, 0, 1) := if_pos h
theorem getR_2 (h : 1 ≤ k ∧ k ≤ 4096) (h2 : l.length < 16) : getR l k = (rc0, 0, 14) := by unfold getR; rw [if_neg (by omega), if_pos h2]
theorem getR_3 (h : 1 ≤ k ∧ k ≤ 4096) (h2 : ¬ l.length < 16) (h3 : (gQ1 l).2.1 ≠ 0) : getR l k = (rc0, 0, 13) := by unfold getR; rw [if_neg (by omega), if_neg h2, if_pos h3]
theorem getR_4 (h : 1 ≤ k ∧ k ≤ 4096) (h2 : ¬ l.length < 16) (h3 : ¬ (gQ1 l).2.1 ≠ 0) (h4 : gM l k * k > l.length) : getR l k = (rc0, 0, 14) := by unfold getR; rw [if_neg (by omega), if_neg h2, if_neg h3, if_pos h4]
theorem getR_5 (h : 1 ≤ k ∧ k ≤ 4096) (h2 : ¬ l.length < 16) (h3 : ¬ (gQ1 l).2.1 ≠ 0) (h4 : ¬ gM l k * k > l.length) (h5 : (gQ1 l).2.2 ≠ crcV (gP l)) : getR l k = (rc0, 0, 15) := by unfold getR; rw [if_neg (by omega), if_neg h2, if_neg h3, if_neg h4, if_pos h5]
theorem getR_6 (h : 1 ≤ k ∧ k ≤ 4096) (h2 : ¬ l.length < 16) (h3 : ¬ (gQ1 l).2.1 ≠ 0) (h4 : ¬ gM l k * k > l.length) (h5 : ¬ (gQ1 l).2.2 ≠ crcV (gP l)) (h6 : ¬ (parOk (gP l) ∧ zeroB (gT l k) = true)) : getR l k = (rc0, 0, 13) := by unfold getR; rw [if_neg (by omega), if_neg h2, if_neg h3, if_neg h4, if_neg h5, if_pos h6]
theorem getR_7 (h : 1 ≤ k ∧ k ≤ 4096) (h2 : ¬ l.length < 16) (h3 : ¬ (gQ1 l).2.1 ≠ 0) (h4 : ¬ gM l k * k > l.length) (h5 : ¬ (gQ1 l).2.2 ≠ crcV (gP l)) (h6 : parOk (gP l) ∧ zeroB (gT l k) = true) : getR l k = (xr (gP l), gM l k, 0) := by unfold getR; rw [if_neg (by omega), if_neg h2, if_neg h3, if_neg h4, if_neg h5, if_neg (by simpa using h6)]
theorem gN_bd : 0 ≤ gN l ∧ gN l ≤ 1048656 := by
  unfold gN
  by_cases h : (gQ0 l).2.1 = 0
  · exact (ri_good h).2
  · have : (gQ0 l).2.2 = 0 := by
      unfold gQ0 ri at h ⊢
      split
      · rfl
      · split
        · rfl
        · split
          · rfl
          · rename_i h1 h2 h3
            rw [if_neg h1, if_neg h2, if_neg h3] at h
            exact absurd rfl h
    omega
theorem gM_bd (h : 1 ≤ k ∧ k ≤ 4096) : 0 ≤ gM l k ∧ gM l k ≤ 1052767 ∧ 16 + gN l ≤ gM l k * k ∧ gM l k * k ≤ 16 + gN l + k - 1 := by
  have hn := gN_bd (l := l)
  have h1 := Int.emod_add_mul_ediv (16 + gN l + k - 1) k
  have h2 := Int.emod_nonneg (16 + gN l + k - 1) (show k ≠ 0 by omega)
  have h3 := Int.emod_lt_of_pos (16 + gN l + k - 1) (show 0 < k by omega)
  have h4 := quo_bd (a := 16 + gN l + k - 1) (b := k) (B := 1052767) (by omega) (by omega) (by omega)
  unfold gM
  rw [Int.mul_comm k] at h1
  omega
end
set_option maxHeartbeats 1000000 in
theorem get_ok (l : List Int) (k : Int) (hB : Bytes l) (hl : l.length ≤ 140737488355328) : CSpec Try.prog 7 [] [.fz 1 (ints .u8 l), .int k] [] (.tup [.agg (RcC (getR l k).1), .int (getR l k).2.1, .int (getR l k).2.2]) := by
  refine CSpec.body Try.func7 rfl rfl rfl rfl rfl fun Q hQ => ?_
  refine T.seq fun K1 hK1 => ?_
  refine T.region ?_ -- region 0
  refine ro rfl rfl (OpOk.step (ok_alloc rfl ti_api_Rec rfl (by decide))) ?_
  refine ro rfl rfl (OpOk.step (ok_move (.inr rfl))) ?_
  refine ro rfl rfl (OpOk.step (ok_move (.inr rfl))) ?_
  refine ro_nil ?_
  refine keepK hK1 [0, 1, 4] (by dsimp) (by dsimp) ?_
  refine T.seq fun K2 hK2 => ?_
  refine T.block ?_
  refine T.seq fun K3 hK3 => ?_
  refine T.region ?_ -- region 1
  refine ro rfl rfl (OpOk.step (ok_move (.inl rfl))) ?_
  refine ro rfl rfl (ok_call rfl rfl rfl ((fits_ok k).plain rfl rfl)) ?_
  refine ro rfl rfl (OpOk.step (ok_unOp rfl rfl)) ?_
  refine ro rfl rfl (OpOk.step (ok_move (.inr rfl))) ?_
  refine ro_nil ?_
  refine keepK hK3 [0, 1, 4, 13] (by dsimp) (by dsimp) ?_
  refine T.cond rfl (fun hc => ?_) (fun hc => ?_) -- cond 1
  · (try simp only [decide_eq_true_eq, decide_eq_false_iff_not, beq_iff_eq, beq_eq_false_iff_ne, bne_iff_ne, bne_eq_false_iff_eq, ne_eq, Bool.not_eq_true', Bool.not_eq_false'] at hc)
    refine T.seq fun K4 hK4 => ?_
    refine T.region ?_ -- region 2
    refine ro rfl rfl (OpOk.step (ok_build rfl ti_api_Rec rfl)) ?_
    refine ro rfl rfl (OpOk.step (ok_store rfl ti_api_Rec (by decide) rfl rfl rfl rfl rfl (by first | exact Nat.le_of_ble_eq_true rfl | simp) (by first | exact .inl ⟨rfl, rfl⟩ | exact .inr rfl))) ?_
    refine ro rfl rfl (OpOk.step (ok_move (.inr rfl))) ?_
    refine ro rfl rfl (OpOk.step (ok_move (.inr rfl))) ?_
    refine ro_nil ?_
    refine keepK hK4 [4, 5, 6] (by dsimp) (by dsimp) ?_
    refine T.ret (hQ _ _ _ rfl ?_).1 -- ret 1
    exact by first | (rw [getR_1 (by assumption)]; exact ((TEnt.put1 0 (x' := .tup [.agg (RcC rc0), .int 0, .int 1]) (by show Ent _ (.tup [.agg [.int 0, .int 0, .int 0, .int 0, .int 0, .int 0, .int 0, .int 0, .int 0, .v (.slice none 0 0)], .int 0, .int _]) _; exact Ent.tup (EntL.cons rc0_view (EntL.refl _)))).trans (TEnt.fin [] (by decide) (by simp) rfl ⟨by simp [AV.ren, renL, RcC_ren], trivial⟩))) | (rw [getR_2 (by assumption) (by omega)]; exact ((TEnt.put1 0 (x' := .tup [.agg (RcC rc0), .int 0, .int 14]) (by show Ent _ (.tup [.agg [.int 0, .int 0, .int 0, .int 0, .int 0, .int 0, .int 0, .int 0, .int 0, .v (.slice none 0 0)], .int 0, .int _]) _; exact Ent.tup (EntL.cons rc0_view (EntL.refl _)))).trans (TEnt.fin [] (by decide) (by simp) rfl ⟨by simp [AV.ren, renL, RcC_ren], trivial⟩))) | (rw [getR_3 (by assumption) (by assumption) (by assumption)]; exact ((TEnt.put1 0 (x' := .tup [.agg (RcC rc0), .int 0, .int 13]) (by show Ent _ (.tup [.agg [.int 0, .int 0, .int 0, .int 0, .int 0, .int 0, .int 0, .int 0, .int 0, .v (.slice none 0 0)], .int 0, .int _]) _; exact Ent.tup (EntL.cons rc0_view (EntL.refl _)))).trans (TEnt.fin [] (by decide) (by simp) rfl ⟨by simp [AV.ren, renL, RcC_ren], trivial⟩))) | (rw [getR_4 (by assumption) (by assumption) (by assumption) (by assumption)]; exact ((TEnt.put1 0 (x' := .tup [.agg (RcC rc0), .int 0, .int 14]) (by show Ent _ (.tup [.agg [.int 0, .int 0, .int 0, .int 0, .int 0, .int 0, .int 0, .int 0, .int 0, .v (.slice none 0 0)], .int 0, .int _]) _; exact Ent.tup (EntL.cons rc0_view (EntL.refl _)))).trans (TEnt.fin [] (by decide) (by simp) rfl ⟨by simp [AV.ren, renL, RcC_ren], trivial⟩))) | (rw [getR_5 (by assumption) (by assumption) (by assumption) (by assumption) (by simpa using hc)]; exact ((TEnt.put1 0 (x' := .tup [.agg (RcC rc0), .int 0, .int 15]) (by show Ent _ (.tup [.agg [.int 0, .int 0, .int 0, .int 0, .int 0, .int 0, .int 0, .int 0, .int 0, .v (.slice none 0 0)], .int 0, .int _]) _; exact Ent.tup (EntL.cons rc0_view (EntL.refl _)))).trans (TEnt.fin [] (by decide) (by simp) rfl ⟨by simp [AV.ren, renL, RcC_ren], trivial⟩))) | (rw [getR_6 (by assumption) (by assumption) (by assumption) (by assumption) (by assumption) (by simp_all)]; exact ((TEnt.put1 0 (x' := .tup [.agg (RcC rc0), .int 0, .int 13]) (by show Ent _ (.tup [.agg [.int 0, .int 0, .int 0, .int 0, .int 0, .int 0, .int 0, .int 0, .int 0, .v (.slice none 0 0)], .int 0, .int _]) _; exact Ent.tup (EntL.cons rc0_view (EntL.refl _)))).trans (TEnt.fin [] (by decide) (by simp) rfl ⟨by simp [AV.ren, renL, RcC_ren], trivial⟩))) | (rw [getR_7 (by assumption) (by assumption) (by assumption) (by assumption) (by assumption) (by simp_all)]; exact TEnt.fin [] (by decide) (by simp) rfl ⟨by show AV.ren (pos []) (.tup [.agg (RcC (xr (gP l))), .int _, .int _]) = _; simp [AV.ren, renL, RcC_ren], trivial⟩)
  · (try simp only [decide_eq_true_eq, decide_eq_false_iff_not, beq_iff_eq, beq_eq_false_iff_ne, bne_iff_ne, bne_eq_false_iff_eq, ne_eq, Bool.not_eq_true', Bool.not_eq_false'] at hc)
    have hk := hc
    refine T.seq fun K5 hK5 => ?_
    refine T.region ?_ -- region 3
    refine ro rfl rfl (OpOk.step (ok_move (.inl rfl))) ?_
    refine ro rfl rfl (OpOk.step (ok_len' rfl rfl ti_Luint8 rfl (by first | exact ints_length _ _ | exact rowsA_length _ _ | rfl))) ?_
    refine ro rfl rfl (OpOk.step (ok_binOp rfl ti_int rfl)) ?_
    refine ro rfl rfl (OpOk.step (ok_move (.inr rfl))) ?_
    refine ro_nil ?_
    refine keepK hK5 [0, 1, 4, 18] (by dsimp) (by dsimp) ?_
    refine T.cond rfl (fun hc => ?_) (fun hc => ?_) -- cond 2
    · (try simp only [decide_eq_true_eq, decide_eq_false_iff_not, beq_iff_eq, beq_eq_false_iff_ne, bne_iff_ne, bne_eq_false_iff_eq, ne_eq, Bool.not_eq_true', Bool.not_eq_false'] at hc)
      refine T.seq fun K6 hK6 => ?_
      refine T.region ?_ -- region 4
      refine ro rfl rfl (OpOk.step (ok_build rfl ti_api_Rec rfl)) ?_
      refine ro rfl rfl (OpOk.step (ok_store rfl ti_api_Rec (by decide) rfl rfl rfl rfl rfl (by first | exact Nat.le_of_ble_eq_true rfl | simp) (by first | exact .inl ⟨rfl, rfl⟩ | exact .inr rfl))) ?_
      refine ro rfl rfl (OpOk.step (ok_move (.inr rfl))) ?_
      refine ro rfl rfl (OpOk.step (ok_move (.inr rfl))) ?_
      refine ro_nil ?_
      refine keepK hK6 [4, 5, 6] (by dsimp) (by dsimp) ?_
      refine T.ret (hQ _ _ _ rfl ?_).1 -- ret 2
      exact by first | (rw [getR_1 (by assumption)]; exact ((TEnt.put1 0 (x' := .tup [.agg (RcC rc0), .int 0, .int 1]) (by show Ent _ (.tup [.agg [.int 0, .int 0, .int 0, .int 0, .int 0, .int 0, .int 0, .int 0, .int 0, .v (.slice none 0 0)], .int 0, .int _]) _; exact Ent.tup (EntL.cons rc0_view (EntL.refl _)))).trans (TEnt.fin [] (by decide) (by simp) rfl ⟨by simp [AV.ren, renL, RcC_ren], trivial⟩))) | (rw [getR_2 (by assumption) (by omega)]; exact ((TEnt.put1 0 (x' := .tup [.agg (RcC rc0), .int 0, .int 14]) (by show Ent _ (.tup [.agg [.int 0, .int 0, .int 0, .int 0, .int 0, .int 0, .int 0, .int 0, .int 0, .v (.slice none 0 0)], .int 0, .int _]) _; exact Ent.tup (EntL.cons rc0_view (EntL.refl _)))).trans (TEnt.fin [] (by decide) (by simp) rfl ⟨by simp [AV.ren, renL, RcC_ren], trivial⟩))) | (rw [getR_3 (by assumption) (by assumption) (by assumption)]; exact ((TEnt.put1 0 (x' := .tup [.agg (RcC rc0), .int 0, .int 13]) (by show Ent _ (.tup [.agg [.int 0, .int 0, .int 0, .int 0, .int 0, .int 0, .int 0, .int 0, .int 0, .v (.slice none 0 0)], .int 0, .int _]) _; exact Ent.tup (EntL.cons rc0_view (EntL.refl _)))).trans (TEnt.fin [] (by decide) (by simp) rfl ⟨by simp [AV.ren, renL, RcC_ren], trivial⟩))) | (rw [getR_4 (by assumption) (by assumption) (by assumption) (by assumption)]; exact ((TEnt.put1 0 (x' := .tup [.agg (RcC rc0), .int 0, .int 14]) (by show Ent _ (.tup [.agg [.int 0, .int 0, .int 0, .int 0, .int 0, .int 0, .int 0, .int 0, .int 0, .v (.slice none 0 0)], .int 0, .int _]) _; exact Ent.tup (EntL.cons rc0_view (EntL.refl _)))).trans (TEnt.fin [] (by decide) (by simp) rfl ⟨by simp [AV.ren, renL, RcC_ren], trivial⟩))) | (rw [getR_5 (by assumption) (by assumption) (by assumption) (by assumption) (by simpa using hc)]; exact ((TEnt.put1 0 (x' := .tup [.agg (RcC rc0), .int 0, .int 15]) (by show Ent _ (.tup [.agg [.int 0, .int 0, .int 0, .int 0, .int 0, .int 0, .int 0, .int 0, .int 0, .v (.slice none 0 0)], .int 0, .int _]) _; exact Ent.tup (EntL.cons rc0_view (EntL.refl _)))).trans (TEnt.fin [] (by decide) (by simp) rfl ⟨by simp [AV.ren, renL, RcC_ren], trivial⟩))) | (rw [getR_6 (by assumption) (by assumption) (by assumption) (by assumption) (by assumption) (by simp_all)]; exact ((TEnt.put1 0 (x' := .tup [.agg (RcC rc0), .int 0, .int 13]) (by show Ent _ (.tup [.agg [.int 0, .int 0, .int 0, .int 0, .int 0, .int 0, .int 0, .int 0, .int 0, .v (.slice none 0 0)], .int 0, .int _]) _; exact Ent.tup (EntL.cons rc0_view (EntL.refl _)))).trans (TEnt.fin [] (by decide) (by simp) rfl ⟨by simp [AV.ren, renL, RcC_ren], trivial⟩))) | (rw [getR_7 (by assumption) (by assumption) (by assumption) (by assumption) (by assumption) (by simp_all)]; exact TEnt.fin [] (by decide) (by simp) rfl ⟨by show AV.ren (pos []) (.tup [.agg (RcC (xr (gP l))), .int _, .int _]) = _; simp [AV.ren, renL, RcC_ren], trivial⟩)
    · (try simp only [decide_eq_true_eq, decide_eq_false_iff_not, beq_iff_eq, beq_eq_false_iff_ne, bne_iff_ne, bne_eq_false_iff_eq, ne_eq, Bool.not_eq_true', Bool.not_eq_false'] at hc)
      have h16 : ¬ l.length < 16 := by omega
      have hn := gN_bd (l := l)
      have hm := gM_bd (l := l) hk
      have h0l : (l.take 16).length = 16 := by simp; omega
      have hB0 : Bytes (l.take 16) := hB.take 16
      have hq0 := ri_le (l := l.take 16) (p := 0) (e := 0) (a := 0) (b := 1048656) (by omega)
      have hq1 := ri_le (l := l.take 16) (p := (gQ0 l).1) (e := (gQ0 l).2.1) (a := -9223372036854775808) (b := 9223372036854775807) hq0
      refine T.skip ?_
      refine keepK hK2 [0, 1, 4] (by dsimp) (by dsimp) ?_
      refine T.seq fun K7 hK7 => ?_
      refine T.region ?_ -- region 5
      refine ro rfl rfl (OpOk.step (ok_move (.inl rfl))) ?_
      refine ro rfl rfl (OpOk.step ((ok_slice rfl ti_Luint8 (.inl ⟨_, _, rfl, ti_uint8, rfl⟩) (zl := none) (zh := some 16) rfl rfl rfl (r := .fz 1 (ints .u8 (l.take 16))) (by
  have h1 : (16 : Int) ≤ l.length := by omega
  simp [sliceA, h1, ints, List.map_take])))) ?_
      refine ro rfl rfl (ok_call rfl rfl rfl ((new_ok (l.take 16) (by omega)).fresh (x' := .ref 1 0 0) (H' := [some (R (l.take 16) 0 0)]) (by simp [renL, AV.ren, renL_ints]) rfl (by simp [renH, R_ren]))) ?_
      refine ro rfl rfl (OpOk.step (ok_move (.inr rfl))) ?_
      refine ro_nil ?_
      refine keepK hK7 [0, 1, 4, 7] (by dsimp) (by dsimp) ?_
      refine T.seq fun K8 hK8 => ?_
      refine T.region ?_ -- region 6
      refine ro rfl rfl (OpOk.step (ok_move (.inl rfl))) ?_
      refine ro rfl rfl (ok_call rfl rfl rfl (((int_ok (l.take 16) 0 0 0 1048656 hB0 (by omega) (by omega)).passR 1 rfl rfl (fun _ => rfl)).eq (x' := .int (gN l)) (H'' := [some ZB, some (R (l.take 16) (gQ0 l).1 (gQ0 l).2.1)]) rfl rfl)) ?_
      refine ro rfl rfl (OpOk.step (ok_move (.inl rfl))) ?_
      refine ro rfl rfl (ok_call rfl rfl rfl (((int_ok (l.take 16) (gQ0 l).1 (gQ0 l).2.1 (-9223372036854775808) 9223372036854775807 hB0 hq0 (by omega)).passR 1 rfl rfl (fun _ => rfl)).eq (x' := .int (gQ1 l).2.2) (H'' := [some ZB, some (R (l.take 16) (gQ1 l).1 (gQ1 l).2.1)]) rfl rfl)) ?_
      refine ro rfl rfl (OpOk.step (ok_move (.inr rfl))) ?_
      refine ro rfl rfl (OpOk.step (ok_move (.inr rfl))) ?_
      refine ro_nil ?_
      refine keepK hK8 [0, 1, 4, 7, 8, 9] (by dsimp) (by dsimp) ?_
      refine T.seq fun K9 hK9 => ?_
      refine T.seq fun K10 hK10 => ?_
      refine T.region ?_ -- region 7
      refine ro rfl rfl (OpOk.step (ok_move (.inl rfl))) ?_
      refine ro rfl rfl (ok_call rfl rfl rfl (((err_ok (l.take 16) (gQ1 l).1 (gQ1 l).2.1).passR 1 rfl rfl (fun _ => rfl)).eq (x' := .int (gQ1 l).2.1) (H'' := [some ZB, some (R (l.take 16) (gQ1 l).1 (gQ1 l).2.1)]) rfl rfl)) ?_
      refine ro rfl rfl (OpOk.step (ok_binOp rfl ti_api_Errno rfl)) ?_
      refine ro_nil ?_
      refine keepK hK10 [0, 1, 4, 8, 9, 32] (by dsimp) (by dsimp) ?_
      refine T.cond rfl (fun hc => ?_) (fun hc => ?_) -- cond 3
      · (try simp only [decide_eq_true_eq, decide_eq_false_iff_not, beq_iff_eq, beq_eq_false_iff_ne, bne_iff_ne, bne_eq_false_iff_eq, ne_eq, Bool.not_eq_true', Bool.not_eq_false'] at hc)
        refine T.seq fun K11 hK11 => ?_
        refine T.region ?_ -- region 8
        refine ro rfl rfl (OpOk.step (ok_build rfl ti_api_Rec rfl)) ?_
        refine ro rfl rfl (OpOk.step (ok_store rfl ti_api_Rec (by decide) rfl rfl rfl rfl rfl (by first | exact Nat.le_of_ble_eq_true rfl | simp) (by first | exact .inl ⟨rfl, rfl⟩ | exact .inr rfl))) ?_
        refine ro rfl rfl (OpOk.step (ok_move (.inr rfl))) ?_
        refine ro rfl rfl (OpOk.step (ok_move (.inr rfl))) ?_
        refine ro_nil ?_
        refine keepK hK11 [4, 5, 6] (by dsimp) (by dsimp) ?_
        refine T.ret (hQ _ _ _ rfl ?_).1 -- ret 3
        exact by first | (rw [getR_1 (by assumption)]; exact ((TEnt.put1 0 (x' := .tup [.agg (RcC rc0), .int 0, .int 1]) (by show Ent _ (.tup [.agg [.int 0, .int 0, .int 0, .int 0, .int 0, .int 0, .int 0, .int 0, .int 0, .v (.slice none 0 0)], .int 0, .int _]) _; exact Ent.tup (EntL.cons rc0_view (EntL.refl _)))).trans (TEnt.fin [] (by decide) (by simp) rfl ⟨by simp [AV.ren, renL, RcC_ren], trivial⟩))) | (rw [getR_2 (by assumption) (by omega)]; exact ((TEnt.put1 0 (x' := .tup [.agg (RcC rc0), .int 0, .int 14]) (by show Ent _ (.tup [.agg [.int 0, .int 0, .int 0, .int 0, .int 0, .int 0, .int 0, .int 0, .int 0, .v (.slice none 0 0)], .int 0, .int _]) _; exact Ent.tup (EntL.cons rc0_view (EntL.refl _)))).trans (TEnt.fin [] (by decide) (by simp) rfl ⟨by simp [AV.ren, renL, RcC_ren], trivial⟩))) | (rw [getR_3 (by assumption) (by assumption) (by assumption)]; exact ((TEnt.put1 0 (x' := .tup [.agg (RcC rc0), .int 0, .int 13]) (by show Ent _ (.tup [.agg [.int 0, .int 0, .int 0, .int 0, .int 0, .int 0, .int 0, .int 0, .int 0, .v (.slice none 0 0)], .int 0, .int _]) _; exact Ent.tup (EntL.cons rc0_view (EntL.refl _)))).trans (TEnt.fin [] (by decide) (by simp) rfl ⟨by simp [AV.ren, renL, RcC_ren], trivial⟩))) | (rw [getR_4 (by assumption) (by assumption) (by assumption) (by assumption)]; exact ((TEnt.put1 0 (x' := .tup [.agg (RcC rc0), .int 0, .int 14]) (by show Ent _ (.tup [.agg [.int 0, .int 0, .int 0, .int 0, .int 0, .int 0, .int 0, .int 0, .int 0, .v (.slice none 0 0)], .int 0, .int _]) _; exact Ent.tup (EntL.cons rc0_view (EntL.refl _)))).trans (TEnt.fin [] (by decide) (by simp) rfl ⟨by simp [AV.ren, renL, RcC_ren], trivial⟩))) | (rw [getR_5 (by assumption) (by assumption) (by assumption) (by assumption) (by simpa using hc)]; exact ((TEnt.put1 0 (x' := .tup [.agg (RcC rc0), .int 0, .int 15]) (by show Ent _ (.tup [.agg [.int 0, .int 0, .int 0, .int 0, .int 0, .int 0, .int 0, .int 0, .int 0, .v (.slice none 0 0)], .int 0, .int _]) _; exact Ent.tup (EntL.cons rc0_view (EntL.refl _)))).trans (TEnt.fin [] (by decide) (by simp) rfl ⟨by simp [AV.ren, renL, RcC_ren], trivial⟩))) | (rw [getR_6 (by assumption) (by assumption) (by assumption) (by assumption) (by assumption) (by simp_all)]; exact ((TEnt.put1 0 (x' := .tup [.agg (RcC rc0), .int 0, .int 13]) (by show Ent _ (.tup [.agg [.int 0, .int 0, .int 0, .int 0, .int 0, .int 0, .int 0, .int 0, .int 0, .v (.slice none 0 0)], .int 0, .int _]) _; exact Ent.tup (EntL.cons rc0_view (EntL.refl _)))).trans (TEnt.fin [] (by decide) (by simp) rfl ⟨by simp [AV.ren, renL, RcC_ren], trivial⟩))) | (rw [getR_7 (by assumption) (by assumption) (by assumption) (by assumption) (by assumption) (by simp_all)]; exact TEnt.fin [] (by decide) (by simp) rfl ⟨by show AV.ren (pos []) (.tup [.agg (RcC (xr (gP l))), .int _, .int _]) = _; simp [AV.ren, renL, RcC_ren], trivial⟩)
      · (try simp only [decide_eq_true_eq, decide_eq_false_iff_not, beq_iff_eq, beq_eq_false_iff_ne, bne_iff_ne, bne_eq_false_iff_eq, ne_eq, Bool.not_eq_true', Bool.not_eq_false'] at hc)
        have h3 : ¬ (gQ1 l).2.1 ≠ 0 := by simpa using hc
        refine T.skip ?_
        refine keepK hK9 [0, 1, 4, 8, 9] (by dsimp) (by dsimp) ?_
        refine T.seq fun K12 hK12 => ?_
        refine T.region ?_ -- region 9
        refine ro rfl rfl (OpOk.step (ok_move (.inl rfl))) ?_
        refine ro rfl rfl (OpOk.step (ok_add64 rfl ti_int rfl rfl (by omega) (by omega))) ?_
        refine ro rfl rfl (OpOk.step (ok_move (.inl rfl))) ?_
        refine ro rfl rfl (OpOk.step (ok_add64 rfl ti_int rfl rfl (by omega) (by omega))) ?_
        refine ro rfl rfl (OpOk.step (ok_sub64 rfl ti_int rfl rfl (by omega) (by omega))) ?_
        refine ro rfl rfl (OpOk.step (ok_move (.inl rfl))) ?_
        refine ro rfl rfl (OpOk.step ((ok_quo64 rfl ti_int rfl rfl (by omega) (by omega) (by omega)).eq (x' := .int (gM l k)) rfl rfl)) ?_
        refine ro rfl rfl (OpOk.step (ok_move (.inr rfl))) ?_
        refine ro_nil ?_
        refine keepK hK12 [0, 1, 4, 5, 8, 9] (by dsimp) (by dsimp) ?_
        refine T.seq fun K13 hK13 => ?_
        refine T.seq fun K14 hK14 => ?_
        refine T.region ?_ -- region 10
        refine ro rfl rfl (OpOk.step (ok_move (.inl rfl))) ?_
        refine ro rfl rfl (OpOk.step (ok_move (.inl rfl))) ?_
        refine ro rfl rfl (OpOk.step (ok_mul64 rfl ti_int rfl rfl (by omega) (by omega))) ?_
        refine ro rfl rfl (OpOk.step (ok_move (.inl rfl))) ?_
        refine ro rfl rfl (OpOk.step (ok_len' rfl rfl ti_Luint8 rfl (by first | exact ints_length _ _ | exact rowsA_length _ _ | rfl))) ?_
        refine ro rfl rfl (OpOk.step (ok_binOp rfl ti_int rfl)) ?_
        refine ro_nil ?_
        refine keepK hK14 [0, 1, 4, 5, 8, 9, 46] (by dsimp) (by dsimp) ?_
        refine T.cond rfl (fun hc => ?_) (fun hc => ?_) -- cond 4
        · (try simp only [decide_eq_true_eq, decide_eq_false_iff_not, beq_iff_eq, beq_eq_false_iff_ne, bne_iff_ne, bne_eq_false_iff_eq, ne_eq, Bool.not_eq_true', Bool.not_eq_false'] at hc)
          refine T.seq fun K15 hK15 => ?_
          refine T.region ?_ -- region 11
          refine ro rfl rfl (OpOk.step (ok_build rfl ti_api_Rec rfl)) ?_
          refine ro rfl rfl (OpOk.step (ok_store rfl ti_api_Rec (by decide) rfl rfl rfl rfl rfl (by first | exact Nat.le_of_ble_eq_true rfl | simp) (by first | exact .inl ⟨rfl, rfl⟩ | exact .inr rfl))) ?_
          refine ro rfl rfl (OpOk.step (ok_move (.inr rfl))) ?_
          refine ro rfl rfl (OpOk.step (ok_move (.inr rfl))) ?_
          refine ro_nil ?_
          refine keepK hK15 [4, 5, 6] (by dsimp) (by dsimp) ?_
          refine T.ret (hQ _ _ _ rfl ?_).1 -- ret 4
          exact by first | (rw [getR_1 (by assumption)]; exact ((TEnt.put1 0 (x' := .tup [.agg (RcC rc0), .int 0, .int 1]) (by show Ent _ (.tup [.agg [.int 0, .int 0, .int 0, .int 0, .int 0, .int 0, .int 0, .int 0, .int 0, .v (.slice none 0 0)], .int 0, .int _]) _; exact Ent.tup (EntL.cons rc0_view (EntL.refl _)))).trans (TEnt.fin [] (by decide) (by simp) rfl ⟨by simp [AV.ren, renL, RcC_ren], trivial⟩))) | (rw [getR_2 (by assumption) (by omega)]; exact ((TEnt.put1 0 (x' := .tup [.agg (RcC rc0), .int 0, .int 14]) (by show Ent _ (.tup [.agg [.int 0, .int 0, .int 0, .int 0, .int 0, .int 0, .int 0, .int 0, .int 0, .v (.slice none 0 0)], .int 0, .int _]) _; exact Ent.tup (EntL.cons rc0_view (EntL.refl _)))).trans (TEnt.fin [] (by decide) (by simp) rfl ⟨by simp [AV.ren, renL, RcC_ren], trivial⟩))) | (rw [getR_3 (by assumption) (by assumption) (by assumption)]; exact ((TEnt.put1 0 (x' := .tup [.agg (RcC rc0), .int 0, .int 13]) (by show Ent _ (.tup [.agg [.int 0, .int 0, .int 0, .int 0, .int 0, .int 0, .int 0, .int 0, .int 0, .v (.slice none 0 0)], .int 0, .int _]) _; exact Ent.tup (EntL.cons rc0_view (EntL.refl _)))).trans (TEnt.fin [] (by decide) (by simp) rfl ⟨by simp [AV.ren, renL, RcC_ren], trivial⟩))) | (rw [getR_4 (by assumption) (by assumption) (by assumption) (by assumption)]; exact ((TEnt.put1 0 (x' := .tup [.agg (RcC rc0), .int 0, .int 14]) (by show Ent _ (.tup [.agg [.int 0, .int 0, .int 0, .int 0, .int 0, .int 0, .int 0, .int 0, .int 0, .v (.slice none 0 0)], .int 0, .int _]) _; exact Ent.tup (EntL.cons rc0_view (EntL.refl _)))).trans (TEnt.fin [] (by decide) (by simp) rfl ⟨by simp [AV.ren, renL, RcC_ren], trivial⟩))) | (rw [getR_5 (by assumption) (by assumption) (by assumption) (by assumption) (by simpa using hc)]; exact ((TEnt.put1 0 (x' := .tup [.agg (RcC rc0), .int 0, .int 15]) (by show Ent _ (.tup [.agg [.int 0, .int 0, .int 0, .int 0, .int 0, .int 0, .int 0, .int 0, .int 0, .v (.slice none 0 0)], .int 0, .int _]) _; exact Ent.tup (EntL.cons rc0_view (EntL.refl _)))).trans (TEnt.fin [] (by decide) (by simp) rfl ⟨by simp [AV.ren, renL, RcC_ren], trivial⟩))) | (rw [getR_6 (by assumption) (by assumption) (by assumption) (by assumption) (by assumption) (by simp_all)]; exact ((TEnt.put1 0 (x' := .tup [.agg (RcC rc0), .int 0, .int 13]) (by show Ent _ (.tup [.agg [.int 0, .int 0, .int 0, .int 0, .int 0, .int 0, .int 0, .int 0, .int 0, .v (.slice none 0 0)], .int 0, .int _]) _; exact Ent.tup (EntL.cons rc0_view (EntL.refl _)))).trans (TEnt.fin [] (by decide) (by simp) rfl ⟨by simp [AV.ren, renL, RcC_ren], trivial⟩))) | (rw [getR_7 (by assumption) (by assumption) (by assumption) (by assumption) (by assumption) (by simp_all)]; exact TEnt.fin [] (by decide) (by simp) rfl ⟨by show AV.ren (pos []) (.tup [.agg (RcC (xr (gP l))), .int _, .int _]) = _; simp [AV.ren, renL, RcC_ren], trivial⟩)
        · (try simp only [decide_eq_true_eq, decide_eq_false_iff_not, beq_iff_eq, beq_eq_false_iff_ne, bne_iff_ne, bne_eq_false_iff_eq, ne_eq, Bool.not_eq_true', Bool.not_eq_false'] at hc)
          have h4 : ¬ gM l k * k > l.length := hc
          refine T.skip ?_
          refine keepK hK13 [0, 1, 4, 5, 8, 9] (by dsimp) (by dsimp) ?_
          refine T.seq fun K16 hK16 => ?_
          refine T.drawH mixed [] ?_ -- region 12
          refine any_take 0 rfl (by first | rfl | decide +kernel) rfl (HeldL.refl _) (fun H' hH => OpOk.step (ok_move (.inl rfl))) ?_
          refine any_take 1 rfl (by first | rfl | decide +kernel) rfl (HeldL.refl _) (fun H' hH => OpOk.step (ok_move (.inl rfl))) ?_
          refine any_take 2 rfl (by first | rfl | decide +kernel) rfl (HeldL.refl _) (fun H' hH => OpOk.step (ok_add64 rfl ti_int rfl rfl (by omega) (by omega))) ?_
          refine any_take 3 rfl (by first | rfl | decide +kernel) rfl (HeldL.refl _) (fun H' hH => OpOk.step ((ok_slice rfl ti_Luint8 (.inl ⟨_, _, rfl, ti_uint8, rfl⟩) (zl := some 16) (zh := some (16 + gN l)) rfl rfl rfl (r := .fz 1 (ints .u8 (gP l))) (sliceA_held hH (by
  have h1 : (16 : Int) ≤ 16 + gN l := by omega
  have h2 : 16 + gN l ≤ l.length := by omega
  have h3 : (16 : Int).toNat = 16 := rfl
  simp [sliceA, h1, h2, gP, ints, List.map_take, List.map_drop, h3]))))) ?_
          refine any_take 4 rfl (by first | rfl | decide +kernel) rfl (HeldL.refl _) (fun H' hH => OpOk.step (ok_move (.inl rfl))) ?_
          refine any_take 5 rfl (by first | rfl | decide +kernel) rfl (HeldL.refl _) (fun H' hH => OpOk.step (ok_move (.inl rfl))) ?_
          refine any_take 6 rfl (by first | rfl | decide +kernel) rfl (HeldL.refl _) (fun H' hH => OpOk.step (ok_add64 rfl ti_int rfl rfl (by omega) (by omega))) ?_
          refine any_take 7 rfl (by first | rfl | decide +kernel) rfl (HeldL.refl _) (fun H' hH => OpOk.step (ok_move (.inl rfl))) ?_
          refine any_take 8 rfl (by first | rfl | decide +kernel) rfl (HeldL.refl _) (fun H' hH => OpOk.step (ok_move (.inl rfl))) ?_
          refine any_take 9 rfl (by first | rfl | decide +kernel) rfl (HeldL.refl _) (fun H' hH => OpOk.step (ok_mul64 rfl ti_int rfl rfl (by omega) (by omega))) ?_
          refine any_take 10 rfl (by first | rfl | decide +kernel) rfl (HeldL.refl _) (fun H' hH => OpOk.step ((ok_slice rfl ti_Luint8 (.inl ⟨_, _, rfl, ti_uint8, rfl⟩) (zl := some (16 + gN l)) (zh := some (gM l k * k)) rfl rfl rfl (r := .fz 1 (ints .u8 (gT l k))) (sliceA_held hH (by
  have h0 : (0 : Int) ≤ 16 + gN l := by omega
  have h1 : 16 + gN l ≤ gM l k * k := by omega
  have h2 : gM l k * k ≤ l.length := by omega
  simp [sliceA, h0, h1, h2, gT, ints, List.map_take, List.map_drop]))))) ?_
          refine any_take 11 rfl (by first | rfl | decide +kernel) rfl (HeldL.refl _) (fun H' hH => OpOk.step (ok_move (.inr rfl))) ?_
          refine any_take 12 rfl (by first | rfl | decide +kernel) rfl (HeldL.refl _) (fun H' hH => OpOk.step (ok_move (.inr rfl))) ?_
          refine any_done rfl ?_
          refine keepK hK16 [4, 5, 9, 10, 11] (by dsimp) (by dsimp) ?_
          refine T.seq fun K17 hK17 => ?_
          refine T.seq fun K18 hK18 => ?_
          have hPl : (gP l).length ≤ l.length := by simp [gP]; omega
          have hTl : (gT l k).length ≤ l.length := by simp [gT]; omega
          have hPB : Bytes (gP l) := (hB.take _).drop _
          refine T.region ?_ -- region 13
          refine ro rfl rfl (OpOk.step (ok_move (.inl rfl))) ?_
          refine ro rfl rfl (OpOk.step (ok_move (.inl rfl))) ?_
          refine ro rfl rfl (ok_call rfl rfl rfl ((crcOf_ok hPB (by omega)).plain (by simp [renL, AV.ren, renL_ints]) rfl)) ?_
          refine ro rfl rfl (OpOk.step ((ok_conv_int rfl ti_uint32 ti_int rfl rfl).eq (x' := .int (crcV (gP l))) (by rw [wrap_crc]) rfl)) ?_
          refine ro rfl rfl (OpOk.step (ok_binOp rfl ti_int rfl)) ?_
          refine ro_nil ?_
          refine keepK hK18 [4, 5, 10, 11, 63] (by dsimp) (by dsimp) ?_
          refine T.cond rfl (fun hc => ?_) (fun hc => ?_) -- cond 5
          · (try simp only [decide_eq_true_eq, decide_eq_false_iff_not, beq_iff_eq, beq_eq_false_iff_ne, bne_iff_ne, bne_eq_false_iff_eq, ne_eq, Bool.not_eq_true', Bool.not_eq_false'] at hc)
            refine T.seq fun K19 hK19 => ?_
            refine T.region ?_ -- region 14
            refine ro rfl rfl (OpOk.step (ok_build rfl ti_api_Rec rfl)) ?_
            refine ro rfl rfl (OpOk.step (ok_store rfl ti_api_Rec (by decide) rfl rfl rfl rfl rfl (by first | exact Nat.le_of_ble_eq_true rfl | simp) (by first | exact .inl ⟨rfl, rfl⟩ | exact .inr rfl))) ?_
            refine ro rfl rfl (OpOk.step (ok_move (.inr rfl))) ?_
            refine ro rfl rfl (OpOk.step (ok_move (.inr rfl))) ?_
            refine ro_nil ?_
            refine keepK hK19 [4, 5, 6] (by dsimp) (by dsimp) ?_
            refine T.ret (hQ _ _ _ rfl ?_).1 -- ret 5
            exact by first | (rw [getR_1 (by assumption)]; exact ((TEnt.put1 0 (x' := .tup [.agg (RcC rc0), .int 0, .int 1]) (by show Ent _ (.tup [.agg [.int 0, .int 0, .int 0, .int 0, .int 0, .int 0, .int 0, .int 0, .int 0, .v (.slice none 0 0)], .int 0, .int _]) _; exact Ent.tup (EntL.cons rc0_view (EntL.refl _)))).trans (TEnt.fin [] (by decide) (by simp) rfl ⟨by simp [AV.ren, renL, RcC_ren], trivial⟩))) | (rw [getR_2 (by assumption) (by omega)]; exact ((TEnt.put1 0 (x' := .tup [.agg (RcC rc0), .int 0, .int 14]) (by show Ent _ (.tup [.agg [.int 0, .int 0, .int 0, .int 0, .int 0, .int 0, .int 0, .int 0, .int 0, .v (.slice none 0 0)], .int 0, .int _]) _; exact Ent.tup (EntL.cons rc0_view (EntL.refl _)))).trans (TEnt.fin [] (by decide) (by simp) rfl ⟨by simp [AV.ren, renL, RcC_ren], trivial⟩))) | (rw [getR_3 (by assumption) (by assumption) (by assumption)]; exact ((TEnt.put1 0 (x' := .tup [.agg (RcC rc0), .int 0, .int 13]) (by show Ent _ (.tup [.agg [.int 0, .int 0, .int 0, .int 0, .int 0, .int 0, .int 0, .int 0, .int 0, .v (.slice none 0 0)], .int 0, .int _]) _; exact Ent.tup (EntL.cons rc0_view (EntL.refl _)))).trans (TEnt.fin [] (by decide) (by simp) rfl ⟨by simp [AV.ren, renL, RcC_ren], trivial⟩))) | (rw [getR_4 (by assumption) (by assumption) (by assumption) (by assumption)]; exact ((TEnt.put1 0 (x' := .tup [.agg (RcC rc0), .int 0, .int 14]) (by show Ent _ (.tup [.agg [.int 0, .int 0, .int 0, .int 0, .int 0, .int 0, .int 0, .int 0, .int 0, .v (.slice none 0 0)], .int 0, .int _]) _; exact Ent.tup (EntL.cons rc0_view (EntL.refl _)))).trans (TEnt.fin [] (by decide) (by simp) rfl ⟨by simp [AV.ren, renL, RcC_ren], trivial⟩))) | (rw [getR_5 (by assumption) (by assumption) (by assumption) (by assumption) (by simpa using hc)]; exact ((TEnt.put1 0 (x' := .tup [.agg (RcC rc0), .int 0, .int 15]) (by show Ent _ (.tup [.agg [.int 0, .int 0, .int 0, .int 0, .int 0, .int 0, .int 0, .int 0, .int 0, .v (.slice none 0 0)], .int 0, .int _]) _; exact Ent.tup (EntL.cons rc0_view (EntL.refl _)))).trans (TEnt.fin [] (by decide) (by simp) rfl ⟨by simp [AV.ren, renL, RcC_ren], trivial⟩))) | (rw [getR_6 (by assumption) (by assumption) (by assumption) (by assumption) (by assumption) (by simp_all)]; exact ((TEnt.put1 0 (x' := .tup [.agg (RcC rc0), .int 0, .int 13]) (by show Ent _ (.tup [.agg [.int 0, .int 0, .int 0, .int 0, .int 0, .int 0, .int 0, .int 0, .int 0, .v (.slice none 0 0)], .int 0, .int _]) _; exact Ent.tup (EntL.cons rc0_view (EntL.refl _)))).trans (TEnt.fin [] (by decide) (by simp) rfl ⟨by simp [AV.ren, renL, RcC_ren], trivial⟩))) | (rw [getR_7 (by assumption) (by assumption) (by assumption) (by assumption) (by assumption) (by simp_all)]; exact TEnt.fin [] (by decide) (by simp) rfl ⟨by show AV.ren (pos []) (.tup [.agg (RcC (xr (gP l))), .int _, .int _]) = _; simp [AV.ren, renL, RcC_ren], trivial⟩)
          · (try simp only [decide_eq_true_eq, decide_eq_false_iff_not, beq_iff_eq, beq_eq_false_iff_ne, bne_iff_ne, bne_eq_false_iff_eq, ne_eq, Bool.not_eq_true', Bool.not_eq_false'] at hc)
            have h5 : ¬ (gQ1 l).2.2 ≠ crcV (gP l) := by simpa using hc
            refine T.skip ?_
            refine keepK hK17 [4, 5, 10, 11] (by dsimp) (by dsimp) ?_
            refine T.seq fun K20 hK20 => ?_
            refine T.region ?_ -- region 15
            refine ro rfl rfl (OpOk.step (ok_move (.inl rfl))) ?_
            refine ro rfl rfl (ok_call rfl rfl rfl ((parse_ok (gP l) hPB (by omega)).plain (by simp [renL, AV.ren, renL_ints]) (by simp [AV.ren, renL, RcC_ren]))) ?_
            refine ro rfl rfl (OpOk.step (ok_move (.inl rfl))) ?_
            refine ro rfl rfl (OpOk.step (ok_extract rfl rfl rfl)) ?_
            refine ro rfl rfl (OpOk.step (ok_extract rfl rfl rfl)) ?_
            refine ro rfl rfl (OpOk.step (ok_store rfl ti_api_Rec (by decide) rfl rfl rfl rfl rfl (by first | exact Nat.le_of_ble_eq_true rfl | simp) (by first | exact .inl ⟨rfl, rfl⟩ | exact .inr rfl))) ?_
            refine ro rfl rfl (OpOk.step (ok_move (.inr rfl))) ?_
            refine ro_nil ?_
            refine keepK hK20 [4, 5, 11, 12] (by dsimp) (by dsimp) ?_
            refine T.seq fun K21 hK21 => ?_
            refine T.seq fun K22 hK22 => ?_
            refine T.region ?_ -- region 16
            refine ro rfl rfl (OpOk.step (ok_move (.inl rfl))) ?_
            refine ro rfl rfl (OpOk.step (ok_unOp rfl rfl)) ?_
            refine ro_case rfl rfl (OpOk.step (ok_moveb (.inl rfl) rfl)) (fun hb => ?_) (fun hb => ?_)
            · (try simp only [decide_eq_true_eq, decide_eq_false_iff_not, beq_iff_eq, beq_eq_false_iff_ne, bne_iff_ne, bne_eq_false_iff_eq, ne_eq, Bool.not_eq_true', Bool.not_eq_false'] at hb)
              refine ro_skip rfl rfl ?_
              refine ro_skip rfl rfl ?_
              refine ro_skip rfl rfl ?_
              refine ro rfl rfl (OpOk.step (ok_pickb (t := true) (d := true) rfl rfl rfl)) ?_
              refine ro_nil ?_
              refine keepK hK22 [4, 5, 76] (by dsimp) (by dsimp) ?_
              refine T.cond_true rfl ?_
              refine T.seq fun K23 hK23 => ?_
              refine T.region ?_ -- region 17
              refine ro rfl rfl (OpOk.step (ok_build rfl ti_api_Rec rfl)) ?_
              refine ro rfl rfl (OpOk.step (ok_store rfl ti_api_Rec (by decide) rfl rfl rfl rfl rfl (by first | exact Nat.le_of_ble_eq_true rfl | simp) (by first | exact .inl ⟨rfl, rfl⟩ | exact .inr rfl))) ?_
              refine ro rfl rfl (OpOk.step (ok_move (.inr rfl))) ?_
              refine ro rfl rfl (OpOk.step (ok_move (.inr rfl))) ?_
              refine ro_nil ?_
              refine keepK hK23 [4, 5, 6] (by dsimp) (by dsimp) ?_
              refine T.ret (hQ _ _ _ rfl ?_).1 -- ret 6
              exact by first | (rw [getR_1 (by assumption)]; exact ((TEnt.put1 0 (x' := .tup [.agg (RcC rc0), .int 0, .int 1]) (by show Ent _ (.tup [.agg [.int 0, .int 0, .int 0, .int 0, .int 0, .int 0, .int 0, .int 0, .int 0, .v (.slice none 0 0)], .int 0, .int _]) _; exact Ent.tup (EntL.cons rc0_view (EntL.refl _)))).trans (TEnt.fin [] (by decide) (by simp) rfl ⟨by simp [AV.ren, renL, RcC_ren], trivial⟩))) | (rw [getR_2 (by assumption) (by omega)]; exact ((TEnt.put1 0 (x' := .tup [.agg (RcC rc0), .int 0, .int 14]) (by show Ent _ (.tup [.agg [.int 0, .int 0, .int 0, .int 0, .int 0, .int 0, .int 0, .int 0, .int 0, .v (.slice none 0 0)], .int 0, .int _]) _; exact Ent.tup (EntL.cons rc0_view (EntL.refl _)))).trans (TEnt.fin [] (by decide) (by simp) rfl ⟨by simp [AV.ren, renL, RcC_ren], trivial⟩))) | (rw [getR_3 (by assumption) (by assumption) (by assumption)]; exact ((TEnt.put1 0 (x' := .tup [.agg (RcC rc0), .int 0, .int 13]) (by show Ent _ (.tup [.agg [.int 0, .int 0, .int 0, .int 0, .int 0, .int 0, .int 0, .int 0, .int 0, .v (.slice none 0 0)], .int 0, .int _]) _; exact Ent.tup (EntL.cons rc0_view (EntL.refl _)))).trans (TEnt.fin [] (by decide) (by simp) rfl ⟨by simp [AV.ren, renL, RcC_ren], trivial⟩))) | (rw [getR_4 (by assumption) (by assumption) (by assumption) (by assumption)]; exact ((TEnt.put1 0 (x' := .tup [.agg (RcC rc0), .int 0, .int 14]) (by show Ent _ (.tup [.agg [.int 0, .int 0, .int 0, .int 0, .int 0, .int 0, .int 0, .int 0, .int 0, .v (.slice none 0 0)], .int 0, .int _]) _; exact Ent.tup (EntL.cons rc0_view (EntL.refl _)))).trans (TEnt.fin [] (by decide) (by simp) rfl ⟨by simp [AV.ren, renL, RcC_ren], trivial⟩))) | (rw [getR_5 (by assumption) (by assumption) (by assumption) (by assumption) (by simpa using hc)]; exact ((TEnt.put1 0 (x' := .tup [.agg (RcC rc0), .int 0, .int 15]) (by show Ent _ (.tup [.agg [.int 0, .int 0, .int 0, .int 0, .int 0, .int 0, .int 0, .int 0, .int 0, .v (.slice none 0 0)], .int 0, .int _]) _; exact Ent.tup (EntL.cons rc0_view (EntL.refl _)))).trans (TEnt.fin [] (by decide) (by simp) rfl ⟨by simp [AV.ren, renL, RcC_ren], trivial⟩))) | (rw [getR_6 (by assumption) (by assumption) (by assumption) (by assumption) (by assumption) (by simp_all)]; exact ((TEnt.put1 0 (x' := .tup [.agg (RcC rc0), .int 0, .int 13]) (by show Ent _ (.tup [.agg [.int 0, .int 0, .int 0, .int 0, .int 0, .int 0, .int 0, .int 0, .int 0, .v (.slice none 0 0)], .int 0, .int _]) _; exact Ent.tup (EntL.cons rc0_view (EntL.refl _)))).trans (TEnt.fin [] (by decide) (by simp) rfl ⟨by simp [AV.ren, renL, RcC_ren], trivial⟩))) | (rw [getR_7 (by assumption) (by assumption) (by assumption) (by assumption) (by assumption) (by simp_all)]; exact TEnt.fin [] (by decide) (by simp) rfl ⟨by show AV.ren (pos []) (.tup [.agg (RcC (xr (gP l))), .int _, .int _]) = _; simp [AV.ren, renL, RcC_ren], trivial⟩)
            · (try simp only [decide_eq_true_eq, decide_eq_false_iff_not, beq_iff_eq, beq_eq_false_iff_ne, bne_iff_ne, bne_eq_false_iff_eq, ne_eq, Bool.not_eq_true', Bool.not_eq_false'] at hb)
              refine ro rfl rfl (OpOk.step (ok_move (.inl rfl))) ?_
              refine ro rfl rfl (ok_call rfl rfl rfl ((zero_ok (gT l k) (by omega)).plain (by simp [renL, AV.ren, renL_ints]) rfl)) ?_
              refine ro rfl rfl (OpOk.step (ok_unOp rfl rfl)) ?_
              refine ro rfl rfl (OpOk.step (ok_pick rfl rfl)) ?_
              refine ro_nil ?_
              refine keepK hK22 [4, 5, 76] (by dsimp) (by dsimp) ?_
              refine T.cond rfl (fun hc => ?_) (fun hc => ?_) -- cond 6
              · (try simp only [decide_eq_true_eq, decide_eq_false_iff_not, beq_iff_eq, beq_eq_false_iff_ne, bne_iff_ne, bne_eq_false_iff_eq, ne_eq, Bool.not_eq_true', Bool.not_eq_false'] at hc)
                refine T.seq fun K24 hK24 => ?_
                refine T.region ?_ -- region 17
                refine ro rfl rfl (OpOk.step (ok_build rfl ti_api_Rec rfl)) ?_
                refine ro rfl rfl (OpOk.step (ok_store rfl ti_api_Rec (by decide) rfl rfl rfl rfl rfl (by first | exact Nat.le_of_ble_eq_true rfl | simp) (by first | exact .inl ⟨rfl, rfl⟩ | exact .inr rfl))) ?_
                refine ro rfl rfl (OpOk.step (ok_move (.inr rfl))) ?_
                refine ro rfl rfl (OpOk.step (ok_move (.inr rfl))) ?_
                refine ro_nil ?_
                refine keepK hK24 [4, 5, 6] (by dsimp) (by dsimp) ?_
                refine T.ret (hQ _ _ _ rfl ?_).1 -- ret 7
                exact by first | (rw [getR_1 (by assumption)]; exact ((TEnt.put1 0 (x' := .tup [.agg (RcC rc0), .int 0, .int 1]) (by show Ent _ (.tup [.agg [.int 0, .int 0, .int 0, .int 0, .int 0, .int 0, .int 0, .int 0, .int 0, .v (.slice none 0 0)], .int 0, .int _]) _; exact Ent.tup (EntL.cons rc0_view (EntL.refl _)))).trans (TEnt.fin [] (by decide) (by simp) rfl ⟨by simp [AV.ren, renL, RcC_ren], trivial⟩))) | (rw [getR_2 (by assumption) (by omega)]; exact ((TEnt.put1 0 (x' := .tup [.agg (RcC rc0), .int 0, .int 14]) (by show Ent _ (.tup [.agg [.int 0, .int 0, .int 0, .int 0, .int 0, .int 0, .int 0, .int 0, .int 0, .v (.slice none 0 0)], .int 0, .int _]) _; exact Ent.tup (EntL.cons rc0_view (EntL.refl _)))).trans (TEnt.fin [] (by decide) (by simp) rfl ⟨by simp [AV.ren, renL, RcC_ren], trivial⟩))) | (rw [getR_3 (by assumption) (by assumption) (by assumption)]; exact ((TEnt.put1 0 (x' := .tup [.agg (RcC rc0), .int 0, .int 13]) (by show Ent _ (.tup [.agg [.int 0, .int 0, .int 0, .int 0, .int 0, .int 0, .int 0, .int 0, .int 0, .v (.slice none 0 0)], .int 0, .int _]) _; exact Ent.tup (EntL.cons rc0_view (EntL.refl _)))).trans (TEnt.fin [] (by decide) (by simp) rfl ⟨by simp [AV.ren, renL, RcC_ren], trivial⟩))) | (rw [getR_4 (by assumption) (by assumption) (by assumption) (by assumption)]; exact ((TEnt.put1 0 (x' := .tup [.agg (RcC rc0), .int 0, .int 14]) (by show Ent _ (.tup [.agg [.int 0, .int 0, .int 0, .int 0, .int 0, .int 0, .int 0, .int 0, .int 0, .v (.slice none 0 0)], .int 0, .int _]) _; exact Ent.tup (EntL.cons rc0_view (EntL.refl _)))).trans (TEnt.fin [] (by decide) (by simp) rfl ⟨by simp [AV.ren, renL, RcC_ren], trivial⟩))) | (rw [getR_5 (by assumption) (by assumption) (by assumption) (by assumption) (by simpa using hc)]; exact ((TEnt.put1 0 (x' := .tup [.agg (RcC rc0), .int 0, .int 15]) (by show Ent _ (.tup [.agg [.int 0, .int 0, .int 0, .int 0, .int 0, .int 0, .int 0, .int 0, .int 0, .v (.slice none 0 0)], .int 0, .int _]) _; exact Ent.tup (EntL.cons rc0_view (EntL.refl _)))).trans (TEnt.fin [] (by decide) (by simp) rfl ⟨by simp [AV.ren, renL, RcC_ren], trivial⟩))) | (rw [getR_6 (by assumption) (by assumption) (by assumption) (by assumption) (by assumption) (by simp_all)]; exact ((TEnt.put1 0 (x' := .tup [.agg (RcC rc0), .int 0, .int 13]) (by show Ent _ (.tup [.agg [.int 0, .int 0, .int 0, .int 0, .int 0, .int 0, .int 0, .int 0, .int 0, .v (.slice none 0 0)], .int 0, .int _]) _; exact Ent.tup (EntL.cons rc0_view (EntL.refl _)))).trans (TEnt.fin [] (by decide) (by simp) rfl ⟨by simp [AV.ren, renL, RcC_ren], trivial⟩))) | (rw [getR_7 (by assumption) (by assumption) (by assumption) (by assumption) (by assumption) (by simp_all)]; exact TEnt.fin [] (by decide) (by simp) rfl ⟨by show AV.ren (pos []) (.tup [.agg (RcC (xr (gP l))), .int _, .int _]) = _; simp [AV.ren, renL, RcC_ren], trivial⟩)
              · (try simp only [decide_eq_true_eq, decide_eq_false_iff_not, beq_iff_eq, beq_eq_false_iff_ne, bne_iff_ne, bne_eq_false_iff_eq, ne_eq, Bool.not_eq_true', Bool.not_eq_false'] at hc)
                refine T.skip ?_
                refine keepK hK21 [4, 5] (by dsimp) (by dsimp) ?_
                refine T.seq fun K25 hK25 => ?_
                refine T.region ?_ -- region 18
                refine ro rfl rfl (OpOk.step (ok_load rfl ti_api_Rec rfl rfl)) ?_
                refine ro rfl rfl (OpOk.step (ok_move (.inl rfl))) ?_
                refine ro rfl rfl (OpOk.step (ok_store rfl ti_api_Rec (by decide) rfl rfl rfl rfl rfl (by first | exact Nat.le_of_ble_eq_true rfl | simp) (by first | exact .inl ⟨rfl, rfl⟩ | exact .inr rfl))) ?_
                refine ro rfl rfl (OpOk.step (ok_move (.inr rfl))) ?_
                refine ro rfl rfl (OpOk.step (ok_move (.inr rfl))) ?_
                refine ro_nil ?_
                refine keepK hK25 [4, 5, 6] (by dsimp) (by dsimp) ?_
                refine T.ret (hQ _ _ _ rfl ?_).1 -- ret 8
                exact by first | (rw [getR_1 (by assumption)]; exact ((TEnt.put1 0 (x' := .tup [.agg (RcC rc0), .int 0, .int 1]) (by show Ent _ (.tup [.agg [.int 0, .int 0, .int 0, .int 0, .int 0, .int 0, .int 0, .int 0, .int 0, .v (.slice none 0 0)], .int 0, .int _]) _; exact Ent.tup (EntL.cons rc0_view (EntL.refl _)))).trans (TEnt.fin [] (by decide) (by simp) rfl ⟨by simp [AV.ren, renL, RcC_ren], trivial⟩))) | (rw [getR_2 (by assumption) (by omega)]; exact ((TEnt.put1 0 (x' := .tup [.agg (RcC rc0), .int 0, .int 14]) (by show Ent _ (.tup [.agg [.int 0, .int 0, .int 0, .int 0, .int 0, .int 0, .int 0, .int 0, .int 0, .v (.slice none 0 0)], .int 0, .int _]) _; exact Ent.tup (EntL.cons rc0_view (EntL.refl _)))).trans (TEnt.fin [] (by decide) (by simp) rfl ⟨by simp [AV.ren, renL, RcC_ren], trivial⟩))) | (rw [getR_3 (by assumption) (by assumption) (by assumption)]; exact ((TEnt.put1 0 (x' := .tup [.agg (RcC rc0), .int 0, .int 13]) (by show Ent _ (.tup [.agg [.int 0, .int 0, .int 0, .int 0, .int 0, .int 0, .int 0, .int 0, .int 0, .v (.slice none 0 0)], .int 0, .int _]) _; exact Ent.tup (EntL.cons rc0_view (EntL.refl _)))).trans (TEnt.fin [] (by decide) (by simp) rfl ⟨by simp [AV.ren, renL, RcC_ren], trivial⟩))) | (rw [getR_4 (by assumption) (by assumption) (by assumption) (by assumption)]; exact ((TEnt.put1 0 (x' := .tup [.agg (RcC rc0), .int 0, .int 14]) (by show Ent _ (.tup [.agg [.int 0, .int 0, .int 0, .int 0, .int 0, .int 0, .int 0, .int 0, .int 0, .v (.slice none 0 0)], .int 0, .int _]) _; exact Ent.tup (EntL.cons rc0_view (EntL.refl _)))).trans (TEnt.fin [] (by decide) (by simp) rfl ⟨by simp [AV.ren, renL, RcC_ren], trivial⟩))) | (rw [getR_5 (by assumption) (by assumption) (by assumption) (by assumption) (by simpa using hc)]; exact ((TEnt.put1 0 (x' := .tup [.agg (RcC rc0), .int 0, .int 15]) (by show Ent _ (.tup [.agg [.int 0, .int 0, .int 0, .int 0, .int 0, .int 0, .int 0, .int 0, .int 0, .v (.slice none 0 0)], .int 0, .int _]) _; exact Ent.tup (EntL.cons rc0_view (EntL.refl _)))).trans (TEnt.fin [] (by decide) (by simp) rfl ⟨by simp [AV.ren, renL, RcC_ren], trivial⟩))) | (rw [getR_6 (by assumption) (by assumption) (by assumption) (by assumption) (by assumption) (by simp_all)]; exact ((TEnt.put1 0 (x' := .tup [.agg (RcC rc0), .int 0, .int 13]) (by show Ent _ (.tup [.agg [.int 0, .int 0, .int 0, .int 0, .int 0, .int 0, .int 0, .int 0, .int 0, .v (.slice none 0 0)], .int 0, .int _]) _; exact Ent.tup (EntL.cons rc0_view (EntL.refl _)))).trans (TEnt.fin [] (by decide) (by simp) rfl ⟨by simp [AV.ren, renL, RcC_ren], trivial⟩))) | (rw [getR_7 (by assumption) (by assumption) (by assumption) (by assumption) (by assumption) (by simp_all)]; exact TEnt.fin [] (by decide) (by simp) rfl ⟨by show AV.ren (pos []) (.tup [.agg (RcC (xr (gP l))), .int _, .int _]) = _; simp [AV.ren, renL, RcC_ren], trivial⟩)

end Go.Proofs.Yteonkbgfpocplaa.AmF
