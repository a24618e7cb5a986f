/- Walks over the abstract machine: scripts as bytes. -/
import Derived.Test.YtmegpanmiagheaaAm17
import Derived.Test.YtmegpanmiagheaaAfBase
namespace Go.Proofs.Ytmegpanmiagheaa.AmF
open Go Go.AM
set_option maxRecDepth 100000
set_option linter.unusedSimpArgs false
set_option linter.unusedVariables false
attribute [local simp] tkeep tget tput ev cav argsTM pickA normT putA splice AV.cells ints_length rowsA_length enc_len
/-- A step of a script. -/
structure Ac where
  kind : Int
  ck : Int
  cz : Int
  ca : Int
  cn : Int
  cd : List Int
  cf : Bool
  m : Int
  n : Int
  keep : List Int
def CmC (a : Ac) : List AV := [.int a.ck, .int a.cz, .int a.ca, .int a.cn, .fz 1 (ints .u8 a.cd), .b a.cf]
def AcC (a : Ac) : List AV := [.int a.kind, .int a.ck, .int a.cz, .int a.ca, .int a.cn, .fz 1 (ints .u8 a.cd), .b a.cf, .int a.m, .int a.n, .fz 1 (ints .u8 a.keep)]
def CmB (a : Ac) : Blk := ⟨6, true, [.agg (CmC a)]⟩
def AcB (a : Ac) : Blk := ⟨10, true, [.agg (AcC a)]⟩
theorem AcC_ren (ρ : Nat → Option Nat) (a : Ac) : renL ρ (AcC a) = AcC a := by simp [AcC, renL, AV.ren, renL_ints]
theorem CmC_ren (ρ : Nat → Option Nat) (a : Ac) : renL ρ (CmC a) = CmC a := by simp [CmC, renL, AV.ren, renL_ints]
theorem CmB_ren (ρ : Nat → Option Nat) (a : Ac) : Blk.ren ρ (CmB a) = CmB a := by simp [CmB, Blk.ren, renL, AV.ren, CmC_ren]
theorem AcB_ren (ρ : Nat → Option Nat) (a : Ac) : Blk.ren ρ (AcB a) = AcB a := by simp [AcB, Blk.ren, renL, AV.ren, AcC_ren]
def Acs (l : List Ac) : List AV := l.map fun a => .agg (AcC a)
theorem Acs_len (l : List Ac) : (Acs l).length = l.length := by simp [Acs]
theorem Acs_get {l : List Ac} {i : Nat} {a : Ac} (h : l[i]? = some a) : (Acs l)[i]? = some (.agg (AcC a)) := by simp [Acs, h]
theorem Acs_ren (ρ : Nat → Option Nat) (l : List Ac) : renL ρ (Acs l) = Acs l := by
  rw [renL_map]; simp [Acs, AV.ren, AcC_ren]
def Ac.nums (a : Ac) : List Int := [a.kind, a.m, a.n, a.ck, a.cz, a.ca, a.cn]
def farOk (x : Int) : Bool := decide (-1099511627776 ≤ x ∧ x ≤ 1099511627776)
/-- May it be? -/
def RA (a : Ac) : Prop := a.nums.all farOk = true ∧ a.keep.length ≤ 1048576 ∧ a.cd.length ≤ 1048576
instance (a : Ac) : Decidable (RA a) := by unfold RA; infer_instance
theorem csane_ok (L : List Int) (hl : L.length ≤ 140737488355328) : CSpec Try.prog 101 [] [.fz 1 (ints .i64 L)] [] (.b (L.all farOk)) := by
  refine CSpec.body Try.func101 rfl rfl rfl rfl rfl fun Q hQ => ?_
  refine T.seq fun K1 hK1 => ?_
  refine T.region ?_ -- region 0
  refine ro rfl rfl (OpOk.step (ok_moveb (c := false) (.inr rfl) rfl)) ?_
  refine ro_nil ?_
  refine keepK hK1 [0] (by dsimp) (by dsimp) ?_
  refine T.seq fun K2 hK2 => ?_
  refine T.seq fun K3 hK3 => ?_
  refine T.region ?_ -- region 1
  refine ro rfl rfl (OpOk.step (ok_move (.inl rfl))) ?_
  refine ro rfl rfl (OpOk.step (ok_len' rfl rfl ti_Lint rfl (by first | exact ints_length _ _ | exact rowsA_length _ _ | rfl))) ?_
  refine ro rfl rfl (OpOk.step (ok_move (.inl rfl))) ?_
  refine ro_nil ?_
  refine keepK hK3 [5, 6, 7] (by dsimp) (by dsimp) ?_
  refine T.block ?_
  refine T.loopI (ι := Nat) (fun i => i ≤ L.length ∧ (L.take i).all farOk = true) (fun i => L.length - i) (fun i => ([(5, .fz 1 (ints .i64 L)), (6, .int L.length), (7, .int i)], [])) 0 ⟨Nat.zero_le _, rfl⟩ (TEnt.toH rfl ⟨rfl, rfl, rfl, trivial⟩) (fun i hi => ?_) -- loop 1
  obtain ⟨hi, hall⟩ := hi
  refine T.seq fun K4 hK4 => ?_
  refine T.region ?_ -- region 2
  refine ro rfl rfl (OpOk.step (ok_binOp rfl ti_int rfl)) ?_
  refine ro_nil ?_
  refine keepK hK4 [5, 6, 7, 8] (by dsimp) (by dsimp) ?_
  refine T.seq fun K5 hK5 => ?_
  refine T.cond rfl (fun hc => ?_) (fun hc => ?_) -- cond 1
  · (try simp only [decide_eq_true_eq, decide_eq_false_iff_not, beq_iff_eq, beq_eq_false_iff_ne, bne_iff_ne, bne_eq_false_iff_eq, ne_eq, Bool.not_eq_true', Bool.not_eq_false'] at hc)
    obtain ⟨x, hx⟩ : ∃ x, L[i]? = some x := ⟨_, List.getElem?_eq_getElem (by omega)⟩
    have htk : L.take (i + 1) = L.take i ++ [x] := take_succ_get hx
    have hbad : farOk x = false → L.all farOk = false := by
      intro h
      have hm : x ∈ L := List.mem_of_getElem? hx
      rw [Bool.eq_false_iff]
      intro h2
      rw [List.all_eq_true.1 h2 x hm] at h
      cases h
    refine T.skip ?_
    refine keepK hK5 [5, 6, 7] (by dsimp) (by dsimp) ?_
    refine T.seq fun K6 hK6 => ?_
    refine T.block ?_
    refine T.seq fun K7 hK7 => ?_
    refine T.region ?_ -- region 3
    refine ro rfl rfl (OpOk.step (by exact ok_index_ints rfl ti_Lint rfl ti_int rfl rfl rfl (by omega) (by simpa using hx))) ?_
    refine ro rfl rfl (OpOk.step (ok_load rfl ti_int rfl rfl)) ?_
    refine ro rfl rfl (OpOk.step (ok_move (.inr rfl))) ?_
    refine ro_nil ?_
    refine keepK hK7 [4, 5, 6, 7] (by dsimp) (by dsimp) ?_
    refine T.seq fun K8 hK8 => ?_
    refine T.region ?_ -- region 4
    refine ro rfl rfl (OpOk.step (ok_move (.inl rfl))) ?_
    refine ro rfl rfl (OpOk.step (ok_binOp rfl ti_int rfl)) ?_
    refine ro_case rfl rfl (OpOk.step (ok_moveb (.inl rfl) rfl)) (fun hb => ?_) (fun hb => ?_)
    · (try simp only [decide_eq_true_eq, decide_eq_false_iff_not, beq_iff_eq, beq_eq_false_iff_ne, bne_iff_ne, bne_eq_false_iff_eq, ne_eq, Bool.not_eq_true', Bool.not_eq_false'] at hb)
      refine ro_skip rfl rfl ?_
      refine ro_skip rfl rfl ?_
      refine ro rfl rfl (OpOk.step (ok_pickb (t := true) (d := true) rfl rfl rfl)) ?_
      refine ro_nil ?_
      refine keepK hK8 [5, 6, 7, 16] (by dsimp) (by dsimp) ?_
      refine T.cond_true rfl ?_
      refine T.seq fun K9 hK9 => ?_
      refine T.region ?_ -- region 5
      refine ro rfl rfl (OpOk.step (ok_moveb (c := false) (.inr rfl) rfl)) ?_
      refine ro_nil ?_
      refine keepK hK9 [2] (by dsimp) (by dsimp) ?_
      refine T.ret (hQ _ _ _ rfl ?_).1 -- ret 1
      rw [hbad (by simp [farOk]; omega)]; exact TEnt.toH rfl ⟨rfl, trivial⟩
    · (try simp only [decide_eq_true_eq, decide_eq_false_iff_not, beq_iff_eq, beq_eq_false_iff_ne, bne_iff_ne, bne_eq_false_iff_eq, ne_eq, Bool.not_eq_true', Bool.not_eq_false'] at hb)
      refine ro rfl rfl (OpOk.step (ok_move (.inl rfl))) ?_
      refine ro rfl rfl (OpOk.step (ok_binOp rfl ti_int rfl)) ?_
      refine ro rfl rfl (OpOk.step (ok_pick rfl rfl)) ?_
      refine ro_nil ?_
      refine keepK hK8 [5, 6, 7, 16] (by dsimp) (by dsimp) ?_
      refine T.cond rfl (fun hc => ?_) (fun hc => ?_) -- cond 2
      · (try simp only [decide_eq_true_eq, decide_eq_false_iff_not, beq_iff_eq, beq_eq_false_iff_ne, bne_iff_ne, bne_eq_false_iff_eq, ne_eq, Bool.not_eq_true', Bool.not_eq_false'] at hc)
        refine T.seq fun K10 hK10 => ?_
        refine T.region ?_ -- region 5
        refine ro rfl rfl (OpOk.step (ok_moveb (c := false) (.inr rfl) rfl)) ?_
        refine ro_nil ?_
        refine keepK hK10 [2] (by dsimp) (by dsimp) ?_
        refine T.ret (hQ _ _ _ rfl ?_).1 -- ret 2
        rw [hbad (by simp [farOk]; omega)]; exact TEnt.toH rfl ⟨rfl, trivial⟩
      · (try simp only [decide_eq_true_eq, decide_eq_false_iff_not, beq_iff_eq, beq_eq_false_iff_ne, bne_iff_ne, bne_eq_false_iff_eq, ne_eq, Bool.not_eq_true', Bool.not_eq_false'] at hc)
        refine T.skip ?_
        refine keepK hK6 [5, 6, 7] (by dsimp) (by dsimp) ?_
        refine T.region ?_ -- region 6
        refine ro rfl rfl (OpOk.step (ok_add64 rfl ti_int rfl rfl (by omega) (by omega))) ?_
        refine ro rfl rfl (OpOk.step (ok_move (.inl rfl))) ?_
        refine ro_nil ?_
        exact ⟨i + 1, ⟨by omega, by rw [htk, List.all_append, hall]; simp [farOk]; omega⟩, by omega, TEnt.toH rfl ⟨rfl, rfl, rfl, trivial⟩⟩
  · (try simp only [decide_eq_true_eq, decide_eq_false_iff_not, beq_iff_eq, beq_eq_false_iff_ne, bne_iff_ne, bne_eq_false_iff_eq, ne_eq, Bool.not_eq_true', Bool.not_eq_false'] at hc)
    have hil : i = L.length := by omega
    subst hil
    rw [List.take_length] at hall
    rw [hall] at hQ
    refine T.exit ?_
    refine keepK hK2 [] (by dsimp) (by dsimp) ?_
    refine T.seq fun K11 hK11 => ?_
    refine T.region ?_ -- region 7
    refine ro rfl rfl (OpOk.step (ok_moveb (c := true) (.inr rfl) rfl)) ?_
    refine ro_nil ?_
    refine keepK hK11 [2] (by dsimp) (by dsimp) ?_
    refine T.ret (hQ _ _ _ rfl ?_).1 -- ret 3
    exact TEnt.toH rfl ⟨rfl, trivial⟩
theorem cright_ok (a : Ac) (hk : a.keep.length ≤ 140737488355328) (hd : a.cd.length ≤ 140737488355328) : CSpec Try.prog 44 [] [.agg (AcC a)] [] (.b (decide (RA a))) := by
  refine CSpec.body Try.func44 rfl rfl rfl rfl rfl fun Q hQ => ?_
  refine T.seq fun K1 hK1 => ?_
  refine T.region ?_ -- region 0
  refine ro rfl rfl (OpOk.step (ok_box (n := 10) rfl rfl (by decide))) ?_
  refine ro rfl rfl (OpOk.step (ok_moveb (c := false) (.inr rfl) rfl)) ?_
  refine ro_nil ?_
  refine keepK hK1 [1] (by dsimp) (by dsimp) ?_
  refine T.seq fun K2 hK2 => ?_
  refine T.region ?_ -- region 1
  refine ro rfl rfl (OpOk.step (ok_fieldAddr rfl ti_api_Act rfl rfl ti_api_Cmd (by decide) rfl)) ?_
  refine ro rfl rfl (OpOk.step (ok_load rfl ti_api_Cmd rfl rfl)) ?_
  refine ro rfl rfl (OpOk.step (ok_alloc rfl ti_api_Cmd rfl (by decide))) ?_
  refine ro rfl rfl (OpOk.step (ok_store rfl ti_api_Cmd (by decide) rfl rfl rfl rfl rfl (by first | exact Nat.le_of_ble_eq_true rfl | simp) (by first | exact .inl ⟨rfl, rfl⟩ | exact .inr rfl))) ?_
  refine ro_nil ?_
  refine keepK hK2 [1, 3] (by dsimp) (by dsimp) ?_
  refine T.seq fun K3 hK3 => ?_
  refine T.region ?_ -- region 2
  refine ro rfl rfl (OpOk.step (ok_fieldAddr rfl ti_api_Act rfl rfl ti_int (by decide) rfl)) ?_
  refine ro rfl rfl (OpOk.step (ok_load rfl ti_int rfl rfl)) ?_
  refine ro rfl rfl (OpOk.step (ok_fieldAddr rfl ti_api_Act rfl rfl ti_int (by decide) rfl)) ?_
  refine ro rfl rfl (OpOk.step (ok_load rfl ti_int rfl rfl)) ?_
  refine ro rfl rfl (OpOk.step (ok_fieldAddr rfl ti_api_Act rfl rfl ti_int (by decide) rfl)) ?_
  refine ro rfl rfl (OpOk.step (ok_load rfl ti_int rfl rfl)) ?_
  refine ro rfl rfl (OpOk.step (ok_fieldAddr rfl ti_api_Cmd rfl rfl ti_int (by decide) rfl)) ?_
  refine ro rfl rfl (OpOk.step (ok_load rfl ti_int rfl rfl)) ?_
  refine ro rfl rfl (OpOk.step (ok_fieldAddr rfl ti_api_Cmd rfl rfl ti_int (by decide) rfl)) ?_
  refine ro rfl rfl (OpOk.step (ok_load rfl ti_int rfl rfl)) ?_
  refine ro rfl rfl (OpOk.step (ok_fieldAddr rfl ti_api_Cmd rfl rfl ti_int (by decide) rfl)) ?_
  refine ro rfl rfl (OpOk.step (ok_load rfl ti_int rfl rfl)) ?_
  refine ro rfl rfl (OpOk.step (ok_fieldAddr rfl ti_api_Cmd rfl rfl ti_int (by decide) rfl)) ?_
  refine ro rfl rfl (OpOk.step (ok_load rfl ti_int rfl rfl)) ?_
  refine ro rfl rfl (OpOk.step (((ok_buildSlice (n := 7) (ps := #[(0, .tmp 7), (1, .tmp 9), (2, .tmp 11), (3, .tmp 13), (4, .tmp 15), (5, .tmp 17), (6, .tmp 19)]) rfl ti_Lint rfl ti_int (by decide) rfl rfl (by decide) rfl rfl rfl).frz rfl rfl).eq (x' := .fz 1 (ints .i64 a.nums)) (H'' := [some (AcB a), some (CmB a), some ⟨1, false, ints .i64 a.nums⟩]) rfl rfl)) ?_
  refine ro rfl rfl (ok_call rfl rfl rfl ((csane_ok a.nums (by simp [Ac.nums])).plain (by simp [renL, AV.ren, renL_ints]) rfl)) ?_
  refine ro_case rfl rfl (OpOk.step (ok_moveb (.inl rfl) rfl)) (fun hb => ?_) (fun hb => ?_)
  · (try simp only [decide_eq_true_eq, decide_eq_false_iff_not, beq_iff_eq, beq_eq_false_iff_ne, bne_iff_ne, bne_eq_false_iff_eq, ne_eq, Bool.not_eq_true', Bool.not_eq_false'] at hb)
    refine ro rfl rfl (OpOk.step (ok_fieldAddr rfl ti_api_Act rfl rfl ti_Luint8 (by decide) rfl)) ?_
    refine ro rfl rfl (OpOk.step (ok_load rfl ti_Luint8 rfl rfl)) ?_
    refine ro rfl rfl (OpOk.step (ok_len' rfl rfl ti_Luint8 rfl (by first | exact ints_length _ _ | exact rowsA_length _ _ | rfl))) ?_
    refine ro rfl rfl (OpOk.step (ok_binOp rfl ti_int rfl)) ?_
    refine ro rfl rfl (OpOk.step (ok_pick rfl rfl)) ?_
    refine ro_case rfl rfl (OpOk.step (ok_moveb (.inl rfl) rfl)) (fun hb => ?_) (fun hb => ?_)
    · (try simp only [decide_eq_true_eq, decide_eq_false_iff_not, beq_iff_eq, beq_eq_false_iff_ne, bne_iff_ne, bne_eq_false_iff_eq, ne_eq, Bool.not_eq_true', Bool.not_eq_false'] at hb)
      refine ro rfl rfl (OpOk.step (ok_fieldAddr rfl ti_api_Cmd rfl rfl ti_Luint8 (by decide) rfl)) ?_
      refine ro rfl rfl (OpOk.step (ok_load rfl ti_Luint8 rfl rfl)) ?_
      refine ro rfl rfl (OpOk.step (ok_len' rfl rfl ti_Luint8 rfl (by first | exact ints_length _ _ | exact rowsA_length _ _ | rfl))) ?_
      refine ro rfl rfl (OpOk.step (ok_binOp rfl ti_int rfl)) ?_
      refine ro rfl rfl (OpOk.step (ok_pick rfl rfl)) ?_
      refine ro rfl rfl (OpOk.step (ok_move (.inr rfl))) ?_
      refine ro_nil ?_
      refine keepK hK3 [2] (by dsimp) (by dsimp) ?_
      refine T.ret (hQ _ _ _ rfl ?_).1 -- ret 1
      exact by first | (rw [decide_eq_false (by unfold RA; rintro ⟨h1, h2, h3⟩; omega)]; exact TEnt.fin [] (by decide) (by simp) rfl ⟨rfl, trivial⟩) | (have e : decide (RA a) = decide ((a.cd.length : Int) ≤ 1048576) := decide_eq_decide.2 (by unfold RA; constructor <;> intro h <;> (try obtain ⟨h1, h2, h3⟩ := h) <;> (try refine ⟨by assumption, ?_, ?_⟩) <;> omega); rw [e]; exact TEnt.fin [] (by decide) (by simp) rfl ⟨rfl, trivial⟩) | (rw [decide_eq_false (by unfold RA; rintro ⟨h1, h2, h3⟩; simp_all <;> fail)]; exact TEnt.fin [] (by decide) (by simp) rfl ⟨rfl, trivial⟩)
    · (try simp only [decide_eq_true_eq, decide_eq_false_iff_not, beq_iff_eq, beq_eq_false_iff_ne, bne_iff_ne, bne_eq_false_iff_eq, ne_eq, Bool.not_eq_true', Bool.not_eq_false'] at hb)
      refine ro_skip rfl rfl ?_
      refine ro_skip rfl rfl ?_
      refine ro_skip rfl rfl ?_
      refine ro_skip rfl rfl ?_
      refine ro rfl rfl (OpOk.step (ok_pickb (t := false) (d := false) rfl rfl rfl)) ?_
      refine ro rfl rfl (OpOk.step (ok_moveb (c := false) (.inr rfl) rfl)) ?_
      refine ro_nil ?_
      refine keepK hK3 [2] (by dsimp) (by dsimp) ?_
      refine T.ret (hQ _ _ _ rfl ?_).1 -- ret 2
      exact by first | (rw [decide_eq_false (by unfold RA; rintro ⟨h1, h2, h3⟩; omega)]; exact TEnt.fin [] (by decide) (by simp) rfl ⟨rfl, trivial⟩) | (have e : decide (RA a) = decide ((a.cd.length : Int) ≤ 1048576) := decide_eq_decide.2 (by unfold RA; constructor <;> intro h <;> (try obtain ⟨h1, h2, h3⟩ := h) <;> (try refine ⟨by assumption, ?_, ?_⟩) <;> omega); rw [e]; exact TEnt.fin [] (by decide) (by simp) rfl ⟨rfl, trivial⟩) | (rw [decide_eq_false (by unfold RA; rintro ⟨h1, h2, h3⟩; simp_all <;> fail)]; exact TEnt.fin [] (by decide) (by simp) rfl ⟨rfl, trivial⟩)
  · (try simp only [decide_eq_true_eq, decide_eq_false_iff_not, beq_iff_eq, beq_eq_false_iff_ne, bne_iff_ne, bne_eq_false_iff_eq, ne_eq, Bool.not_eq_true', Bool.not_eq_false'] at hb)
    refine ro_skip rfl rfl ?_
    refine ro_skip rfl rfl ?_
    refine ro_skip rfl rfl ?_
    refine ro_skip rfl rfl ?_
    refine ro rfl rfl (OpOk.step (ok_pickb (t := false) (d := false) rfl rfl rfl)) ?_
    refine ro rfl rfl (OpOk.step (ok_moveb (c := false) (.inl rfl) rfl)) ?_
    refine ro_skip rfl rfl ?_
    refine ro_skip rfl rfl ?_
    refine ro_skip rfl rfl ?_
    refine ro_skip rfl rfl ?_
    refine ro rfl rfl (OpOk.step (ok_pickb (t := false) (d := false) rfl rfl rfl)) ?_
    refine ro rfl rfl (OpOk.step (ok_moveb (c := false) (.inr rfl) rfl)) ?_
    refine ro_nil ?_
    refine keepK hK3 [2] (by dsimp) (by dsimp) ?_
    refine T.ret (hQ _ _ _ rfl ?_).1 -- ret 3
    exact by first | (rw [decide_eq_false (by unfold RA; rintro ⟨h1, h2, h3⟩; omega)]; exact TEnt.fin [] (by decide) (by simp) rfl ⟨rfl, trivial⟩) | (have e : decide (RA a) = decide ((a.cd.length : Int) ≤ 1048576) := decide_eq_decide.2 (by unfold RA; constructor <;> intro h <;> (try obtain ⟨h1, h2, h3⟩ := h) <;> (try refine ⟨by assumption, ?_, ?_⟩) <;> omega); rw [e]; exact TEnt.fin [] (by decide) (by simp) rfl ⟨rfl, trivial⟩) | (rw [decide_eq_false (by unfold RA; rintro ⟨h1, h2, h3⟩; simp_all <;> fail)]; exact TEnt.fin [] (by decide) (by simp) rfl ⟨rfl, trivial⟩)
theorem far_ok (x : Int) : CSpec Try.prog 102 [] [.int x] [] (.b (!farOk x)) := by
  refine CSpec.body Try.func102 rfl rfl rfl rfl rfl fun Q hQ => ?_
  refine T.seq fun K1 hK1 => ?_
  refine T.region ?_ -- region 0
  refine ro rfl rfl (OpOk.step (ok_moveb (c := false) (.inr rfl) rfl)) ?_
  refine ro_nil ?_
  refine keepK hK1 [0] (by dsimp) (by dsimp) ?_
  refine T.seq fun K2 hK2 => ?_
  refine T.region ?_ -- region 1
  refine ro rfl rfl (OpOk.step (ok_move (.inl rfl))) ?_
  refine ro rfl rfl (OpOk.step (ok_binOp rfl ti_int rfl)) ?_
  refine ro_case rfl rfl (OpOk.step (ok_moveb (.inl rfl) rfl)) (fun hb => ?_) (fun hb => ?_)
  · (try simp only [decide_eq_true_eq, decide_eq_false_iff_not, beq_iff_eq, beq_eq_false_iff_ne, bne_iff_ne, bne_eq_false_iff_eq, ne_eq, Bool.not_eq_true', Bool.not_eq_false'] at hb)
    refine ro_skip rfl rfl ?_
    refine ro_skip rfl rfl ?_
    refine ro rfl rfl (OpOk.step (ok_pickb (t := true) (d := true) rfl rfl rfl)) ?_
    refine ro rfl rfl (OpOk.step (ok_moveb (c := true) (.inr rfl) rfl)) ?_
    refine ro_nil ?_
    refine keepK hK2 [2] (by dsimp) (by dsimp) ?_
    refine T.ret (hQ _ _ _ rfl ?_).1 -- ret 1
    exact by first | (have e : farOk x = false := (by simp [farOk]; omega); rw [e]; exact TEnt.toH rfl ⟨rfl, trivial⟩) | (have e : (!farOk x) = decide (x > 1099511627776) := (by unfold farOk; rw [← decide_not, decide_eq_decide]; omega); rw [e]; exact TEnt.toH rfl ⟨rfl, trivial⟩)
  · (try simp only [decide_eq_true_eq, decide_eq_false_iff_not, beq_iff_eq, beq_eq_false_iff_ne, bne_iff_ne, bne_eq_false_iff_eq, ne_eq, Bool.not_eq_true', Bool.not_eq_false'] at hb)
    refine ro rfl rfl (OpOk.step (ok_move (.inl rfl))) ?_
    refine ro rfl rfl (OpOk.step (ok_binOp rfl ti_int rfl)) ?_
    refine ro rfl rfl (OpOk.step (ok_pick rfl rfl)) ?_
    refine ro rfl rfl (OpOk.step (ok_move (.inr rfl))) ?_
    refine ro_nil ?_
    refine keepK hK2 [2] (by dsimp) (by dsimp) ?_
    refine T.ret (hQ _ _ _ rfl ?_).1 -- ret 2
    exact by first | (have e : farOk x = false := (by simp [farOk]; omega); rw [e]; exact TEnt.toH rfl ⟨rfl, trivial⟩) | (have e : (!farOk x) = decide (x > 1099511627776) := (by unfold farOk; rw [← decide_not, decide_eq_decide]; omega); rw [e]; exact TEnt.toH rfl ⟨rfl, trivial⟩)
theorem rcright_ok (a : Ac) (hk : a.keep.length ≤ 140737488355328) (hd : a.cd.length ≤ 140737488355328) : CSpec Try.prog 45 [] [.agg (AcC a)] [] (.b (decide (RA a))) := by
  refine CSpec.body Try.func45 rfl rfl rfl rfl rfl fun Q hQ => ?_
  refine T.seq fun K1 hK1 => ?_
  refine T.region ?_ -- region 0
  refine ro rfl rfl (OpOk.step (ok_box (n := 10) rfl rfl (by decide))) ?_
  refine ro rfl rfl (OpOk.step (ok_moveb (c := false) (.inr rfl) rfl)) ?_
  refine ro_nil ?_
  refine keepK hK1 [1] (by dsimp) (by dsimp) ?_
  refine T.seq fun K2 hK2 => ?_
  refine T.seq fun K3 hK3 => ?_
  refine T.region ?_ -- region 1
  refine ro rfl rfl (OpOk.step (ok_fieldAddr rfl ti_api_Act rfl rfl ti_int (by decide) rfl)) ?_
  refine ro rfl rfl (OpOk.step (ok_load rfl ti_int rfl rfl)) ?_
  refine ro rfl rfl (ok_call rfl rfl rfl ((far_ok a.kind).plain rfl rfl)) ?_
  refine ro_case rfl rfl (OpOk.step (ok_moveb (.inl rfl) rfl)) (fun hb => ?_) (fun hb => ?_)
  · (try simp only [decide_eq_true_eq, decide_eq_false_iff_not, beq_iff_eq, beq_eq_false_iff_ne, bne_iff_ne, bne_eq_false_iff_eq, ne_eq, Bool.not_eq_true', Bool.not_eq_false'] at hb)
    refine ro_skip rfl rfl ?_
    refine ro_skip rfl rfl ?_
    refine ro_skip rfl rfl ?_
    refine ro rfl rfl (OpOk.step (ok_pickb (t := true) (d := true) rfl rfl rfl)) ?_
    refine ro rfl rfl (OpOk.step (ok_moveb (c := true) (.inl rfl) rfl)) ?_
    refine ro_skip rfl rfl ?_
    refine ro_skip rfl rfl ?_
    refine ro_skip rfl rfl ?_
    refine ro rfl rfl (OpOk.step (ok_pickb (t := true) (d := true) rfl rfl rfl)) ?_
    refine ro rfl rfl (OpOk.step (ok_moveb (c := true) (.inl rfl) rfl)) ?_
    refine ro_skip rfl rfl ?_
    refine ro_skip rfl rfl ?_
    refine ro_skip rfl rfl ?_
    refine ro_skip rfl rfl ?_
    refine ro rfl rfl (OpOk.step (ok_pickb (t := true) (d := true) rfl rfl rfl)) ?_
    refine ro rfl rfl (OpOk.step (ok_moveb (c := true) (.inl rfl) rfl)) ?_
    refine ro_skip rfl rfl ?_
    refine ro_skip rfl rfl ?_
    refine ro_skip rfl rfl ?_
    refine ro_skip rfl rfl ?_
    refine ro rfl rfl (OpOk.step (ok_pickb (t := true) (d := true) rfl rfl rfl)) ?_
    refine ro rfl rfl (OpOk.step (ok_moveb (c := true) (.inl rfl) rfl)) ?_
    refine ro_skip rfl rfl ?_
    refine ro_skip rfl rfl ?_
    refine ro_skip rfl rfl ?_
    refine ro_skip rfl rfl ?_
    refine ro rfl rfl (OpOk.step (ok_pickb (t := true) (d := true) rfl rfl rfl)) ?_
    refine ro rfl rfl (OpOk.step (ok_moveb (c := true) (.inl rfl) rfl)) ?_
    refine ro_skip rfl rfl ?_
    refine ro_skip rfl rfl ?_
    refine ro_skip rfl rfl ?_
    refine ro_skip rfl rfl ?_
    refine ro rfl rfl (OpOk.step (ok_pickb (t := true) (d := true) rfl rfl rfl)) ?_
    refine ro_nil ?_
    refine keepK hK3 [1, 39] (by dsimp) (by dsimp) ?_
    refine T.cond_true rfl ?_
    refine T.seq fun K4 hK4 => ?_
    refine T.region ?_ -- region 2
    refine ro rfl rfl (OpOk.step (ok_moveb (c := false) (.inr rfl) rfl)) ?_
    refine ro_nil ?_
    refine keepK hK4 [2] (by dsimp) (by dsimp) ?_
    refine T.ret (hQ _ _ _ rfl ?_).1 -- ret 1
    exact by first | (rw [decide_eq_false (by unfold RA; rintro ⟨h1, h2, h3⟩; omega)]; exact TEnt.fin [] (by decide) (by simp) rfl ⟨rfl, trivial⟩) | (have e : decide (RA a) = decide ((a.cd.length : Int) ≤ 1048576) := decide_eq_decide.2 (by unfold RA; constructor <;> intro h <;> (try obtain ⟨h1, h2, h3⟩ := h) <;> (try refine ⟨by assumption, ?_, ?_⟩) <;> omega); rw [e]; exact TEnt.fin [] (by decide) (by simp) rfl ⟨rfl, trivial⟩) | (rw [decide_eq_false (by unfold RA Ac.nums; rintro ⟨h1, h2, h3⟩; simp_all <;> fail)]; exact TEnt.fin [] (by decide) (by simp) rfl ⟨rfl, trivial⟩)
  · (try simp only [decide_eq_true_eq, decide_eq_false_iff_not, beq_iff_eq, beq_eq_false_iff_ne, bne_iff_ne, bne_eq_false_iff_eq, ne_eq, Bool.not_eq_true', Bool.not_eq_false'] at hb)
    refine ro rfl rfl (OpOk.step (ok_fieldAddr rfl ti_api_Act rfl rfl ti_int (by decide) rfl)) ?_
    refine ro rfl rfl (OpOk.step (ok_load rfl ti_int rfl rfl)) ?_
    refine ro rfl rfl (ok_call rfl rfl rfl ((far_ok a.m).plain rfl rfl)) ?_
    refine ro rfl rfl (OpOk.step (ok_pick rfl rfl)) ?_
    refine ro_case rfl rfl (OpOk.step (ok_moveb (.inl rfl) rfl)) (fun hb => ?_) (fun hb => ?_)
    · (try simp only [decide_eq_true_eq, decide_eq_false_iff_not, beq_iff_eq, beq_eq_false_iff_ne, bne_iff_ne, bne_eq_false_iff_eq, ne_eq, Bool.not_eq_true', Bool.not_eq_false'] at hb)
      refine ro_skip rfl rfl ?_
      refine ro_skip rfl rfl ?_
      refine ro_skip rfl rfl ?_
      refine ro rfl rfl (OpOk.step (ok_pickb (t := true) (d := true) rfl rfl rfl)) ?_
      refine ro rfl rfl (OpOk.step (ok_moveb (c := true) (.inl rfl) rfl)) ?_
      refine ro_skip rfl rfl ?_
      refine ro_skip rfl rfl ?_
      refine ro_skip rfl rfl ?_
      refine ro_skip rfl rfl ?_
      refine ro rfl rfl (OpOk.step (ok_pickb (t := true) (d := true) rfl rfl rfl)) ?_
      refine ro rfl rfl (OpOk.step (ok_moveb (c := true) (.inl rfl) rfl)) ?_
      refine ro_skip rfl rfl ?_
      refine ro_skip rfl rfl ?_
      refine ro_skip rfl rfl ?_
      refine ro_skip rfl rfl ?_
      refine ro rfl rfl (OpOk.step (ok_pickb (t := true) (d := true) rfl rfl rfl)) ?_
      refine ro rfl rfl (OpOk.step (ok_moveb (c := true) (.inl rfl) rfl)) ?_
      refine ro_skip rfl rfl ?_
      refine ro_skip rfl rfl ?_
      refine ro_skip rfl rfl ?_
      refine ro_skip rfl rfl ?_
      refine ro rfl rfl (OpOk.step (ok_pickb (t := true) (d := true) rfl rfl rfl)) ?_
      refine ro rfl rfl (OpOk.step (ok_moveb (c := true) (.inl rfl) rfl)) ?_
      refine ro_skip rfl rfl ?_
      refine ro_skip rfl rfl ?_
      refine ro_skip rfl rfl ?_
      refine ro_skip rfl rfl ?_
      refine ro rfl rfl (OpOk.step (ok_pickb (t := true) (d := true) rfl rfl rfl)) ?_
      refine ro_nil ?_
      refine keepK hK3 [1, 39] (by dsimp) (by dsimp) ?_
      refine T.cond_true rfl ?_
      refine T.seq fun K5 hK5 => ?_
      refine T.region ?_ -- region 2
      refine ro rfl rfl (OpOk.step (ok_moveb (c := false) (.inr rfl) rfl)) ?_
      refine ro_nil ?_
      refine keepK hK5 [2] (by dsimp) (by dsimp) ?_
      refine T.ret (hQ _ _ _ rfl ?_).1 -- ret 2
      exact by first | (rw [decide_eq_false (by unfold RA; rintro ⟨h1, h2, h3⟩; omega)]; exact TEnt.fin [] (by decide) (by simp) rfl ⟨rfl, trivial⟩) | (have e : decide (RA a) = decide ((a.cd.length : Int) ≤ 1048576) := decide_eq_decide.2 (by unfold RA; constructor <;> intro h <;> (try obtain ⟨h1, h2, h3⟩ := h) <;> (try refine ⟨by assumption, ?_, ?_⟩) <;> omega); rw [e]; exact TEnt.fin [] (by decide) (by simp) rfl ⟨rfl, trivial⟩) | (rw [decide_eq_false (by unfold RA Ac.nums; rintro ⟨h1, h2, h3⟩; simp_all <;> fail)]; exact TEnt.fin [] (by decide) (by simp) rfl ⟨rfl, trivial⟩)
    · (try simp only [decide_eq_true_eq, decide_eq_false_iff_not, beq_iff_eq, beq_eq_false_iff_ne, bne_iff_ne, bne_eq_false_iff_eq, ne_eq, Bool.not_eq_true', Bool.not_eq_false'] at hb)
      refine ro rfl rfl (OpOk.step (ok_fieldAddr rfl ti_api_Act rfl rfl ti_int (by decide) rfl)) ?_
      refine ro rfl rfl (OpOk.step (ok_load rfl ti_int rfl rfl)) ?_
      refine ro rfl rfl (ok_call rfl rfl rfl ((far_ok a.n).plain rfl rfl)) ?_
      refine ro rfl rfl (OpOk.step (ok_pick rfl rfl)) ?_
      refine ro_case rfl rfl (OpOk.step (ok_moveb (.inl rfl) rfl)) (fun hb => ?_) (fun hb => ?_)
      · (try simp only [decide_eq_true_eq, decide_eq_false_iff_not, beq_iff_eq, beq_eq_false_iff_ne, bne_iff_ne, bne_eq_false_iff_eq, ne_eq, Bool.not_eq_true', Bool.not_eq_false'] at hb)
        refine ro_skip rfl rfl ?_
        refine ro_skip rfl rfl ?_
        refine ro_skip rfl rfl ?_
        refine ro_skip rfl rfl ?_
        refine ro rfl rfl (OpOk.step (ok_pickb (t := true) (d := true) rfl rfl rfl)) ?_
        refine ro rfl rfl (OpOk.step (ok_moveb (c := true) (.inl rfl) rfl)) ?_
        refine ro_skip rfl rfl ?_
        refine ro_skip rfl rfl ?_
        refine ro_skip rfl rfl ?_
        refine ro_skip rfl rfl ?_
        refine ro rfl rfl (OpOk.step (ok_pickb (t := true) (d := true) rfl rfl rfl)) ?_
        refine ro rfl rfl (OpOk.step (ok_moveb (c := true) (.inl rfl) rfl)) ?_
        refine ro_skip rfl rfl ?_
        refine ro_skip rfl rfl ?_
        refine ro_skip rfl rfl ?_
        refine ro_skip rfl rfl ?_
        refine ro rfl rfl (OpOk.step (ok_pickb (t := true) (d := true) rfl rfl rfl)) ?_
        refine ro rfl rfl (OpOk.step (ok_moveb (c := true) (.inl rfl) rfl)) ?_
        refine ro_skip rfl rfl ?_
        refine ro_skip rfl rfl ?_
        refine ro_skip rfl rfl ?_
        refine ro_skip rfl rfl ?_
        refine ro rfl rfl (OpOk.step (ok_pickb (t := true) (d := true) rfl rfl rfl)) ?_
        refine ro_nil ?_
        refine keepK hK3 [1, 39] (by dsimp) (by dsimp) ?_
        refine T.cond_true rfl ?_
        refine T.seq fun K6 hK6 => ?_
        refine T.region ?_ -- region 2
        refine ro rfl rfl (OpOk.step (ok_moveb (c := false) (.inr rfl) rfl)) ?_
        refine ro_nil ?_
        refine keepK hK6 [2] (by dsimp) (by dsimp) ?_
        refine T.ret (hQ _ _ _ rfl ?_).1 -- ret 3
        exact by first | (rw [decide_eq_false (by unfold RA; rintro ⟨h1, h2, h3⟩; omega)]; exact TEnt.fin [] (by decide) (by simp) rfl ⟨rfl, trivial⟩) | (have e : decide (RA a) = decide ((a.cd.length : Int) ≤ 1048576) := decide_eq_decide.2 (by unfold RA; constructor <;> intro h <;> (try obtain ⟨h1, h2, h3⟩ := h) <;> (try refine ⟨by assumption, ?_, ?_⟩) <;> omega); rw [e]; exact TEnt.fin [] (by decide) (by simp) rfl ⟨rfl, trivial⟩) | (rw [decide_eq_false (by unfold RA Ac.nums; rintro ⟨h1, h2, h3⟩; simp_all <;> fail)]; exact TEnt.fin [] (by decide) (by simp) rfl ⟨rfl, trivial⟩)
      · (try simp only [decide_eq_true_eq, decide_eq_false_iff_not, beq_iff_eq, beq_eq_false_iff_ne, bne_iff_ne, bne_eq_false_iff_eq, ne_eq, Bool.not_eq_true', Bool.not_eq_false'] at hb)
        refine ro rfl rfl (OpOk.step (ok_fieldAddr rfl ti_api_Act rfl rfl ti_api_Cmd (by decide) rfl)) ?_
        refine ro rfl rfl (OpOk.step (ok_fieldAddr rfl ti_api_Cmd rfl rfl ti_int (by decide) rfl)) ?_
        refine ro rfl rfl (OpOk.step (ok_load rfl ti_int rfl rfl)) ?_
        refine ro rfl rfl (ok_call rfl rfl rfl ((far_ok a.ck).plain rfl rfl)) ?_
        refine ro rfl rfl (OpOk.step (ok_pick rfl rfl)) ?_
        refine ro_case rfl rfl (OpOk.step (ok_moveb (.inl rfl) rfl)) (fun hb => ?_) (fun hb => ?_)
        · (try simp only [decide_eq_true_eq, decide_eq_false_iff_not, beq_iff_eq, beq_eq_false_iff_ne, bne_iff_ne, bne_eq_false_iff_eq, ne_eq, Bool.not_eq_true', Bool.not_eq_false'] at hb)
          refine ro_skip rfl rfl ?_
          refine ro_skip rfl rfl ?_
          refine ro_skip rfl rfl ?_
          refine ro_skip rfl rfl ?_
          refine ro rfl rfl (OpOk.step (ok_pickb (t := true) (d := true) rfl rfl rfl)) ?_
          refine ro rfl rfl (OpOk.step (ok_moveb (c := true) (.inl rfl) rfl)) ?_
          refine ro_skip rfl rfl ?_
          refine ro_skip rfl rfl ?_
          refine ro_skip rfl rfl ?_
          refine ro_skip rfl rfl ?_
          refine ro rfl rfl (OpOk.step (ok_pickb (t := true) (d := true) rfl rfl rfl)) ?_
          refine ro rfl rfl (OpOk.step (ok_moveb (c := true) (.inl rfl) rfl)) ?_
          refine ro_skip rfl rfl ?_
          refine ro_skip rfl rfl ?_
          refine ro_skip rfl rfl ?_
          refine ro_skip rfl rfl ?_
          refine ro rfl rfl (OpOk.step (ok_pickb (t := true) (d := true) rfl rfl rfl)) ?_
          refine ro_nil ?_
          refine keepK hK3 [1, 39] (by dsimp) (by dsimp) ?_
          refine T.cond_true rfl ?_
          refine T.seq fun K7 hK7 => ?_
          refine T.region ?_ -- region 2
          refine ro rfl rfl (OpOk.step (ok_moveb (c := false) (.inr rfl) rfl)) ?_
          refine ro_nil ?_
          refine keepK hK7 [2] (by dsimp) (by dsimp) ?_
          refine T.ret (hQ _ _ _ rfl ?_).1 -- ret 4
          exact by first | (rw [decide_eq_false (by unfold RA; rintro ⟨h1, h2, h3⟩; omega)]; exact TEnt.fin [] (by decide) (by simp) rfl ⟨rfl, trivial⟩) | (have e : decide (RA a) = decide ((a.cd.length : Int) ≤ 1048576) := decide_eq_decide.2 (by unfold RA; constructor <;> intro h <;> (try obtain ⟨h1, h2, h3⟩ := h) <;> (try refine ⟨by assumption, ?_, ?_⟩) <;> omega); rw [e]; exact TEnt.fin [] (by decide) (by simp) rfl ⟨rfl, trivial⟩) | (rw [decide_eq_false (by unfold RA Ac.nums; rintro ⟨h1, h2, h3⟩; simp_all <;> fail)]; exact TEnt.fin [] (by decide) (by simp) rfl ⟨rfl, trivial⟩)
        · (try simp only [decide_eq_true_eq, decide_eq_false_iff_not, beq_iff_eq, beq_eq_false_iff_ne, bne_iff_ne, bne_eq_false_iff_eq, ne_eq, Bool.not_eq_true', Bool.not_eq_false'] at hb)
          refine ro rfl rfl (OpOk.step (ok_fieldAddr rfl ti_api_Act rfl rfl ti_api_Cmd (by decide) rfl)) ?_
          refine ro rfl rfl (OpOk.step (ok_fieldAddr rfl ti_api_Cmd rfl rfl ti_int (by decide) rfl)) ?_
          refine ro rfl rfl (OpOk.step (ok_load rfl ti_int rfl rfl)) ?_
          refine ro rfl rfl (ok_call rfl rfl rfl ((far_ok a.cz).plain rfl rfl)) ?_
          refine ro rfl rfl (OpOk.step (ok_pick rfl rfl)) ?_
          refine ro_case rfl rfl (OpOk.step (ok_moveb (.inl rfl) rfl)) (fun hb => ?_) (fun hb => ?_)
          · (try simp only [decide_eq_true_eq, decide_eq_false_iff_not, beq_iff_eq, beq_eq_false_iff_ne, bne_iff_ne, bne_eq_false_iff_eq, ne_eq, Bool.not_eq_true', Bool.not_eq_false'] at hb)
            refine ro_skip rfl rfl ?_
            refine ro_skip rfl rfl ?_
            refine ro_skip rfl rfl ?_
            refine ro_skip rfl rfl ?_
            refine ro rfl rfl (OpOk.step (ok_pickb (t := true) (d := true) rfl rfl rfl)) ?_
            refine ro rfl rfl (OpOk.step (ok_moveb (c := true) (.inl rfl) rfl)) ?_
            refine ro_skip rfl rfl ?_
            refine ro_skip rfl rfl ?_
            refine ro_skip rfl rfl ?_
            refine ro_skip rfl rfl ?_
            refine ro rfl rfl (OpOk.step (ok_pickb (t := true) (d := true) rfl rfl rfl)) ?_
            refine ro_nil ?_
            refine keepK hK3 [1, 39] (by dsimp) (by dsimp) ?_
            refine T.cond_true rfl ?_
            refine T.seq fun K8 hK8 => ?_
            refine T.region ?_ -- region 2
            refine ro rfl rfl (OpOk.step (ok_moveb (c := false) (.inr rfl) rfl)) ?_
            refine ro_nil ?_
            refine keepK hK8 [2] (by dsimp) (by dsimp) ?_
            refine T.ret (hQ _ _ _ rfl ?_).1 -- ret 5
            exact by first | (rw [decide_eq_false (by unfold RA; rintro ⟨h1, h2, h3⟩; omega)]; exact TEnt.fin [] (by decide) (by simp) rfl ⟨rfl, trivial⟩) | (have e : decide (RA a) = decide ((a.cd.length : Int) ≤ 1048576) := decide_eq_decide.2 (by unfold RA; constructor <;> intro h <;> (try obtain ⟨h1, h2, h3⟩ := h) <;> (try refine ⟨by assumption, ?_, ?_⟩) <;> omega); rw [e]; exact TEnt.fin [] (by decide) (by simp) rfl ⟨rfl, trivial⟩) | (rw [decide_eq_false (by unfold RA Ac.nums; rintro ⟨h1, h2, h3⟩; simp_all <;> fail)]; exact TEnt.fin [] (by decide) (by simp) rfl ⟨rfl, trivial⟩)
          · (try simp only [decide_eq_true_eq, decide_eq_false_iff_not, beq_iff_eq, beq_eq_false_iff_ne, bne_iff_ne, bne_eq_false_iff_eq, ne_eq, Bool.not_eq_true', Bool.not_eq_false'] at hb)
            refine ro rfl rfl (OpOk.step (ok_fieldAddr rfl ti_api_Act rfl rfl ti_api_Cmd (by decide) rfl)) ?_
            refine ro rfl rfl (OpOk.step (ok_fieldAddr rfl ti_api_Cmd rfl rfl ti_int (by decide) rfl)) ?_
            refine ro rfl rfl (OpOk.step (ok_load rfl ti_int rfl rfl)) ?_
            refine ro rfl rfl (ok_call rfl rfl rfl ((far_ok a.ca).plain rfl rfl)) ?_
            refine ro rfl rfl (OpOk.step (ok_pick rfl rfl)) ?_
            refine ro_case rfl rfl (OpOk.step (ok_moveb (.inl rfl) rfl)) (fun hb => ?_) (fun hb => ?_)
            · (try simp only [decide_eq_true_eq, decide_eq_false_iff_not, beq_iff_eq, beq_eq_false_iff_ne, bne_iff_ne, bne_eq_false_iff_eq, ne_eq, Bool.not_eq_true', Bool.not_eq_false'] at hb)
              refine ro_skip rfl rfl ?_
              refine ro_skip rfl rfl ?_
              refine ro_skip rfl rfl ?_
              refine ro_skip rfl rfl ?_
              refine ro rfl rfl (OpOk.step (ok_pickb (t := true) (d := true) rfl rfl rfl)) ?_
              refine ro_nil ?_
              refine keepK hK3 [1, 39] (by dsimp) (by dsimp) ?_
              refine T.cond_true rfl ?_
              refine T.seq fun K9 hK9 => ?_
              refine T.region ?_ -- region 2
              refine ro rfl rfl (OpOk.step (ok_moveb (c := false) (.inr rfl) rfl)) ?_
              refine ro_nil ?_
              refine keepK hK9 [2] (by dsimp) (by dsimp) ?_
              refine T.ret (hQ _ _ _ rfl ?_).1 -- ret 6
              exact by first | (rw [decide_eq_false (by unfold RA; rintro ⟨h1, h2, h3⟩; omega)]; exact TEnt.fin [] (by decide) (by simp) rfl ⟨rfl, trivial⟩) | (have e : decide (RA a) = decide ((a.cd.length : Int) ≤ 1048576) := decide_eq_decide.2 (by unfold RA; constructor <;> intro h <;> (try obtain ⟨h1, h2, h3⟩ := h) <;> (try refine ⟨by assumption, ?_, ?_⟩) <;> omega); rw [e]; exact TEnt.fin [] (by decide) (by simp) rfl ⟨rfl, trivial⟩) | (rw [decide_eq_false (by unfold RA Ac.nums; rintro ⟨h1, h2, h3⟩; simp_all <;> fail)]; exact TEnt.fin [] (by decide) (by simp) rfl ⟨rfl, trivial⟩)
            · (try simp only [decide_eq_true_eq, decide_eq_false_iff_not, beq_iff_eq, beq_eq_false_iff_ne, bne_iff_ne, bne_eq_false_iff_eq, ne_eq, Bool.not_eq_true', Bool.not_eq_false'] at hb)
              refine ro rfl rfl (OpOk.step (ok_fieldAddr rfl ti_api_Act rfl rfl ti_api_Cmd (by decide) rfl)) ?_
              refine ro rfl rfl (OpOk.step (ok_fieldAddr rfl ti_api_Cmd rfl rfl ti_int (by decide) rfl)) ?_
              refine ro rfl rfl (OpOk.step (ok_load rfl ti_int rfl rfl)) ?_
              refine ro rfl rfl (ok_call rfl rfl rfl ((far_ok a.cn).plain rfl rfl)) ?_
              refine ro rfl rfl (OpOk.step (ok_pick rfl rfl)) ?_
              refine ro_nil ?_
              refine keepK hK3 [1, 39] (by dsimp) (by dsimp) ?_
              refine T.cond rfl (fun hc => ?_) (fun hc => ?_) -- cond 1
              · (try simp only [decide_eq_true_eq, decide_eq_false_iff_not, beq_iff_eq, beq_eq_false_iff_ne, bne_iff_ne, bne_eq_false_iff_eq, ne_eq, Bool.not_eq_true', Bool.not_eq_false'] at hc)
                refine T.seq fun K10 hK10 => ?_
                refine T.region ?_ -- region 2
                refine ro rfl rfl (OpOk.step (ok_moveb (c := false) (.inr rfl) rfl)) ?_
                refine ro_nil ?_
                refine keepK hK10 [2] (by dsimp) (by dsimp) ?_
                refine T.ret (hQ _ _ _ rfl ?_).1 -- ret 7
                exact by first | (rw [decide_eq_false (by unfold RA; rintro ⟨h1, h2, h3⟩; omega)]; exact TEnt.fin [] (by decide) (by simp) rfl ⟨rfl, trivial⟩) | (have e : decide (RA a) = decide ((a.cd.length : Int) ≤ 1048576) := decide_eq_decide.2 (by unfold RA; constructor <;> intro h <;> (try obtain ⟨h1, h2, h3⟩ := h) <;> (try refine ⟨by assumption, ?_, ?_⟩) <;> omega); rw [e]; exact TEnt.fin [] (by decide) (by simp) rfl ⟨rfl, trivial⟩) | (rw [decide_eq_false (by unfold RA Ac.nums; rintro ⟨h1, h2, h3⟩; simp_all <;> fail)]; exact TEnt.fin [] (by decide) (by simp) rfl ⟨rfl, trivial⟩)
              · (try simp only [decide_eq_true_eq, decide_eq_false_iff_not, beq_iff_eq, beq_eq_false_iff_ne, bne_iff_ne, bne_eq_false_iff_eq, ne_eq, Bool.not_eq_true', Bool.not_eq_false'] at hc)
                have hall : a.nums.all farOk = true := by simp_all [Ac.nums]
                refine T.skip ?_
                refine keepK hK2 [1] (by dsimp) (by dsimp) ?_
                refine T.seq fun K11 hK11 => ?_
                refine T.region ?_ -- region 3
                refine ro rfl rfl (OpOk.step (ok_fieldAddr rfl ti_api_Act rfl rfl ti_Luint8 (by decide) rfl)) ?_
                refine ro rfl rfl (OpOk.step (ok_load rfl ti_Luint8 rfl rfl)) ?_
                refine ro rfl rfl (OpOk.step (ok_len' rfl rfl ti_Luint8 rfl (by first | exact ints_length _ _ | exact rowsA_length _ _ | rfl))) ?_
                refine ro rfl rfl (OpOk.step (ok_binOp rfl ti_int rfl)) ?_
                refine ro_case rfl rfl (OpOk.step (ok_moveb (.inl rfl) rfl)) (fun hb => ?_) (fun hb => ?_)
                · (try simp only [decide_eq_true_eq, decide_eq_false_iff_not, beq_iff_eq, beq_eq_false_iff_ne, bne_iff_ne, bne_eq_false_iff_eq, ne_eq, Bool.not_eq_true', Bool.not_eq_false'] at hb)
                  refine ro rfl rfl (OpOk.step (ok_fieldAddr rfl ti_api_Act rfl rfl ti_api_Cmd (by decide) rfl)) ?_
                  refine ro rfl rfl (OpOk.step (ok_fieldAddr rfl ti_api_Cmd rfl rfl ti_Luint8 (by decide) rfl)) ?_
                  refine ro rfl rfl (OpOk.step (ok_load rfl ti_Luint8 rfl rfl)) ?_
                  refine ro rfl rfl (OpOk.step (ok_len' rfl rfl ti_Luint8 rfl (by first | exact ints_length _ _ | exact rowsA_length _ _ | rfl))) ?_
                  refine ro rfl rfl (OpOk.step (ok_binOp rfl ti_int rfl)) ?_
                  refine ro rfl rfl (OpOk.step (ok_pick rfl rfl)) ?_
                  refine ro rfl rfl (OpOk.step (ok_move (.inr rfl))) ?_
                  refine ro_nil ?_
                  refine keepK hK11 [2] (by dsimp) (by dsimp) ?_
                  refine T.ret (hQ _ _ _ rfl ?_).1 -- ret 8
                  exact by first | (rw [decide_eq_false (by unfold RA; rintro ⟨h1, h2, h3⟩; omega)]; exact TEnt.fin [] (by decide) (by simp) rfl ⟨rfl, trivial⟩) | (have e : decide (RA a) = decide ((a.cd.length : Int) ≤ 1048576) := decide_eq_decide.2 (by unfold RA; constructor <;> intro h <;> (try obtain ⟨h1, h2, h3⟩ := h) <;> (try refine ⟨by assumption, ?_, ?_⟩) <;> omega); rw [e]; exact TEnt.fin [] (by decide) (by simp) rfl ⟨rfl, trivial⟩) | (rw [decide_eq_false (by unfold RA Ac.nums; rintro ⟨h1, h2, h3⟩; simp_all <;> fail)]; exact TEnt.fin [] (by decide) (by simp) rfl ⟨rfl, trivial⟩)
                · (try simp only [decide_eq_true_eq, decide_eq_false_iff_not, beq_iff_eq, beq_eq_false_iff_ne, bne_iff_ne, bne_eq_false_iff_eq, ne_eq, Bool.not_eq_true', Bool.not_eq_false'] at hb)
                  refine ro_skip rfl rfl ?_
                  refine ro_skip rfl rfl ?_
                  refine ro_skip rfl rfl ?_
                  refine ro_skip rfl rfl ?_
                  refine ro_skip rfl rfl ?_
                  refine ro rfl rfl (OpOk.step (ok_pickb (t := false) (d := false) rfl rfl rfl)) ?_
                  refine ro rfl rfl (OpOk.step (ok_moveb (c := false) (.inr rfl) rfl)) ?_
                  refine ro_nil ?_
                  refine keepK hK11 [2] (by dsimp) (by dsimp) ?_
                  refine T.ret (hQ _ _ _ rfl ?_).1 -- ret 9
                  exact by first | (rw [decide_eq_false (by unfold RA; rintro ⟨h1, h2, h3⟩; omega)]; exact TEnt.fin [] (by decide) (by simp) rfl ⟨rfl, trivial⟩) | (have e : decide (RA a) = decide ((a.cd.length : Int) ≤ 1048576) := decide_eq_decide.2 (by unfold RA; constructor <;> intro h <;> (try obtain ⟨h1, h2, h3⟩ := h) <;> (try refine ⟨by assumption, ?_, ?_⟩) <;> omega); rw [e]; exact TEnt.fin [] (by decide) (by simp) rfl ⟨rfl, trivial⟩) | (rw [decide_eq_false (by unfold RA Ac.nums; rintro ⟨h1, h2, h3⟩; simp_all <;> fail)]; exact TEnt.fin [] (by decide) (by simp) rfl ⟨rfl, trivial⟩)
/-- The same step? -/
def SA (a b : Ac) : Prop := a.kind = b.kind ∧ a.m = b.m ∧ a.n = b.n ∧ strEq a.keep b.keep = true ∧ a.ck = b.ck ∧ a.cz = b.cz ∧ a.ca = b.ca ∧ a.cn = b.cn ∧ a.cf = b.cf ∧ strEq a.cd b.cd = true
instance (a b : Ac) : Decidable (SA a b) := by unfold SA; infer_instance
theorem SA_refl (a : Ac) : SA a a := by simp [SA, strEq_refl]
set_option maxHeartbeats 1000000 in
theorem csame_ok (a b : Ac) : CSpec Try.prog 46 [] [.agg (AcC a), .agg (AcC b)] [] (.b (decide (SA a b))) := by
  refine CSpec.body Try.func46 rfl rfl rfl rfl rfl fun Q hQ => ?_
  refine T.seq fun K1 hK1 => ?_
  refine T.region ?_ -- region 0
  refine ro rfl rfl (OpOk.step (ok_box (n := 10) rfl rfl (by decide))) ?_
  refine ro rfl rfl (OpOk.step (ok_box (n := 10) rfl rfl (by decide))) ?_
  refine ro rfl rfl (OpOk.step (ok_moveb (c := false) (.inr rfl) rfl)) ?_
  refine ro_nil ?_
  refine keepK hK1 [2, 3] (by dsimp) (by dsimp) ?_
  refine T.seq fun K2 hK2 => ?_
  refine T.join hK2 [(2, .ref 0 0 0), (3, .ref 1 0 0), (5, .ref 2 0 0), (6, .ref 3 0 0)] [some (AcB a), some (AcB b), some (CmB a), some (CmB b)] (fun hJ3 => ?_) ?_
  ·
    refine T.draw mixed (SH [] (HeldL ([some (AcB a), some (AcB b)]))) ?_ -- region 1
    refine any_take 0 rfl (by first | rfl | decide +kernel) rfl (by first | (simp [HeldL]; done) | (simp only [HeldL, List.map_cons, List.map_nil, List.cons_append, List.nil_append, List.set_cons_zero, List.set_cons_succ]; (repeat' first | trivial | rfl | constructor))) (fun H' hH => OpOk.step (ok_fieldAddr rfl ti_api_Act rfl rfl ti_api_Cmd (by decide) rfl)) ?_
    refine any_take 1 rfl (by first | rfl | decide +kernel) rfl (by first | (simp [HeldL]; done) | (simp only [HeldL, List.map_cons, List.map_nil, List.cons_append, List.nil_append, List.set_cons_zero, List.set_cons_succ]; (repeat' first | trivial | rfl | constructor))) (fun H' hH => OpOk.step (ok_load rfl ti_api_Cmd (locA_held hH rfl) rfl)) ?_
    refine any_take 2 rfl (by first | rfl | decide +kernel) rfl (by first | (simp [HeldL]; done) | (simp only [HeldL, List.map_cons, List.map_nil, List.cons_append, List.nil_append, List.set_cons_zero, List.set_cons_succ]; (repeat' first | trivial | rfl | constructor))) (fun H' hH => OpOk.step (ok_fieldAddr rfl ti_api_Act rfl rfl ti_api_Cmd (by decide) rfl)) ?_
    refine any_take 3 rfl (by first | rfl | decide +kernel) rfl (by first | (simp [HeldL]; done) | (simp only [HeldL, List.map_cons, List.map_nil, List.cons_append, List.nil_append, List.set_cons_zero, List.set_cons_succ]; (repeat' first | trivial | rfl | constructor))) (fun H' hH => OpOk.step (ok_load rfl ti_api_Cmd (locA_held hH rfl) rfl)) ?_
    refine any_many [4, 5] (by first | rfl | decide +kernel) (by decide) (fun k hk => ?_)
    simp only [List.mem_cons, List.not_mem_nil, or_false] at hk
    rcases hk with rfl | rfl
    ·
      refine step_one rfl rfl rfl (OpOk.step (ok_alloc rfl ti_api_Cmd rfl (by decide))) (.inr (by first | (simp [HeldL]; done) | (simp only [HeldL, List.map_cons, List.map_nil, List.cons_append, List.nil_append, List.set_cons_zero, List.set_cons_succ]; (repeat' first | trivial | rfl | constructor)))) ?_
      refine any_one 5 rfl (by first | rfl | decide +kernel) rfl rfl (OpOk.step (ok_alloc rfl ti_api_Cmd rfl (by decide))) (.inr (by first | (simp [HeldL]; done) | (simp only [HeldL, List.map_cons, List.map_nil, List.cons_append, List.nil_append, List.set_cons_zero, List.set_cons_succ]; (repeat' first | trivial | rfl | constructor)))) ?_
      refine any_one 6 rfl (by first | rfl | decide +kernel) rfl rfl (OpOk.step (ok_store rfl ti_api_Cmd (by decide) rfl rfl rfl rfl rfl (by first | exact Nat.le_of_ble_eq_true rfl | simp) (by first | exact .inl ⟨rfl, rfl⟩ | exact .inr rfl))) (.inr (by first | (simp [HeldL]; done) | (simp only [HeldL, List.map_cons, List.map_nil, List.cons_append, List.nil_append, List.set_cons_zero, List.set_cons_succ]; (repeat' first | trivial | rfl | constructor)))) ?_
      refine any_one 7 rfl (by first | rfl | decide +kernel) rfl rfl (OpOk.step (ok_store rfl ti_api_Cmd (by decide) rfl rfl rfl rfl rfl (by first | exact Nat.le_of_ble_eq_true rfl | simp) (by first | exact .inl ⟨rfl, rfl⟩ | exact .inr rfl))) (.inr (by first | (simp [HeldL]; done) | (simp only [HeldL, List.map_cons, List.map_nil, List.cons_append, List.nil_append, List.set_cons_zero, List.set_cons_succ]; (repeat' first | trivial | rfl | constructor)))) ?_
      refine any_done rfl ?_
      first | exact hJ3 _ _ (TEnt.toH rfl ⟨rfl, rfl, rfl, rfl, trivial⟩) | exact hJ3 _ _ (TEnt.fin [0, 1, 3, 2] (by decide) (by simp) (by show normH [0, 1, 3, 2] [some (AcB a), some (AcB b), some (CmB b), some (CmB a)] = _; simp [normH, hget, AcB_ren, CmB_ren]) ⟨rfl, rfl, rfl, rfl, trivial⟩)
    ·
      refine step_one rfl rfl rfl (OpOk.step (ok_alloc rfl ti_api_Cmd rfl (by decide))) (.inr (by first | (simp [HeldL]; done) | (simp only [HeldL, List.map_cons, List.map_nil, List.cons_append, List.nil_append, List.set_cons_zero, List.set_cons_succ]; (repeat' first | trivial | rfl | constructor)))) ?_
      refine any_one 4 rfl (by first | rfl | decide +kernel) rfl rfl (OpOk.step (ok_alloc rfl ti_api_Cmd rfl (by decide))) (.inr (by first | (simp [HeldL]; done) | (simp only [HeldL, List.map_cons, List.map_nil, List.cons_append, List.nil_append, List.set_cons_zero, List.set_cons_succ]; (repeat' first | trivial | rfl | constructor)))) ?_
      refine any_one 6 rfl (by first | rfl | decide +kernel) rfl rfl (OpOk.step (ok_store rfl ti_api_Cmd (by decide) rfl rfl rfl rfl rfl (by first | exact Nat.le_of_ble_eq_true rfl | simp) (by first | exact .inl ⟨rfl, rfl⟩ | exact .inr rfl))) (.inr (by first | (simp [HeldL]; done) | (simp only [HeldL, List.map_cons, List.map_nil, List.cons_append, List.nil_append, List.set_cons_zero, List.set_cons_succ]; (repeat' first | trivial | rfl | constructor)))) ?_
      refine any_one 7 rfl (by first | rfl | decide +kernel) rfl rfl (OpOk.step (ok_store rfl ti_api_Cmd (by decide) rfl rfl rfl rfl rfl (by first | exact Nat.le_of_ble_eq_true rfl | simp) (by first | exact .inl ⟨rfl, rfl⟩ | exact .inr rfl))) (.inr (by first | (simp [HeldL]; done) | (simp only [HeldL, List.map_cons, List.map_nil, List.cons_append, List.nil_append, List.set_cons_zero, List.set_cons_succ]; (repeat' first | trivial | rfl | constructor)))) ?_
      refine any_done rfl ?_
      first | exact hJ3 _ _ (TEnt.toH rfl ⟨rfl, rfl, rfl, rfl, trivial⟩) | exact hJ3 _ _ (TEnt.fin [0, 1, 3, 2] (by decide) (by simp) (by show normH [0, 1, 3, 2] [some (AcB a), some (AcB b), some (CmB b), some (CmB a)] = _; simp [normH, hget, AcB_ren, CmB_ren]) ⟨rfl, rfl, rfl, rfl, trivial⟩)
  refine T.seq fun K4 hK4 => ?_
  refine T.region ?_ -- region 2
  refine ro rfl rfl (OpOk.step (ok_fieldAddr rfl ti_api_Act rfl rfl ti_int (by decide) rfl)) ?_
  refine ro rfl rfl (OpOk.step (ok_load rfl ti_int rfl rfl)) ?_
  refine ro rfl rfl (OpOk.step (ok_fieldAddr rfl ti_api_Act rfl rfl ti_int (by decide) rfl)) ?_
  refine ro rfl rfl (OpOk.step (ok_load rfl ti_int rfl rfl)) ?_
  refine ro rfl rfl (OpOk.step (ok_binOp rfl ti_int rfl)) ?_
  refine ro_case rfl rfl (OpOk.step (ok_moveb (.inl rfl) rfl)) (fun hb => ?_) (fun hb => ?_)
  · (try simp only [decide_eq_true_eq, decide_eq_false_iff_not, beq_iff_eq, beq_eq_false_iff_ne, bne_iff_ne, bne_eq_false_iff_eq, ne_eq, Bool.not_eq_true', Bool.not_eq_false'] at hb)
    refine ro rfl rfl (OpOk.step (ok_fieldAddr rfl ti_api_Act rfl rfl ti_int (by decide) rfl)) ?_
    refine ro rfl rfl (OpOk.step (ok_load rfl ti_int rfl rfl)) ?_
    refine ro rfl rfl (OpOk.step (ok_fieldAddr rfl ti_api_Act rfl rfl ti_int (by decide) rfl)) ?_
    refine ro rfl rfl (OpOk.step (ok_load rfl ti_int rfl rfl)) ?_
    refine ro rfl rfl (OpOk.step (ok_binOp rfl ti_int rfl)) ?_
    refine ro rfl rfl (OpOk.step (ok_pick rfl rfl)) ?_
    refine ro_case rfl rfl (OpOk.step (ok_moveb (.inl rfl) rfl)) (fun hb => ?_) (fun hb => ?_)
    · (try simp only [decide_eq_true_eq, decide_eq_false_iff_not, beq_iff_eq, beq_eq_false_iff_ne, bne_iff_ne, bne_eq_false_iff_eq, ne_eq, Bool.not_eq_true', Bool.not_eq_false'] at hb)
      refine ro rfl rfl (OpOk.step (ok_fieldAddr rfl ti_api_Act rfl rfl ti_int (by decide) rfl)) ?_
      refine ro rfl rfl (OpOk.step (ok_load rfl ti_int rfl rfl)) ?_
      refine ro rfl rfl (OpOk.step (ok_fieldAddr rfl ti_api_Act rfl rfl ti_int (by decide) rfl)) ?_
      refine ro rfl rfl (OpOk.step (ok_load rfl ti_int rfl rfl)) ?_
      refine ro rfl rfl (OpOk.step (ok_binOp rfl ti_int rfl)) ?_
      refine ro rfl rfl (OpOk.step (ok_pick rfl rfl)) ?_
      refine ro_case rfl rfl (OpOk.step (ok_moveb (.inl rfl) rfl)) (fun hb => ?_) (fun hb => ?_)
      · (try simp only [decide_eq_true_eq, decide_eq_false_iff_not, beq_iff_eq, beq_eq_false_iff_ne, bne_iff_ne, bne_eq_false_iff_eq, ne_eq, Bool.not_eq_true', Bool.not_eq_false'] at hb)
        refine ro rfl rfl (OpOk.step (ok_fieldAddr rfl ti_api_Act rfl rfl ti_Luint8 (by decide) rfl)) ?_
        refine ro rfl rfl (OpOk.step (ok_load rfl ti_Luint8 rfl rfl)) ?_
        refine ro rfl rfl (OpOk.step (ok_fieldAddr rfl ti_api_Act rfl rfl ti_Luint8 (by decide) rfl)) ?_
        refine ro rfl rfl (OpOk.step (ok_load rfl ti_Luint8 rfl rfl)) ?_
        refine ro rfl rfl (ok_call rfl rfl rfl ((equal_ok a.keep b.keep).plain (by simp [renL, AV.ren, renL_ints]) rfl)) ?_
        refine ro rfl rfl (OpOk.step (ok_pick rfl rfl)) ?_
        refine ro rfl rfl (OpOk.step (ok_move (.inr rfl))) ?_
        refine ro_nil ?_
        refine keepK hK4 [5, 6, 7] (by dsimp) (by dsimp) ?_
        refine T.seq fun K5 hK5 => ?_
        refine T.region ?_ -- region 3
        refine ro rfl rfl (OpOk.step (ok_move (.inl rfl))) ?_
        refine ro_case rfl rfl (OpOk.step (ok_moveb (.inl rfl) rfl)) (fun hb => ?_) (fun hb => ?_)
        · (try simp only [decide_eq_true_eq, decide_eq_false_iff_not, beq_iff_eq, beq_eq_false_iff_ne, bne_iff_ne, bne_eq_false_iff_eq, ne_eq, Bool.not_eq_true', Bool.not_eq_false'] at hb)
          refine ro rfl rfl (OpOk.step (ok_fieldAddr rfl ti_api_Cmd rfl rfl ti_int (by decide) rfl)) ?_
          refine ro rfl rfl (OpOk.step (ok_load rfl ti_int rfl rfl)) ?_
          refine ro rfl rfl (OpOk.step (ok_fieldAddr rfl ti_api_Cmd rfl rfl ti_int (by decide) rfl)) ?_
          refine ro rfl rfl (OpOk.step (ok_load rfl ti_int rfl rfl)) ?_
          refine ro rfl rfl (OpOk.step (ok_binOp rfl ti_int rfl)) ?_
          refine ro rfl rfl (OpOk.step (ok_pick rfl rfl)) ?_
          refine ro_case rfl rfl (OpOk.step (ok_moveb (.inl rfl) rfl)) (fun hb => ?_) (fun hb => ?_)
          · (try simp only [decide_eq_true_eq, decide_eq_false_iff_not, beq_iff_eq, beq_eq_false_iff_ne, bne_iff_ne, bne_eq_false_iff_eq, ne_eq, Bool.not_eq_true', Bool.not_eq_false'] at hb)
            refine ro rfl rfl (OpOk.step (ok_fieldAddr rfl ti_api_Cmd rfl rfl ti_int (by decide) rfl)) ?_
            refine ro rfl rfl (OpOk.step (ok_load rfl ti_int rfl rfl)) ?_
            refine ro rfl rfl (OpOk.step (ok_fieldAddr rfl ti_api_Cmd rfl rfl ti_int (by decide) rfl)) ?_
            refine ro rfl rfl (OpOk.step (ok_load rfl ti_int rfl rfl)) ?_
            refine ro rfl rfl (OpOk.step (ok_binOp rfl ti_int rfl)) ?_
            refine ro rfl rfl (OpOk.step (ok_pick rfl rfl)) ?_
            refine ro_case rfl rfl (OpOk.step (ok_moveb (.inl rfl) rfl)) (fun hb => ?_) (fun hb => ?_)
            · (try simp only [decide_eq_true_eq, decide_eq_false_iff_not, beq_iff_eq, beq_eq_false_iff_ne, bne_iff_ne, bne_eq_false_iff_eq, ne_eq, Bool.not_eq_true', Bool.not_eq_false'] at hb)
              refine ro rfl rfl (OpOk.step (ok_fieldAddr rfl ti_api_Cmd rfl rfl ti_int (by decide) rfl)) ?_
              refine ro rfl rfl (OpOk.step (ok_load rfl ti_int rfl rfl)) ?_
              refine ro rfl rfl (OpOk.step (ok_fieldAddr rfl ti_api_Cmd rfl rfl ti_int (by decide) rfl)) ?_
              refine ro rfl rfl (OpOk.step (ok_load rfl ti_int rfl rfl)) ?_
              refine ro rfl rfl (OpOk.step (ok_binOp rfl ti_int rfl)) ?_
              refine ro rfl rfl (OpOk.step (ok_pick rfl rfl)) ?_
              refine ro_case rfl rfl (OpOk.step (ok_moveb (.inl rfl) rfl)) (fun hb => ?_) (fun hb => ?_)
              · (try simp only [decide_eq_true_eq, decide_eq_false_iff_not, beq_iff_eq, beq_eq_false_iff_ne, bne_iff_ne, bne_eq_false_iff_eq, ne_eq, Bool.not_eq_true', Bool.not_eq_false'] at hb)
                refine ro rfl rfl (OpOk.step (ok_fieldAddr rfl ti_api_Cmd rfl rfl ti_int (by decide) rfl)) ?_
                refine ro rfl rfl (OpOk.step (ok_load rfl ti_int rfl rfl)) ?_
                refine ro rfl rfl (OpOk.step (ok_fieldAddr rfl ti_api_Cmd rfl rfl ti_int (by decide) rfl)) ?_
                refine ro rfl rfl (OpOk.step (ok_load rfl ti_int rfl rfl)) ?_
                refine ro rfl rfl (OpOk.step (ok_binOp rfl ti_int rfl)) ?_
                refine ro rfl rfl (OpOk.step (ok_pick rfl rfl)) ?_
                refine ro_case rfl rfl (OpOk.step (ok_moveb (.inl rfl) rfl)) (fun hb => ?_) (fun hb => ?_)
                · (try simp only [decide_eq_true_eq, decide_eq_false_iff_not, beq_iff_eq, beq_eq_false_iff_ne, bne_iff_ne, bne_eq_false_iff_eq, ne_eq, Bool.not_eq_true', Bool.not_eq_false'] at hb)
                  refine ro rfl rfl (OpOk.step (ok_fieldAddr rfl ti_api_Cmd rfl rfl ti_bool (by decide) rfl)) ?_
                  refine ro rfl rfl (OpOk.step (ok_load rfl ti_bool rfl rfl)) ?_
                  refine ro rfl rfl (OpOk.step (ok_fieldAddr rfl ti_api_Cmd rfl rfl ti_bool (by decide) rfl)) ?_
                  refine ro rfl rfl (OpOk.step (ok_load rfl ti_bool rfl rfl)) ?_
                  refine ro rfl rfl (OpOk.step (ok_binOp rfl ti_bool rfl)) ?_
                  refine ro rfl rfl (OpOk.step (ok_pick rfl rfl)) ?_
                  refine ro_case rfl rfl (OpOk.step (ok_moveb (.inl rfl) rfl)) (fun hb => ?_) (fun hb => ?_)
                  · (try simp only [decide_eq_true_eq, decide_eq_false_iff_not, beq_iff_eq, beq_eq_false_iff_ne, bne_iff_ne, bne_eq_false_iff_eq, ne_eq, Bool.not_eq_true', Bool.not_eq_false'] at hb)
                    refine ro rfl rfl (OpOk.step (ok_fieldAddr rfl ti_api_Cmd rfl rfl ti_Luint8 (by decide) rfl)) ?_
                    refine ro rfl rfl (OpOk.step (ok_load rfl ti_Luint8 rfl rfl)) ?_
                    refine ro rfl rfl (OpOk.step (ok_fieldAddr rfl ti_api_Cmd rfl rfl ti_Luint8 (by decide) rfl)) ?_
                    refine ro rfl rfl (OpOk.step (ok_load rfl ti_Luint8 rfl rfl)) ?_
                    refine ro rfl rfl (ok_call rfl rfl rfl ((equal_ok a.cd b.cd).plain (by simp [renL, AV.ren, renL_ints]) rfl)) ?_
                    refine ro rfl rfl (OpOk.step (ok_pick rfl rfl)) ?_
                    refine ro rfl rfl (OpOk.step (ok_move (.inr rfl))) ?_
                    refine ro_nil ?_
                    refine keepK hK5 [4] (by dsimp) (by dsimp) ?_
                    refine T.ret (hQ _ _ _ rfl ?_).1 -- ret 1
                    exact by first | (rw [decide_eq_false (by unfold SA; rintro ⟨h1, h2, h3, h4, h5, h6, h7, h8, h9, h10⟩; contradiction)]; exact TEnt.fin [] (by decide) (by simp) rfl ⟨rfl, trivial⟩) | (rw [decide_eq_false (by unfold SA; rintro ⟨h1, h2, h3, h4, h5, h6, h7, h8, h9, h10⟩; simp_all <;> fail)]; exact TEnt.fin [] (by decide) (by simp) rfl ⟨rfl, trivial⟩) | (have e : decide (SA a b) = strEq a.cd b.cd := (by unfold SA; simp_all); rw [e]; exact TEnt.fin [] (by decide) (by simp) rfl ⟨rfl, trivial⟩)
                  · (try simp only [decide_eq_true_eq, decide_eq_false_iff_not, beq_iff_eq, beq_eq_false_iff_ne, bne_iff_ne, bne_eq_false_iff_eq, ne_eq, Bool.not_eq_true', Bool.not_eq_false'] at hb)
                    refine ro_skip rfl rfl ?_
                    refine ro_skip rfl rfl ?_
                    refine ro_skip rfl rfl ?_
                    refine ro_skip rfl rfl ?_
                    refine ro_skip rfl rfl ?_
                    refine ro rfl rfl (OpOk.step (ok_pickb (t := false) (d := false) rfl rfl rfl)) ?_
                    refine ro rfl rfl (OpOk.step (ok_moveb (c := false) (.inr rfl) rfl)) ?_
                    refine ro_nil ?_
                    refine keepK hK5 [4] (by dsimp) (by dsimp) ?_
                    refine T.ret (hQ _ _ _ rfl ?_).1 -- ret 2
                    exact by first | (rw [decide_eq_false (by unfold SA; rintro ⟨h1, h2, h3, h4, h5, h6, h7, h8, h9, h10⟩; contradiction)]; exact TEnt.fin [] (by decide) (by simp) rfl ⟨rfl, trivial⟩) | (rw [decide_eq_false (by unfold SA; rintro ⟨h1, h2, h3, h4, h5, h6, h7, h8, h9, h10⟩; simp_all <;> fail)]; exact TEnt.fin [] (by decide) (by simp) rfl ⟨rfl, trivial⟩) | (have e : decide (SA a b) = strEq a.cd b.cd := (by unfold SA; simp_all); rw [e]; exact TEnt.fin [] (by decide) (by simp) rfl ⟨rfl, trivial⟩)
                · (try simp only [decide_eq_true_eq, decide_eq_false_iff_not, beq_iff_eq, beq_eq_false_iff_ne, bne_iff_ne, bne_eq_false_iff_eq, ne_eq, Bool.not_eq_true', Bool.not_eq_false'] at hb)
                  refine ro_skip rfl rfl ?_
                  refine ro_skip rfl rfl ?_
                  refine ro_skip rfl rfl ?_
                  refine ro_skip rfl rfl ?_
                  refine ro_skip rfl rfl ?_
                  refine ro rfl rfl (OpOk.step (ok_pickb (t := false) (d := false) rfl rfl rfl)) ?_
                  refine ro rfl rfl (OpOk.step (ok_moveb (c := false) (.inl rfl) rfl)) ?_
                  refine ro_skip rfl rfl ?_
                  refine ro_skip rfl rfl ?_
                  refine ro_skip rfl rfl ?_
                  refine ro_skip rfl rfl ?_
                  refine ro_skip rfl rfl ?_
                  refine ro rfl rfl (OpOk.step (ok_pickb (t := false) (d := false) rfl rfl rfl)) ?_
                  refine ro rfl rfl (OpOk.step (ok_moveb (c := false) (.inr rfl) rfl)) ?_
                  refine ro_nil ?_
                  refine keepK hK5 [4] (by dsimp) (by dsimp) ?_
                  refine T.ret (hQ _ _ _ rfl ?_).1 -- ret 3
                  exact by first | (rw [decide_eq_false (by unfold SA; rintro ⟨h1, h2, h3, h4, h5, h6, h7, h8, h9, h10⟩; contradiction)]; exact TEnt.fin [] (by decide) (by simp) rfl ⟨rfl, trivial⟩) | (rw [decide_eq_false (by unfold SA; rintro ⟨h1, h2, h3, h4, h5, h6, h7, h8, h9, h10⟩; simp_all <;> fail)]; exact TEnt.fin [] (by decide) (by simp) rfl ⟨rfl, trivial⟩) | (have e : decide (SA a b) = strEq a.cd b.cd := (by unfold SA; simp_all); rw [e]; exact TEnt.fin [] (by decide) (by simp) rfl ⟨rfl, trivial⟩)
              · (try simp only [decide_eq_true_eq, decide_eq_false_iff_not, beq_iff_eq, beq_eq_false_iff_ne, bne_iff_ne, bne_eq_false_iff_eq, ne_eq, Bool.not_eq_true', Bool.not_eq_false'] at hb)
                refine ro_skip rfl rfl ?_
                refine ro_skip rfl rfl ?_
                refine ro_skip rfl rfl ?_
                refine ro_skip rfl rfl ?_
                refine ro_skip rfl rfl ?_
                refine ro rfl rfl (OpOk.step (ok_pickb (t := false) (d := false) rfl rfl rfl)) ?_
                refine ro rfl rfl (OpOk.step (ok_moveb (c := false) (.inl rfl) rfl)) ?_
                refine ro_skip rfl rfl ?_
                refine ro_skip rfl rfl ?_
                refine ro_skip rfl rfl ?_
                refine ro_skip rfl rfl ?_
                refine ro_skip rfl rfl ?_
                refine ro rfl rfl (OpOk.step (ok_pickb (t := false) (d := false) rfl rfl rfl)) ?_
                refine ro rfl rfl (OpOk.step (ok_moveb (c := false) (.inl rfl) rfl)) ?_
                refine ro_skip rfl rfl ?_
                refine ro_skip rfl rfl ?_
                refine ro_skip rfl rfl ?_
                refine ro_skip rfl rfl ?_
                refine ro_skip rfl rfl ?_
                refine ro rfl rfl (OpOk.step (ok_pickb (t := false) (d := false) rfl rfl rfl)) ?_
                refine ro rfl rfl (OpOk.step (ok_moveb (c := false) (.inr rfl) rfl)) ?_
                refine ro_nil ?_
                refine keepK hK5 [4] (by dsimp) (by dsimp) ?_
                refine T.ret (hQ _ _ _ rfl ?_).1 -- ret 4
                exact by first | (rw [decide_eq_false (by unfold SA; rintro ⟨h1, h2, h3, h4, h5, h6, h7, h8, h9, h10⟩; contradiction)]; exact TEnt.fin [] (by decide) (by simp) rfl ⟨rfl, trivial⟩) | (rw [decide_eq_false (by unfold SA; rintro ⟨h1, h2, h3, h4, h5, h6, h7, h8, h9, h10⟩; simp_all <;> fail)]; exact TEnt.fin [] (by decide) (by simp) rfl ⟨rfl, trivial⟩) | (have e : decide (SA a b) = strEq a.cd b.cd := (by unfold SA; simp_all); rw [e]; exact TEnt.fin [] (by decide) (by simp) rfl ⟨rfl, trivial⟩)
            · (try simp only [decide_eq_true_eq, decide_eq_false_iff_not, beq_iff_eq, beq_eq_false_iff_ne, bne_iff_ne, bne_eq_false_iff_eq, ne_eq, Bool.not_eq_true', Bool.not_eq_false'] at hb)
              refine ro_skip rfl rfl ?_
              refine ro_skip rfl rfl ?_
              refine ro_skip rfl rfl ?_
              refine ro_skip rfl rfl ?_
              refine ro_skip rfl rfl ?_
              refine ro rfl rfl (OpOk.step (ok_pickb (t := false) (d := false) rfl rfl rfl)) ?_
              refine ro rfl rfl (OpOk.step (ok_moveb (c := false) (.inl rfl) rfl)) ?_
              refine ro_skip rfl rfl ?_
              refine ro_skip rfl rfl ?_
              refine ro_skip rfl rfl ?_
              refine ro_skip rfl rfl ?_
              refine ro_skip rfl rfl ?_
              refine ro rfl rfl (OpOk.step (ok_pickb (t := false) (d := false) rfl rfl rfl)) ?_
              refine ro rfl rfl (OpOk.step (ok_moveb (c := false) (.inl rfl) rfl)) ?_
              refine ro_skip rfl rfl ?_
              refine ro_skip rfl rfl ?_
              refine ro_skip rfl rfl ?_
              refine ro_skip rfl rfl ?_
              refine ro_skip rfl rfl ?_
              refine ro rfl rfl (OpOk.step (ok_pickb (t := false) (d := false) rfl rfl rfl)) ?_
              refine ro rfl rfl (OpOk.step (ok_moveb (c := false) (.inl rfl) rfl)) ?_
              refine ro_skip rfl rfl ?_
              refine ro_skip rfl rfl ?_
              refine ro_skip rfl rfl ?_
              refine ro_skip rfl rfl ?_
              refine ro_skip rfl rfl ?_
              refine ro rfl rfl (OpOk.step (ok_pickb (t := false) (d := false) rfl rfl rfl)) ?_
              refine ro rfl rfl (OpOk.step (ok_moveb (c := false) (.inr rfl) rfl)) ?_
              refine ro_nil ?_
              refine keepK hK5 [4] (by dsimp) (by dsimp) ?_
              refine T.ret (hQ _ _ _ rfl ?_).1 -- ret 5
              exact by first | (rw [decide_eq_false (by unfold SA; rintro ⟨h1, h2, h3, h4, h5, h6, h7, h8, h9, h10⟩; contradiction)]; exact TEnt.fin [] (by decide) (by simp) rfl ⟨rfl, trivial⟩) | (rw [decide_eq_false (by unfold SA; rintro ⟨h1, h2, h3, h4, h5, h6, h7, h8, h9, h10⟩; simp_all <;> fail)]; exact TEnt.fin [] (by decide) (by simp) rfl ⟨rfl, trivial⟩) | (have e : decide (SA a b) = strEq a.cd b.cd := (by unfold SA; simp_all); rw [e]; exact TEnt.fin [] (by decide) (by simp) rfl ⟨rfl, trivial⟩)
          · (try simp only [decide_eq_true_eq, decide_eq_false_iff_not, beq_iff_eq, beq_eq_false_iff_ne, bne_iff_ne, bne_eq_false_iff_eq, ne_eq, Bool.not_eq_true', Bool.not_eq_false'] at hb)
            refine ro_skip rfl rfl ?_
            refine ro_skip rfl rfl ?_
            refine ro_skip rfl rfl ?_
            refine ro_skip rfl rfl ?_
            refine ro_skip rfl rfl ?_
            refine ro rfl rfl (OpOk.step (ok_pickb (t := false) (d := false) rfl rfl rfl)) ?_
            refine ro rfl rfl (OpOk.step (ok_moveb (c := false) (.inl rfl) rfl)) ?_
            refine ro_skip rfl rfl ?_
            refine ro_skip rfl rfl ?_
            refine ro_skip rfl rfl ?_
            refine ro_skip rfl rfl ?_
            refine ro_skip rfl rfl ?_
            refine ro rfl rfl (OpOk.step (ok_pickb (t := false) (d := false) rfl rfl rfl)) ?_
            refine ro rfl rfl (OpOk.step (ok_moveb (c := false) (.inl rfl) rfl)) ?_
            refine ro_skip rfl rfl ?_
            refine ro_skip rfl rfl ?_
            refine ro_skip rfl rfl ?_
            refine ro_skip rfl rfl ?_
            refine ro_skip rfl rfl ?_
            refine ro rfl rfl (OpOk.step (ok_pickb (t := false) (d := false) rfl rfl rfl)) ?_
            refine ro rfl rfl (OpOk.step (ok_moveb (c := false) (.inl rfl) rfl)) ?_
            refine ro_skip rfl rfl ?_
            refine ro_skip rfl rfl ?_
            refine ro_skip rfl rfl ?_
            refine ro_skip rfl rfl ?_
            refine ro_skip rfl rfl ?_
            refine ro rfl rfl (OpOk.step (ok_pickb (t := false) (d := false) rfl rfl rfl)) ?_
            refine ro rfl rfl (OpOk.step (ok_moveb (c := false) (.inl rfl) rfl)) ?_
            refine ro_skip rfl rfl ?_
            refine ro_skip rfl rfl ?_
            refine ro_skip rfl rfl ?_
            refine ro_skip rfl rfl ?_
            refine ro_skip rfl rfl ?_
            refine ro rfl rfl (OpOk.step (ok_pickb (t := false) (d := false) rfl rfl rfl)) ?_
            refine ro rfl rfl (OpOk.step (ok_moveb (c := false) (.inr rfl) rfl)) ?_
            refine ro_nil ?_
            refine keepK hK5 [4] (by dsimp) (by dsimp) ?_
            refine T.ret (hQ _ _ _ rfl ?_).1 -- ret 6
            exact by first | (rw [decide_eq_false (by unfold SA; rintro ⟨h1, h2, h3, h4, h5, h6, h7, h8, h9, h10⟩; contradiction)]; exact TEnt.fin [] (by decide) (by simp) rfl ⟨rfl, trivial⟩) | (rw [decide_eq_false (by unfold SA; rintro ⟨h1, h2, h3, h4, h5, h6, h7, h8, h9, h10⟩; simp_all <;> fail)]; exact TEnt.fin [] (by decide) (by simp) rfl ⟨rfl, trivial⟩) | (have e : decide (SA a b) = strEq a.cd b.cd := (by unfold SA; simp_all); rw [e]; exact TEnt.fin [] (by decide) (by simp) rfl ⟨rfl, trivial⟩)
        · (try simp only [decide_eq_true_eq, decide_eq_false_iff_not, beq_iff_eq, beq_eq_false_iff_ne, bne_iff_ne, bne_eq_false_iff_eq, ne_eq, Bool.not_eq_true', Bool.not_eq_false'] at hb)
          refine ro_skip rfl rfl ?_
          refine ro_skip rfl rfl ?_
          refine ro_skip rfl rfl ?_
          refine ro_skip rfl rfl ?_
          refine ro_skip rfl rfl ?_
          refine ro rfl rfl (OpOk.step (ok_pickb (t := false) (d := false) rfl rfl rfl)) ?_
          refine ro rfl rfl (OpOk.step (ok_moveb (c := false) (.inl rfl) rfl)) ?_
          refine ro_skip rfl rfl ?_
          refine ro_skip rfl rfl ?_
          refine ro_skip rfl rfl ?_
          refine ro_skip rfl rfl ?_
          refine ro_skip rfl rfl ?_
          refine ro rfl rfl (OpOk.step (ok_pickb (t := false) (d := false) rfl rfl rfl)) ?_
          refine ro rfl rfl (OpOk.step (ok_moveb (c := false) (.inl rfl) rfl)) ?_
          refine ro_skip rfl rfl ?_
          refine ro_skip rfl rfl ?_
          refine ro_skip rfl rfl ?_
          refine ro_skip rfl rfl ?_
          refine ro_skip rfl rfl ?_
          refine ro rfl rfl (OpOk.step (ok_pickb (t := false) (d := false) rfl rfl rfl)) ?_
          refine ro rfl rfl (OpOk.step (ok_moveb (c := false) (.inl rfl) rfl)) ?_
          refine ro_skip rfl rfl ?_
          refine ro_skip rfl rfl ?_
          refine ro_skip rfl rfl ?_
          refine ro_skip rfl rfl ?_
          refine ro_skip rfl rfl ?_
          refine ro rfl rfl (OpOk.step (ok_pickb (t := false) (d := false) rfl rfl rfl)) ?_
          refine ro rfl rfl (OpOk.step (ok_moveb (c := false) (.inl rfl) rfl)) ?_
          refine ro_skip rfl rfl ?_
          refine ro_skip rfl rfl ?_
          refine ro_skip rfl rfl ?_
          refine ro_skip rfl rfl ?_
          refine ro_skip rfl rfl ?_
          refine ro rfl rfl (OpOk.step (ok_pickb (t := false) (d := false) rfl rfl rfl)) ?_
          refine ro rfl rfl (OpOk.step (ok_moveb (c := false) (.inl rfl) rfl)) ?_
          refine ro_skip rfl rfl ?_
          refine ro_skip rfl rfl ?_
          refine ro_skip rfl rfl ?_
          refine ro_skip rfl rfl ?_
          refine ro_skip rfl rfl ?_
          refine ro rfl rfl (OpOk.step (ok_pickb (t := false) (d := false) rfl rfl rfl)) ?_
          refine ro rfl rfl (OpOk.step (ok_moveb (c := false) (.inr rfl) rfl)) ?_
          refine ro_nil ?_
          refine keepK hK5 [4] (by dsimp) (by dsimp) ?_
          refine T.ret (hQ _ _ _ rfl ?_).1 -- ret 7
          exact by first | (rw [decide_eq_false (by unfold SA; rintro ⟨h1, h2, h3, h4, h5, h6, h7, h8, h9, h10⟩; contradiction)]; exact TEnt.fin [] (by decide) (by simp) rfl ⟨rfl, trivial⟩) | (rw [decide_eq_false (by unfold SA; rintro ⟨h1, h2, h3, h4, h5, h6, h7, h8, h9, h10⟩; simp_all <;> fail)]; exact TEnt.fin [] (by decide) (by simp) rfl ⟨rfl, trivial⟩) | (have e : decide (SA a b) = strEq a.cd b.cd := (by unfold SA; simp_all); rw [e]; exact TEnt.fin [] (by decide) (by simp) rfl ⟨rfl, trivial⟩)
      · (try simp only [decide_eq_true_eq, decide_eq_false_iff_not, beq_iff_eq, beq_eq_false_iff_ne, bne_iff_ne, bne_eq_false_iff_eq, ne_eq, Bool.not_eq_true', Bool.not_eq_false'] at hb)
        refine ro_skip rfl rfl ?_
        refine ro_skip rfl rfl ?_
        refine ro_skip rfl rfl ?_
        refine ro_skip rfl rfl ?_
        refine ro_skip rfl rfl ?_
        refine ro rfl rfl (OpOk.step (ok_pickb (t := false) (d := false) rfl rfl rfl)) ?_
        refine ro rfl rfl (OpOk.step (ok_moveb (c := false) (.inr rfl) rfl)) ?_
        refine ro_nil ?_
        refine keepK hK4 [5, 6, 7] (by dsimp) (by dsimp) ?_
        refine T.seq fun K6 hK6 => ?_
        refine T.region ?_ -- region 3
        refine ro rfl rfl (OpOk.step (ok_moveb (c := false) (.inl rfl) rfl)) ?_
        refine ro rfl rfl (OpOk.step (ok_moveb (c := false) (.inl rfl) rfl)) ?_
        refine ro_skip rfl rfl ?_
        refine ro_skip rfl rfl ?_
        refine ro_skip rfl rfl ?_
        refine ro_skip rfl rfl ?_
        refine ro_skip rfl rfl ?_
        refine ro rfl rfl (OpOk.step (ok_pickb (t := false) (d := false) rfl rfl rfl)) ?_
        refine ro rfl rfl (OpOk.step (ok_moveb (c := false) (.inl rfl) rfl)) ?_
        refine ro_skip rfl rfl ?_
        refine ro_skip rfl rfl ?_
        refine ro_skip rfl rfl ?_
        refine ro_skip rfl rfl ?_
        refine ro_skip rfl rfl ?_
        refine ro rfl rfl (OpOk.step (ok_pickb (t := false) (d := false) rfl rfl rfl)) ?_
        refine ro rfl rfl (OpOk.step (ok_moveb (c := false) (.inl rfl) rfl)) ?_
        refine ro_skip rfl rfl ?_
        refine ro_skip rfl rfl ?_
        refine ro_skip rfl rfl ?_
        refine ro_skip rfl rfl ?_
        refine ro_skip rfl rfl ?_
        refine ro rfl rfl (OpOk.step (ok_pickb (t := false) (d := false) rfl rfl rfl)) ?_
        refine ro rfl rfl (OpOk.step (ok_moveb (c := false) (.inl rfl) rfl)) ?_
        refine ro_skip rfl rfl ?_
        refine ro_skip rfl rfl ?_
        refine ro_skip rfl rfl ?_
        refine ro_skip rfl rfl ?_
        refine ro_skip rfl rfl ?_
        refine ro rfl rfl (OpOk.step (ok_pickb (t := false) (d := false) rfl rfl rfl)) ?_
        refine ro rfl rfl (OpOk.step (ok_moveb (c := false) (.inl rfl) rfl)) ?_
        refine ro_skip rfl rfl ?_
        refine ro_skip rfl rfl ?_
        refine ro_skip rfl rfl ?_
        refine ro_skip rfl rfl ?_
        refine ro_skip rfl rfl ?_
        refine ro rfl rfl (OpOk.step (ok_pickb (t := false) (d := false) rfl rfl rfl)) ?_
        refine ro rfl rfl (OpOk.step (ok_moveb (c := false) (.inl rfl) rfl)) ?_
        refine ro_skip rfl rfl ?_
        refine ro_skip rfl rfl ?_
        refine ro_skip rfl rfl ?_
        refine ro_skip rfl rfl ?_
        refine ro_skip rfl rfl ?_
        refine ro rfl rfl (OpOk.step (ok_pickb (t := false) (d := false) rfl rfl rfl)) ?_
        refine ro rfl rfl (OpOk.step (ok_moveb (c := false) (.inr rfl) rfl)) ?_
        refine ro_nil ?_
        refine keepK hK6 [4] (by dsimp) (by dsimp) ?_
        refine T.ret (hQ _ _ _ rfl ?_).1 -- ret 8
        exact by first | (rw [decide_eq_false (by unfold SA; rintro ⟨h1, h2, h3, h4, h5, h6, h7, h8, h9, h10⟩; contradiction)]; exact TEnt.fin [] (by decide) (by simp) rfl ⟨rfl, trivial⟩) | (rw [decide_eq_false (by unfold SA; rintro ⟨h1, h2, h3, h4, h5, h6, h7, h8, h9, h10⟩; simp_all <;> fail)]; exact TEnt.fin [] (by decide) (by simp) rfl ⟨rfl, trivial⟩) | (have e : decide (SA a b) = strEq a.cd b.cd := (by unfold SA; simp_all); rw [e]; exact TEnt.fin [] (by decide) (by simp) rfl ⟨rfl, trivial⟩)
    · (try simp only [decide_eq_true_eq, decide_eq_false_iff_not, beq_iff_eq, beq_eq_false_iff_ne, bne_iff_ne, bne_eq_false_iff_eq, ne_eq, Bool.not_eq_true', Bool.not_eq_false'] at hb)
      refine ro_skip rfl rfl ?_
      refine ro_skip rfl rfl ?_
      refine ro_skip rfl rfl ?_
      refine ro_skip rfl rfl ?_
      refine ro_skip rfl rfl ?_
      refine ro rfl rfl (OpOk.step (ok_pickb (t := false) (d := false) rfl rfl rfl)) ?_
      refine ro rfl rfl (OpOk.step (ok_moveb (c := false) (.inl rfl) rfl)) ?_
      refine ro_skip rfl rfl ?_
      refine ro_skip rfl rfl ?_
      refine ro_skip rfl rfl ?_
      refine ro_skip rfl rfl ?_
      refine ro_skip rfl rfl ?_
      refine ro rfl rfl (OpOk.step (ok_pickb (t := false) (d := false) rfl rfl rfl)) ?_
      refine ro rfl rfl (OpOk.step (ok_moveb (c := false) (.inr rfl) rfl)) ?_
      refine ro_nil ?_
      refine keepK hK4 [5, 6, 7] (by dsimp) (by dsimp) ?_
      refine T.seq fun K7 hK7 => ?_
      refine T.region ?_ -- region 3
      refine ro rfl rfl (OpOk.step (ok_moveb (c := false) (.inl rfl) rfl)) ?_
      refine ro rfl rfl (OpOk.step (ok_moveb (c := false) (.inl rfl) rfl)) ?_
      refine ro_skip rfl rfl ?_
      refine ro_skip rfl rfl ?_
      refine ro_skip rfl rfl ?_
      refine ro_skip rfl rfl ?_
      refine ro_skip rfl rfl ?_
      refine ro rfl rfl (OpOk.step (ok_pickb (t := false) (d := false) rfl rfl rfl)) ?_
      refine ro rfl rfl (OpOk.step (ok_moveb (c := false) (.inl rfl) rfl)) ?_
      refine ro_skip rfl rfl ?_
      refine ro_skip rfl rfl ?_
      refine ro_skip rfl rfl ?_
      refine ro_skip rfl rfl ?_
      refine ro_skip rfl rfl ?_
      refine ro rfl rfl (OpOk.step (ok_pickb (t := false) (d := false) rfl rfl rfl)) ?_
      refine ro rfl rfl (OpOk.step (ok_moveb (c := false) (.inl rfl) rfl)) ?_
      refine ro_skip rfl rfl ?_
      refine ro_skip rfl rfl ?_
      refine ro_skip rfl rfl ?_
      refine ro_skip rfl rfl ?_
      refine ro_skip rfl rfl ?_
      refine ro rfl rfl (OpOk.step (ok_pickb (t := false) (d := false) rfl rfl rfl)) ?_
      refine ro rfl rfl (OpOk.step (ok_moveb (c := false) (.inl rfl) rfl)) ?_
      refine ro_skip rfl rfl ?_
      refine ro_skip rfl rfl ?_
      refine ro_skip rfl rfl ?_
      refine ro_skip rfl rfl ?_
      refine ro_skip rfl rfl ?_
      refine ro rfl rfl (OpOk.step (ok_pickb (t := false) (d := false) rfl rfl rfl)) ?_
      refine ro rfl rfl (OpOk.step (ok_moveb (c := false) (.inl rfl) rfl)) ?_
      refine ro_skip rfl rfl ?_
      refine ro_skip rfl rfl ?_
      refine ro_skip rfl rfl ?_
      refine ro_skip rfl rfl ?_
      refine ro_skip rfl rfl ?_
      refine ro rfl rfl (OpOk.step (ok_pickb (t := false) (d := false) rfl rfl rfl)) ?_
      refine ro rfl rfl (OpOk.step (ok_moveb (c := false) (.inl rfl) rfl)) ?_
      refine ro_skip rfl rfl ?_
      refine ro_skip rfl rfl ?_
      refine ro_skip rfl rfl ?_
      refine ro_skip rfl rfl ?_
      refine ro_skip rfl rfl ?_
      refine ro rfl rfl (OpOk.step (ok_pickb (t := false) (d := false) rfl rfl rfl)) ?_
      refine ro rfl rfl (OpOk.step (ok_moveb (c := false) (.inr rfl) rfl)) ?_
      refine ro_nil ?_
      refine keepK hK7 [4] (by dsimp) (by dsimp) ?_
      refine T.ret (hQ _ _ _ rfl ?_).1 -- ret 9
      exact by first | (rw [decide_eq_false (by unfold SA; rintro ⟨h1, h2, h3, h4, h5, h6, h7, h8, h9, h10⟩; contradiction)]; exact TEnt.fin [] (by decide) (by simp) rfl ⟨rfl, trivial⟩) | (rw [decide_eq_false (by unfold SA; rintro ⟨h1, h2, h3, h4, h5, h6, h7, h8, h9, h10⟩; simp_all <;> fail)]; exact TEnt.fin [] (by decide) (by simp) rfl ⟨rfl, trivial⟩) | (have e : decide (SA a b) = strEq a.cd b.cd := (by unfold SA; simp_all); rw [e]; exact TEnt.fin [] (by decide) (by simp) rfl ⟨rfl, trivial⟩)
  · (try simp only [decide_eq_true_eq, decide_eq_false_iff_not, beq_iff_eq, beq_eq_false_iff_ne, bne_iff_ne, bne_eq_false_iff_eq, ne_eq, Bool.not_eq_true', Bool.not_eq_false'] at hb)
    refine ro_skip rfl rfl ?_
    refine ro_skip rfl rfl ?_
    refine ro_skip rfl rfl ?_
    refine ro_skip rfl rfl ?_
    refine ro_skip rfl rfl ?_
    refine ro rfl rfl (OpOk.step (ok_pickb (t := false) (d := false) rfl rfl rfl)) ?_
    refine ro rfl rfl (OpOk.step (ok_moveb (c := false) (.inl rfl) rfl)) ?_
    refine ro_skip rfl rfl ?_
    refine ro_skip rfl rfl ?_
    refine ro_skip rfl rfl ?_
    refine ro_skip rfl rfl ?_
    refine ro_skip rfl rfl ?_
    refine ro rfl rfl (OpOk.step (ok_pickb (t := false) (d := false) rfl rfl rfl)) ?_
    refine ro rfl rfl (OpOk.step (ok_moveb (c := false) (.inl rfl) rfl)) ?_
    refine ro_skip rfl rfl ?_
    refine ro_skip rfl rfl ?_
    refine ro_skip rfl rfl ?_
    refine ro_skip rfl rfl ?_
    refine ro_skip rfl rfl ?_
    refine ro rfl rfl (OpOk.step (ok_pickb (t := false) (d := false) rfl rfl rfl)) ?_
    refine ro rfl rfl (OpOk.step (ok_moveb (c := false) (.inr rfl) rfl)) ?_
    refine ro_nil ?_
    refine keepK hK4 [5, 6, 7] (by dsimp) (by dsimp) ?_
    refine T.seq fun K8 hK8 => ?_
    refine T.region ?_ -- region 3
    refine ro rfl rfl (OpOk.step (ok_moveb (c := false) (.inl rfl) rfl)) ?_
    refine ro rfl rfl (OpOk.step (ok_moveb (c := false) (.inl rfl) rfl)) ?_
    refine ro_skip rfl rfl ?_
    refine ro_skip rfl rfl ?_
    refine ro_skip rfl rfl ?_
    refine ro_skip rfl rfl ?_
    refine ro_skip rfl rfl ?_
    refine ro rfl rfl (OpOk.step (ok_pickb (t := false) (d := false) rfl rfl rfl)) ?_
    refine ro rfl rfl (OpOk.step (ok_moveb (c := false) (.inl rfl) rfl)) ?_
    refine ro_skip rfl rfl ?_
    refine ro_skip rfl rfl ?_
    refine ro_skip rfl rfl ?_
    refine ro_skip rfl rfl ?_
    refine ro_skip rfl rfl ?_
    refine ro rfl rfl (OpOk.step (ok_pickb (t := false) (d := false) rfl rfl rfl)) ?_
    refine ro rfl rfl (OpOk.step (ok_moveb (c := false) (.inl rfl) rfl)) ?_
    refine ro_skip rfl rfl ?_
    refine ro_skip rfl rfl ?_
    refine ro_skip rfl rfl ?_
    refine ro_skip rfl rfl ?_
    refine ro_skip rfl rfl ?_
    refine ro rfl rfl (OpOk.step (ok_pickb (t := false) (d := false) rfl rfl rfl)) ?_
    refine ro rfl rfl (OpOk.step (ok_moveb (c := false) (.inl rfl) rfl)) ?_
    refine ro_skip rfl rfl ?_
    refine ro_skip rfl rfl ?_
    refine ro_skip rfl rfl ?_
    refine ro_skip rfl rfl ?_
    refine ro_skip rfl rfl ?_
    refine ro rfl rfl (OpOk.step (ok_pickb (t := false) (d := false) rfl rfl rfl)) ?_
    refine ro rfl rfl (OpOk.step (ok_moveb (c := false) (.inl rfl) rfl)) ?_
    refine ro_skip rfl rfl ?_
    refine ro_skip rfl rfl ?_
    refine ro_skip rfl rfl ?_
    refine ro_skip rfl rfl ?_
    refine ro_skip rfl rfl ?_
    refine ro rfl rfl (OpOk.step (ok_pickb (t := false) (d := false) rfl rfl rfl)) ?_
    refine ro rfl rfl (OpOk.step (ok_moveb (c := false) (.inl rfl) rfl)) ?_
    refine ro_skip rfl rfl ?_
    refine ro_skip rfl rfl ?_
    refine ro_skip rfl rfl ?_
    refine ro_skip rfl rfl ?_
    refine ro_skip rfl rfl ?_
    refine ro rfl rfl (OpOk.step (ok_pickb (t := false) (d := false) rfl rfl rfl)) ?_
    refine ro rfl rfl (OpOk.step (ok_moveb (c := false) (.inr rfl) rfl)) ?_
    refine ro_nil ?_
    refine keepK hK8 [4] (by dsimp) (by dsimp) ?_
    refine T.ret (hQ _ _ _ rfl ?_).1 -- ret 10
    exact by first | (rw [decide_eq_false (by unfold SA; rintro ⟨h1, h2, h3, h4, h5, h6, h7, h8, h9, h10⟩; contradiction)]; exact TEnt.fin [] (by decide) (by simp) rfl ⟨rfl, trivial⟩) | (rw [decide_eq_false (by unfold SA; rintro ⟨h1, h2, h3, h4, h5, h6, h7, h8, h9, h10⟩; simp_all <;> fail)]; exact TEnt.fin [] (by decide) (by simp) rfl ⟨rfl, trivial⟩) | (have e : decide (SA a b) = strEq a.cd b.cd := (by unfold SA; simp_all); rw [e]; exact TEnt.fin [] (by decide) (by simp) rfl ⟨rfl, trivial⟩)
set_option maxHeartbeats 1000000 in
theorem rcsame_ok (a b : Ac) : CSpec Try.prog 47 [] [.agg (AcC a), .agg (AcC b)] [] (.b (decide (SA a b))) := by
  refine CSpec.body Try.func47 rfl rfl rfl rfl rfl fun Q hQ => ?_
  refine T.seq fun K1 hK1 => ?_
  refine T.region ?_ -- region 0
  refine ro rfl rfl (OpOk.step (ok_box (n := 10) rfl rfl (by decide))) ?_
  refine ro rfl rfl (OpOk.step (ok_box (n := 10) rfl rfl (by decide))) ?_
  refine ro rfl rfl (OpOk.step (ok_moveb (c := false) (.inr rfl) rfl)) ?_
  refine ro_nil ?_
  refine keepK hK1 [2, 3] (by dsimp) (by dsimp) ?_
  refine T.seq fun K2 hK2 => ?_
  refine T.seq fun K3 hK3 => ?_
  refine T.region ?_ -- region 1
  refine ro rfl rfl (OpOk.step (ok_fieldAddr rfl ti_api_Act rfl rfl ti_int (by decide) rfl)) ?_
  refine ro rfl rfl (OpOk.step (ok_load rfl ti_int rfl rfl)) ?_
  refine ro rfl rfl (OpOk.step (ok_fieldAddr rfl ti_api_Act rfl rfl ti_int (by decide) rfl)) ?_
  refine ro rfl rfl (OpOk.step (ok_load rfl ti_int rfl rfl)) ?_
  refine ro rfl rfl (OpOk.step (ok_binOp rfl ti_int rfl)) ?_
  refine ro_case rfl rfl (OpOk.step (ok_moveb (.inl rfl) rfl)) (fun hb => ?_) (fun hb => ?_)
  · (try simp only [decide_eq_true_eq, decide_eq_false_iff_not, beq_iff_eq, beq_eq_false_iff_ne, bne_iff_ne, bne_eq_false_iff_eq, ne_eq, Bool.not_eq_true', Bool.not_eq_false'] at hb)
    refine ro_skip rfl rfl ?_
    refine ro_skip rfl rfl ?_
    refine ro_skip rfl rfl ?_
    refine ro_skip rfl rfl ?_
    refine ro_skip rfl rfl ?_
    refine ro rfl rfl (OpOk.step (ok_pickb (t := true) (d := true) rfl rfl rfl)) ?_
    refine ro rfl rfl (OpOk.step (ok_moveb (c := true) (.inl rfl) rfl)) ?_
    refine ro_skip rfl rfl ?_
    refine ro_skip rfl rfl ?_
    refine ro_skip rfl rfl ?_
    refine ro_skip rfl rfl ?_
    refine ro_skip rfl rfl ?_
    refine ro rfl rfl (OpOk.step (ok_pickb (t := true) (d := true) rfl rfl rfl)) ?_
    refine ro rfl rfl (OpOk.step (ok_moveb (c := true) (.inl rfl) rfl)) ?_
    refine ro_skip rfl rfl ?_
    refine ro_skip rfl rfl ?_
    refine ro_skip rfl rfl ?_
    refine ro_skip rfl rfl ?_
    refine ro_skip rfl rfl ?_
    refine ro_skip rfl rfl ?_
    refine ro_skip rfl rfl ?_
    refine ro rfl rfl (OpOk.step (ok_pickb (t := true) (d := true) rfl rfl rfl)) ?_
    refine ro_nil ?_
    refine keepK hK3 [2, 3, 34] (by dsimp) (by dsimp) ?_
    refine T.cond_true rfl ?_
    refine T.seq fun K4 hK4 => ?_
    refine T.region ?_ -- region 2
    refine ro rfl rfl (OpOk.step (ok_moveb (c := false) (.inr rfl) rfl)) ?_
    refine ro_nil ?_
    refine keepK hK4 [4] (by dsimp) (by dsimp) ?_
    refine T.ret (hQ _ _ _ rfl ?_).1 -- ret 1
    exact by first | (rw [decide_eq_false (by unfold SA; rintro ⟨h1, h2, h3, h4, h5, h6, h7, h8, h9, h10⟩; contradiction)]; exact TEnt.fin [] (by decide) (by simp) rfl ⟨rfl, trivial⟩) | (rw [decide_eq_false (by unfold SA; rintro ⟨h1, h2, h3, h4, h5, h6, h7, h8, h9, h10⟩; simp_all; done)]; exact TEnt.fin [] (by decide) (by simp) rfl ⟨rfl, trivial⟩) | (have e : decide (SA a b) = strEq a.cd b.cd := (by unfold SA; simp_all); rw [e]; exact TEnt.fin [] (by decide) (by simp) rfl ⟨rfl, trivial⟩)
  · (try simp only [decide_eq_true_eq, decide_eq_false_iff_not, beq_iff_eq, beq_eq_false_iff_ne, bne_iff_ne, bne_eq_false_iff_eq, ne_eq, Bool.not_eq_true', Bool.not_eq_false'] at hb)
    refine ro rfl rfl (OpOk.step (ok_fieldAddr rfl ti_api_Act rfl rfl ti_int (by decide) rfl)) ?_
    refine ro rfl rfl (OpOk.step (ok_load rfl ti_int rfl rfl)) ?_
    refine ro rfl rfl (OpOk.step (ok_fieldAddr rfl ti_api_Act rfl rfl ti_int (by decide) rfl)) ?_
    refine ro rfl rfl (OpOk.step (ok_load rfl ti_int rfl rfl)) ?_
    refine ro rfl rfl (OpOk.step (ok_binOp rfl ti_int rfl)) ?_
    refine ro rfl rfl (OpOk.step (ok_pick rfl rfl)) ?_
    refine ro_case rfl rfl (OpOk.step (ok_moveb (.inl rfl) rfl)) (fun hb => ?_) (fun hb => ?_)
    · (try simp only [decide_eq_true_eq, decide_eq_false_iff_not, beq_iff_eq, beq_eq_false_iff_ne, bne_iff_ne, bne_eq_false_iff_eq, ne_eq, Bool.not_eq_true', Bool.not_eq_false'] at hb)
      refine ro_skip rfl rfl ?_
      refine ro_skip rfl rfl ?_
      refine ro_skip rfl rfl ?_
      refine ro_skip rfl rfl ?_
      refine ro_skip rfl rfl ?_
      refine ro rfl rfl (OpOk.step (ok_pickb (t := true) (d := true) rfl rfl rfl)) ?_
      refine ro rfl rfl (OpOk.step (ok_moveb (c := true) (.inl rfl) rfl)) ?_
      refine ro_skip rfl rfl ?_
      refine ro_skip rfl rfl ?_
      refine ro_skip rfl rfl ?_
      refine ro_skip rfl rfl ?_
      refine ro_skip rfl rfl ?_
      refine ro_skip rfl rfl ?_
      refine ro_skip rfl rfl ?_
      refine ro rfl rfl (OpOk.step (ok_pickb (t := true) (d := true) rfl rfl rfl)) ?_
      refine ro_nil ?_
      refine keepK hK3 [2, 3, 34] (by dsimp) (by dsimp) ?_
      refine T.cond_true rfl ?_
      refine T.seq fun K5 hK5 => ?_
      refine T.region ?_ -- region 2
      refine ro rfl rfl (OpOk.step (ok_moveb (c := false) (.inr rfl) rfl)) ?_
      refine ro_nil ?_
      refine keepK hK5 [4] (by dsimp) (by dsimp) ?_
      refine T.ret (hQ _ _ _ rfl ?_).1 -- ret 2
      exact by first | (rw [decide_eq_false (by unfold SA; rintro ⟨h1, h2, h3, h4, h5, h6, h7, h8, h9, h10⟩; contradiction)]; exact TEnt.fin [] (by decide) (by simp) rfl ⟨rfl, trivial⟩) | (rw [decide_eq_false (by unfold SA; rintro ⟨h1, h2, h3, h4, h5, h6, h7, h8, h9, h10⟩; simp_all; done)]; exact TEnt.fin [] (by decide) (by simp) rfl ⟨rfl, trivial⟩) | (have e : decide (SA a b) = strEq a.cd b.cd := (by unfold SA; simp_all); rw [e]; exact TEnt.fin [] (by decide) (by simp) rfl ⟨rfl, trivial⟩)
    · (try simp only [decide_eq_true_eq, decide_eq_false_iff_not, beq_iff_eq, beq_eq_false_iff_ne, bne_iff_ne, bne_eq_false_iff_eq, ne_eq, Bool.not_eq_true', Bool.not_eq_false'] at hb)
      refine ro rfl rfl (OpOk.step (ok_fieldAddr rfl ti_api_Act rfl rfl ti_int (by decide) rfl)) ?_
      refine ro rfl rfl (OpOk.step (ok_load rfl ti_int rfl rfl)) ?_
      refine ro rfl rfl (OpOk.step (ok_fieldAddr rfl ti_api_Act rfl rfl ti_int (by decide) rfl)) ?_
      refine ro rfl rfl (OpOk.step (ok_load rfl ti_int rfl rfl)) ?_
      refine ro rfl rfl (OpOk.step (ok_binOp rfl ti_int rfl)) ?_
      refine ro rfl rfl (OpOk.step (ok_pick rfl rfl)) ?_
      refine ro_case rfl rfl (OpOk.step (ok_moveb (.inl rfl) rfl)) (fun hb => ?_) (fun hb => ?_)
      · (try simp only [decide_eq_true_eq, decide_eq_false_iff_not, beq_iff_eq, beq_eq_false_iff_ne, bne_iff_ne, bne_eq_false_iff_eq, ne_eq, Bool.not_eq_true', Bool.not_eq_false'] at hb)
        refine ro_skip rfl rfl ?_
        refine ro_skip rfl rfl ?_
        refine ro_skip rfl rfl ?_
        refine ro_skip rfl rfl ?_
        refine ro_skip rfl rfl ?_
        refine ro_skip rfl rfl ?_
        refine ro_skip rfl rfl ?_
        refine ro rfl rfl (OpOk.step (ok_pickb (t := true) (d := true) rfl rfl rfl)) ?_
        refine ro_nil ?_
        refine keepK hK3 [2, 3, 34] (by dsimp) (by dsimp) ?_
        refine T.cond_true rfl ?_
        refine T.seq fun K6 hK6 => ?_
        refine T.region ?_ -- region 2
        refine ro rfl rfl (OpOk.step (ok_moveb (c := false) (.inr rfl) rfl)) ?_
        refine ro_nil ?_
        refine keepK hK6 [4] (by dsimp) (by dsimp) ?_
        refine T.ret (hQ _ _ _ rfl ?_).1 -- ret 3
        exact by first | (rw [decide_eq_false (by unfold SA; rintro ⟨h1, h2, h3, h4, h5, h6, h7, h8, h9, h10⟩; contradiction)]; exact TEnt.fin [] (by decide) (by simp) rfl ⟨rfl, trivial⟩) | (rw [decide_eq_false (by unfold SA; rintro ⟨h1, h2, h3, h4, h5, h6, h7, h8, h9, h10⟩; simp_all; done)]; exact TEnt.fin [] (by decide) (by simp) rfl ⟨rfl, trivial⟩) | (have e : decide (SA a b) = strEq a.cd b.cd := (by unfold SA; simp_all); rw [e]; exact TEnt.fin [] (by decide) (by simp) rfl ⟨rfl, trivial⟩)
      · (try simp only [decide_eq_true_eq, decide_eq_false_iff_not, beq_iff_eq, beq_eq_false_iff_ne, bne_iff_ne, bne_eq_false_iff_eq, ne_eq, Bool.not_eq_true', Bool.not_eq_false'] at hb)
        refine ro rfl rfl (OpOk.step (ok_fieldAddr rfl ti_api_Act rfl rfl ti_Luint8 (by decide) rfl)) ?_
        refine ro rfl rfl (OpOk.step (ok_load rfl ti_Luint8 rfl rfl)) ?_
        refine ro rfl rfl (OpOk.step (ok_conv_str rfl ti_Luint8 ti_string rfl ti_uint8 rfl rfl rfl rfl (bytesOf_ints _))) ?_
        refine ro rfl rfl (OpOk.step (ok_fieldAddr rfl ti_api_Act rfl rfl ti_Luint8 (by decide) rfl)) ?_
        refine ro rfl rfl (OpOk.step (ok_load rfl ti_Luint8 rfl rfl)) ?_
        refine ro rfl rfl (OpOk.step (ok_conv_str rfl ti_Luint8 ti_string rfl ti_uint8 rfl rfl rfl rfl (bytesOf_ints _))) ?_
        refine ro rfl rfl (OpOk.step ((ok_binOp rfl ti_string rfl).eq (x' := .b (!strEq a.keep b.keep)) rfl rfl)) ?_
        refine ro rfl rfl (OpOk.step (ok_pick rfl rfl)) ?_
        refine ro_nil ?_
        refine keepK hK3 [2, 3, 34] (by dsimp) (by dsimp) ?_
        refine T.cond rfl (fun hc => ?_) (fun hc => ?_) -- cond 1
        · (try simp only [decide_eq_true_eq, decide_eq_false_iff_not, beq_iff_eq, beq_eq_false_iff_ne, bne_iff_ne, bne_eq_false_iff_eq, ne_eq, Bool.not_eq_true', Bool.not_eq_false'] at hc)
          refine T.seq fun K7 hK7 => ?_
          refine T.region ?_ -- region 2
          refine ro rfl rfl (OpOk.step (ok_moveb (c := false) (.inr rfl) rfl)) ?_
          refine ro_nil ?_
          refine keepK hK7 [4] (by dsimp) (by dsimp) ?_
          refine T.ret (hQ _ _ _ rfl ?_).1 -- ret 4
          exact by first | (rw [decide_eq_false (by unfold SA; rintro ⟨h1, h2, h3, h4, h5, h6, h7, h8, h9, h10⟩; contradiction)]; exact TEnt.fin [] (by decide) (by simp) rfl ⟨rfl, trivial⟩) | (rw [decide_eq_false (by unfold SA; rintro ⟨h1, h2, h3, h4, h5, h6, h7, h8, h9, h10⟩; simp_all; done)]; exact TEnt.fin [] (by decide) (by simp) rfl ⟨rfl, trivial⟩) | (have e : decide (SA a b) = strEq a.cd b.cd := (by unfold SA; simp_all); rw [e]; exact TEnt.fin [] (by decide) (by simp) rfl ⟨rfl, trivial⟩)
        · (try simp only [decide_eq_true_eq, decide_eq_false_iff_not, beq_iff_eq, beq_eq_false_iff_ne, bne_iff_ne, bne_eq_false_iff_eq, ne_eq, Bool.not_eq_true', Bool.not_eq_false'] at hc)
          refine T.skip ?_
          refine keepK hK2 [2, 3] (by dsimp) (by dsimp) ?_
          refine T.seq fun K8 hK8 => ?_
          refine T.join hK8 [(5, .ref 2 0 0), (6, .ref 3 0 0)] [some (AcB a), some (AcB b), some (CmB a), some (CmB b)] (fun hJ9 => ?_) ?_
          ·
            refine T.draw mixed (SH [] (HeldL ([some (AcB a), some (AcB b)]))) ?_ -- region 3
            refine any_take 0 rfl (by first | rfl | decide +kernel) rfl (by first | (simp [HeldL]; done) | (simp only [HeldL, List.map_cons, List.map_nil, List.cons_append, List.nil_append, List.set_cons_zero, List.set_cons_succ]; (repeat' first | trivial | rfl | constructor))) (fun H' hH => OpOk.step (ok_fieldAddr rfl ti_api_Act rfl rfl ti_api_Cmd (by decide) rfl)) ?_
            refine any_take 1 rfl (by first | rfl | decide +kernel) rfl (by first | (simp [HeldL]; done) | (simp only [HeldL, List.map_cons, List.map_nil, List.cons_append, List.nil_append, List.set_cons_zero, List.set_cons_succ]; (repeat' first | trivial | rfl | constructor))) (fun H' hH => OpOk.step (ok_load rfl ti_api_Cmd (locA_held hH rfl) rfl)) ?_
            refine any_take 2 rfl (by first | rfl | decide +kernel) rfl (by first | (simp [HeldL]; done) | (simp only [HeldL, List.map_cons, List.map_nil, List.cons_append, List.nil_append, List.set_cons_zero, List.set_cons_succ]; (repeat' first | trivial | rfl | constructor))) (fun H' hH => OpOk.step (ok_fieldAddr rfl ti_api_Act rfl rfl ti_api_Cmd (by decide) rfl)) ?_
            refine any_take 3 rfl (by first | rfl | decide +kernel) rfl (by first | (simp [HeldL]; done) | (simp only [HeldL, List.map_cons, List.map_nil, List.cons_append, List.nil_append, List.set_cons_zero, List.set_cons_succ]; (repeat' first | trivial | rfl | constructor))) (fun H' hH => OpOk.step (ok_load rfl ti_api_Cmd (locA_held hH rfl) rfl)) ?_
            refine any_many [4, 5] (by first | rfl | decide +kernel) (by decide) (fun k hk => ?_)
            simp only [List.mem_cons, List.not_mem_nil, or_false] at hk
            rcases hk with rfl | rfl
            ·
              refine step_one rfl rfl rfl (OpOk.step (ok_alloc rfl ti_api_Cmd rfl (by decide))) (.inr (by first | (simp [HeldL]; done) | (simp only [HeldL, List.map_cons, List.map_nil, List.cons_append, List.nil_append, List.set_cons_zero, List.set_cons_succ]; (repeat' first | trivial | rfl | constructor)))) ?_
              refine any_one 5 rfl (by first | rfl | decide +kernel) rfl rfl (OpOk.step (ok_alloc rfl ti_api_Cmd rfl (by decide))) (.inr (by first | (simp [HeldL]; done) | (simp only [HeldL, List.map_cons, List.map_nil, List.cons_append, List.nil_append, List.set_cons_zero, List.set_cons_succ]; (repeat' first | trivial | rfl | constructor)))) ?_
              refine any_one 6 rfl (by first | rfl | decide +kernel) rfl rfl (OpOk.step (ok_store rfl ti_api_Cmd (by decide) rfl rfl rfl rfl rfl (by first | exact Nat.le_of_ble_eq_true rfl | simp) (by first | exact .inl ⟨rfl, rfl⟩ | exact .inr rfl))) (.inr (by first | (simp [HeldL]; done) | (simp only [HeldL, List.map_cons, List.map_nil, List.cons_append, List.nil_append, List.set_cons_zero, List.set_cons_succ]; (repeat' first | trivial | rfl | constructor)))) ?_
              refine any_one 7 rfl (by first | rfl | decide +kernel) rfl rfl (OpOk.step (ok_store rfl ti_api_Cmd (by decide) rfl rfl rfl rfl rfl (by first | exact Nat.le_of_ble_eq_true rfl | simp) (by first | exact .inl ⟨rfl, rfl⟩ | exact .inr rfl))) (.inr (by first | (simp [HeldL]; done) | (simp only [HeldL, List.map_cons, List.map_nil, List.cons_append, List.nil_append, List.set_cons_zero, List.set_cons_succ]; (repeat' first | trivial | rfl | constructor)))) ?_
              refine any_done rfl ?_
              first | exact hJ9 _ _ (TEnt.toH rfl ⟨rfl, rfl, trivial⟩) | exact hJ9 _ _ (TEnt.fin [0, 1, 3, 2] (by decide) (by simp) (by show normH [0, 1, 3, 2] [some (AcB a), some (AcB b), some (CmB b), some (CmB a)] = _; simp [normH, hget, AcB_ren, CmB_ren]) ⟨rfl, rfl, trivial⟩)
            ·
              refine step_one rfl rfl rfl (OpOk.step (ok_alloc rfl ti_api_Cmd rfl (by decide))) (.inr (by first | (simp [HeldL]; done) | (simp only [HeldL, List.map_cons, List.map_nil, List.cons_append, List.nil_append, List.set_cons_zero, List.set_cons_succ]; (repeat' first | trivial | rfl | constructor)))) ?_
              refine any_one 4 rfl (by first | rfl | decide +kernel) rfl rfl (OpOk.step (ok_alloc rfl ti_api_Cmd rfl (by decide))) (.inr (by first | (simp [HeldL]; done) | (simp only [HeldL, List.map_cons, List.map_nil, List.cons_append, List.nil_append, List.set_cons_zero, List.set_cons_succ]; (repeat' first | trivial | rfl | constructor)))) ?_
              refine any_one 6 rfl (by first | rfl | decide +kernel) rfl rfl (OpOk.step (ok_store rfl ti_api_Cmd (by decide) rfl rfl rfl rfl rfl (by first | exact Nat.le_of_ble_eq_true rfl | simp) (by first | exact .inl ⟨rfl, rfl⟩ | exact .inr rfl))) (.inr (by first | (simp [HeldL]; done) | (simp only [HeldL, List.map_cons, List.map_nil, List.cons_append, List.nil_append, List.set_cons_zero, List.set_cons_succ]; (repeat' first | trivial | rfl | constructor)))) ?_
              refine any_one 7 rfl (by first | rfl | decide +kernel) rfl rfl (OpOk.step (ok_store rfl ti_api_Cmd (by decide) rfl rfl rfl rfl rfl (by first | exact Nat.le_of_ble_eq_true rfl | simp) (by first | exact .inl ⟨rfl, rfl⟩ | exact .inr rfl))) (.inr (by first | (simp [HeldL]; done) | (simp only [HeldL, List.map_cons, List.map_nil, List.cons_append, List.nil_append, List.set_cons_zero, List.set_cons_succ]; (repeat' first | trivial | rfl | constructor)))) ?_
              refine any_done rfl ?_
              first | exact hJ9 _ _ (TEnt.toH rfl ⟨rfl, rfl, trivial⟩) | exact hJ9 _ _ (TEnt.fin [0, 1, 3, 2] (by decide) (by simp) (by show normH [0, 1, 3, 2] [some (AcB a), some (AcB b), some (CmB b), some (CmB a)] = _; simp [normH, hget, AcB_ren, CmB_ren]) ⟨rfl, rfl, trivial⟩)
          refine T.seq fun K10 hK10 => ?_
          refine T.region ?_ -- region 4
          refine ro rfl rfl (OpOk.step (ok_fieldAddr rfl ti_api_Cmd rfl rfl ti_int (by decide) rfl)) ?_
          refine ro rfl rfl (OpOk.step (ok_load rfl ti_int rfl rfl)) ?_
          refine ro rfl rfl (OpOk.step (ok_fieldAddr rfl ti_api_Cmd rfl rfl ti_int (by decide) rfl)) ?_
          refine ro rfl rfl (OpOk.step (ok_load rfl ti_int rfl rfl)) ?_
          refine ro rfl rfl (OpOk.step (ok_binOp rfl ti_int rfl)) ?_
          refine ro_case rfl rfl (OpOk.step (ok_moveb (.inl rfl) rfl)) (fun hb => ?_) (fun hb => ?_)
          · (try simp only [decide_eq_true_eq, decide_eq_false_iff_not, beq_iff_eq, beq_eq_false_iff_ne, bne_iff_ne, bne_eq_false_iff_eq, ne_eq, Bool.not_eq_true', Bool.not_eq_false'] at hb)
            refine ro rfl rfl (OpOk.step (ok_fieldAddr rfl ti_api_Cmd rfl rfl ti_int (by decide) rfl)) ?_
            refine ro rfl rfl (OpOk.step (ok_load rfl ti_int rfl rfl)) ?_
            refine ro rfl rfl (OpOk.step (ok_fieldAddr rfl ti_api_Cmd rfl rfl ti_int (by decide) rfl)) ?_
            refine ro rfl rfl (OpOk.step (ok_load rfl ti_int rfl rfl)) ?_
            refine ro rfl rfl (OpOk.step (ok_binOp rfl ti_int rfl)) ?_
            refine ro rfl rfl (OpOk.step (ok_pick rfl rfl)) ?_
            refine ro_case rfl rfl (OpOk.step (ok_moveb (.inl rfl) rfl)) (fun hb => ?_) (fun hb => ?_)
            · (try simp only [decide_eq_true_eq, decide_eq_false_iff_not, beq_iff_eq, beq_eq_false_iff_ne, bne_iff_ne, bne_eq_false_iff_eq, ne_eq, Bool.not_eq_true', Bool.not_eq_false'] at hb)
              refine ro rfl rfl (OpOk.step (ok_fieldAddr rfl ti_api_Cmd rfl rfl ti_int (by decide) rfl)) ?_
              refine ro rfl rfl (OpOk.step (ok_load rfl ti_int rfl rfl)) ?_
              refine ro rfl rfl (OpOk.step (ok_fieldAddr rfl ti_api_Cmd rfl rfl ti_int (by decide) rfl)) ?_
              refine ro rfl rfl (OpOk.step (ok_load rfl ti_int rfl rfl)) ?_
              refine ro rfl rfl (OpOk.step (ok_binOp rfl ti_int rfl)) ?_
              refine ro rfl rfl (OpOk.step (ok_pick rfl rfl)) ?_
              refine ro_case rfl rfl (OpOk.step (ok_moveb (.inl rfl) rfl)) (fun hb => ?_) (fun hb => ?_)
              · (try simp only [decide_eq_true_eq, decide_eq_false_iff_not, beq_iff_eq, beq_eq_false_iff_ne, bne_iff_ne, bne_eq_false_iff_eq, ne_eq, Bool.not_eq_true', Bool.not_eq_false'] at hb)
                refine ro rfl rfl (OpOk.step (ok_fieldAddr rfl ti_api_Cmd rfl rfl ti_int (by decide) rfl)) ?_
                refine ro rfl rfl (OpOk.step (ok_load rfl ti_int rfl rfl)) ?_
                refine ro rfl rfl (OpOk.step (ok_fieldAddr rfl ti_api_Cmd rfl rfl ti_int (by decide) rfl)) ?_
                refine ro rfl rfl (OpOk.step (ok_load rfl ti_int rfl rfl)) ?_
                refine ro rfl rfl (OpOk.step (ok_binOp rfl ti_int rfl)) ?_
                refine ro rfl rfl (OpOk.step (ok_pick rfl rfl)) ?_
                refine ro_case rfl rfl (OpOk.step (ok_moveb (.inl rfl) rfl)) (fun hb => ?_) (fun hb => ?_)
                · (try simp only [decide_eq_true_eq, decide_eq_false_iff_not, beq_iff_eq, beq_eq_false_iff_ne, bne_iff_ne, bne_eq_false_iff_eq, ne_eq, Bool.not_eq_true', Bool.not_eq_false'] at hb)
                  refine ro rfl rfl (OpOk.step (ok_fieldAddr rfl ti_api_Cmd rfl rfl ti_bool (by decide) rfl)) ?_
                  refine ro rfl rfl (OpOk.step (ok_load rfl ti_bool rfl rfl)) ?_
                  refine ro rfl rfl (OpOk.step (ok_fieldAddr rfl ti_api_Cmd rfl rfl ti_bool (by decide) rfl)) ?_
                  refine ro rfl rfl (OpOk.step (ok_load rfl ti_bool rfl rfl)) ?_
                  refine ro rfl rfl (OpOk.step (ok_binOp rfl ti_bool rfl)) ?_
                  refine ro rfl rfl (OpOk.step (ok_pick rfl rfl)) ?_
                  refine ro_case rfl rfl (OpOk.step (ok_moveb (.inl rfl) rfl)) (fun hb => ?_) (fun hb => ?_)
                  · (try simp only [decide_eq_true_eq, decide_eq_false_iff_not, beq_iff_eq, beq_eq_false_iff_ne, bne_iff_ne, bne_eq_false_iff_eq, ne_eq, Bool.not_eq_true', Bool.not_eq_false'] at hb)
                    refine ro rfl rfl (OpOk.step (ok_fieldAddr rfl ti_api_Cmd rfl rfl ti_Luint8 (by decide) rfl)) ?_
                    refine ro rfl rfl (OpOk.step (ok_load rfl ti_Luint8 rfl rfl)) ?_
                    refine ro rfl rfl (OpOk.step (ok_conv_str rfl ti_Luint8 ti_string rfl ti_uint8 rfl rfl rfl rfl (bytesOf_ints _))) ?_
                    refine ro rfl rfl (OpOk.step (ok_fieldAddr rfl ti_api_Cmd rfl rfl ti_Luint8 (by decide) rfl)) ?_
                    refine ro rfl rfl (OpOk.step (ok_load rfl ti_Luint8 rfl rfl)) ?_
                    refine ro rfl rfl (OpOk.step (ok_conv_str rfl ti_Luint8 ti_string rfl ti_uint8 rfl rfl rfl rfl (bytesOf_ints _))) ?_
                    refine ro rfl rfl (OpOk.step ((ok_binOp rfl ti_string rfl).eq (x' := .b (strEq a.cd b.cd)) rfl rfl)) ?_
                    refine ro rfl rfl (OpOk.step (ok_pick rfl rfl)) ?_
                    refine ro rfl rfl (OpOk.step (ok_move (.inr rfl))) ?_
                    refine ro_nil ?_
                    refine keepK hK10 [4] (by dsimp) (by dsimp) ?_
                    refine T.ret (hQ _ _ _ rfl ?_).1 -- ret 5
                    exact by first | (rw [decide_eq_false (by unfold SA; rintro ⟨h1, h2, h3, h4, h5, h6, h7, h8, h9, h10⟩; contradiction)]; exact TEnt.fin [] (by decide) (by simp) rfl ⟨rfl, trivial⟩) | (rw [decide_eq_false (by unfold SA; rintro ⟨h1, h2, h3, h4, h5, h6, h7, h8, h9, h10⟩; simp_all; done)]; exact TEnt.fin [] (by decide) (by simp) rfl ⟨rfl, trivial⟩) | (have e : decide (SA a b) = strEq a.cd b.cd := (by unfold SA; simp_all); rw [e]; exact TEnt.fin [] (by decide) (by simp) rfl ⟨rfl, trivial⟩)
                  · (try simp only [decide_eq_true_eq, decide_eq_false_iff_not, beq_iff_eq, beq_eq_false_iff_ne, bne_iff_ne, bne_eq_false_iff_eq, ne_eq, Bool.not_eq_true', Bool.not_eq_false'] at hb)
                    refine ro_skip rfl rfl ?_
                    refine ro_skip rfl rfl ?_
                    refine ro_skip rfl rfl ?_
                    refine ro_skip rfl rfl ?_
                    refine ro_skip rfl rfl ?_
                    refine ro_skip rfl rfl ?_
                    refine ro_skip rfl rfl ?_
                    refine ro rfl rfl (OpOk.step (ok_pickb (t := false) (d := false) rfl rfl rfl)) ?_
                    refine ro rfl rfl (OpOk.step (ok_moveb (c := false) (.inr rfl) rfl)) ?_
                    refine ro_nil ?_
                    refine keepK hK10 [4] (by dsimp) (by dsimp) ?_
                    refine T.ret (hQ _ _ _ rfl ?_).1 -- ret 6
                    exact by first | (rw [decide_eq_false (by unfold SA; rintro ⟨h1, h2, h3, h4, h5, h6, h7, h8, h9, h10⟩; contradiction)]; exact TEnt.fin [] (by decide) (by simp) rfl ⟨rfl, trivial⟩) | (rw [decide_eq_false (by unfold SA; rintro ⟨h1, h2, h3, h4, h5, h6, h7, h8, h9, h10⟩; simp_all; done)]; exact TEnt.fin [] (by decide) (by simp) rfl ⟨rfl, trivial⟩) | (have e : decide (SA a b) = strEq a.cd b.cd := (by unfold SA; simp_all); rw [e]; exact TEnt.fin [] (by decide) (by simp) rfl ⟨rfl, trivial⟩)
                · (try simp only [decide_eq_true_eq, decide_eq_false_iff_not, beq_iff_eq, beq_eq_false_iff_ne, bne_iff_ne, bne_eq_false_iff_eq, ne_eq, Bool.not_eq_true', Bool.not_eq_false'] at hb)
                  refine ro_skip rfl rfl ?_
                  refine ro_skip rfl rfl ?_
                  refine ro_skip rfl rfl ?_
                  refine ro_skip rfl rfl ?_
                  refine ro_skip rfl rfl ?_
                  refine ro rfl rfl (OpOk.step (ok_pickb (t := false) (d := false) rfl rfl rfl)) ?_
                  refine ro rfl rfl (OpOk.step (ok_moveb (c := false) (.inl rfl) rfl)) ?_
                  refine ro_skip rfl rfl ?_
                  refine ro_skip rfl rfl ?_
                  refine ro_skip rfl rfl ?_
                  refine ro_skip rfl rfl ?_
                  refine ro_skip rfl rfl ?_
                  refine ro_skip rfl rfl ?_
                  refine ro_skip rfl rfl ?_
                  refine ro rfl rfl (OpOk.step (ok_pickb (t := false) (d := false) rfl rfl rfl)) ?_
                  refine ro rfl rfl (OpOk.step (ok_moveb (c := false) (.inr rfl) rfl)) ?_
                  refine ro_nil ?_
                  refine keepK hK10 [4] (by dsimp) (by dsimp) ?_
                  refine T.ret (hQ _ _ _ rfl ?_).1 -- ret 7
                  exact by first | (rw [decide_eq_false (by unfold SA; rintro ⟨h1, h2, h3, h4, h5, h6, h7, h8, h9, h10⟩; contradiction)]; exact TEnt.fin [] (by decide) (by simp) rfl ⟨rfl, trivial⟩) | (rw [decide_eq_false (by unfold SA; rintro ⟨h1, h2, h3, h4, h5, h6, h7, h8, h9, h10⟩; simp_all; done)]; exact TEnt.fin [] (by decide) (by simp) rfl ⟨rfl, trivial⟩) | (have e : decide (SA a b) = strEq a.cd b.cd := (by unfold SA; simp_all); rw [e]; exact TEnt.fin [] (by decide) (by simp) rfl ⟨rfl, trivial⟩)
              · (try simp only [decide_eq_true_eq, decide_eq_false_iff_not, beq_iff_eq, beq_eq_false_iff_ne, bne_iff_ne, bne_eq_false_iff_eq, ne_eq, Bool.not_eq_true', Bool.not_eq_false'] at hb)
                refine ro_skip rfl rfl ?_
                refine ro_skip rfl rfl ?_
                refine ro_skip rfl rfl ?_
                refine ro_skip rfl rfl ?_
                refine ro_skip rfl rfl ?_
                refine ro rfl rfl (OpOk.step (ok_pickb (t := false) (d := false) rfl rfl rfl)) ?_
                refine ro rfl rfl (OpOk.step (ok_moveb (c := false) (.inl rfl) rfl)) ?_
                refine ro_skip rfl rfl ?_
                refine ro_skip rfl rfl ?_
                refine ro_skip rfl rfl ?_
                refine ro_skip rfl rfl ?_
                refine ro_skip rfl rfl ?_
                refine ro rfl rfl (OpOk.step (ok_pickb (t := false) (d := false) rfl rfl rfl)) ?_
                refine ro rfl rfl (OpOk.step (ok_moveb (c := false) (.inl rfl) rfl)) ?_
                refine ro_skip rfl rfl ?_
                refine ro_skip rfl rfl ?_
                refine ro_skip rfl rfl ?_
                refine ro_skip rfl rfl ?_
                refine ro_skip rfl rfl ?_
                refine ro_skip rfl rfl ?_
                refine ro_skip rfl rfl ?_
                refine ro rfl rfl (OpOk.step (ok_pickb (t := false) (d := false) rfl rfl rfl)) ?_
                refine ro rfl rfl (OpOk.step (ok_moveb (c := false) (.inr rfl) rfl)) ?_
                refine ro_nil ?_
                refine keepK hK10 [4] (by dsimp) (by dsimp) ?_
                refine T.ret (hQ _ _ _ rfl ?_).1 -- ret 8
                exact by first | (rw [decide_eq_false (by unfold SA; rintro ⟨h1, h2, h3, h4, h5, h6, h7, h8, h9, h10⟩; contradiction)]; exact TEnt.fin [] (by decide) (by simp) rfl ⟨rfl, trivial⟩) | (rw [decide_eq_false (by unfold SA; rintro ⟨h1, h2, h3, h4, h5, h6, h7, h8, h9, h10⟩; simp_all; done)]; exact TEnt.fin [] (by decide) (by simp) rfl ⟨rfl, trivial⟩) | (have e : decide (SA a b) = strEq a.cd b.cd := (by unfold SA; simp_all); rw [e]; exact TEnt.fin [] (by decide) (by simp) rfl ⟨rfl, trivial⟩)
            · (try simp only [decide_eq_true_eq, decide_eq_false_iff_not, beq_iff_eq, beq_eq_false_iff_ne, bne_iff_ne, bne_eq_false_iff_eq, ne_eq, Bool.not_eq_true', Bool.not_eq_false'] at hb)
              refine ro_skip rfl rfl ?_
              refine ro_skip rfl rfl ?_
              refine ro_skip rfl rfl ?_
              refine ro_skip rfl rfl ?_
              refine ro_skip rfl rfl ?_
              refine ro rfl rfl (OpOk.step (ok_pickb (t := false) (d := false) rfl rfl rfl)) ?_
              refine ro rfl rfl (OpOk.step (ok_moveb (c := false) (.inl rfl) rfl)) ?_
              refine ro_skip rfl rfl ?_
              refine ro_skip rfl rfl ?_
              refine ro_skip rfl rfl ?_
              refine ro_skip rfl rfl ?_
              refine ro_skip rfl rfl ?_
              refine ro rfl rfl (OpOk.step (ok_pickb (t := false) (d := false) rfl rfl rfl)) ?_
              refine ro rfl rfl (OpOk.step (ok_moveb (c := false) (.inl rfl) rfl)) ?_
              refine ro_skip rfl rfl ?_
              refine ro_skip rfl rfl ?_
              refine ro_skip rfl rfl ?_
              refine ro_skip rfl rfl ?_
              refine ro_skip rfl rfl ?_
              refine ro rfl rfl (OpOk.step (ok_pickb (t := false) (d := false) rfl rfl rfl)) ?_
              refine ro rfl rfl (OpOk.step (ok_moveb (c := false) (.inl rfl) rfl)) ?_
              refine ro_skip rfl rfl ?_
              refine ro_skip rfl rfl ?_
              refine ro_skip rfl rfl ?_
              refine ro_skip rfl rfl ?_
              refine ro_skip rfl rfl ?_
              refine ro_skip rfl rfl ?_
              refine ro_skip rfl rfl ?_
              refine ro rfl rfl (OpOk.step (ok_pickb (t := false) (d := false) rfl rfl rfl)) ?_
              refine ro rfl rfl (OpOk.step (ok_moveb (c := false) (.inr rfl) rfl)) ?_
              refine ro_nil ?_
              refine keepK hK10 [4] (by dsimp) (by dsimp) ?_
              refine T.ret (hQ _ _ _ rfl ?_).1 -- ret 9
              exact by first | (rw [decide_eq_false (by unfold SA; rintro ⟨h1, h2, h3, h4, h5, h6, h7, h8, h9, h10⟩; contradiction)]; exact TEnt.fin [] (by decide) (by simp) rfl ⟨rfl, trivial⟩) | (rw [decide_eq_false (by unfold SA; rintro ⟨h1, h2, h3, h4, h5, h6, h7, h8, h9, h10⟩; simp_all; done)]; exact TEnt.fin [] (by decide) (by simp) rfl ⟨rfl, trivial⟩) | (have e : decide (SA a b) = strEq a.cd b.cd := (by unfold SA; simp_all); rw [e]; exact TEnt.fin [] (by decide) (by simp) rfl ⟨rfl, trivial⟩)
          · (try simp only [decide_eq_true_eq, decide_eq_false_iff_not, beq_iff_eq, beq_eq_false_iff_ne, bne_iff_ne, bne_eq_false_iff_eq, ne_eq, Bool.not_eq_true', Bool.not_eq_false'] at hb)
            refine ro_skip rfl rfl ?_
            refine ro_skip rfl rfl ?_
            refine ro_skip rfl rfl ?_
            refine ro_skip rfl rfl ?_
            refine ro_skip rfl rfl ?_
            refine ro rfl rfl (OpOk.step (ok_pickb (t := false) (d := false) rfl rfl rfl)) ?_
            refine ro rfl rfl (OpOk.step (ok_moveb (c := false) (.inl rfl) rfl)) ?_
            refine ro_skip rfl rfl ?_
            refine ro_skip rfl rfl ?_
            refine ro_skip rfl rfl ?_
            refine ro_skip rfl rfl ?_
            refine ro_skip rfl rfl ?_
            refine ro rfl rfl (OpOk.step (ok_pickb (t := false) (d := false) rfl rfl rfl)) ?_
            refine ro rfl rfl (OpOk.step (ok_moveb (c := false) (.inl rfl) rfl)) ?_
            refine ro_skip rfl rfl ?_
            refine ro_skip rfl rfl ?_
            refine ro_skip rfl rfl ?_
            refine ro_skip rfl rfl ?_
            refine ro_skip rfl rfl ?_
            refine ro rfl rfl (OpOk.step (ok_pickb (t := false) (d := false) rfl rfl rfl)) ?_
            refine ro rfl rfl (OpOk.step (ok_moveb (c := false) (.inl rfl) rfl)) ?_
            refine ro_skip rfl rfl ?_
            refine ro_skip rfl rfl ?_
            refine ro_skip rfl rfl ?_
            refine ro_skip rfl rfl ?_
            refine ro_skip rfl rfl ?_
            refine ro rfl rfl (OpOk.step (ok_pickb (t := false) (d := false) rfl rfl rfl)) ?_
            refine ro rfl rfl (OpOk.step (ok_moveb (c := false) (.inl rfl) rfl)) ?_
            refine ro_skip rfl rfl ?_
            refine ro_skip rfl rfl ?_
            refine ro_skip rfl rfl ?_
            refine ro_skip rfl rfl ?_
            refine ro_skip rfl rfl ?_
            refine ro_skip rfl rfl ?_
            refine ro_skip rfl rfl ?_
            refine ro rfl rfl (OpOk.step (ok_pickb (t := false) (d := false) rfl rfl rfl)) ?_
            refine ro rfl rfl (OpOk.step (ok_moveb (c := false) (.inr rfl) rfl)) ?_
            refine ro_nil ?_
            refine keepK hK10 [4] (by dsimp) (by dsimp) ?_
            refine T.ret (hQ _ _ _ rfl ?_).1 -- ret 10
            exact by first | (rw [decide_eq_false (by unfold SA; rintro ⟨h1, h2, h3, h4, h5, h6, h7, h8, h9, h10⟩; contradiction)]; exact TEnt.fin [] (by decide) (by simp) rfl ⟨rfl, trivial⟩) | (rw [decide_eq_false (by unfold SA; rintro ⟨h1, h2, h3, h4, h5, h6, h7, h8, h9, h10⟩; simp_all; done)]; exact TEnt.fin [] (by decide) (by simp) rfl ⟨rfl, trivial⟩) | (have e : decide (SA a b) = strEq a.cd b.cd := (by unfold SA; simp_all); rw [e]; exact TEnt.fin [] (by decide) (by simp) rfl ⟨rfl, trivial⟩)
def nms : List ByteArray := [⟨#[99, 109, 100]⟩, ⟨#[102, 117, 115, 101]⟩, ⟨#[107, 105, 108, 108]⟩, ⟨#[99, 114, 97, 115, 104]⟩, ⟨#[114, 101, 112, 108, 97, 99, 101]⟩, ⟨#[97, 116, 116, 97, 99, 104]⟩, ⟨#[115, 116, 101, 112]⟩, ⟨#[97, 108, 108]⟩]
def strs (l : List ByteArray) : List AV := l.map fun s => .v (.string s)
theorem strs_get {l : List ByteArray} {i : Nat} {s : ByteArray} (h : l[i]? = some s) : (strs l)[i]? = some (.v (.string s)) := by simp [strs, h]
theorem strs_len (l : List ByteArray) : (strs l).length = l.length := by simp [strs]
theorem strs_ren (ρ : Nat → Option Nat) (l : List ByteArray) : renL ρ (strs l) = strs l := by rw [renL_map]; simp [strs, AV.ren]
/-- A kind's name. -/
def nameV (k : Int) : ByteArray := if 0 ≤ k ∧ k < 8 then nms.getD k.toNat ⟨#[]⟩ else ⟨#[]⟩
theorem nameV_out {k : Int} (h : ¬ (0 ≤ k ∧ k < 8)) : nameV k = ⟨#[]⟩ := if_neg h
theorem nameV_in {k : Int} {s : ByteArray} (h : 0 ≤ k ∧ k < 8) (hs : nms[k.toNat]? = some s) : nameV k = s := by
  unfold nameV
  rw [if_pos h, List.getD_eq_getElem?_getD, hs]
  rfl
theorem name_ok (k : Int) : CSpec Try.prog 48 [] [.int k] [] (.v (.string (nameV k))) := by
  refine CSpec.body Try.func48 rfl rfl rfl rfl rfl fun Q hQ => ?_
  refine T.seq fun K1 hK1 => ?_
  refine T.region ?_ -- region 0
  refine ro rfl rfl (OpOk.step (ok_move (.inr rfl))) ?_
  refine ro_nil ?_
  refine keepK hK1 [0] (by dsimp) (by dsimp) ?_
  refine T.seq fun K2 hK2 => ?_
  refine T.region ?_ -- region 1
  refine ro rfl rfl (OpOk.step (((ok_buildSlice (n := 8) rfl ti_Lstring rfl ti_string (by decide) rfl rfl (by decide) rfl rfl rfl).frz rfl rfl).eq (x' := .fz 1 (strs nms)) (H'' := [some ⟨1, false, strs nms⟩]) rfl rfl)) ?_
  refine ro rfl rfl (OpOk.step (ok_move (.inr rfl))) ?_
  refine ro_nil ?_
  refine keepK hK2 [0, 3] (by dsimp) (by dsimp) ?_
  refine T.seq fun K3 hK3 => ?_
  refine T.seq fun K4 hK4 => ?_
  refine T.region ?_ -- region 2
  refine ro rfl rfl (OpOk.step (ok_move (.inl rfl))) ?_
  refine ro rfl rfl (OpOk.step (ok_binOp rfl ti_int rfl)) ?_
  refine ro_case rfl rfl (OpOk.step (ok_moveb (.inl rfl) rfl)) (fun hb => ?_) (fun hb => ?_)
  · (try simp only [decide_eq_true_eq, decide_eq_false_iff_not, beq_iff_eq, beq_eq_false_iff_ne, bne_iff_ne, bne_eq_false_iff_eq, ne_eq, Bool.not_eq_true', Bool.not_eq_false'] at hb)
    refine ro_skip rfl rfl ?_
    refine ro_skip rfl rfl ?_
    refine ro_skip rfl rfl ?_
    refine ro_skip rfl rfl ?_
    refine ro rfl rfl (OpOk.step (ok_pickb (t := true) (d := true) rfl rfl rfl)) ?_
    refine ro_nil ?_
    refine keepK hK4 [0, 3, 12] (by dsimp) (by dsimp) ?_
    refine T.cond_true rfl ?_
    refine T.seq fun K5 hK5 => ?_
    refine T.region ?_ -- region 3
    refine ro rfl rfl (OpOk.step (ok_move (.inr rfl))) ?_
    refine ro_nil ?_
    refine keepK hK5 [2] (by dsimp) (by dsimp) ?_
    refine T.ret (hQ _ _ _ rfl ?_).1 -- ret 1
    exact (by rw [nameV_out (by omega)]; exact TEnt.fin [] (by decide) (by simp) rfl ⟨rfl, trivial⟩)
  · (try simp only [decide_eq_true_eq, decide_eq_false_iff_not, beq_iff_eq, beq_eq_false_iff_ne, bne_iff_ne, bne_eq_false_iff_eq, ne_eq, Bool.not_eq_true', Bool.not_eq_false'] at hb)
    refine ro rfl rfl (OpOk.step (ok_move (.inl rfl))) ?_
    refine ro rfl rfl (OpOk.step (ok_move (.inl rfl))) ?_
    refine ro rfl rfl (OpOk.step (ok_len' rfl rfl ti_Lstring rfl (m := 8) rfl)) ?_
    refine ro rfl rfl (OpOk.step (ok_binOp rfl ti_int rfl)) ?_
    refine ro rfl rfl (OpOk.step (ok_pick rfl rfl)) ?_
    refine ro_nil ?_
    refine keepK hK4 [0, 3, 12] (by dsimp) (by dsimp) ?_
    refine T.cond rfl (fun hc => ?_) (fun hc => ?_) -- cond 1
    · (try simp only [decide_eq_true_eq, decide_eq_false_iff_not, beq_iff_eq, beq_eq_false_iff_ne, bne_iff_ne, bne_eq_false_iff_eq, ne_eq, Bool.not_eq_true', Bool.not_eq_false'] at hc)
      refine T.seq fun K6 hK6 => ?_
      refine T.region ?_ -- region 3
      refine ro rfl rfl (OpOk.step (ok_move (.inr rfl))) ?_
      refine ro_nil ?_
      refine keepK hK6 [2] (by dsimp) (by dsimp) ?_
      refine T.ret (hQ _ _ _ rfl ?_).1 -- ret 2
      exact (by rw [nameV_out (by omega)]; exact TEnt.fin [] (by decide) (by simp) rfl ⟨rfl, trivial⟩)
    · (try simp only [decide_eq_true_eq, decide_eq_false_iff_not, beq_iff_eq, beq_eq_false_iff_ne, bne_iff_ne, bne_eq_false_iff_eq, ne_eq, Bool.not_eq_true', Bool.not_eq_false'] at hc)
      obtain ⟨s, hs⟩ : ∃ s, nms[k.toNat]? = some s := ⟨_, List.getElem?_eq_getElem (by simp [nms]; omega)⟩
      have hv := nameV_in (by omega) hs
      rw [hv] at hQ
      refine T.skip ?_
      refine keepK hK3 [0, 3] (by dsimp) (by dsimp) ?_
      refine T.seq fun K7 hK7 => ?_
      refine T.region ?_ -- region 4
      refine ro rfl rfl (OpOk.step (ok_move (.inl rfl))) ?_
      refine ro rfl rfl (OpOk.step (ok_move (.inl rfl))) ?_
      refine ro rfl rfl (OpOk.step (by exact ok_index_fz rfl ti_Lstring rfl ti_string rfl rfl rfl (by omega) (strs_get hs) rfl)) ?_
      refine ro rfl rfl (OpOk.step (ok_load rfl ti_string rfl rfl)) ?_
      refine ro rfl rfl (OpOk.step (ok_move (.inr rfl))) ?_
      refine ro_nil ?_
      refine keepK hK7 [2] (by dsimp) (by dsimp) ?_
      refine T.ret (hQ _ _ _ rfl ?_).1 -- ret 3
      exact TEnt.fin [] (by decide) (by simp) rfl ⟨rfl, trivial⟩
theorem cints_frz (l L r : List Int) (hr : l ++ encs L = r) (hl : l.length ≤ 900000) (hL : L.length ≤ 20) : CSpec Try.prog 128 [] [.fz 1 (ints .u8 l), .fz 1 (ints .i64 L)] [] (.fz 1 (ints .u8 r)) := by
  refine CSpec.body Try.func128 rfl rfl rfl rfl rfl fun Q hQ => ?_
  refine T.seq fun K1 hK1 => ?_
  refine T.region ?_ -- region 0
  refine ro rfl rfl (OpOk.step (ok_move (.inr rfl))) ?_
  refine ro_nil ?_
  refine keepK hK1 [0, 1] (by dsimp) (by dsimp) ?_
  refine T.seq fun K2 hK2 => ?_
  refine T.seq fun K3 hK3 => ?_
  refine T.region ?_ -- region 1
  refine ro rfl rfl (OpOk.step (ok_move (.inl rfl))) ?_
  refine ro rfl rfl (OpOk.step (ok_len' rfl rfl ti_Lint rfl (by first | exact ints_length _ _ | exact rowsA_length _ _ | rfl))) ?_
  refine ro rfl rfl (OpOk.step (ok_move (.inl rfl))) ?_
  refine ro_nil ?_
  refine keepK hK3 [0, 7, 8, 9] (by dsimp) (by dsimp) ?_
  refine T.block ?_
  refine T.loopI (ι := Nat) (fun i => i ≤ L.length) (fun i => L.length - i) (fun i => ([(0, .fz 1 (ints .u8 (l ++ encs (L.take i)))), (7, .fz 1 (ints .i64 L)), (8, .int L.length), (9, .int i)], [])) 0 (Nat.zero_le _) (TEnt.toH rfl ⟨by simp [encs], rfl, rfl, rfl, trivial⟩) (fun i hi => ?_) -- loop 1
  refine T.seq fun K4 hK4 => ?_
  refine T.region ?_ -- region 2
  refine ro rfl rfl (OpOk.step (ok_binOp rfl ti_int rfl)) ?_
  refine ro_nil ?_
  refine keepK hK4 [0, 7, 8, 9, 10] (by dsimp) (by dsimp) ?_
  refine T.seq fun K5 hK5 => ?_
  refine T.cond rfl (fun hc => ?_) (fun hc => ?_) -- cond 1
  · (try simp only [decide_eq_true_eq, decide_eq_false_iff_not, beq_iff_eq, beq_eq_false_iff_ne, bne_iff_ne, bne_eq_false_iff_eq, ne_eq, Bool.not_eq_true', Bool.not_eq_false'] at hc)
    obtain ⟨x, hx⟩ : ∃ x, L[i]? = some x := ⟨_, List.getElem?_eq_getElem (by omega)⟩
    have hel : (l ++ encs (L.take i)).length ≤ 900160 := by rw [List.length_append, encs_len, List.length_take]; omega
    refine T.skip ?_
    refine keepK hK5 [0, 7, 8, 9] (by dsimp) (by dsimp) ?_
    refine T.seq fun K6 hK6 => ?_
    refine T.block ?_
    refine T.seq fun K7 hK7 => ?_
    refine T.region ?_ -- region 3
    refine ro rfl rfl (OpOk.step (by exact ok_index_ints rfl ti_Lint rfl ti_int rfl rfl rfl (by omega) (by simpa using hx))) ?_
    refine ro rfl rfl (OpOk.step (ok_load rfl ti_int rfl rfl)) ?_
    refine ro rfl rfl (OpOk.step (ok_move (.inr rfl))) ?_
    refine ro_nil ?_
    refine keepK hK7 [0, 6, 7, 8, 9] (by dsimp) (by dsimp) ?_
    refine T.region ?_ -- region 4
    refine ro rfl rfl (OpOk.step (ok_move (.inl rfl))) ?_
    refine ro rfl rfl (OpOk.step (ok_move (.inl rfl))) ?_
    refine ro rfl rfl (ok_call rfl rfl rfl ((pkint_frz (l := l ++ encs (L.take i)) (r := l ++ encs (L.take (i + 1))) (by rw [take_succ_get hx, encs_snoc, List.append_assoc]) (by omega)).plain (by simp [renL, AV.ren, renL_ints]) (by simp [AV.ren, renL_ints]))) ?_
    refine ro rfl rfl (OpOk.step (ok_move (.inr rfl))) ?_
    refine ro_nil ?_
    refine keepK hK6 [0, 7, 8, 9] (by dsimp) (by dsimp) ?_
    refine T.region ?_ -- region 5
    refine ro rfl rfl (OpOk.step (ok_add64 rfl ti_int rfl rfl (by omega) (by omega))) ?_
    refine ro rfl rfl (OpOk.step (ok_move (.inl rfl))) ?_
    refine ro_nil ?_
    exact ⟨i + 1, by omega, by omega, TEnt.toH rfl ⟨rfl, rfl, rfl, rfl, trivial⟩⟩
  · (try simp only [decide_eq_true_eq, decide_eq_false_iff_not, beq_iff_eq, beq_eq_false_iff_ne, bne_iff_ne, bne_eq_false_iff_eq, ne_eq, Bool.not_eq_true', Bool.not_eq_false'] at hc)
    have hil : i = L.length := by omega
    subst hil
    rw [List.take_length, hr]
    refine T.exit ?_
    refine keepK hK2 [0] (by dsimp) (by dsimp) ?_
    refine T.seq fun K8 hK8 => ?_
    refine T.region ?_ -- region 6
    refine ro rfl rfl (OpOk.step (ok_move (.inl rfl))) ?_
    refine ro rfl rfl (OpOk.step (ok_move (.inr rfl))) ?_
    refine ro_nil ?_
    refine keepK hK8 [4] (by dsimp) (by dsimp) ?_
    refine T.ret (hQ _ _ _ rfl ?_).1 -- ret 1
    exact TEnt.fin [] (by decide) (by simp) rfl ⟨by simp [tupA, AV.ren, renL_ints], trivial⟩
theorem rightconf_ok (c : Cf) : CSpec Try.prog 127 [] [.agg (CC c)] [] (.b (c.l.all farOk)) := by
  refine CSpec.body Try.func127 rfl rfl rfl rfl rfl fun Q hQ => ?_
  refine T.seq fun K1 hK1 => ?_
  refine T.region ?_ -- region 0
  refine ro rfl rfl (OpOk.step (ok_box (n := 11) rfl rfl (by decide))) ?_
  refine ro rfl rfl (OpOk.step (ok_moveb (c := false) (.inr rfl) rfl)) ?_
  refine ro_nil ?_
  refine keepK hK1 [1] (by dsimp) (by dsimp) ?_
  refine T.seq fun K2 hK2 => ?_
  refine T.region ?_ -- region 1
  refine ro rfl rfl (OpOk.step (ok_fieldAddr rfl ti_api_Conf rfl rfl ti_int (by decide) rfl)) ?_
  refine ro rfl rfl (OpOk.step (ok_load rfl ti_int rfl rfl)) ?_
  refine ro rfl rfl (OpOk.step (ok_fieldAddr rfl ti_api_Conf rfl rfl ti_int (by decide) rfl)) ?_
  refine ro rfl rfl (OpOk.step (ok_load rfl ti_int rfl rfl)) ?_
  refine ro rfl rfl (OpOk.step (ok_fieldAddr rfl ti_api_Conf rfl rfl ti_int (by decide) rfl)) ?_
  refine ro rfl rfl (OpOk.step (ok_load rfl ti_int rfl rfl)) ?_
  refine ro rfl rfl (OpOk.step (ok_fieldAddr rfl ti_api_Conf rfl rfl ti_int (by decide) rfl)) ?_
  refine ro rfl rfl (OpOk.step (ok_load rfl ti_int rfl rfl)) ?_
  refine ro rfl rfl (OpOk.step (ok_fieldAddr rfl ti_api_Conf rfl rfl ti_int (by decide) rfl)) ?_
  refine ro rfl rfl (OpOk.step (ok_load rfl ti_int rfl rfl)) ?_
  refine ro rfl rfl (OpOk.step (ok_fieldAddr rfl ti_api_Conf rfl rfl ti_int (by decide) rfl)) ?_
  refine ro rfl rfl (OpOk.step (ok_load rfl ti_int rfl rfl)) ?_
  refine ro rfl rfl (OpOk.step (ok_fieldAddr rfl ti_api_Conf rfl rfl ti_int (by decide) rfl)) ?_
  refine ro rfl rfl (OpOk.step (ok_load rfl ti_int rfl rfl)) ?_
  refine ro rfl rfl (OpOk.step (ok_fieldAddr rfl ti_api_Conf rfl rfl ti_int (by decide) rfl)) ?_
  refine ro rfl rfl (OpOk.step (ok_load rfl ti_int rfl rfl)) ?_
  refine ro rfl rfl (OpOk.step (ok_fieldAddr rfl ti_api_Conf rfl rfl ti_int (by decide) rfl)) ?_
  refine ro rfl rfl (OpOk.step (ok_load rfl ti_int rfl rfl)) ?_
  refine ro rfl rfl (OpOk.step (ok_fieldAddr rfl ti_api_Conf rfl rfl ti_int (by decide) rfl)) ?_
  refine ro rfl rfl (OpOk.step (ok_load rfl ti_int rfl rfl)) ?_
  refine ro rfl rfl (OpOk.step (ok_fieldAddr rfl ti_api_Conf rfl rfl ti_int (by decide) rfl)) ?_
  refine ro rfl rfl (OpOk.step (ok_load rfl ti_int rfl rfl)) ?_
  refine ro rfl rfl (OpOk.step (((ok_buildSlice (n := 11) rfl ti_Lint rfl ti_int (by decide) rfl rfl (by decide) rfl rfl rfl).frz rfl rfl).eq (x' := .fz 1 (ints .i64 c.l)) (H'' := [some (CB c), some ⟨1, false, ints .i64 c.l⟩]) rfl rfl)) ?_
  refine ro rfl rfl (ok_call rfl rfl rfl ((csane_ok c.l (by simp [Cf.l])).plain (by simp [renL, AV.ren, renL_ints]) rfl)) ?_
  refine ro rfl rfl (OpOk.step (ok_move (.inr rfl))) ?_
  refine ro_nil ?_
  refine keepK hK2 [2] (by dsimp) (by dsimp) ?_
  refine T.ret (hQ _ _ _ rfl ?_).1 -- ret 1
  exact TEnt.fin [] (by decide) (by simp) rfl ⟨rfl, trivial⟩
theorem rcconf_ok (c : Cf) : CSpec Try.prog 129 [] [.agg (CC c)] [] (.b (c.l.all farOk)) := by
  obtain ⟨L, hL⟩ : ∃ L, c.l.drop 1 = L := ⟨_, rfl⟩
  have hLl : L.length = 10 := by rw [← hL]; rfl
  have hS : c.l.all farOk = (farOk c.id && L.all farOk) := by rw [← hL]; rfl
  rw [hS]
  refine CSpec.body Try.func129 rfl rfl rfl rfl rfl fun Q hQ => ?_
  refine T.seq fun K1 hK1 => ?_
  refine T.region ?_ -- region 0
  refine ro rfl rfl (OpOk.step (ok_box (n := 11) rfl rfl (by decide))) ?_
  refine ro rfl rfl (OpOk.step (ok_moveb (c := false) (.inr rfl) rfl)) ?_
  refine ro_nil ?_
  refine keepK hK1 [1] (by dsimp) (by dsimp) ?_
  refine T.seq fun K2 hK2 => ?_
  refine T.region ?_ -- region 1
  refine ro rfl rfl (OpOk.step (ok_load rfl ti_api_Conf rfl rfl)) ?_
  refine ro rfl rfl (ok_call rfl rfl rfl (((list_frz c).plain rfl (by simp [AV.ren, renL_ints])).eq (x' := .fz 1 (ints .i64 L)) (by rw [hL]) rfl)) ?_
  refine ro rfl rfl (OpOk.step (ok_move (.inr rfl))) ?_
  refine ro_nil ?_
  refine keepK hK2 [1, 3] (by dsimp) (by dsimp) ?_
  refine T.seq fun K3 hK3 => ?_
  refine T.seq fun K4 hK4 => ?_
  refine T.region ?_ -- region 2
  refine ro rfl rfl (OpOk.step (ok_move (.inr rfl))) ?_
  refine ro_nil ?_
  refine keepK hK4 [1, 3, 4] (by dsimp) (by dsimp) ?_
  refine T.block ?_
  refine T.loopI (ι := Nat) (fun i => i ≤ 10 ∧ (L.take i).all farOk = true) (fun i => 10 - i) (fun i => ([(1, .ref 0 0 0), (3, .fz 1 (ints .i64 L)), (4, .int i)], [some (CB c)])) 0 ⟨Nat.zero_le _, rfl⟩ (TEnt.toH rfl ⟨rfl, rfl, rfl, trivial⟩) (fun i hi => ?_) -- loop 1
  obtain ⟨hi, hall⟩ := hi
  refine T.seq fun K5 hK5 => ?_
  refine T.seq fun K6 hK6 => ?_
  refine T.region ?_ -- region 3
  refine ro rfl rfl (OpOk.step (ok_move (.inl rfl))) ?_
  refine ro rfl rfl (OpOk.step (ok_move (.inl rfl))) ?_
  refine ro rfl rfl (OpOk.step (ok_len' rfl rfl ti_Lint rfl (by first | exact ints_length _ _ | exact rowsA_length _ _ | rfl))) ?_
  refine ro rfl rfl (OpOk.step (ok_binOp rfl ti_int rfl)) ?_
  refine ro_nil ?_
  refine keepK hK6 [1, 3, 4, 10] (by dsimp) (by dsimp) ?_
  refine T.cond rfl (fun hc => ?_) (fun hc => ?_) -- cond 1
  · (try simp only [decide_eq_true_eq, decide_eq_false_iff_not, beq_iff_eq, beq_eq_false_iff_ne, bne_iff_ne, bne_eq_false_iff_eq, ne_eq, Bool.not_eq_true', Bool.not_eq_false'] at hc)
    obtain ⟨x, hx⟩ : ∃ x, L[i]? = some x := ⟨_, List.getElem?_eq_getElem (by omega)⟩
    have htk : L.take (i + 1) = L.take i ++ [x] := take_succ_get hx
    have hbad : farOk x = false → L.all farOk = false := by
      intro h
      have hm : x ∈ L := List.mem_of_getElem? hx
      rw [Bool.eq_false_iff]
      intro h2
      rw [List.all_eq_true.1 h2 x hm] at h
      cases h
    refine T.skip ?_
    refine keepK hK5 [1, 3, 4] (by dsimp) (by dsimp) ?_
    refine T.seq fun K7 hK7 => ?_
    refine T.block ?_
    refine T.seq fun K8 hK8 => ?_
    refine T.region ?_ -- region 5
    refine ro rfl rfl (OpOk.step (ok_move (.inl rfl))) ?_
    refine ro rfl rfl (OpOk.step (ok_move (.inl rfl))) ?_
    refine ro rfl rfl (OpOk.step (by exact ok_index_ints rfl ti_Lint rfl ti_int rfl rfl rfl (by omega) (by simpa using hx))) ?_
    refine ro rfl rfl (OpOk.step (ok_load rfl ti_int rfl rfl)) ?_
    refine ro rfl rfl (ok_call rfl rfl rfl ((far_ok x).plain rfl rfl)) ?_
    refine ro_nil ?_
    refine keepK hK8 [1, 3, 4, 17] (by dsimp) (by dsimp) ?_
    refine T.cond rfl (fun hc => ?_) (fun hc => ?_) -- cond 2
    · (try simp only [decide_eq_true_eq, decide_eq_false_iff_not, beq_iff_eq, beq_eq_false_iff_ne, bne_iff_ne, bne_eq_false_iff_eq, ne_eq, Bool.not_eq_true', Bool.not_eq_false'] at hc)
      rw [hbad (by simpa using hc), Bool.and_false] at hQ
      refine T.seq fun K9 hK9 => ?_
      refine T.region ?_ -- region 6
      refine ro rfl rfl (OpOk.step (ok_moveb (c := false) (.inr rfl) rfl)) ?_
      refine ro_nil ?_
      refine keepK hK9 [2] (by dsimp) (by dsimp) ?_
      refine T.ret (hQ _ _ _ rfl ?_).1 -- ret 1
      exact TEnt.fin [] (by decide) (by simp) rfl ⟨rfl, trivial⟩
    · (try simp only [decide_eq_true_eq, decide_eq_false_iff_not, beq_iff_eq, beq_eq_false_iff_ne, bne_iff_ne, bne_eq_false_iff_eq, ne_eq, Bool.not_eq_true', Bool.not_eq_false'] at hc)
      refine T.skip ?_
      refine keepK hK7 [1, 3, 4] (by dsimp) (by dsimp) ?_
      refine T.region ?_ -- region 4
      refine ro rfl rfl (OpOk.step (ok_move (.inl rfl))) ?_
      refine ro rfl rfl (OpOk.step (ok_add64 rfl ti_int rfl rfl (by omega) (by omega))) ?_
      refine ro rfl rfl (OpOk.step (ok_move (.inr rfl))) ?_
      refine ro_nil ?_
      exact ⟨i + 1, ⟨by omega, by rw [htk, List.all_append, hall]; simp_all⟩, by omega, TEnt.toH rfl ⟨rfl, rfl, rfl, trivial⟩⟩
  · (try simp only [decide_eq_true_eq, decide_eq_false_iff_not, beq_iff_eq, beq_eq_false_iff_ne, bne_iff_ne, bne_eq_false_iff_eq, ne_eq, Bool.not_eq_true', Bool.not_eq_false'] at hc)
    have hil : i = 10 := by omega
    subst hil
    rw [List.take_of_length_le (by omega)] at hall
    rw [hall, Bool.and_true] at hQ
    refine T.exit ?_
    refine keepK hK3 [1] (by dsimp) (by dsimp) ?_
    refine T.seq fun K10 hK10 => ?_
    refine T.region ?_ -- region 7
    refine ro rfl rfl (OpOk.step (ok_fieldAddr rfl ti_api_Conf rfl rfl ti_int (by decide) rfl)) ?_
    refine ro rfl rfl (OpOk.step (ok_load rfl ti_int rfl rfl)) ?_
    refine ro rfl rfl (ok_call rfl rfl rfl ((far_ok c.id).plain rfl rfl)) ?_
    refine ro rfl rfl (OpOk.step ((ok_unOp rfl rfl).eq (x' := .b (farOk c.id)) (congrArg AV.b (by simp)) rfl)) ?_
    refine ro rfl rfl (OpOk.step (ok_move (.inr rfl))) ?_
    refine ro_nil ?_
    refine keepK hK10 [2] (by dsimp) (by dsimp) ?_
    refine T.ret (hQ _ _ _ rfl ?_).1 -- ret 2
    exact TEnt.fin [] (by decide) (by simp) rfl ⟨rfl, trivial⟩

end Go.Proofs.Ytmegpanmiagheaa.AmF
