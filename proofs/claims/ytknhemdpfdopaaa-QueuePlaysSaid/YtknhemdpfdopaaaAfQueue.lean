/- Walks over the abstract machine: commands that wait, which go on from which. -/
import Derived.Test.YtknhemdpfdopaaaAfMore
namespace Go.Proofs.Ytknhemdpfdopaaa.AmF
open Go Go.AM
set_option maxRecDepth 100000
set_option linter.unusedSimpArgs false
set_option linter.unusedVariables false
attribute [local simp] tkeep tget tput ev cav argsTM pickA normT putA splice AV.cells ints_length rowsA_length
/-- A command. -/
structure Cm where
  k : Int
  z : Int
  a : Int
  n : Int
  d : List Int
  f : Bool
def CmdC (a : Cm) : List AV := [.int a.k, .int a.z, .int a.a, .int a.n, .fz 1 (ints .u8 a.d), .b a.f]
def CmdB (a : Cm) : Blk := ⟨6, true, [.agg (CmdC a)]⟩
theorem CmdC_ren (ρ : Nat → Option Nat) (a : Cm) : renL ρ (CmdC a) = CmdC a := by simp [CmdC, renL, AV.ren, renL_ints]
theorem CmdB_ren (ρ : Nat → Option Nat) (a : Cm) : Blk.ren ρ (CmdB a) = CmdB a := by simp [CmdB, Blk.ren, renL, AV.ren, CmdC_ren]
def Cms (l : List Cm) : List AV := l.map fun a => .agg (CmdC a)
theorem Cms_len (l : List Cm) : (Cms l).length = l.length := by simp [Cms]
theorem Cms_get {l : List Cm} {i : Nat} {a : Cm} (h : l[i]? = some a) : (Cms l)[i]? = some (.agg (CmdC a)) := by simp [Cms, h]
theorem Cms_ren (ρ : Nat → Option Nat) (l : List Cm) : renL ρ (Cms l) = Cms l := by
  rw [renL_map]; simp [Cms, AV.ren, CmdC_ren]
theorem Cms_snoc (l : List Cm) (x : Cm) : Cms l ++ [.agg (CmdC x)] = Cms (l ++ [x]) := by simp [Cms]
theorem Cms_set (l : List Cm) (i : Nat) (x : Cm) : (Cms l).set i (.agg (CmdC x)) = Cms (l.set i x) := by simp [Cms, List.map_set]
def CmsB (l : List Cm) : Blk := ⟨6, true, Cms l⟩
theorem CmsB_ren (ρ : Nat → Option Nat) (l : List Cm) : Blk.ren ρ (CmsB l) = CmsB l := by simp [CmsB, Blk.ren, Cms_ren]
/-- Whole blocks, one at least. -/
def WholeC (c : Cf) (a : Cm) : Prop := 0 < (a.d.length : Int) ∧ (a.d.length : Int) % c.blk = 0
instance (c : Cf) (a : Cm) : Decidable (WholeC c a) := by unfold WholeC; infer_instance
/-- Does the second go on from the first? -/
def GoesC (c : Cf) (a b : Cm) : Prop := chkC c = 0 ∧ a.k = 0 ∧ b.k = 0 ∧ a.z = b.z ∧ a.f = false ∧ WholeC c a ∧ WholeC c b ∧ 0 ≤ a.a ∧ a.a ≤ 1099511627776 ∧ (a.d.length : Int) + b.d.length ≤ 1048576 ∧ b.a = a.a + a.d.length / c.blk
instance (c : Cf) (a b : Cm) : Decidable (GoesC c a b) := by unfold GoesC; infer_instance
/-- Both in one. -/
def bothC (a b : Cm) : Cm := { a with d := a.d ++ b.d, f := b.f }
attribute [local simp] Cms_len
theorem CC_take (c : Cf) : (CC c).take 11 = CC c := rfl
theorem Cmd_take (a : Cm) : (CmdC a).take 6 = CmdC a := rfl
theorem chk_blk {c : Cf} (h : chkC c = 0) : 1 ≤ c.blk ∧ c.blk ≤ 4096 := (chkC_ok h).2.2.2.1
theorem qwhole_ok (c : Cf) (a : Cm) (hc : chkC c = 0) (hla : a.d.length ≤ 140737488355328) : CSpec Try.prog 67 [] [.agg (CC c), .agg (CmdC a)] [] (.b (decide (WholeC c a))) := by
  have hb := chk_blk hc
  refine CSpec.body Try.func67 rfl rfl rfl rfl rfl fun Q hQ => ?_
  refine T.seq fun K1 hK1 => ?_
  refine T.region ?_ -- region 0
  refine ro rfl rfl (OpOk.step (ok_box (n := 11) rfl rfl (by decide))) ?_
  refine ro rfl rfl (OpOk.step (ok_box (n := 6) rfl rfl (by decide))) ?_
  refine ro rfl rfl (OpOk.step (ok_moveb (c := false) (.inr rfl) rfl)) ?_
  refine ro_nil ?_
  refine keepK hK1 [2, 3] (by dsimp) (by dsimp) ?_
  refine T.seq fun K2 hK2 => ?_
  refine T.region ?_ -- region 1
  refine ro rfl rfl (OpOk.step (ok_fieldAddr rfl ti_api_Cmd rfl rfl ti_Luint8 (by decide) rfl)) ?_
  refine ro rfl rfl (OpOk.step (ok_load rfl ti_Luint8 rfl rfl)) ?_
  refine ro rfl rfl (OpOk.step (ok_len' rfl rfl ti_Luint8 rfl (by first | exact ints_length _ _ | exact rowsA_length _ _ | rfl))) ?_
  refine ro rfl rfl (OpOk.step (ok_binOp rfl ti_int rfl)) ?_
  refine ro_case rfl rfl (OpOk.step (ok_moveb (.inl rfl) rfl)) (fun hb => ?_) (fun hb => ?_)
  · (try simp only [decide_eq_true_eq, decide_eq_false_iff_not, beq_iff_eq, beq_eq_false_iff_ne, bne_iff_ne, bne_eq_false_iff_eq, ne_eq, Bool.not_eq_true', Bool.not_eq_false'] at hb)
    refine ro rfl rfl (OpOk.step (ok_fieldAddr rfl ti_api_Cmd rfl rfl ti_Luint8 (by decide) rfl)) ?_
    refine ro rfl rfl (OpOk.step (ok_load rfl ti_Luint8 rfl rfl)) ?_
    refine ro rfl rfl (OpOk.step (ok_len' rfl rfl ti_Luint8 rfl (by first | exact ints_length _ _ | exact rowsA_length _ _ | rfl))) ?_
    refine ro rfl rfl (OpOk.step (ok_fieldAddr rfl ti_api_Conf rfl rfl ti_int (by decide) rfl)) ?_
    refine ro rfl rfl (OpOk.step (ok_load rfl ti_int rfl rfl)) ?_
    refine ro rfl rfl (OpOk.step (ok_rem64 rfl ti_int rfl rfl (by omega) (by omega))) ?_
    refine ro rfl rfl (OpOk.step (ok_binOp rfl ti_int rfl)) ?_
    refine ro rfl rfl (OpOk.step (ok_pick rfl rfl)) ?_
    refine ro rfl rfl (OpOk.step (ok_move (.inr rfl))) ?_
    refine ro_nil ?_
    refine keepK hK2 [4] (by dsimp) (by dsimp) ?_
    refine T.ret (hQ _ _ _ rfl ?_).1 -- ret 1
    first
      | (rw [decide_eq_false (by unfold WholeC; omega)]; exact TEnt.fin [] (by decide) (by simp) rfl ⟨rfl, trivial⟩)
      | (have e : decide (WholeC c a) = ((a.d.length : Int) % c.blk == 0) := (by rw [Bool.eq_iff_iff, decide_eq_true_eq, beq_iff_eq]; unfold WholeC; omega)
         rw [e]; exact TEnt.fin [] (by decide) (by simp) rfl ⟨rfl, trivial⟩)
  · (try simp only [decide_eq_true_eq, decide_eq_false_iff_not, beq_iff_eq, beq_eq_false_iff_ne, bne_iff_ne, bne_eq_false_iff_eq, ne_eq, Bool.not_eq_true', Bool.not_eq_false'] at hb)
    refine ro_skip rfl rfl ?_
    refine ro_skip rfl rfl ?_
    refine ro_skip rfl rfl ?_
    refine ro_skip rfl rfl ?_
    refine ro_skip rfl rfl ?_
    refine ro_skip rfl rfl ?_
    refine ro_skip rfl rfl ?_
    refine ro rfl rfl (OpOk.step (ok_pickb (t := false) (d := false) rfl rfl rfl)) ?_
    refine ro rfl rfl (OpOk.step (ok_moveb (c := false) (.inr rfl) rfl)) ?_
    refine ro_nil ?_
    refine keepK hK2 [4] (by dsimp) (by dsimp) ?_
    refine T.ret (hQ _ _ _ rfl ?_).1 -- ret 2
    first
      | (rw [decide_eq_false (by unfold WholeC; omega)]; exact TEnt.fin [] (by decide) (by simp) rfl ⟨rfl, trivial⟩)
      | (have e : decide (WholeC c a) = ((a.d.length : Int) % c.blk == 0) := (by rw [Bool.eq_iff_iff, decide_eq_true_eq, beq_iff_eq]; unfold WholeC; omega)
         rw [e]; exact TEnt.fin [] (by decide) (by simp) rfl ⟨rfl, trivial⟩)
set_option maxHeartbeats 2000000 in
theorem qgoes_ok (c : Cf) (a b : Cm) (hla : a.d.length ≤ 140737488355328) (hlb : b.d.length ≤ 140737488355328) : CSpec Try.prog 24 [] [.agg (CC c), .agg (CmdC a), .agg (CmdC b)] [] (.b (decide (GoesC c a b))) := by
  refine CSpec.body Try.func24 rfl rfl rfl rfl rfl fun Q hQ => ?_
  refine T.seq fun K1 hK1 => ?_
  refine T.region ?_ -- region 0
  refine ro rfl rfl (OpOk.step (ok_box (n := 11) rfl rfl (by decide))) ?_
  refine ro rfl rfl (OpOk.step (ok_box (n := 6) rfl rfl (by decide))) ?_
  refine ro rfl rfl (OpOk.step (ok_box (n := 6) rfl rfl (by decide))) ?_
  refine ro rfl rfl (OpOk.step (ok_moveb (c := false) (.inr rfl) rfl)) ?_
  refine ro_nil ?_
  refine keepK hK1 [3, 4, 5] (by dsimp) (by dsimp) ?_
  refine T.seq fun K2 hK2 => ?_
  refine T.block ?_
  refine T.seq fun K3 hK3 => ?_
  refine T.region ?_ -- region 1
  refine ro rfl rfl (OpOk.step (ok_load rfl ti_api_Conf rfl rfl)) ?_
  refine ro rfl rfl (ok_call rfl rfl rfl ((check_ok c).plain (by simp [renL, AV.ren, CC_take, CC_ren]) rfl)) ?_
  refine ro rfl rfl (OpOk.step (ok_binOp rfl ti_api_Errno rfl)) ?_
  refine ro_case rfl rfl (OpOk.step (ok_moveb (.inl rfl) rfl)) (fun hb => ?_) (fun hb => ?_)
  · (try simp only [decide_eq_true_eq, decide_eq_false_iff_not, beq_iff_eq, beq_eq_false_iff_ne, bne_iff_ne, bne_eq_false_iff_eq, ne_eq, Bool.not_eq_true', Bool.not_eq_false'] at hb)
    refine ro_skip rfl rfl ?_
    refine ro_skip rfl rfl ?_
    refine ro_skip rfl rfl ?_
    refine ro rfl rfl (OpOk.step (ok_pickb (t := true) (d := true) rfl rfl rfl)) ?_
    refine ro rfl rfl (OpOk.step (ok_moveb (c := true) (.inl rfl) rfl)) ?_
    refine ro_skip rfl rfl ?_
    refine ro_skip rfl rfl ?_
    refine ro_skip rfl rfl ?_
    refine ro rfl rfl (OpOk.step (ok_pickb (t := true) (d := true) rfl rfl rfl)) ?_
    refine ro rfl rfl (OpOk.step (ok_moveb (c := true) (.inr rfl) rfl)) ?_
    refine ro_nil ?_
    refine keepK hK3 [3, 4, 5, 7] (by dsimp) (by dsimp) ?_
    refine T.cond_true rfl ?_
    refine T.seq fun K4 hK4 => ?_
    refine T.region ?_ -- region 2
    refine ro rfl rfl (OpOk.step (ok_moveb (c := false) (.inr rfl) rfl)) ?_
    refine ro_nil ?_
    refine keepK hK4 [6] (by dsimp) (by dsimp) ?_
    refine T.ret (hQ _ _ _ rfl ?_).1 -- ret 1
    exact by rw [decide_eq_false (by unfold GoesC; first | omega | (intro h; simp_all))]; exact TEnt.fin [] (by decide) (by simp) rfl ⟨rfl, trivial⟩
  · (try simp only [decide_eq_true_eq, decide_eq_false_iff_not, beq_iff_eq, beq_eq_false_iff_ne, bne_iff_ne, bne_eq_false_iff_eq, ne_eq, Bool.not_eq_true', Bool.not_eq_false'] at hb)
    refine ro rfl rfl (OpOk.step (ok_fieldAddr rfl ti_api_Cmd rfl rfl ti_int (by decide) rfl)) ?_
    refine ro rfl rfl (OpOk.step (ok_load rfl ti_int rfl rfl)) ?_
    refine ro rfl rfl (OpOk.step (ok_binOp rfl ti_int rfl)) ?_
    refine ro rfl rfl (OpOk.step (ok_pick rfl rfl)) ?_
    refine ro_case rfl rfl (OpOk.step (ok_moveb (.inl rfl) rfl)) (fun hb => ?_) (fun hb => ?_)
    · (try simp only [decide_eq_true_eq, decide_eq_false_iff_not, beq_iff_eq, beq_eq_false_iff_ne, bne_iff_ne, bne_eq_false_iff_eq, ne_eq, Bool.not_eq_true', Bool.not_eq_false'] at hb)
      refine ro_skip rfl rfl ?_
      refine ro_skip rfl rfl ?_
      refine ro_skip rfl rfl ?_
      refine ro rfl rfl (OpOk.step (ok_pickb (t := true) (d := true) rfl rfl rfl)) ?_
      refine ro rfl rfl (OpOk.step (ok_moveb (c := true) (.inr rfl) rfl)) ?_
      refine ro_nil ?_
      refine keepK hK3 [3, 4, 5, 7] (by dsimp) (by dsimp) ?_
      refine T.cond_true rfl ?_
      refine T.seq fun K5 hK5 => ?_
      refine T.region ?_ -- region 2
      refine ro rfl rfl (OpOk.step (ok_moveb (c := false) (.inr rfl) rfl)) ?_
      refine ro_nil ?_
      refine keepK hK5 [6] (by dsimp) (by dsimp) ?_
      refine T.ret (hQ _ _ _ rfl ?_).1 -- ret 2
      first
        | (rw [decide_eq_false (by unfold GoesC; first | omega | (intro h; simp_all; done) | (intro h; obtain ⟨_, _, _, _, _, h1, h2, _⟩ := h; first | (exact absurd h1 (by simpa using hb_1)) | simp_all))]; exact TEnt.fin [] (by decide) (by simp) rfl ⟨rfl, trivial⟩)
        | (have e : decide (GoesC c a b) = (b.a == a.a + (a.d.length : Int) / c.blk) := (by rw [Bool.eq_iff_iff, decide_eq_true_eq, beq_iff_eq]; unfold GoesC; simp_all <;> omega)
           rw [e]; exact TEnt.fin [] (by decide) (by simp) rfl ⟨rfl, trivial⟩)
    · (try simp only [decide_eq_true_eq, decide_eq_false_iff_not, beq_iff_eq, beq_eq_false_iff_ne, bne_iff_ne, bne_eq_false_iff_eq, ne_eq, Bool.not_eq_true', Bool.not_eq_false'] at hb)
      refine ro rfl rfl (OpOk.step (ok_fieldAddr rfl ti_api_Cmd rfl rfl ti_int (by decide) rfl)) ?_
      refine ro rfl rfl (OpOk.step (ok_load rfl ti_int rfl rfl)) ?_
      refine ro rfl rfl (OpOk.step (ok_binOp rfl ti_int rfl)) ?_
      refine ro rfl rfl (OpOk.step (ok_pick rfl rfl)) ?_
      refine ro rfl rfl (OpOk.step (ok_move (.inr rfl))) ?_
      refine ro_nil ?_
      refine keepK hK3 [3, 4, 5, 7] (by dsimp) (by dsimp) ?_
      refine T.cond rfl (fun hc => ?_) (fun hc => ?_) -- cond 1
      · (try simp only [decide_eq_true_eq, decide_eq_false_iff_not, beq_iff_eq, beq_eq_false_iff_ne, bne_iff_ne, bne_eq_false_iff_eq, ne_eq, Bool.not_eq_true', Bool.not_eq_false'] at hc)
        refine T.seq fun K6 hK6 => ?_
        refine T.region ?_ -- region 2
        refine ro rfl rfl (OpOk.step (ok_moveb (c := false) (.inr rfl) rfl)) ?_
        refine ro_nil ?_
        refine keepK hK6 [6] (by dsimp) (by dsimp) ?_
        refine T.ret (hQ _ _ _ rfl ?_).1 -- ret 3
        first
          | (rw [decide_eq_false (by unfold GoesC; first | omega | (intro h; simp_all; done) | (intro h; obtain ⟨_, _, _, _, _, h1, h2, _⟩ := h; first | (exact absurd h1 (by simpa using hb_1)) | simp_all))]; exact TEnt.fin [] (by decide) (by simp) rfl ⟨rfl, trivial⟩)
          | (have e : decide (GoesC c a b) = (b.a == a.a + (a.d.length : Int) / c.blk) := (by rw [Bool.eq_iff_iff, decide_eq_true_eq, beq_iff_eq]; unfold GoesC; simp_all <;> omega)
             rw [e]; exact TEnt.fin [] (by decide) (by simp) rfl ⟨rfl, trivial⟩)
      · (try simp only [decide_eq_true_eq, decide_eq_false_iff_not, beq_iff_eq, beq_eq_false_iff_ne, bne_iff_ne, bne_eq_false_iff_eq, ne_eq, Bool.not_eq_true', Bool.not_eq_false'] at hc)
        refine T.seq fun K7 hK7 => ?_
        have hchk : chkC c = 0 := by first | omega | simp_all
        have hblk := chk_blk hchk
        refine T.region ?_ -- region 3
        refine ro rfl rfl (OpOk.step (ok_fieldAddr rfl ti_api_Cmd rfl rfl ti_int (by decide) rfl)) ?_
        refine ro rfl rfl (OpOk.step (ok_load rfl ti_int rfl rfl)) ?_
        refine ro rfl rfl (OpOk.step (ok_fieldAddr rfl ti_api_Cmd rfl rfl ti_int (by decide) rfl)) ?_
        refine ro rfl rfl (OpOk.step (ok_load rfl ti_int rfl rfl)) ?_
        refine ro rfl rfl (OpOk.step (ok_binOp rfl ti_int rfl)) ?_
        refine ro_case rfl rfl (OpOk.step (ok_moveb (.inl rfl) rfl)) (fun hb => ?_) (fun hb => ?_)
        · (try simp only [decide_eq_true_eq, decide_eq_false_iff_not, beq_iff_eq, beq_eq_false_iff_ne, bne_iff_ne, bne_eq_false_iff_eq, ne_eq, Bool.not_eq_true', Bool.not_eq_false'] at hb)
          refine ro_skip rfl rfl ?_
          refine ro_skip rfl rfl ?_
          refine ro rfl rfl (OpOk.step (ok_pickb (t := true) (d := true) rfl rfl rfl)) ?_
          refine ro rfl rfl (OpOk.step (ok_moveb (c := true) (.inl rfl) rfl)) ?_
          refine ro_skip rfl rfl ?_
          refine ro_skip rfl rfl ?_
          refine ro_skip rfl rfl ?_
          refine ro_skip rfl rfl ?_
          refine ro rfl rfl (OpOk.step (ok_pickb (t := true) (d := true) rfl rfl rfl)) ?_
          refine ro rfl rfl (OpOk.step (ok_moveb (c := true) (.inl rfl) rfl)) ?_
          refine ro_skip rfl rfl ?_
          refine ro_skip rfl rfl ?_
          refine ro_skip rfl rfl ?_
          refine ro_skip rfl rfl ?_
          refine ro rfl rfl (OpOk.step (ok_pickb (t := true) (d := true) rfl rfl rfl)) ?_
          refine ro rfl rfl (OpOk.step (ok_moveb (c := true) (.inr rfl) rfl)) ?_
          refine ro_nil ?_
          refine keepK hK7 [3, 4, 5, 21] (by dsimp) (by dsimp) ?_
          refine T.cond_true rfl ?_
          refine T.seq fun K8 hK8 => ?_
          refine T.region ?_ -- region 4
          refine ro rfl rfl (OpOk.step (ok_moveb (c := false) (.inr rfl) rfl)) ?_
          refine ro_nil ?_
          refine keepK hK8 [6] (by dsimp) (by dsimp) ?_
          refine T.ret (hQ _ _ _ rfl ?_).1 -- ret 4
          first
            | (rw [decide_eq_false (by unfold GoesC; first | omega | (intro h; simp_all; done) | (intro h; obtain ⟨_, _, _, _, _, h1, h2, _⟩ := h; first | (exact absurd h1 (by simpa using hb_1)) | simp_all))]; exact TEnt.fin [] (by decide) (by simp) rfl ⟨rfl, trivial⟩)
            | (have e : decide (GoesC c a b) = (b.a == a.a + (a.d.length : Int) / c.blk) := (by rw [Bool.eq_iff_iff, decide_eq_true_eq, beq_iff_eq]; unfold GoesC; simp_all <;> omega)
               rw [e]; exact TEnt.fin [] (by decide) (by simp) rfl ⟨rfl, trivial⟩)
        · (try simp only [decide_eq_true_eq, decide_eq_false_iff_not, beq_iff_eq, beq_eq_false_iff_ne, bne_iff_ne, bne_eq_false_iff_eq, ne_eq, Bool.not_eq_true', Bool.not_eq_false'] at hb)
          refine ro rfl rfl (OpOk.step (ok_fieldAddr rfl ti_api_Cmd rfl rfl ti_bool (by decide) rfl)) ?_
          refine ro rfl rfl (OpOk.step (ok_load rfl ti_bool rfl rfl)) ?_
          refine ro rfl rfl (OpOk.step (ok_pick rfl rfl)) ?_
          refine ro_case rfl rfl (OpOk.step (ok_moveb (.inl rfl) rfl)) (fun hb => ?_) (fun hb => ?_)
          · (try simp only [decide_eq_true_eq, decide_eq_false_iff_not, beq_iff_eq, beq_eq_false_iff_ne, bne_iff_ne, bne_eq_false_iff_eq, ne_eq, Bool.not_eq_true', Bool.not_eq_false'] at hb)
            refine ro_skip rfl rfl ?_
            refine ro_skip rfl rfl ?_
            refine ro_skip rfl rfl ?_
            refine ro_skip rfl rfl ?_
            refine ro rfl rfl (OpOk.step (ok_pickb (t := true) (d := true) rfl rfl rfl)) ?_
            refine ro rfl rfl (OpOk.step (ok_moveb (c := true) (.inl rfl) rfl)) ?_
            refine ro_skip rfl rfl ?_
            refine ro_skip rfl rfl ?_
            refine ro_skip rfl rfl ?_
            refine ro_skip rfl rfl ?_
            refine ro rfl rfl (OpOk.step (ok_pickb (t := true) (d := true) rfl rfl rfl)) ?_
            refine ro rfl rfl (OpOk.step (ok_moveb (c := true) (.inr rfl) rfl)) ?_
            refine ro_nil ?_
            refine keepK hK7 [3, 4, 5, 21] (by dsimp) (by dsimp) ?_
            refine T.cond_true rfl ?_
            refine T.seq fun K9 hK9 => ?_
            refine T.region ?_ -- region 4
            refine ro rfl rfl (OpOk.step (ok_moveb (c := false) (.inr rfl) rfl)) ?_
            refine ro_nil ?_
            refine keepK hK9 [6] (by dsimp) (by dsimp) ?_
            refine T.ret (hQ _ _ _ rfl ?_).1 -- ret 5
            first
              | (rw [decide_eq_false (by unfold GoesC; first | omega | (intro h; simp_all; done) | (intro h; obtain ⟨_, _, _, _, _, h1, h2, _⟩ := h; first | (exact absurd h1 (by simpa using hb_1)) | simp_all))]; exact TEnt.fin [] (by decide) (by simp) rfl ⟨rfl, trivial⟩)
              | (have e : decide (GoesC c a b) = (b.a == a.a + (a.d.length : Int) / c.blk) := (by rw [Bool.eq_iff_iff, decide_eq_true_eq, beq_iff_eq]; unfold GoesC; simp_all <;> omega)
                 rw [e]; exact TEnt.fin [] (by decide) (by simp) rfl ⟨rfl, trivial⟩)
          · (try simp only [decide_eq_true_eq, decide_eq_false_iff_not, beq_iff_eq, beq_eq_false_iff_ne, bne_iff_ne, bne_eq_false_iff_eq, ne_eq, Bool.not_eq_true', Bool.not_eq_false'] at hb)
            refine ro rfl rfl (OpOk.step (ok_load rfl ti_api_Conf rfl rfl)) ?_
            refine ro rfl rfl (OpOk.step (ok_load rfl ti_api_Cmd rfl rfl)) ?_
            refine ro rfl rfl (ok_call rfl rfl rfl ((qwhole_ok c a hchk hla).plain (by simp [renL, AV.ren, CC_take, Cmd_take, CC_ren, CmdC_ren]) rfl)) ?_
            refine ro rfl rfl (OpOk.step (ok_unOp rfl rfl)) ?_
            refine ro rfl rfl (OpOk.step (ok_pick rfl rfl)) ?_
            refine ro_case rfl rfl (OpOk.step (ok_moveb (.inl rfl) rfl)) (fun hb => ?_) (fun hb => ?_)
            · (try simp only [decide_eq_true_eq, decide_eq_false_iff_not, beq_iff_eq, beq_eq_false_iff_ne, bne_iff_ne, bne_eq_false_iff_eq, ne_eq, Bool.not_eq_true', Bool.not_eq_false'] at hb)
              refine ro_skip rfl rfl ?_
              refine ro_skip rfl rfl ?_
              refine ro_skip rfl rfl ?_
              refine ro_skip rfl rfl ?_
              refine ro rfl rfl (OpOk.step (ok_pickb (t := true) (d := true) rfl rfl rfl)) ?_
              refine ro rfl rfl (OpOk.step (ok_moveb (c := true) (.inr rfl) rfl)) ?_
              refine ro_nil ?_
              refine keepK hK7 [3, 4, 5, 21] (by dsimp) (by dsimp) ?_
              refine T.cond_true rfl ?_
              refine T.seq fun K10 hK10 => ?_
              refine T.region ?_ -- region 4
              refine ro rfl rfl (OpOk.step (ok_moveb (c := false) (.inr rfl) rfl)) ?_
              refine ro_nil ?_
              refine keepK hK10 [6] (by dsimp) (by dsimp) ?_
              refine T.ret (hQ _ _ _ rfl ?_).1 -- ret 6
              first
                | (rw [decide_eq_false (by unfold GoesC; first | omega | (intro h; simp_all; done) | (intro h; obtain ⟨_, _, _, _, _, h1, h2, _⟩ := h; first | (exact absurd h1 (by simpa using hb_1)) | simp_all))]; exact TEnt.fin [] (by decide) (by simp) rfl ⟨rfl, trivial⟩)
                | (have e : decide (GoesC c a b) = (b.a == a.a + (a.d.length : Int) / c.blk) := (by rw [Bool.eq_iff_iff, decide_eq_true_eq, beq_iff_eq]; unfold GoesC; simp_all <;> omega)
                   rw [e]; exact TEnt.fin [] (by decide) (by simp) rfl ⟨rfl, trivial⟩)
            · (try simp only [decide_eq_true_eq, decide_eq_false_iff_not, beq_iff_eq, beq_eq_false_iff_ne, bne_iff_ne, bne_eq_false_iff_eq, ne_eq, Bool.not_eq_true', Bool.not_eq_false'] at hb)
              refine ro rfl rfl (OpOk.step (ok_load rfl ti_api_Conf rfl rfl)) ?_
              refine ro rfl rfl (OpOk.step (ok_load rfl ti_api_Cmd rfl rfl)) ?_
              refine ro rfl rfl (ok_call rfl rfl rfl ((qwhole_ok c b hchk hlb).plain (by simp [renL, AV.ren, CC_take, Cmd_take, CC_ren, CmdC_ren]) rfl)) ?_
              refine ro rfl rfl (OpOk.step (ok_unOp rfl rfl)) ?_
              refine ro rfl rfl (OpOk.step (ok_pick rfl rfl)) ?_
              refine ro rfl rfl (OpOk.step (ok_move (.inr rfl))) ?_
              refine ro_nil ?_
              refine keepK hK7 [3, 4, 5, 21] (by dsimp) (by dsimp) ?_
              refine T.cond rfl (fun hc => ?_) (fun hc => ?_) -- cond 2
              · (try simp only [decide_eq_true_eq, decide_eq_false_iff_not, beq_iff_eq, beq_eq_false_iff_ne, bne_iff_ne, bne_eq_false_iff_eq, ne_eq, Bool.not_eq_true', Bool.not_eq_false'] at hc)
                refine T.seq fun K11 hK11 => ?_
                refine T.region ?_ -- region 4
                refine ro rfl rfl (OpOk.step (ok_moveb (c := false) (.inr rfl) rfl)) ?_
                refine ro_nil ?_
                refine keepK hK11 [6] (by dsimp) (by dsimp) ?_
                refine T.ret (hQ _ _ _ rfl ?_).1 -- ret 7
                first
                  | (rw [decide_eq_false (by unfold GoesC; first | omega | (intro h; simp_all; done) | (intro h; obtain ⟨_, _, _, _, _, h1, h2, _⟩ := h; first | (exact absurd h1 (by simpa using hb_1)) | simp_all))]; exact TEnt.fin [] (by decide) (by simp) rfl ⟨rfl, trivial⟩)
                  | (have e : decide (GoesC c a b) = (b.a == a.a + (a.d.length : Int) / c.blk) := (by rw [Bool.eq_iff_iff, decide_eq_true_eq, beq_iff_eq]; unfold GoesC; simp_all <;> omega)
                     rw [e]; exact TEnt.fin [] (by decide) (by simp) rfl ⟨rfl, trivial⟩)
              · (try simp only [decide_eq_true_eq, decide_eq_false_iff_not, beq_iff_eq, beq_eq_false_iff_ne, bne_iff_ne, bne_eq_false_iff_eq, ne_eq, Bool.not_eq_true', Bool.not_eq_false'] at hc)
                refine T.seq fun K12 hK12 => ?_
                refine T.region ?_ -- region 5
                refine ro rfl rfl (OpOk.step (ok_fieldAddr rfl ti_api_Cmd rfl rfl ti_int (by decide) rfl)) ?_
                refine ro rfl rfl (OpOk.step (ok_load rfl ti_int rfl rfl)) ?_
                refine ro rfl rfl (OpOk.step (ok_binOp rfl ti_int rfl)) ?_
                refine ro_case rfl rfl (OpOk.step (ok_moveb (.inl rfl) rfl)) (fun hb => ?_) (fun hb => ?_)
                · (try simp only [decide_eq_true_eq, decide_eq_false_iff_not, beq_iff_eq, beq_eq_false_iff_ne, bne_iff_ne, bne_eq_false_iff_eq, ne_eq, Bool.not_eq_true', Bool.not_eq_false'] at hb)
                  refine ro_skip rfl rfl ?_
                  refine ro_skip rfl rfl ?_
                  refine ro_skip rfl rfl ?_
                  refine ro rfl rfl (OpOk.step (ok_pickb (t := true) (d := true) rfl rfl rfl)) ?_
                  refine ro rfl rfl (OpOk.step (ok_moveb (c := true) (.inl rfl) rfl)) ?_
                  refine ro_skip rfl rfl ?_
                  refine ro_skip rfl rfl ?_
                  refine ro_skip rfl rfl ?_
                  refine ro_skip rfl rfl ?_
                  refine ro_skip rfl rfl ?_
                  refine ro_skip rfl rfl ?_
                  refine ro_skip rfl rfl ?_
                  refine ro_skip rfl rfl ?_
                  refine ro rfl rfl (OpOk.step (ok_pickb (t := true) (d := true) rfl rfl rfl)) ?_
                  refine ro rfl rfl (OpOk.step (ok_moveb (c := true) (.inr rfl) rfl)) ?_
                  refine ro_nil ?_
                  refine keepK hK12 [3, 4, 5, 43] (by dsimp) (by dsimp) ?_
                  refine T.cond_true rfl ?_
                  refine T.seq fun K13 hK13 => ?_
                  refine T.region ?_ -- region 6
                  refine ro rfl rfl (OpOk.step (ok_moveb (c := false) (.inr rfl) rfl)) ?_
                  refine ro_nil ?_
                  refine keepK hK13 [6] (by dsimp) (by dsimp) ?_
                  refine T.ret (hQ _ _ _ rfl ?_).1 -- ret 8
                  first
                    | (rw [decide_eq_false (by unfold GoesC; first | omega | (intro h; simp_all; done) | (intro h; obtain ⟨_, _, _, _, _, h1, h2, _⟩ := h; first | (exact absurd h1 (by simpa using hb_1)) | simp_all))]; exact TEnt.fin [] (by decide) (by simp) rfl ⟨rfl, trivial⟩)
                    | (have e : decide (GoesC c a b) = (b.a == a.a + (a.d.length : Int) / c.blk) := (by rw [Bool.eq_iff_iff, decide_eq_true_eq, beq_iff_eq]; unfold GoesC; simp_all <;> omega)
                       rw [e]; exact TEnt.fin [] (by decide) (by simp) rfl ⟨rfl, trivial⟩)
                · (try simp only [decide_eq_true_eq, decide_eq_false_iff_not, beq_iff_eq, beq_eq_false_iff_ne, bne_iff_ne, bne_eq_false_iff_eq, ne_eq, Bool.not_eq_true', Bool.not_eq_false'] at hb)
                  refine ro rfl rfl (OpOk.step (ok_fieldAddr rfl ti_api_Cmd rfl rfl ti_int (by decide) rfl)) ?_
                  refine ro rfl rfl (OpOk.step (ok_load rfl ti_int rfl rfl)) ?_
                  refine ro rfl rfl (OpOk.step (ok_binOp rfl ti_int rfl)) ?_
                  refine ro rfl rfl (OpOk.step (ok_pick rfl rfl)) ?_
                  refine ro_case rfl rfl (OpOk.step (ok_moveb (.inl rfl) rfl)) (fun hb => ?_) (fun hb => ?_)
                  · (try simp only [decide_eq_true_eq, decide_eq_false_iff_not, beq_iff_eq, beq_eq_false_iff_ne, bne_iff_ne, bne_eq_false_iff_eq, ne_eq, Bool.not_eq_true', Bool.not_eq_false'] at hb)
                    refine ro_skip rfl rfl ?_
                    refine ro_skip rfl rfl ?_
                    refine ro_skip rfl rfl ?_
                    refine ro_skip rfl rfl ?_
                    refine ro_skip rfl rfl ?_
                    refine ro_skip rfl rfl ?_
                    refine ro_skip rfl rfl ?_
                    refine ro_skip rfl rfl ?_
                    refine ro rfl rfl (OpOk.step (ok_pickb (t := true) (d := true) rfl rfl rfl)) ?_
                    refine ro rfl rfl (OpOk.step (ok_moveb (c := true) (.inr rfl) rfl)) ?_
                    refine ro_nil ?_
                    refine keepK hK12 [3, 4, 5, 43] (by dsimp) (by dsimp) ?_
                    refine T.cond_true rfl ?_
                    refine T.seq fun K14 hK14 => ?_
                    refine T.region ?_ -- region 6
                    refine ro rfl rfl (OpOk.step (ok_moveb (c := false) (.inr rfl) rfl)) ?_
                    refine ro_nil ?_
                    refine keepK hK14 [6] (by dsimp) (by dsimp) ?_
                    refine T.ret (hQ _ _ _ rfl ?_).1 -- ret 9
                    first
                      | (rw [decide_eq_false (by unfold GoesC; first | omega | (intro h; simp_all; done) | (intro h; obtain ⟨_, _, _, _, _, h1, h2, _⟩ := h; first | (exact absurd h1 (by simpa using hb_1)) | simp_all))]; exact TEnt.fin [] (by decide) (by simp) rfl ⟨rfl, trivial⟩)
                      | (have e : decide (GoesC c a b) = (b.a == a.a + (a.d.length : Int) / c.blk) := (by rw [Bool.eq_iff_iff, decide_eq_true_eq, beq_iff_eq]; unfold GoesC; simp_all <;> omega)
                         rw [e]; exact TEnt.fin [] (by decide) (by simp) rfl ⟨rfl, trivial⟩)
                  · (try simp only [decide_eq_true_eq, decide_eq_false_iff_not, beq_iff_eq, beq_eq_false_iff_ne, bne_iff_ne, bne_eq_false_iff_eq, ne_eq, Bool.not_eq_true', Bool.not_eq_false'] at hb)
                    refine ro rfl rfl (OpOk.step (ok_fieldAddr rfl ti_api_Cmd rfl rfl ti_Luint8 (by decide) rfl)) ?_
                    refine ro rfl rfl (OpOk.step (ok_load rfl ti_Luint8 rfl rfl)) ?_
                    refine ro rfl rfl (OpOk.step (ok_len' rfl rfl ti_Luint8 rfl (by first | exact ints_length _ _ | exact rowsA_length _ _ | rfl))) ?_
                    refine ro rfl rfl (OpOk.step (ok_fieldAddr rfl ti_api_Cmd rfl rfl ti_Luint8 (by decide) rfl)) ?_
                    refine ro rfl rfl (OpOk.step (ok_load rfl ti_Luint8 rfl rfl)) ?_
                    refine ro rfl rfl (OpOk.step (ok_len' rfl rfl ti_Luint8 rfl (by first | exact ints_length _ _ | exact rowsA_length _ _ | rfl))) ?_
                    refine ro rfl rfl (OpOk.step (ok_add64 rfl ti_int rfl rfl (by omega) (by omega))) ?_
                    refine ro rfl rfl (OpOk.step (ok_binOp rfl ti_int rfl)) ?_
                    refine ro rfl rfl (OpOk.step (ok_pick rfl rfl)) ?_
                    refine ro rfl rfl (OpOk.step (ok_move (.inr rfl))) ?_
                    refine ro_nil ?_
                    refine keepK hK12 [3, 4, 5, 43] (by dsimp) (by dsimp) ?_
                    refine T.cond rfl (fun hc => ?_) (fun hc => ?_) -- cond 3
                    · (try simp only [decide_eq_true_eq, decide_eq_false_iff_not, beq_iff_eq, beq_eq_false_iff_ne, bne_iff_ne, bne_eq_false_iff_eq, ne_eq, Bool.not_eq_true', Bool.not_eq_false'] at hc)
                      refine T.seq fun K15 hK15 => ?_
                      refine T.region ?_ -- region 6
                      refine ro rfl rfl (OpOk.step (ok_moveb (c := false) (.inr rfl) rfl)) ?_
                      refine ro_nil ?_
                      refine keepK hK15 [6] (by dsimp) (by dsimp) ?_
                      refine T.ret (hQ _ _ _ rfl ?_).1 -- ret 10
                      first
                        | (rw [decide_eq_false (by unfold GoesC; first | omega | (intro h; simp_all; done) | (intro h; obtain ⟨_, _, _, _, _, h1, h2, _⟩ := h; first | (exact absurd h1 (by simpa using hb_1)) | simp_all))]; exact TEnt.fin [] (by decide) (by simp) rfl ⟨rfl, trivial⟩)
                        | (have e : decide (GoesC c a b) = (b.a == a.a + (a.d.length : Int) / c.blk) := (by rw [Bool.eq_iff_iff, decide_eq_true_eq, beq_iff_eq]; unfold GoesC; simp_all <;> omega)
                           rw [e]; exact TEnt.fin [] (by decide) (by simp) rfl ⟨rfl, trivial⟩)
                    · (try simp only [decide_eq_true_eq, decide_eq_false_iff_not, beq_iff_eq, beq_eq_false_iff_ne, bne_iff_ne, bne_eq_false_iff_eq, ne_eq, Bool.not_eq_true', Bool.not_eq_false'] at hc)
                      refine T.skip ?_
                      refine keepK hK2 [3, 4, 5] (by dsimp) (by dsimp) ?_
                      refine T.seq fun K16 hK16 => ?_
                      have hdiv : 0 ≤ (a.d.length : Int) / c.blk ∧ (a.d.length : Int) / c.blk ≤ a.d.length := ⟨Int.ediv_nonneg (by omega) (by omega), Int.ediv_le_self _ (by omega)⟩
                      refine T.drawH mixed [] ?_ -- region 7
                      refine any_take 0 rfl (by first | rfl | decide +kernel) rfl (HeldL.refl _) (fun H' hH => OpOk.step (ok_fieldAddr rfl ti_api_Cmd rfl rfl ti_int (by decide) rfl)) ?_
                      refine any_take 1 rfl (by first | rfl | decide +kernel) rfl (HeldL.refl _) (fun H' hH => OpOk.step (ok_load rfl ti_int (locA_held hH rfl) rfl)) ?_
                      refine any_take 2 rfl (by first | rfl | decide +kernel) rfl (HeldL.refl _) (fun H' hH => OpOk.step (ok_fieldAddr rfl ti_api_Cmd rfl rfl ti_int (by decide) rfl)) ?_
                      refine any_take 3 rfl (by first | rfl | decide +kernel) rfl (HeldL.refl _) (fun H' hH => OpOk.step (ok_load rfl ti_int (locA_held hH rfl) rfl)) ?_
                      refine any_take 4 rfl (by first | rfl | decide +kernel) rfl (HeldL.refl _) (fun H' hH => OpOk.step (ok_fieldAddr rfl ti_api_Cmd rfl rfl ti_Luint8 (by decide) rfl)) ?_
                      refine any_take 5 rfl (by first | rfl | decide +kernel) rfl (HeldL.refl _) (fun H' hH => OpOk.step (ok_load rfl ti_Luint8 (locA_held hH rfl) rfl)) ?_
                      refine any_take 6 rfl (by first | rfl | decide +kernel) rfl (HeldL.refl _) (fun H' hH => OpOk.step (ok_len' rfl rfl ti_Luint8 rfl (by first | exact ints_length _ _ | exact rowsA_length _ _ | rfl))) ?_
                      refine any_take 7 rfl (by first | rfl | decide +kernel) rfl (HeldL.refl _) (fun H' hH => OpOk.step (ok_fieldAddr rfl ti_api_Conf rfl rfl ti_int (by decide) rfl)) ?_
                      refine any_take 8 rfl (by first | rfl | decide +kernel) rfl (HeldL.refl _) (fun H' hH => OpOk.step (ok_load rfl ti_int (locA_held hH rfl) rfl)) ?_
                      refine any_take 9 rfl (by first | rfl | decide +kernel) rfl (HeldL.refl _) (fun H' hH => OpOk.step (ok_quo64 rfl ti_int rfl rfl (by omega) (by omega) (by omega))) ?_
                      refine any_take 10 rfl (by first | rfl | decide +kernel) rfl (HeldL.refl _) (fun H' hH => OpOk.step (ok_add64 rfl ti_int rfl rfl (by omega) (by omega))) ?_
                      refine any_take 11 rfl (by first | rfl | decide +kernel) rfl (HeldL.refl _) (fun H' hH => OpOk.step (ok_binOp rfl ti_int rfl)) ?_
                      refine any_take 12 rfl (by first | rfl | decide +kernel) rfl (HeldL.refl _) (fun H' hH => OpOk.step (ok_move (.inr rfl))) ?_
                      refine any_done rfl ?_
                      refine keepK hK16 [6] (by dsimp) (by dsimp) ?_
                      refine T.ret (hQ _ _ _ rfl ?_).1 -- ret 11
                      first
                        | (rw [decide_eq_false (by unfold GoesC; first | omega | (intro h; simp_all; done) | (intro h; obtain ⟨_, _, _, _, _, h1, h2, _⟩ := h; first | (exact absurd h1 (by simpa using hb_1)) | simp_all))]; exact TEnt.fin [] (by decide) (by simp) rfl ⟨rfl, trivial⟩)
                        | (have e : decide (GoesC c a b) = (b.a == a.a + (a.d.length : Int) / c.blk) := (by rw [Bool.eq_iff_iff, decide_eq_true_eq, beq_iff_eq]; unfold GoesC; simp_all <;> omega)
                           rw [e]; exact TEnt.fin [] (by decide) (by simp) rfl ⟨rfl, trivial⟩)
end Go.Proofs.Ytknhemdpfdopaaa.AmF
