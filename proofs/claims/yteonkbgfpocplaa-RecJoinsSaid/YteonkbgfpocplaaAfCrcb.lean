/- Walks over the abstract machine: the check sums of layer 2, without their law. -/
import Derived.Test.YteonkbgfpocplaaAmFacts
import Derived.Test.YteonkbgfpocplaaAmNum
namespace Go.Proofs.Yteonkbgfpocplaa.AmF
open Go Go.AM
set_option maxRecDepth 100000
set_option linter.unusedSimpArgs false
set_option linter.unusedVariables false
attribute [local simp] tkeep tget tput ev cav argsTM pickA normT putA splice AV.cells ints_length rowsA_length
/-- One bit's turn. -/
def turn (x : Int) : Int := if x % 2 = 1 then Go.bits .xor .u32 (x / 2) 2197175160 else x / 2
theorem turn_u (x : Int) (h : U32 x) : U32 (turn x) := by
  unfold turn
  split
  · exact bits32 _ _ _
  · have := h.1; have := h.2; unfold U32; omega
def turns : Nat → Int → Int
  | 0, x => x
  | n + 1, x => turn (turns n x)
theorem turns_u : ∀ (n : Nat) (x : Int), U32 x → U32 (turns n x)
  | 0, _, h => h
  | n + 1, x, h => turn_u _ (turns_u n x h)
/-- The state behind one byte more. -/
def step (s c : Int) : Int := turns 8 (Go.bits .xor .u32 s c)
theorem step_u (s c : Int) : U32 (step s c) := turns_u _ _ (bits32 _ _ _)
theorem crc_step (s c : Int) (hc : 0 ≤ c ∧ c < 256) : CSpec Try.prog 45 [] [.v (.int .u32 s), .v (.int .u8 c)] [] (.v (.int .u32 (step s c))) := by
  refine CSpec.body Try.func45 rfl rfl rfl rfl rfl fun Q hQ => ?_
  refine T.seq fun K1 hK1 => ?_
  refine T.region ?_ -- region 0
  refine ro rfl rfl (OpOk.step (ok_move (.inr rfl))) ?_
  refine ro_nil ?_
  refine keepK hK1 [0, 1] (by dsimp) (by dsimp) ?_
  refine T.seq fun K2 hK2 => ?_
  refine T.region ?_ -- region 1
  refine ro rfl rfl (OpOk.step (ok_move (.inl rfl))) ?_
  refine ro rfl rfl (OpOk.step (ok_move (.inl rfl))) ?_
  refine ro rfl rfl ((ok_conv_int rfl ti_uint8 ti_uint32 rfl rfl).eq (x' := .v (.int .u32 c)) (by rw [wrap_u32, Int.emod_eq_of_lt hc.1 (by omega)]) rfl).step ?_
  refine ro rfl rfl (OpOk.step (ok_bits .xor rfl ti_uint32 rfl rfl (.inr (.inr rfl)))) ?_
  refine ro rfl rfl (OpOk.step (ok_move (.inr rfl))) ?_
  refine ro_nil ?_
  refine keepK hK2 [0] (by dsimp) (by dsimp) ?_
  refine T.seq fun K3 hK3 => ?_
  refine T.seq fun K4 hK4 => ?_
  refine T.region ?_ -- region 2
  refine ro rfl rfl (OpOk.step (ok_move (.inl rfl))) ?_
  refine ro_nil ?_
  refine keepK hK4 [0, 9] (by dsimp) (by dsimp) ?_
  refine T.block ?_
  refine T.loopI (ι := Nat) (fun i => i ≤ 8) (fun i => 8 - i) (fun i => ([(0, .v (.int .u32 (turns i (Go.bits .xor .u32 s c)))), (9, .int i)], [])) 0 (by omega) (TEnt.toH rfl ⟨rfl, rfl, trivial⟩) (fun i hi => ?_) -- loop 1
  have hx : U32 (turns i (Go.bits .xor .u32 s c)) := turns_u _ _ (bits32 _ _ _)
  generalize hX : turns i (Go.bits .xor .u32 s c) = X at hx ⊢
  refine T.seq fun K5 hK5 => ?_
  refine T.region ?_ -- region 3
  refine ro rfl rfl (OpOk.step (ok_binOp rfl ti_int rfl)) ?_
  refine ro_nil ?_
  refine keepK hK5 [0, 9, 10] (by dsimp) (by dsimp) ?_
  refine T.seq fun K6 hK6 => ?_
  refine T.cond rfl (fun hc => ?_) (fun hc => ?_) -- cond 1
  · (try simp only [decide_eq_true_eq, decide_eq_false_iff_not, beq_iff_eq, beq_eq_false_iff_ne, bne_iff_ne, bne_eq_false_iff_eq, ne_eq, Bool.not_eq_true', Bool.not_eq_false'] at hc)
    refine T.skip ?_
    refine keepK hK6 [0, 9] (by dsimp) (by dsimp) ?_
    refine T.seq fun K7 hK7 => ?_
    refine T.block ?_
    refine T.seq fun K8 hK8 => ?_
    refine T.region ?_ -- region 4
    refine ro rfl rfl (OpOk.step (ok_move (.inl rfl))) ?_
    refine ro rfl rfl (OpOk.step ((ok_bits .and rfl ti_uint32 rfl rfl (.inl rfl)).eq (x' := .v (.int .u32 (X % 2))) (by rw [and1 X hx]) rfl)) ?_
    refine ro rfl rfl (OpOk.step (ok_binOp rfl ti_uint32 rfl)) ?_
    refine ro_nil ?_
    refine keepK hK8 [0, 9, 13] (by dsimp) (by dsimp) ?_
    refine T.join hK7 [(0, .v (.int .u32 (turn X))), (9, .int i)] [] (fun hJ9 => ?_) ?_ -- join 1
    · -- the two ways
      refine T.cond rfl (fun hc => ?_) (fun hc => ?_) -- cond 2
      · (try simp only [decide_eq_true_eq, decide_eq_false_iff_not, beq_iff_eq, beq_eq_false_iff_ne, bne_iff_ne, bne_eq_false_iff_eq, ne_eq, Bool.not_eq_true', Bool.not_eq_false'] at hc)
        refine T.region ?_ -- region 5
        refine ro rfl rfl (OpOk.step (ok_move (.inl rfl))) ?_
        refine ro rfl rfl (OpOk.step (ok_shr rfl ti_uint32 1 rfl rfl (by decide) (by decide : (2 : Int) ^ 1 = 2))) ?_
        refine ro rfl rfl (OpOk.step (ok_bits .xor rfl ti_uint32 rfl rfl (.inr (.inr rfl)))) ?_
        refine ro rfl rfl (OpOk.step (ok_move (.inr rfl))) ?_
        refine ro_nil ?_
        exact hJ9 _ _ (TEnt.toH rfl ⟨by dsimp; rw [turn, if_pos hc], rfl, trivial⟩)
      · (try simp only [decide_eq_true_eq, decide_eq_false_iff_not, beq_iff_eq, beq_eq_false_iff_ne, bne_iff_ne, bne_eq_false_iff_eq, ne_eq, Bool.not_eq_true', Bool.not_eq_false'] at hc)
        refine T.region ?_ -- region 6
        refine ro rfl rfl (OpOk.step (ok_move (.inl rfl))) ?_
        refine ro rfl rfl (OpOk.step (ok_shr rfl ti_uint32 1 rfl rfl (by decide) (by decide : (2 : Int) ^ 1 = 2))) ?_
        refine ro rfl rfl (OpOk.step (ok_move (.inr rfl))) ?_
        refine ro_nil ?_
        exact hJ9 _ _ (TEnt.toH rfl ⟨by dsimp; rw [turn, if_neg hc], rfl, trivial⟩)
    refine T.region ?_ -- region 7
    refine ro rfl rfl (OpOk.step (ok_add64 rfl ti_int rfl rfl (by omega) (by omega))) ?_
    refine ro rfl rfl (OpOk.step (ok_move (.inl rfl))) ?_
    refine ro_nil ?_
    exact ⟨i + 1, by omega, by omega, TEnt.toH rfl ⟨by dsimp; rw [← hX]; rfl, rfl, trivial⟩⟩
  · (try simp only [decide_eq_true_eq, decide_eq_false_iff_not, beq_iff_eq, beq_eq_false_iff_ne, bne_iff_ne, bne_eq_false_iff_eq, ne_eq, Bool.not_eq_true', Bool.not_eq_false'] at hc)
    have hi8 : i = 8 := by omega
    subst hi8
    refine T.exit ?_
    refine keepK hK3 [0] (by dsimp) (by dsimp) ?_
    refine T.seq fun K10 hK10 => ?_
    refine T.region ?_ -- region 8
    refine ro rfl rfl (OpOk.step (ok_move (.inl rfl))) ?_
    refine ro rfl rfl (OpOk.step (ok_move (.inr rfl))) ?_
    refine ro_nil ?_
    refine keepK hK10 [4] (by dsimp) (by dsimp) ?_
    refine T.ret (hQ _ _ _ rfl ?_).1 -- ret 1
    exact TEnt.toH rfl ⟨by dsimp [tupA]; rw [← hX]; rfl, trivial⟩
/-- Of parts. -/
def overS (ls : List (List Int)) : Int := ls.foldl (fun s l => l.foldl step s) 4294967295
theorem fold_u (l : List Int) : ∀ s, U32 s → U32 (l.foldl step s) := by
  induction l with
  | nil => exact fun _ h => h
  | cons c l ih => exact fun s _ => ih _ (step_u _ _)
theorem foldl_u (ls : List (List Int)) : ∀ s, U32 s → U32 (ls.foldl (fun s l => l.foldl step s) s) := by
  induction ls with
  | nil => exact fun _ h => h
  | cons l ls ih => exact fun s h => ih _ (fold_u l s h)
theorem overS_u (ls : List (List Int)) : U32 (overS ls) := foldl_u ls _ ⟨by omega, by omega⟩
theorem crc_over (ls : List (List Int)) (hn : ls.length ≤ 140737488355328) (hl : ∀ l ∈ ls, Bytes l ∧ l.length ≤ 140737488355328) : CSpec Try.prog 33 [] [.fz 1 (rowsA .u8 ls)] [] (.v (.int .u32 (4294967295 - overS ls))) := by
  refine CSpec.body Try.func33 rfl rfl rfl rfl rfl fun Q hQ => ?_
  refine T.seq fun K1 hK1 => ?_
  refine T.region ?_ -- region 0
  refine ro rfl rfl (OpOk.step (ok_move (.inr rfl))) ?_
  refine ro_nil ?_
  refine keepK hK1 [0] (by dsimp) (by dsimp) ?_
  refine T.seq fun K2 hK2 => ?_
  refine T.region ?_ -- region 1
  refine ro rfl rfl (OpOk.step (ok_move (.inr rfl))) ?_
  refine ro_nil ?_
  refine keepK hK2 [0, 3] (by dsimp) (by dsimp) ?_
  refine T.seq fun K3 hK3 => ?_
  refine T.seq fun K4 hK4 => ?_
  refine T.region ?_ -- region 2
  refine ro rfl rfl (OpOk.step (ok_move (.inl rfl))) ?_
  refine ro rfl rfl (OpOk.step ((ok_len rfl rfl ti_LLuint8 rfl).eq (x' := .int ls.length) (by rw [rowsA_length]) rfl)) ?_
  refine ro rfl rfl (OpOk.step (ok_move (.inl rfl))) ?_
  refine ro_nil ?_
  refine keepK hK4 [3, 8, 9, 10] (by dsimp) (by dsimp) ?_
  refine T.block ?_
  refine T.loopI (ι := Nat) (fun i => i ≤ ls.length) (fun i => ls.length - i) (fun i => ([(3, .v (.int .u32 ((ls.take i).foldl (fun s l => l.foldl step s) 4294967295))), (8, .fz 1 (rowsA .u8 ls)), (9, .int ls.length), (10, .int i)], [])) 0 (Nat.zero_le _) (TEnt.toH rfl ⟨rfl, rfl, rfl, rfl, trivial⟩) (fun i hi => ?_) -- loop 1
  refine T.seq fun K5 hK5 => ?_
  refine T.region ?_ -- region 3
  refine ro rfl rfl (OpOk.step (ok_binOp rfl ti_int rfl)) ?_
  refine ro_nil ?_
  refine keepK hK5 [3, 8, 9, 10, 11] (by dsimp) (by dsimp) ?_
  refine T.seq fun K6 hK6 => ?_
  refine T.cond rfl (fun hc => ?_) (fun hc => ?_) -- cond 1
  · (try simp only [decide_eq_true_eq, decide_eq_false_iff_not, beq_iff_eq, beq_eq_false_iff_ne, bne_iff_ne, bne_eq_false_iff_eq, ne_eq, Bool.not_eq_true', Bool.not_eq_false'] at hc)
    obtain ⟨l, hli⟩ : ∃ l, ls[i]? = some l := ⟨_, List.getElem?_eq_getElem (by omega)⟩
    obtain ⟨hb, hll⟩ := hl l (List.mem_of_getElem? hli)
    generalize hS : (ls.take i).foldl (fun s l => l.foldl step s) 4294967295 = S
    refine T.skip ?_
    refine keepK hK6 [3, 8, 9, 10] (by dsimp) (by dsimp) ?_
    refine T.seq fun K7 hK7 => ?_
    refine T.block ?_
    refine T.seq fun K8 hK8 => ?_
    refine T.region ?_ -- region 4
    refine ro rfl rfl (OpOk.step (ok_index_fz rfl ti_LLuint8 rfl ti_Luint8 rfl rfl rfl (by omega) (rowsA_get_of hli) rfl)) ?_
    refine ro rfl rfl (OpOk.step (ok_load rfl ti_Luint8 rfl rfl)) ?_
    refine ro rfl rfl (OpOk.step (ok_move (.inr rfl))) ?_
    refine ro_nil ?_
    refine keepK hK8 [3, 5, 8, 9, 10] (by dsimp) (by dsimp) ?_
    refine T.seq fun K9 hK9 => ?_
    refine T.region ?_ -- region 5
    refine ro rfl rfl (OpOk.step (ok_move (.inl rfl))) ?_
    refine ro rfl rfl (OpOk.step ((ok_len rfl rfl ti_Luint8 rfl).eq (x' := .int l.length) (by rw [ints_length]) rfl)) ?_
    refine ro rfl rfl (OpOk.step (ok_move (.inl rfl))) ?_
    refine ro_nil ?_
    refine keepK hK9 [3, 8, 9, 10, 14, 15, 16] (by dsimp) (by dsimp) ?_
    refine T.block ?_
    refine T.loopI (ι := Nat) (fun j => j ≤ l.length) (fun j => l.length - j) (fun j => ([(3, .v (.int .u32 ((l.take j).foldl step S))), (8, .fz 1 (rowsA .u8 ls)), (9, .int ls.length), (10, .int i), (14, .fz 1 (ints .u8 l)), (15, .int l.length), (16, .int j)], [])) 0 (Nat.zero_le _) (TEnt.toH rfl ⟨rfl, rfl, rfl, rfl, rfl, rfl, rfl, trivial⟩) (fun i hi => ?_) -- loop 2
    rename Nat => j
    rename j ≤ l.length => hj
    refine T.seq fun K10 hK10 => ?_
    refine T.region ?_ -- region 6
    refine ro rfl rfl (OpOk.step (ok_binOp rfl ti_int rfl)) ?_
    refine ro_nil ?_
    refine keepK hK10 [3, 8, 9, 10, 14, 15, 16, 17] (by dsimp) (by dsimp) ?_
    refine T.seq fun K11 hK11 => ?_
    refine T.cond rfl (fun hc => ?_) (fun hc => ?_) -- cond 2
    · (try simp only [decide_eq_true_eq, decide_eq_false_iff_not, beq_iff_eq, beq_eq_false_iff_ne, bne_iff_ne, bne_eq_false_iff_eq, ne_eq, Bool.not_eq_true', Bool.not_eq_false'] at hc)
      obtain ⟨c, hcj⟩ : ∃ c, l[j]? = some c := ⟨_, List.getElem?_eq_getElem (by omega)⟩
      have hcb := hb c (List.mem_of_getElem? hcj)
      refine T.skip ?_
      refine keepK hK11 [3, 8, 9, 10, 14, 15, 16] (by dsimp) (by dsimp) ?_
      refine T.seq fun K12 hK12 => ?_
      refine T.block ?_
      refine T.seq fun K13 hK13 => ?_
      refine T.region ?_ -- region 7
      refine ro rfl rfl (OpOk.step (ok_index_ints rfl ti_Luint8 rfl ti_uint8 rfl rfl rfl (by omega) hcj)) ?_
      refine ro rfl rfl (OpOk.step (ok_load rfl ti_uint8 rfl rfl)) ?_
      refine ro rfl rfl (OpOk.step (ok_move (.inr rfl))) ?_
      refine ro_nil ?_
      refine keepK hK13 [3, 7, 8, 9, 10, 14, 15, 16] (by dsimp) (by dsimp) ?_
      refine T.region ?_ -- region 8
      refine ro rfl rfl (OpOk.step (ok_move (.inl rfl))) ?_
      refine ro rfl rfl (OpOk.step (ok_move (.inl rfl))) ?_
      refine ro rfl rfl (ok_call rfl rfl rfl ((crc_step _ c hcb).pass [] (by decide) (by simp) rfl rfl)) ?_
      refine ro rfl rfl (OpOk.step (ok_move (.inr rfl))) ?_
      refine ro_nil ?_
      refine keepK hK12 [3, 8, 9, 10, 14, 15, 16] (by dsimp) (by dsimp) ?_
      refine T.region ?_ -- region 9
      refine ro rfl rfl (OpOk.step (ok_add64 rfl ti_int rfl rfl (by omega) (by omega))) ?_
      refine ro rfl rfl (OpOk.step (ok_move (.inl rfl))) ?_
      refine ro_nil ?_
      exact ⟨j + 1, by omega, by omega, TEnt.toH rfl ⟨by dsimp; rw [take_succ_get hcj, List.foldl_append]; rfl, rfl, rfl, rfl, rfl, rfl, rfl, trivial⟩⟩
    · (try simp only [decide_eq_true_eq, decide_eq_false_iff_not, beq_iff_eq, beq_eq_false_iff_ne, bne_iff_ne, bne_eq_false_iff_eq, ne_eq, Bool.not_eq_true', Bool.not_eq_false'] at hc)
      have hjl : j = l.length := by omega
      subst hjl
      refine T.exit ?_
      refine keepK hK7 [3, 8, 9, 10] (by dsimp) (by dsimp) ?_
      refine T.region ?_ -- region 10
      refine ro rfl rfl (OpOk.step (ok_add64 rfl ti_int rfl rfl (by omega) (by omega))) ?_
      refine ro rfl rfl (OpOk.step (ok_move (.inl rfl))) ?_
      refine ro_nil ?_
      exact ⟨i + 1, by omega, by omega, TEnt.toH rfl ⟨by dsimp; rw [take_succ_get hli, List.foldl_append, hS, List.take_length]; rfl, rfl, rfl, rfl, trivial⟩⟩
  · (try simp only [decide_eq_true_eq, decide_eq_false_iff_not, beq_iff_eq, beq_eq_false_iff_ne, bne_iff_ne, bne_eq_false_iff_eq, ne_eq, Bool.not_eq_true', Bool.not_eq_false'] at hc)
    have hil : i = ls.length := by omega
    subst hil
    refine T.exit ?_
    refine keepK hK3 [3] (by dsimp) (by dsimp) ?_
    refine T.seq fun K14 hK14 => ?_
    refine T.region ?_ -- region 11
    refine ro rfl rfl (OpOk.step (ok_move (.inl rfl))) ?_
    refine ro rfl rfl (OpOk.step (((ok_bits .xor rfl ti_uint32 rfl rfl (.inr (.inr rfl))).eq (x' := .v (.int .u32 (4294967295 - overS ls))) (by rw [List.take_length]; exact congrArg (fun x => AV.v (.int .u32 x)) (xor_all _ (overS_u ls))) rfl))) ?_
    refine ro rfl rfl (OpOk.step (ok_move (.inr rfl))) ?_
    refine ro_nil ?_
    refine keepK hK14 [2] (by dsimp) (by dsimp) ?_
    refine T.ret (hQ _ _ _ rfl ?_).1 -- ret 1
    exact TEnt.toH rfl ⟨by dsimp [tupA], trivial⟩
theorem ref_mix (s c : Int) (hs : U32 s) (hc : 0 ≤ c ∧ c < 256) : IntKind.u32.wrap (IntKind.u32.wrap (IntKind.u32.wrap (s.tdiv 256) * 256) + IntKind.u32.wrap (Go.bits .xor .u8 (IntKind.u8.wrap (s.tmod 256)) c)) = Go.bits .xor .u32 s c := by
  simp only [wrap_u32, wrap_u8]
  obtain ⟨n, rfl⟩ := Int.eq_ofNat_of_zero_le hs.1
  obtain ⟨b, rfl⟩ := Int.eq_ofNat_of_zero_le hc.1
  have hn : n < 4294967296 := by have := hs.2; omega
  have hb : b < 256 := by have := hc.2; omega
  rw [xor_nat n b hn (by omega), Int.tdiv_eq_ediv_of_nonneg hs.1, Int.tmod_eq_emod_of_nonneg hs.1]
  have e1 : ((n : Int) % 256) % 256 = ((n % 256 : Nat) : Int) := by omega
  rw [e1, xor8_nat _ b (by omega) hb, xor_low n b hb]
  have hx : (n % 256) ^^^ b < 2 ^ 8 := Nat.xor_lt_two_pow (by omega) hb
  generalize (n % 256) ^^^ b = q at hx ⊢
  omega
theorem ref_step (s c : Int) (hs : U32 s) (hc : 0 ≤ c ∧ c < 256) : CSpec Try.prog 40 [] [.v (.int .u32 s), .v (.int .u8 c)] [] (.v (.int .u32 (step s c))) := by
  refine CSpec.body Try.func40 rfl rfl rfl rfl rfl fun Q hQ => ?_
  refine T.seq fun K1 hK1 => ?_
  refine T.region ?_ -- region 0
  refine ro rfl rfl (OpOk.step (ok_move (.inr rfl))) ?_
  refine ro_nil ?_
  refine keepK hK1 [0, 1] (by dsimp) (by dsimp) ?_
  refine T.seq fun K2 hK2 => ?_
  refine T.region ?_ -- region 1
  refine ro rfl rfl (OpOk.step (ok_move (.inl rfl))) ?_
  refine ro rfl rfl (OpOk.step (ok_binOp rfl ti_uint32 rfl)) ?_
  refine ro rfl rfl (OpOk.step (ok_binOp rfl ti_uint32 rfl)) ?_
  refine ro rfl rfl (OpOk.step (ok_move (.inl rfl))) ?_
  refine ro rfl rfl (OpOk.step (ok_binOp rfl ti_uint32 rfl)) ?_
  refine ro rfl rfl (OpOk.step (ok_conv_int rfl ti_uint32 ti_uint8 rfl rfl)) ?_
  refine ro rfl rfl (OpOk.step (ok_move (.inl rfl))) ?_
  refine ro rfl rfl (OpOk.step (ok_binOp rfl ti_uint8 rfl)) ?_
  refine ro rfl rfl (OpOk.step (ok_conv_int rfl ti_uint8 ti_uint32 rfl rfl)) ?_
  refine ro rfl rfl (OpOk.step ((ok_binOp rfl ti_uint32 rfl).eq (x' := .v (.int .u32 (Go.bits .xor .u32 s c))) (congrArg (fun x => AV.v (.int .u32 x)) (ref_mix s c hs hc)) rfl)) ?_
  refine ro rfl rfl (OpOk.step (ok_move (.inr rfl))) ?_
  refine ro_nil ?_
  refine keepK hK2 [5] (by dsimp) (by dsimp) ?_
  refine T.seq fun K3 hK3 => ?_
  refine T.seq fun K4 hK4 => ?_
  refine T.region ?_ -- region 2
  refine ro rfl rfl (OpOk.step (ok_move (.inr rfl))) ?_
  refine ro_nil ?_
  refine keepK hK4 [5, 6] (by dsimp) (by dsimp) ?_
  refine T.block ?_
  refine T.loopI (ι := Nat) (fun i => i ≤ 8) (fun i => 8 - i) (fun i => ([(5, .v (.int .u32 (turns i (Go.bits .xor .u32 s c)))), (6, .int i)], [])) 0 (by omega) (TEnt.toH rfl ⟨rfl, rfl, trivial⟩) (fun i hi => ?_) -- loop 1
  have hx : U32 (turns i (Go.bits .xor .u32 s c)) := turns_u _ _ (bits32 _ _ _)
  generalize hX : turns i (Go.bits .xor .u32 s c) = X at hx ⊢
  refine T.seq fun K5 hK5 => ?_
  refine T.seq fun K6 hK6 => ?_
  refine T.region ?_ -- region 3
  refine ro rfl rfl (OpOk.step (ok_move (.inl rfl))) ?_
  refine ro rfl rfl (OpOk.step (ok_binOp rfl ti_int rfl)) ?_
  refine ro_nil ?_
  refine keepK hK6 [5, 6, 19] (by dsimp) (by dsimp) ?_
  refine T.cond rfl (fun hc => ?_) (fun hc => ?_) -- cond 1
  · (try simp only [decide_eq_true_eq, decide_eq_false_iff_not, beq_iff_eq, beq_eq_false_iff_ne, bne_iff_ne, bne_eq_false_iff_eq, ne_eq, Bool.not_eq_true', Bool.not_eq_false'] at hc)
    refine T.skip ?_
    refine keepK hK5 [5, 6] (by dsimp) (by dsimp) ?_
    refine T.seq fun K7 hK7 => ?_
    refine T.block ?_
    refine T.seq fun K8 hK8 => ?_
    refine T.region ?_ -- region 5
    refine ro rfl rfl (OpOk.step (ok_move (.inl rfl))) ?_
    refine ro rfl rfl (OpOk.step ((ok_binOp rfl ti_uint32 rfl).eq (x' := .v (.int .u32 (X % 2))) (congrArg (fun x => AV.v (.int .u32 x)) (Int.tmod_eq_emod_of_nonneg hx.1)) rfl)) ?_
    refine ro rfl rfl (OpOk.step (ok_move (.inr rfl))) ?_
    refine ro_nil ?_
    refine keepK hK8 [5, 6, 7] (by dsimp) (by dsimp) ?_
    refine T.seq fun K9 hK9 => ?_
    refine T.region ?_ -- region 6
    refine ro rfl rfl (OpOk.step (ok_move (.inl rfl))) ?_
    refine ro rfl rfl (OpOk.step ((ok_binOp rfl ti_uint32 rfl).eq (x' := .v (.int .u32 (X / 2))) (congrArg (fun x => AV.v (.int .u32 x)) (by have := hx.1; have := hx.2; simp only [wrap_u32, Int.tdiv_eq_ediv_of_nonneg hx.1]; omega)) rfl)) ?_
    refine ro rfl rfl (OpOk.step (ok_move (.inr rfl))) ?_
    refine ro_nil ?_
    refine keepK hK9 [5, 6, 7] (by dsimp) (by dsimp) ?_
    refine T.seq fun K10 hK10 => ?_
    refine T.region ?_ -- region 7
    refine ro rfl rfl (OpOk.step (ok_move (.inl rfl))) ?_
    refine ro rfl rfl (OpOk.step (ok_binOp rfl ti_uint32 rfl)) ?_
    refine ro_nil ?_
    refine keepK hK10 [5, 6, 27] (by dsimp) (by dsimp) ?_
    refine T.join hK7 [(5, .v (.int .u32 (turn X))), (6, .int i)] [] (fun hJ11 => ?_) ?_ -- join 1
    · -- the two ways
      refine T.cond rfl (fun hc => ?_) (fun hc => ?_) -- cond 2
      · (try simp only [decide_eq_true_eq, decide_eq_false_iff_not, beq_iff_eq, beq_eq_false_iff_ne, bne_iff_ne, bne_eq_false_iff_eq, ne_eq, Bool.not_eq_true', Bool.not_eq_false'] at hc)
        refine T.region ?_ -- region 8
        refine ro rfl rfl (OpOk.step (ok_move (.inl rfl))) ?_
        refine ro rfl rfl (OpOk.step (ok_bits .xor rfl ti_uint32 rfl rfl (.inr (.inr rfl)))) ?_
        refine ro rfl rfl (OpOk.step (ok_move (.inr rfl))) ?_
        refine ro_nil ?_
        exact hJ11 _ _ (TEnt.toH rfl ⟨by dsimp; rw [turn, if_pos hc], rfl, trivial⟩)
      · (try simp only [decide_eq_true_eq, decide_eq_false_iff_not, beq_iff_eq, beq_eq_false_iff_ne, bne_iff_ne, bne_eq_false_iff_eq, ne_eq, Bool.not_eq_true', Bool.not_eq_false'] at hc)
        refine T.skip ?_
        exact hJ11 _ _ (TEnt.toH rfl ⟨by dsimp; rw [turn, if_neg hc], rfl, trivial⟩)
    refine T.region ?_ -- region 4
    refine ro rfl rfl (OpOk.step (ok_move (.inl rfl))) ?_
    refine ro rfl rfl (OpOk.step (ok_add64 rfl ti_int rfl rfl (by omega) (by omega))) ?_
    refine ro rfl rfl (OpOk.step (ok_move (.inr rfl))) ?_
    refine ro_nil ?_
    exact ⟨i + 1, by omega, by omega, TEnt.toH rfl ⟨by dsimp; rw [← hX]; rfl, rfl, trivial⟩⟩
  · (try simp only [decide_eq_true_eq, decide_eq_false_iff_not, beq_iff_eq, beq_eq_false_iff_ne, bne_iff_ne, bne_eq_false_iff_eq, ne_eq, Bool.not_eq_true', Bool.not_eq_false'] at hc)
    have hi8 : i = 8 := by omega
    subst hi8
    refine T.exit ?_
    refine keepK hK3 [5] (by dsimp) (by dsimp) ?_
    refine T.seq fun K12 hK12 => ?_
    refine T.region ?_ -- region 9
    refine ro rfl rfl (OpOk.step (ok_move (.inl rfl))) ?_
    refine ro rfl rfl (OpOk.step (ok_move (.inr rfl))) ?_
    refine ro_nil ?_
    refine keepK hK12 [4] (by dsimp) (by dsimp) ?_
    refine T.ret (hQ _ _ _ rfl ?_).1 -- ret 1
    exact TEnt.toH rfl ⟨by dsimp [tupA]; rw [← hX]; rfl, trivial⟩
theorem ref_of (l : List Int) (hb : Bytes l) (hl : l.length ≤ 140737488355328) : CSpec Try.prog 23 [] [.fz 1 (ints .u8 l)] [] (.v (.int .u32 (4294967295 - l.foldl step 4294967295))) := by
  refine CSpec.body Try.func23 rfl rfl rfl rfl rfl fun Q hQ => ?_
  refine T.seq fun K1 hK1 => ?_
  refine T.region ?_ -- region 0
  refine ro rfl rfl (OpOk.step (ok_move (.inr rfl))) ?_
  refine ro_nil ?_
  refine keepK hK1 [0] (by dsimp) (by dsimp) ?_
  refine T.seq fun K2 hK2 => ?_
  refine T.region ?_ -- region 1
  refine ro rfl rfl (OpOk.step (ok_move (.inr rfl))) ?_
  refine ro_nil ?_
  refine keepK hK2 [0, 3] (by dsimp) (by dsimp) ?_
  refine T.seq fun K3 hK3 => ?_
  refine T.seq fun K4 hK4 => ?_
  refine T.region ?_ -- region 2
  refine ro rfl rfl (OpOk.step (ok_move (.inr rfl))) ?_
  refine ro_nil ?_
  refine keepK hK4 [0, 3, 4] (by dsimp) (by dsimp) ?_
  refine T.block ?_
  refine T.loopI (ι := Nat) (fun i => i ≤ l.length) (fun i => l.length - i) (fun i => ([(0, .fz 1 (ints .u8 l)), (3, .v (.int .u32 ((l.take i).foldl step 4294967295))), (4, .int i)], [])) 0 (Nat.zero_le _) (TEnt.toH rfl ⟨rfl, rfl, rfl, trivial⟩) (fun i hi => ?_) -- loop 1
  have hs : U32 ((l.take i).foldl step 4294967295) := fold_u _ _ ⟨by omega, by omega⟩
  refine T.seq fun K5 hK5 => ?_
  refine T.seq fun K6 hK6 => ?_
  refine T.region ?_ -- region 3
  refine ro rfl rfl (OpOk.step (ok_move (.inl rfl))) ?_
  refine ro rfl rfl (OpOk.step (ok_move (.inl rfl))) ?_
  refine ro rfl rfl (OpOk.step ((ok_len rfl rfl ti_Luint8 rfl).eq (x' := .int l.length) (by rw [ints_length]) rfl)) ?_
  refine ro rfl rfl (OpOk.step (ok_binOp rfl ti_int rfl)) ?_
  refine ro_nil ?_
  refine keepK hK6 [0, 3, 4, 8] (by dsimp) (by dsimp) ?_
  refine T.cond rfl (fun hc => ?_) (fun hc => ?_) -- cond 1
  · (try simp only [decide_eq_true_eq, decide_eq_false_iff_not, beq_iff_eq, beq_eq_false_iff_ne, bne_iff_ne, bne_eq_false_iff_eq, ne_eq, Bool.not_eq_true', Bool.not_eq_false'] at hc)
    obtain ⟨c, hci⟩ : ∃ c, l[i]? = some c := ⟨_, List.getElem?_eq_getElem (by omega)⟩
    have hcb := hb c (List.mem_of_getElem? hci)
    refine T.skip ?_
    refine keepK hK5 [0, 3, 4] (by dsimp) (by dsimp) ?_
    refine T.seq fun K7 hK7 => ?_
    refine T.block ?_
    refine T.region ?_ -- region 5
    refine ro rfl rfl (OpOk.step (ok_move (.inl rfl))) ?_
    refine ro rfl rfl (OpOk.step (ok_move (.inl rfl))) ?_
    refine ro rfl rfl (OpOk.step (ok_move (.inl rfl))) ?_
    refine ro rfl rfl (OpOk.step (ok_index_ints rfl ti_Luint8 rfl ti_uint8 rfl rfl rfl (by omega) hci)) ?_
    refine ro rfl rfl (OpOk.step (ok_load rfl ti_uint8 rfl rfl)) ?_
    refine ro rfl rfl (ok_call rfl rfl rfl ((ref_step _ c hs hcb).pass [] (by decide) (by simp) rfl rfl)) ?_
    refine ro rfl rfl (OpOk.step (ok_move (.inr rfl))) ?_
    refine ro_nil ?_
    refine keepK hK7 [0, 3, 4] (by dsimp) (by dsimp) ?_
    refine T.region ?_ -- region 4
    refine ro rfl rfl (OpOk.step (ok_move (.inl rfl))) ?_
    refine ro rfl rfl (OpOk.step (ok_add64 rfl ti_int rfl rfl (by omega) (by omega))) ?_
    refine ro rfl rfl (OpOk.step (ok_move (.inr rfl))) ?_
    refine ro_nil ?_
    exact ⟨i + 1, by omega, by omega, TEnt.toH rfl ⟨rfl, by dsimp; rw [take_succ_get hci, List.foldl_append]; rfl, rfl, trivial⟩⟩
  · (try simp only [decide_eq_true_eq, decide_eq_false_iff_not, beq_iff_eq, beq_eq_false_iff_ne, bne_iff_ne, bne_eq_false_iff_eq, ne_eq, Bool.not_eq_true', Bool.not_eq_false'] at hc)
    have hil : i = l.length := by omega
    subst hil
    refine T.exit ?_
    refine keepK hK3 [3] (by dsimp) (by dsimp) ?_
    refine T.seq fun K8 hK8 => ?_
    refine T.region ?_ -- region 6
    refine ro rfl rfl (OpOk.step (ok_move (.inl rfl))) ?_
    refine ro rfl rfl (OpOk.step ((ok_binOp rfl ti_uint32 rfl).eq (x' := .v (.int .u32 (4294967295 - l.foldl step 4294967295))) (congrArg (fun x => AV.v (.int .u32 x)) (by rw [List.take_length] at hs ⊢; have := hs.1; have := hs.2; simp only [wrap_u32]; omega)) rfl)) ?_
    refine ro rfl rfl (OpOk.step (ok_move (.inr rfl))) ?_
    refine ro_nil ?_
    refine keepK hK8 [2] (by dsimp) (by dsimp) ?_
    refine T.ret (hQ _ _ _ rfl ?_).1 -- ret 1
    exact TEnt.toH rfl ⟨by dsimp [tupA], trivial⟩
theorem crc_of (l : List Int) (hb : Bytes l) (hl : l.length ≤ 140737488355328) : CSpec Try.prog 19 [] [.fz 1 (ints .u8 l)] [] (.v (.int .u32 (4294967295 - overS [l]))) := by
  refine CSpec.body Try.func19 rfl rfl rfl rfl rfl fun Q hQ => ?_
  refine T.seq fun K1 hK1 => ?_
  refine T.region ?_ -- region 0
  refine ro rfl rfl (OpOk.step (ok_move (.inr rfl))) ?_
  refine ro_nil ?_
  refine keepK hK1 [0] (by dsimp) (by dsimp) ?_
  refine T.seq fun K2 hK2 => ?_
  refine T.region ?_ -- region 1
  refine ro rfl rfl (OpOk.step (ok_move (.inl rfl))) ?_
  refine ro rfl rfl (OpOk.step (ok_buildSlice (n := 1) (ps := #[(0, .tmp 3)]) rfl ti_LLuint8 rfl ti_Luint8 (by decide) rfl rfl (by decide) rfl rfl rfl)) ?_
  refine ro rfl rfl (ok_call rfl rfl rfl ((crc_over [l] (by simp) (by intro x hx; simp at hx; subst hx; exact ⟨hb, hl⟩)).lendV (.cons (.lent 0 1 (rowsA .u8 [l]) rfl rfl) .nil) (by simp [renL, AV.ren, renL_rowsA]))) ?_
  refine ro rfl rfl (OpOk.step (ok_move (.inr rfl))) ?_
  refine ro_nil ?_
  refine keepK hK2 [2] (by dsimp) (by dsimp) ?_
  refine T.ret (hQ _ _ _ rfl ?_).1 -- ret 1
  exact TEnt.fin [] (by decide) (by simp) rfl ⟨rfl, trivial⟩
theorem crcV_eq (l : List Int) : overS [l] = l.foldl step 4294967295 := rfl
end Go.Proofs.Yteonkbgfpocplaa.AmF
