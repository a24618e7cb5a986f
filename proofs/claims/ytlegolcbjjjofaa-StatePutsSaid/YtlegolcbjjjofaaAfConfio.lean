/- Walks over the abstract machine: settings as bytes, and got again. -/
import Derived.Test.YtlegolcbjjjofaaAfBack
import Derived.Test.YtlegolcbjjjofaaAfConfeq
namespace Go.Proofs.Ytlegolcbjjjofaa.AmF
open Go Go.AM
set_option maxRecDepth 100000
set_option linter.unusedSimpArgs false
set_option linter.unusedVariables false
attribute [local simp] tkeep tget tput ev cav argsTM pickA normT putA splice AV.cells ints_length rowsA_length enc_len
theorem pow_split (i : Nat) (h : i < 8) : (18446744073709551616 : Int) = 2 ^ (8 * i) * (256 * 2 ^ (8 * (7 - i))) := by
  match i, h with
  | 0, _ | 1, _ | 2, _ | 3, _ | 4, _ | 5, _ | 6, _ | 7, _ => decide
/-- A byte of a number of 64 bits. -/
theorem byte_u64 (v : Int) (i : Nat) (h : i < 8) : v % 18446744073709551616 / 2 ^ (8 * i) % 256 = v / 2 ^ (8 * i) % 256 := by
  have hA : (0 : Int) < 2 ^ (8 * i) := Int.pow_pos (by decide)
  have h1 := Int.mul_ediv_add_emod v 18446744073709551616
  generalize v / 18446744073709551616 = q at h1
  generalize v % 18446744073709551616 = r at h1 ⊢
  have hs := pow_split i h
  generalize (2 : Int) ^ (8 * (7 - i)) = B at hs
  have h2 : v = r + 2 ^ (8 * i) * (256 * B * q) := by
    rw [← h1, hs, Int.add_comm, Int.mul_assoc]
  rw [h2, Int.add_mul_ediv_left _ _ (by omega), Int.mul_assoc, Int.add_mul_emod_self_left]
theorem div_step (V : Nat) (i : Nat) : V / 2 ^ (8 * (i + 1)) = V / 2 ^ (8 * i) / 256 := by
  rw [Nat.mul_add, Nat.pow_add, Nat.div_div_eq_div_mul]
theorem rint_new (v : Int) : CSpec Try.prog 81 [] [.int v] [some ⟨1, true, ints .u8 (enc v 8)⟩] (.sl 0 0 8) := by
 obtain ⟨V, hV⟩ : ∃ V : Nat, v % 18446744073709551616 = V := Int.eq_ofNat_of_zero_le (Int.emod_nonneg _ (by decide))
 have hlt : V < 18446744073709551616 := by omega
 obtain ⟨D, hD⟩ : ∃ D : Nat → Nat, ∀ k, D k = V / 2 ^ (8 * k) := ⟨fun k => V / 2 ^ (8 * k), fun _ => rfl⟩
 have hDle : ∀ k, D k ≤ V := fun k => by rw [hD]; exact Nat.div_le_self _ _
 refine CSpec.body Try.func81 rfl rfl rfl rfl rfl fun Q hQ => ?_
 refine T.seq fun K1 hK1 => ?_
 refine T.region ?_ -- region 0
 refine ro rfl rfl (OpOk.step (ok_move (.inr rfl))) ?_
 refine ro_nil ?_
 refine keepK hK1 [0] (by dsimp) (by dsimp) ?_
 refine T.seq fun K2 hK2 => ?_
 refine T.region ?_ -- region 1
 refine ro rfl rfl (OpOk.step (ok_move (.inr rfl))) ?_
 refine ro_nil ?_
 refine keepK hK2 [0, 3] (by dsimp) (by dsimp) ?_
 refine T.seq fun K3 hK3 => ?_
 refine T.region ?_ -- region 2
 refine ro rfl rfl (OpOk.step (ok_move (.inl rfl))) ?_
 refine ro rfl rfl (OpOk.step ((ok_conv_int rfl ti_int ti_uint64 rfl rfl).eq (x' := .v (.int .u64 (D 0))) (by rw [wrap_u64, hV, hD]; simp) rfl)) ?_
 refine ro rfl rfl (OpOk.step (ok_move (.inr rfl))) ?_
 refine ro_nil ?_
 refine keepK hK3 [3, 4] (by dsimp) (by dsimp) ?_
 refine T.seq fun K4 hK4 => ?_
 refine T.seq fun K5 hK5 => ?_
 refine T.region ?_ -- region 3
 refine ro rfl rfl (OpOk.step (ok_move (.inr rfl))) ?_
 refine ro_nil ?_
 refine keepK hK5 [3, 4, 5] (by dsimp) (by dsimp) ?_
 refine T.block ?_
 refine T.loopI (ι := Nat) (fun i => i ≤ 8) (fun i => 8 - i) (fun i => ([(3, .sl 0 0 (enc v i).length), (4, .v (.int .u64 (D i))), (5, .int i)], [some ⟨1, true, ints .u8 (enc v i)⟩])) 0 (Nat.zero_le _) ((TEnt.empty 3 1 (by decide) (.inr rfl)).trans (TEnt.fin [0] (by decide) (by simp) rfl ⟨rfl, rfl, rfl, trivial⟩)) (fun i hi => ?_) -- loop 1
 refine T.seq fun K6 hK6 => ?_
 refine T.seq fun K7 hK7 => ?_
 refine T.region ?_ -- region 4
 refine ro rfl rfl (OpOk.step (ok_move (.inl rfl))) ?_
 refine ro rfl rfl (OpOk.step (ok_binOp rfl ti_int rfl)) ?_
 refine ro_nil ?_
 refine keepK hK7 [3, 4, 5, 9] (by dsimp) (by dsimp) ?_
 refine T.cond rfl (fun hc => ?_) (fun hc => ?_) -- cond 1
 ·(try simp only [dE] at hc)
  have hi8 : i < 8 := by omega
  have hb := byte_u64 v i hi8
  rw [hV] at hb
  have hb' : ((D i % 256 : Nat) : Int) = v / 2 ^ (8 * i) % 256 := by rw [← hb, hD]; simp
  have hd' := hDle i
  have hds := div_step V i
  rw [← hD, ← hD] at hds
  refine T.skip ?_
  refine keepK hK6 [3, 4, 5] (by dsimp) (by dsimp) ?_
  refine T.seq fun K8 hK8 => ?_
  refine T.block ?_
  refine T.seq fun K9 hK9 => ?_
  refine T.region ?_ -- region 6
  refine ro rfl rfl (OpOk.step (ok_move (.inl rfl))) ?_
  refine ro rfl rfl (OpOk.step (ok_move (.inl rfl))) ?_
  refine ro rfl rfl (OpOk.step ((ok_binOp rfl ti_uint64 rfl).eq (x' := .v (.int .u64 (D i % 256 : Nat))) (congrArg (fun x => AV.v (.int .u64 x)) (by rw [Int.tmod_eq_emod_of_nonneg (by omega)]; omega)) rfl)) ?_
  refine ro rfl rfl (OpOk.step ((ok_conv_int rfl ti_uint64 ti_uint8 rfl rfl).eq (x' := .v (.int .u8 (IntKind.u8.wrap (v / 2 ^ (8 * i))))) (congrArg (fun x => AV.v (.int .u8 x)) (by rw [wrap_u8, wrap_u8]; omega)) rfl)) ?_
  refine ro rfl rfl (OpOk.step (ok_buildSlice (n := 1) (ps := #[(0, .tmp 15)]) rfl ti_Luint8 rfl ti_uint8 (by decide) rfl rfl (by decide) rfl rfl rfl)) ?_
  refine ro rfl rfl (OpOk.step (by exact ok_append_ints (k := .u8) (xs := enc v i) (ys := [IntKind.u8.wrap (v / 2 ^ (8 * i))]) rfl ti_Luint8 rfl ti_uint8 rfl (by decide) rfl ti_Luint8 (by simp) rfl rfl rfl rfl rfl rfl rfl rfl rfl (by simp <;> omega))) ?_
  refine ro rfl rfl (OpOk.step (ok_move (.inr rfl))) ?_
  refine ro_nil ?_
  refine keepK hK9 [3, 4, 5] (by dsimp) (by dsimp) ?_
  refine T.region ?_ -- region 7
  refine ro rfl rfl (OpOk.step (ok_move (.inl rfl))) ?_
  refine ro rfl rfl (OpOk.step ((ok_binOp rfl ti_uint64 rfl).eq (x' := .v (.int .u64 (D (i + 1)))) (congrArg (fun x => AV.v (.int .u64 x)) (by rw [Int.tdiv_eq_ediv_of_nonneg (by omega), wrap_u64]; omega)) rfl)) ?_
  refine ro rfl rfl (OpOk.step (ok_move (.inr rfl))) ?_
  refine ro_nil ?_
  refine keepK hK8 [3, 4, 5] (by dsimp) (by dsimp) ?_
  refine T.region ?_ -- region 5
  refine ro rfl rfl (OpOk.step (ok_move (.inl rfl))) ?_
  refine ro rfl rfl (OpOk.step (ok_add64 rfl ti_int rfl rfl (by omega) (by omega))) ?_
  refine ro rfl rfl (OpOk.step (ok_move (.inr rfl))) ?_
  refine ro_nil ?_
  exact ⟨i + 1, by omega, by omega, TEnt.fin [2] (by decide) (by simp) (by rw [← enc_succ]; simp [normH, hget, Blk.ren, renL_ints]) ⟨by rw [← enc_succ]; rfl, rfl, rfl, trivial⟩⟩
 ·(try simp only [dE] at hc)
  have hin : i = 8 := by omega
  subst hin
  refine T.exit ?_
  refine keepK hK4 [3] (by dsimp) (by dsimp) ?_
  refine T.seq fun K10 hK10 => ?_
  refine T.region ?_ -- region 8
  refine ro rfl rfl (OpOk.step (ok_move (.inl rfl))) ?_
  refine ro rfl rfl (OpOk.step (ok_move (.inr rfl))) ?_
  refine ro_nil ?_
  refine keepK hK10 [2] (by dsimp) (by dsimp) ?_
  refine T.ret (hQ _ _ _ rfl ?_).1 -- ret 1
  exact TEnt.fin [0] (by decide) (by simp) (by simp [normH, hget, Blk.ren, renL_ints]) ⟨rfl, trivial⟩
theorem rint_frz (v : Int) : CSpec Try.prog 81 [] [.int v] [] (.fz 1 (ints .u8 (enc v 8))) := (rint_new v).frz (by simp) (renL_ints _ _ _)
/-- Numbers as bytes, one behind the other. -/
def encs : List Int → List Int
  | [] => []
  | v :: l => enc v 8 ++ encs l
theorem encs_append (a b : List Int) : encs (a ++ b) = encs a ++ encs b := by
  induction a with
  | nil => rfl
  | cons v a ih => simp [encs, ih]
theorem encs_snoc (a : List Int) (v : Int) : encs (a ++ [v]) = encs a ++ enc v 8 := by rw [encs_append]; simp [encs]
theorem encs_len (l : List Int) : (encs l).length = 8 * l.length := by
  induction l with
  | nil => rfl
  | cons v l ih => simp [encs, ih]; omega
theorem encs_bytes (l : List Int) : Bytes (encs l) := by
  induction l with
  | nil => exact Bytes.nil
  | cons v l ih => exact (enc_bytes _ _).append ih
theorem rput_new (c : Cf) : CSpec Try.prog 80 [] [.agg (CC c)] [some ⟨1, true, ints .u8 (encs c.l)⟩] (.sl 0 0 (encs c.l).length) := by
 obtain ⟨L, hL⟩ : ∃ L, c.l.drop 1 = L := ⟨_, rfl⟩
 have hLl : L.length = 10 := by rw [← hL]; rfl
 have hcl : c.l = c.id :: L := by rw [← hL]; rfl
 rw [hcl]
 refine CSpec.body Try.func80 rfl rfl rfl rfl rfl fun Q hQ => ?_
 refine T.seq fun K1 hK1 => ?_
 refine T.region ?_ -- region 0
 refine ro rfl rfl (OpOk.step (ok_box (n := 11) rfl rfl (by decide))) ?_
 refine ro rfl rfl (OpOk.step (ok_move (.inr rfl))) ?_
 refine ro_nil ?_
 refine keepK hK1 [1] (by dsimp) (by dsimp) ?_
 refine T.seq fun K2 hK2 => ?_
 refine T.region ?_ -- region 1
 refine ro rfl rfl (OpOk.step (ok_fieldAddr rfl ti_api_Conf rfl rfl ti_int (by decide) rfl)) ?_
 refine ro rfl rfl (OpOk.step (ok_load rfl ti_int rfl rfl)) ?_
 refine ro rfl rfl (ok_call rfl rfl rfl ((rint_new c.id).fresh (x' := .sl 1 0 8) (H' := [some ⟨1, true, ints .u8 (encs [c.id])⟩]) rfl rfl (by simp [renH, Blk.ren, renL_ints, encs]))) ?_
 refine ro rfl rfl (OpOk.step (ok_move (.inr rfl))) ?_
 refine ro_nil ?_
 refine keepK hK2 [1, 3] (by dsimp) (by dsimp) ?_
 refine T.seq fun K3 hK3 => ?_
 refine T.region ?_ -- region 2
 refine ro rfl rfl (OpOk.step (ok_load rfl ti_api_Conf rfl rfl)) ?_
 refine ro rfl rfl (ok_call rfl rfl rfl (((list_frz c).plain rfl (by simp [AV.ren, renL_ints])).eq (x' := .fz 1 (ints .i64 L)) (by rw [hL]) rfl)) ?_
 refine ro rfl rfl (OpOk.step (ok_move (.inr rfl))) ?_
 refine ro_nil ?_
 refine keepK hK3 [3, 4] (by dsimp) (by dsimp) ?_
 refine T.seq fun K4 hK4 => ?_
 refine T.seq fun K5 hK5 => ?_
 refine T.region ?_ -- region 3
 refine ro rfl rfl (OpOk.step (ok_move (.inr rfl))) ?_
 refine ro_nil ?_
 refine keepK hK5 [3, 4, 5] (by dsimp) (by dsimp) ?_
 refine T.block ?_
 refine T.loopI (ι := Nat) (fun i => i ≤ 10) (fun i => 10 - i) (fun i => ([(3, .sl 0 0 (encs (c.id :: L.take i)).length), (4, .fz 1 (ints .i64 L)), (5, .int i)], [some ⟨1, true, ints .u8 (encs (c.id :: L.take i))⟩])) 0 (Nat.zero_le _) (TEnt.fin [1] (by decide) (by simp) (by simp [normH, hget, Blk.ren, renL_ints]) ⟨rfl, by simp [AV.ren, renL_ints], rfl, trivial⟩) (fun i hi => ?_) -- loop 1
 refine T.seq fun K6 hK6 => ?_
 refine T.seq fun K7 hK7 => ?_
 refine T.region ?_ -- region 4
 refine ro rfl rfl (OpOk.step (ok_move (.inl rfl))) ?_
 refine ro rfl rfl (OpOk.step (ok_move (.inl rfl))) ?_
 refine ro rfl rfl (OpOk.step (ok_len' rfl rfl ti_Lint rfl (by first | exact ints_length _ _ | exact rowsA_length _ _ | exact Cms_len _ | exact mapLen _ | rfl))) ?_
 refine ro rfl rfl (OpOk.step (ok_binOp rfl ti_int rfl)) ?_
 refine ro_nil ?_
 refine keepK hK7 [3, 4, 5, 14] (by dsimp) (by dsimp) ?_
 refine T.cond rfl (fun hc => ?_) (fun hc => ?_) -- cond 1
 ·(try simp only [dE] at hc)
  have hi10 : i < 10 := by omega
  obtain ⟨x, hx⟩ : ∃ x, L[i]? = some x := ⟨_, List.getElem?_eq_getElem (by omega)⟩
  have htk : L.take (i + 1) = L.take i ++ [x] := take_succ_get hx
  have hen : encs (c.id :: L.take (i + 1)) = encs (c.id :: L.take i) ++ enc x 8 := by rw [htk, ← encs_snoc]; rfl
  have hel : (encs (c.id :: L.take i)).length ≤ 88 := by rw [encs_len]; simp; omega
  refine T.skip ?_
  refine keepK hK6 [3, 4, 5] (by dsimp) (by dsimp) ?_
  refine T.seq fun K8 hK8 => ?_
  refine T.block ?_
  refine T.region ?_ -- region 6
  refine ro rfl rfl (OpOk.step (ok_move (.inl rfl))) ?_
  refine ro rfl rfl (OpOk.step (ok_move (.inl rfl))) ?_
  refine ro rfl rfl (OpOk.step (ok_move (.inl rfl))) ?_
  refine ro rfl rfl (OpOk.step (by exact ok_index_ints rfl ti_Lint rfl ti_int rfl rfl rfl (by omega) (by simpa using hx))) ?_
  refine ro rfl rfl (OpOk.step (ok_load rfl ti_int rfl rfl)) ?_
  refine ro rfl rfl (ok_call rfl rfl rfl ((rint_frz x).plain rfl (by simp [AV.ren, renL_ints]))) ?_
  refine ro rfl rfl (OpOk.step (by exact ok_append_ints (k := .u8) (xs := encs (c.id :: L.take i)) (ys := enc x 8) rfl ti_Luint8 rfl ti_uint8 rfl (by decide) rfl ti_Luint8 (by simp) rfl rfl rfl rfl rfl rfl rfl rfl rfl (by simp <;> omega))) ?_
  refine ro rfl rfl (OpOk.step (ok_move (.inr rfl))) ?_
  refine ro_nil ?_
  refine keepK hK8 [3, 4, 5] (by dsimp) (by dsimp) ?_
  refine T.region ?_ -- region 5
  refine ro rfl rfl (OpOk.step (ok_move (.inl rfl))) ?_
  refine ro rfl rfl (OpOk.step (ok_add64 rfl ti_int rfl rfl (by omega) (by omega))) ?_
  refine ro rfl rfl (OpOk.step (ok_move (.inr rfl))) ?_
  refine ro_nil ?_
  exact ⟨i + 1, by omega, by omega, TEnt.fin [1] (by decide) (by simp) (by rw [hen]; simp [normH, hget, Blk.ren, renL_ints]) ⟨by rw [hen]; rfl, by simp [AV.ren, renL_ints], rfl, trivial⟩⟩
 ·(try simp only [dE] at hc)
  have hin : i = 10 := by omega
  subst hin
  rw [List.take_of_length_le (by omega)]
  refine T.exit ?_
  refine keepK hK4 [3] (by dsimp) (by dsimp) ?_
  refine T.seq fun K9 hK9 => ?_
  refine T.region ?_ -- region 7
  refine ro rfl rfl (OpOk.step (ok_move (.inl rfl))) ?_
  refine ro rfl rfl (OpOk.step (ok_move (.inr rfl))) ?_
  refine ro_nil ?_
  refine keepK hK9 [2] (by dsimp) (by dsimp) ?_
  refine T.ret (hQ _ _ _ rfl ?_).1 -- ret 1
  exact TEnt.fin [0] (by decide) (by simp) (by simp [normH, hget, Blk.ren, renL_ints]) ⟨rfl, trivial⟩
theorem cput_frz (c : Cf) : CSpec Try.prog 85 [] [.agg (CC c)] [] (.fz 1 (ints .u8 (encs c.l))) := by
 obtain ⟨L, hL⟩ : ∃ L, c.l.drop 1 = L := ⟨_, rfl⟩
 have hLl : L.length = 10 := by rw [← hL]; rfl
 have hcl : c.l = c.id :: L := by rw [← hL]; rfl
 refine CSpec.body Try.func85 rfl rfl rfl rfl rfl fun Q hQ => ?_
 refine T.seq fun K1 hK1 => ?_
 refine T.region ?_ -- region 0
 refine ro rfl rfl (OpOk.step (ok_box (n := 11) rfl rfl (by decide))) ?_
 refine ro rfl rfl (OpOk.step (ok_move (.inr rfl))) ?_
 refine ro_nil ?_
 refine keepK hK1 [1] (by dsimp) (by dsimp) ?_
 refine T.seq fun K2 hK2 => ?_
 refine T.region ?_ -- region 1
 refine ro rfl rfl (OpOk.step (ok_fieldAddr rfl ti_api_Conf rfl rfl ti_int (by decide) rfl)) ?_
 refine ro rfl rfl (OpOk.step (ok_load rfl ti_int rfl rfl)) ?_
 refine ro rfl rfl (ok_call rfl rfl rfl (((pkint_frz (l := []) (r := encs [c.id]) (v := c.id) (by simp [encs]) (by simp)).plain rfl (by simp [AV.ren, renL_ints])).view (EntL.cons (Ent.nil 1) (EntL.refl _)))) ?_
 refine ro rfl rfl (OpOk.step (ok_move (.inr rfl))) ?_
 refine ro_nil ?_
 refine keepK hK2 [1, 3] (by dsimp) (by dsimp) ?_
 refine T.seq fun K3 hK3 => ?_
 refine T.seq fun K4 hK4 => ?_
 refine T.region ?_ -- region 2
 refine ro rfl rfl (ok_call rfl rfl rfl (((numbers_new c).pass [0] (by decide) (by simp) (by simp [normH, hget]; exact CB_ren _ _) rfl).eq (x' := .sl 1 0 10) (H'' := [some (CB c), some NB]) rfl (by simp [mergeH, setIds, renH, CB_ren]; rfl))) ?_
 refine ro rfl rfl (OpOk.step (ok_len' rfl rfl ti_LPint rfl (by first | exact ints_length _ _ | exact rowsA_length _ _ | exact Cms_len _ | exact mapLen _ | rfl))) ?_
 refine ro rfl rfl (OpOk.step (ok_move (.inl rfl))) ?_
 refine ro_nil ?_
 refine keepK hK4 [3, 9, 10, 11] (by dsimp) (by dsimp) ?_
 refine T.block ?_
 refine T.loopI (ι := Nat) (fun i => i ≤ 10) (fun i => 10 - i) (fun i => ([(3, .fz 1 (ints .u8 (encs (c.id :: L.take i)))), (9, .sl 1 0 10), (10, .int 10), (11, .int i)], [some (CB c), some NB])) 0 (Nat.zero_le _) (TEnt.toH rfl ⟨rfl, rfl, rfl, rfl, trivial⟩) (fun i hi => ?_) -- loop 1
 refine T.seq fun K5 hK5 => ?_
 refine T.region ?_ -- region 3
 refine ro rfl rfl (OpOk.step (ok_binOp rfl ti_int rfl)) ?_
 refine ro_nil ?_
 refine keepK hK5 [3, 9, 10, 11, 12] (by dsimp) (by dsimp) ?_
 refine T.seq fun K6 hK6 => ?_
 refine T.cond rfl (fun hc => ?_) (fun hc => ?_) -- cond 1
 ·(try simp only [dE] at hc)
  have hi10 : i < 10 := by omega
  obtain ⟨x, hx⟩ : ∃ x, L[i]? = some x := ⟨_, List.getElem?_eq_getElem (by omega)⟩
  have hxc : c.l[i + 1]? = some x := by rw [hcl]; simpa using hx
  have htk : L.take (i + 1) = L.take i ++ [x] := take_succ_get hx
  have hen : encs (c.id :: L.take i) ++ enc x 8 = encs (c.id :: L.take (i + 1)) := by rw [htk, ← encs_snoc]; rfl
  have hel : (encs (c.id :: L.take i)).length ≤ 88 := by rw [encs_len]; simp; omega
  refine T.skip ?_
  refine keepK hK6 [3, 9, 10, 11] (by dsimp) (by dsimp) ?_
  refine T.seq fun K7 hK7 => ?_
  refine T.block ?_
  refine T.seq fun K8 hK8 => ?_
  refine T.region ?_ -- region 4
  refine ro rfl rfl (OpOk.step (by exact ok_index_sl rfl ti_LPint rfl ti_Pint rfl rfl rfl rfl (by omega) (by omega))) ?_
  refine ro rfl rfl (OpOk.step (by exact ok_load rfl ti_Pint (cl := [.ref 0 0 (i + 1)]) (f := 0) (by show locA [some (CB c), some NB] (.ref 1 (0 + ((i : Nat) : Int).toNat) 0) = _; simp [locA, hget, NB_get hi10, AV.cells]) rfl)) ?_
  refine ro rfl rfl (OpOk.step (ok_move (.inr rfl))) ?_
  refine ro_nil ?_
  refine keepK hK8 [3, 5, 9, 10, 11] (by dsimp) (by dsimp) ?_
  refine T.region ?_ -- region 5
  refine ro rfl rfl (OpOk.step (ok_move (.inl rfl))) ?_
  refine ro rfl rfl (OpOk.step (ok_move (.inl rfl))) ?_
  refine ro rfl rfl (OpOk.step (ok_nilCheck rfl rfl)) ?_
  refine ro rfl rfl (OpOk.step (by exact ok_load rfl ti_int (cl := CC c) (f := i + 1) rfl (CC_get hxc))) ?_
  refine ro rfl rfl (ok_call rfl rfl rfl ((pkint_frz hen (by omega)).plain (by simp [renL, AV.ren, renL_ints]) (by simp [AV.ren, renL_ints]))) ?_
  refine ro rfl rfl (OpOk.step (ok_move (.inr rfl))) ?_
  refine ro_nil ?_
  refine keepK hK7 [3, 9, 10, 11] (by dsimp) (by dsimp) ?_
  refine T.region ?_ -- region 6
  refine ro rfl rfl (OpOk.step (ok_add64 rfl ti_int rfl rfl (by omega) (by omega))) ?_
  refine ro rfl rfl (OpOk.step (ok_move (.inl rfl))) ?_
  refine ro_nil ?_
  exact ⟨i + 1, by omega, by omega, TEnt.toH rfl ⟨rfl, rfl, rfl, rfl, trivial⟩⟩
 ·(try simp only [dE] at hc)
  have hi10 : i = 10 := by omega
  subst hi10
  rw [List.take_of_length_le (by omega), ← hcl]
  refine T.exit ?_
  refine keepK hK3 [3] (by dsimp) (by dsimp) ?_
  refine T.seq fun K9 hK9 => ?_
  refine T.region ?_ -- region 7
  refine ro rfl rfl (OpOk.step (ok_move (.inl rfl))) ?_
  refine ro rfl rfl (OpOk.step (ok_move (.inr rfl))) ?_
  refine ro_nil ?_
  refine keepK hK9 [2] (by dsimp) (by dsimp) ?_
  refine T.ret (hQ _ _ _ rfl ?_).1 -- ret 1
  exact TEnt.fin [] (by decide) (by simp) rfl ⟨by simp [tupA, AV.ren, renL_ints], trivial⟩
/-- Numbers read one behind the other between the same bounds: the place and the error behind so many. -/
def rdN (l : List Int) (a b : Int) : Nat → Nat × Int
  | 0 => (0, 0)
  | n + 1 => ((ri l (rdN l a b n).1 (rdN l a b n).2 a b).1, (ri l (rdN l a b n).1 (rdN l a b n).2 a b).2.1)
def rdV (l : List Int) (a b : Int) (n : Nat) : Int := (ri l (rdN l a b n).1 (rdN l a b n).2 a b).2.2
theorem rdN_le (l : List Int) (a b : Int) : ∀ n, (rdN l a b n).1 ≤ l.length
  | 0 => Nat.zero_le _
  | n + 1 => ri_le (rdN_le l a b n)
def rdL (l : List Int) (a b : Int) (i n : Nat) : List Int := (List.range i).map (rdV l a b) ++ List.replicate n 0
theorem rdL_len (l : List Int) (a b : Int) (i n : Nat) : (rdL l a b i n).length = i + n := by simp [rdL]
theorem rdL_put (l : List Int) (a b : Int) (i n : Nat) : splice (ints .i64 (rdL l a b i (n + 1))) i [.int (rdV l a b i)] = ints .i64 (rdL l a b (i + 1) n) := by
  have h1 : (rdL l a b i (n + 1)).take i = (List.range i).map (rdV l a b) := by unfold rdL; exact List.take_left' (by simp)
  have h2 : (rdL l a b i (n + 1)).drop (i + 1) = List.replicate n 0 := by
    unfold rdL
    rw [List.replicate_succ]
    have : (List.range i).map (rdV l a b) ++ 0 :: List.replicate n 0 = ((List.range i).map (rdV l a b) ++ [0]) ++ List.replicate n 0 := by simp
    rw [this]
    exact List.drop_left' (by simp)
  unfold splice
  rw [ints_take, h1]
  simp only [List.length_cons, List.length_nil, Nat.zero_add]
  rw [ints_drop, h2]
  simp [ints, rdL, List.range_succ]
def cf11 (f : Nat → Int) : Cf := ⟨f 0, f 1, f 2, f 3, f 4, f 5, f 6, f 7, f 8, f 9, f 10⟩
def cf0 : Cf := ⟨0, 0, 0, 0, 0, 0, 0, 0, 0, 0, 0⟩
abbrev gA : Int := -4611686018427387904
abbrev gB : Int := 4611686018427387904
/-- Settings read of bytes, and the error. -/
def getC (l : List Int) : Cf × Int :=
  if (rdN l gA gB 11).2 ≠ 0 then (cf0, (rdN l gA gB 11).2) else if (rdN l gA gB 11).1 < l.length then (cf0, 13) else (cf11 (rdV l gA gB), 0)
theorem getC_err {l : List Int} (h : (rdN l gA gB 11).2 ≠ 0) : getC l = (cf0, (rdN l gA gB 11).2) := if_pos h
theorem getC_form {l : List Int} (h : ¬ (rdN l gA gB 11).2 ≠ 0) (h' : (rdN l gA gB 11).1 < l.length) : getC l = (cf0, 13) := by unfold getC; rw [if_neg h, if_pos h']
theorem getC_ok {l : List Int} (h : ¬ (rdN l gA gB 11).2 ≠ 0) (h' : ¬ (rdN l gA gB 11).1 < l.length) : getC l = (cf11 (rdV l gA gB), 0) := by unfold getC; rw [if_neg h, if_neg h']
/-- The pointers, where the settings are the third block. -/
def NB2 : Blk := ⟨1, true, [.ref 2 0 1, .ref 2 0 2, .ref 2 0 3, .ref 2 0 4, .ref 2 0 5, .ref 2 0 6, .ref 2 0 7, .ref 2 0 8, .ref 2 0 9, .ref 2 0 10]⟩
theorem NB2_get {i : Nat} (h : i < 10) : NB2.els[i]? = some (.ref 2 0 (i + 1)) := by
  match i, h with
  | 0, _ | 1, _ | 2, _ | 3, _ | 4, _ | 5, _ | 6, _ | 7, _ | 8, _ | 9, _ => rfl
theorem cget_ok (l : List Int) (hB : Bytes l) (hl : l.length ≤ 140737488355328) : CSpec Try.prog 74 [] [.fz 1 (ints .u8 l)] [] (.tup [.agg (CC (getC l).1), .int (getC l).2]) := by
 refine CSpec.body Try.func74 rfl rfl rfl rfl rfl fun Q hQ => ?_
 refine T.seq fun K1 hK1 => ?_
 refine T.region ?_ -- region 0
 refine ro rfl rfl (OpOk.step (ok_alloc rfl ti_api_Conf rfl (by decide))) ?_
 refine ro rfl rfl (OpOk.step (ok_move (.inr rfl))) ?_
 refine ro_nil ?_
 refine keepK hK1 [0, 2] (by dsimp) (by dsimp) ?_
 refine T.seq fun K2 hK2 => ?_
 refine T.region ?_ -- region 1
 refine ro rfl rfl (OpOk.step (ok_move (.inl rfl))) ?_
 refine ro rfl rfl (ok_call rfl rfl rfl ((new_ok l hl).fresh (x' := .ref 1 0 0) (H' := [some (R l 0 0)]) (by simp [renL, AV.ren, renL_ints]) rfl (by simp [renH, R, Blk.ren, renL, AV.ren, renL_ints]))) ?_
 refine ro rfl rfl (OpOk.step (ok_move (.inr rfl))) ?_
 refine ro_nil ?_
 refine keepK hK2 [2, 4] (by dsimp) (by dsimp) ?_
 refine T.seq fun K3 hK3 => ?_
 refine T.region ?_ -- region 2
 refine ro rfl rfl (OpOk.step (ok_move (.inl rfl))) ?_
 refine ro rfl rfl (ok_call rfl rfl rfl (((int_ok l 0 0 gA gB hB (by omega) hl).pass [1] (by decide) (by simp) (by simp [normH, hget, R, Blk.ren, renL, AV.ren, renL_ints]) rfl).eq (x' := .int (rdV l gA gB 0)) (H'' := [some (CB cf0), some (R l (rdN l gA gB 1).1 (rdN l gA gB 1).2)]) rfl (by simp [mergeH, setIds, renH, R, Blk.ren, renL, AV.ren, renL_ints]; exact ⟨rfl, rfl, rfl⟩))) ?_
 refine ro rfl rfl (OpOk.step (ok_build rfl ti_api_Conf rfl)) ?_
 refine ro rfl rfl (OpOk.step (ok_alloc rfl ti_api_Conf rfl (by decide))) ?_
 refine ro rfl rfl (OpOk.step (ok_store rfl ti_api_Conf (by decide) rfl rfl rfl rfl rfl (by first | exact Nat.le_of_ble_eq_true rfl | simp) (by first | exact .inl ⟨rfl, rfl⟩ | exact .inr rfl))) ?_
 refine ro_nil ?_
 refine keepK hK3 [2, 4, 5] (by dsimp) (by dsimp) ?_
 refine T.seq fun K4 hK4 => ?_
 refine T.seq fun K5 hK5 => ?_
 have hp := rdN_le l gA gB
 refine T.region ?_ -- region 3
 refine ro rfl rfl (ok_call rfl rfl rfl (((numbers_new ⟨rdV l gA gB 0, 0, 0, 0, 0, 0, 0, 0, 0, 0, 0⟩).pass [2] (by decide) (by simp) rfl rfl).eq (x' := .sl 3 0 10) (H'' := [some (CB cf0), some (R l (rdN l gA gB 1).1 (rdN l gA gB 1).2), some ⟨11, true, [.agg (ints .i64 (rdL l gA gB 1 10))]⟩, some NB2]) rfl rfl)) ?_
 refine ro rfl rfl (OpOk.step (ok_len' rfl rfl ti_LPint rfl (by first | exact ints_length _ _ | exact rowsA_length _ _ | exact Cms_len _ | exact mapLen _ | rfl))) ?_
 refine ro rfl rfl (OpOk.step (ok_move (.inl rfl))) ?_
 refine ro_nil ?_
 refine keepK hK5 [2, 4, 5, 14, 15, 16] (by dsimp) (by dsimp) ?_
 refine T.block ?_
 refine T.loopI (ι := Nat) (fun i => i ≤ 10) (fun i => 10 - i) (fun i => ([(2, .ref 0 0 0), (4, .ref 1 0 0), (5, .ref 2 0 0), (14, .sl 3 0 10), (15, .int 10), (16, .int i)], [some (CB cf0), some (R l (rdN l gA gB (i + 1)).1 (rdN l gA gB (i + 1)).2), some ⟨11, true, [.agg (ints .i64 (rdL l gA gB (i + 1) (10 - i)))]⟩, some NB2])) 0 (Nat.zero_le _) (TEnt.toH rfl ⟨rfl, rfl, rfl, rfl, rfl, rfl, trivial⟩) (fun i hi => ?_) -- loop 1
 refine T.seq fun K6 hK6 => ?_
 refine T.region ?_ -- region 4
 refine ro rfl rfl (OpOk.step (ok_binOp rfl ti_int rfl)) ?_
 refine ro_nil ?_
 refine keepK hK6 [2, 4, 5, 14, 15, 16, 17] (by dsimp) (by dsimp) ?_
 refine T.seq fun K7 hK7 => ?_
 refine T.cond rfl (fun hc => ?_) (fun hc => ?_) -- cond 1
 ·(try simp only [dE] at hc)
  have hi10 : i < 10 := by omega
  obtain ⟨m, hm⟩ : ∃ m, 10 - i = m + 1 := ⟨9 - i, by omega⟩
  have hm' : 10 - (i + 1) = m := by omega
  rw [hm]
  refine T.skip ?_
  refine keepK hK7 [2, 4, 5, 14, 15, 16] (by dsimp) (by dsimp) ?_
  refine T.seq fun K8 hK8 => ?_
  refine T.block ?_
  refine T.seq fun K9 hK9 => ?_
  refine T.region ?_ -- region 5
  refine ro rfl rfl (OpOk.step (by exact ok_index_sl rfl ti_LPint rfl ti_Pint rfl rfl rfl rfl (by omega) (by omega))) ?_
  refine ro rfl rfl (OpOk.step (by exact ok_load rfl ti_Pint (cl := [.ref 2 0 (i + 1)]) (f := 0) (by show locA [_, _, _, some NB2] (.ref 3 (0 + ((i : Nat) : Int).toNat) 0) = _; simp [locA, hget, NB2_get hi10, AV.cells]) rfl)) ?_
  refine ro rfl rfl (OpOk.step (ok_move (.inr rfl))) ?_
  refine ro_nil ?_
  refine keepK hK9 [2, 4, 5, 7, 14, 15, 16] (by dsimp) (by dsimp) ?_
  refine T.region ?_ -- region 6
  refine ro rfl rfl (OpOk.step (ok_move (.inl rfl))) ?_
  refine ro rfl rfl (OpOk.step (ok_move (.inl rfl))) ?_
  refine ro rfl rfl (ok_call rfl rfl rfl (((int_ok l (rdN l gA gB (i + 1)).1 (rdN l gA gB (i + 1)).2 gA gB hB (hp _) hl).pass [1] (by decide) (by simp) (by simp [normH, hget, R, Blk.ren, renL, AV.ren, renL_ints]) rfl).eq (x' := .int (rdV l gA gB (i + 1))) (H'' := [some (CB cf0), some (R l (rdN l gA gB (i + 2)).1 (rdN l gA gB (i + 2)).2), some ⟨11, true, [.agg (ints .i64 (rdL l gA gB (i + 1) (m + 1)))]⟩, some NB2]) rfl (by simp [mergeH, setIds, renH, R, Blk.ren, renL, AV.ren, renL_ints]; exact ⟨rfl, rfl⟩))) ?_
  refine ro rfl rfl (OpOk.step (ok_nilCheck rfl rfl)) ?_
  refine ro rfl rfl (OpOk.step ((ok_store rfl ti_int (by decide) (id := 2) (j := 0) (f := i + 1) rfl rfl rfl rfl rfl (by show i + 1 + 1 ≤ 11; omega) (.inr (by show (ints .i64 (rdL l gA gB (i + 1) (m + 1))).length = 11; rw [ints_length, rdL_len]; omega))).eq (H'' := [some (CB cf0), some (R l (rdN l gA gB (i + 2)).1 (rdN l gA gB (i + 2)).2), some ⟨11, true, [.agg (ints .i64 (rdL l gA gB (i + 2) m))]⟩, some NB2]) rfl (by rw [← rdL_put l gA gB (i + 1) m]; rfl))) ?_
  refine ro_nil ?_
  refine keepK hK8 [2, 4, 5, 14, 15, 16] (by dsimp) (by dsimp) ?_
  refine T.region ?_ -- region 7
  refine ro rfl rfl (OpOk.step (ok_add64 rfl ti_int rfl rfl (by omega) (by omega))) ?_
  refine ro rfl rfl (OpOk.step (ok_move (.inl rfl))) ?_
  refine ro_nil ?_
  exact ⟨i + 1, by omega, by omega, TEnt.toH (by rw [hm']) ⟨rfl, rfl, rfl, rfl, rfl, rfl, trivial⟩⟩
 ·(try simp only [dE] at hc)
  have hi10 : i = 10 := by omega
  subst hi10
  refine T.exit ?_
  refine keepK hK4 [2, 4, 5] (by dsimp) (by dsimp) ?_
  refine T.seq fun K10 hK10 => ?_
  have hp11 := hp 11
  refine T.region ?_ -- region 8
  refine ro rfl rfl (OpOk.step (ok_move (.inl rfl))) ?_
  refine ro rfl rfl (ok_call rfl rfl rfl (((err_ok l (rdN l gA gB 11).1 (rdN l gA gB 11).2).pass [1] (by decide) (by simp) (by simp [normH, hget, R, Blk.ren, renL, AV.ren, renL_ints]) rfl).eq (x' := .int (rdN l gA gB 11).2) (H'' := [some (CB cf0), some (R l (rdN l gA gB 11).1 (rdN l gA gB 11).2), some (CB (cf11 (rdV l gA gB))), some NB2]) rfl (by simp [mergeH, setIds, renH, R, Blk.ren, renL, AV.ren, renL_ints]; rfl))) ?_
  refine ro rfl rfl (OpOk.step (ok_move (.inr rfl))) ?_
  refine ro_nil ?_
  refine keepK hK10 [2, 4, 5, 8] (by dsimp) (by dsimp) ?_
  refine T.seq fun K11 hK11 => ?_
  refine T.seq fun K12 hK12 => ?_
  refine T.region ?_ -- region 9
  refine ro rfl rfl (OpOk.step (ok_move (.inl rfl))) ?_
  refine ro rfl rfl (OpOk.step (ok_binOp rfl ti_api_Errno rfl)) ?_
  refine ro_case rfl rfl (OpOk.step (ok_moveb (.inl rfl) rfl)) (fun hb => ?_) (fun hb => ?_)
  ·(try simp only [dE] at hb)
   refine ro rfl rfl (OpOk.step (ok_move (.inl rfl))) ?_
   refine ro rfl rfl (ok_call rfl rfl rfl (((left_ok l (rdN l gA gB 11).1 (rdN l gA gB 11).2 hp11 hl).pass [1] (by decide) (by simp) (by simp [normH, hget, R, Blk.ren, renL, AV.ren, renL_ints]) rfl).eq (x' := .int ((l.length : Int) - (rdN l gA gB 11).1)) (H'' := [some (CB cf0), some (R l (rdN l gA gB 11).1 (rdN l gA gB 11).2), some (CB (cf11 (rdV l gA gB))), some NB2]) rfl (by simp [mergeH, setIds, renH, R, Blk.ren, renL, AV.ren, renL_ints]))) ?_
   refine ro rfl rfl (OpOk.step (ok_binOp rfl ti_int rfl)) ?_
   refine ro rfl rfl (OpOk.step (ok_pick rfl rfl)) ?_
   refine ro_nil ?_
   refine keepK hK12 [2, 5, 8, 33] (by dsimp) (by dsimp) ?_
   refine T.cond rfl (fun hc => ?_) (fun hc => ?_) -- cond 2
   ·(try simp only [dE] at hc)
    refine T.region ?_ -- region 10
    refine ro rfl rfl (OpOk.step (ok_move (.inr rfl))) ?_
    refine ro_nil ?_
    refine keepK hK11 [2, 5, 8] (by dsimp) (by dsimp) ?_
    refine T.seq fun K13 hK13 => ?_
    refine T.seq fun K14 hK14 => ?_
    refine T.region ?_ -- region 11
    refine ro rfl rfl (OpOk.step (ok_move (.inl rfl))) ?_
    refine ro rfl rfl (OpOk.step (ok_binOp rfl ti_api_Errno rfl)) ?_
    refine ro_nil ?_
    refine keepK hK14 [2, 5, 8, 35] (by dsimp) (by dsimp) ?_
    refine T.cond rfl (fun hc => ?_) (fun hc => ?_) -- cond 3
    ·(try simp only [dE] at hc)
     refine T.seq fun K15 hK15 => ?_
     refine T.region ?_ -- region 12
     refine ro rfl rfl (OpOk.step (ok_build rfl ti_api_Conf rfl)) ?_
     refine ro rfl rfl (OpOk.step (ok_move (.inl rfl))) ?_
     refine ro rfl rfl (OpOk.step (ok_store rfl ti_api_Conf (by decide) rfl rfl rfl rfl rfl (by first | exact Nat.le_of_ble_eq_true rfl | simp) (by first | exact .inl ⟨rfl, rfl⟩ | exact .inr rfl))) ?_
     refine ro rfl rfl (OpOk.step (ok_move (.inr rfl))) ?_
     refine ro_nil ?_
     refine keepK hK15 [2, 3] (by dsimp) (by dsimp) ?_
     refine T.ret (hQ _ _ _ rfl ?_).1 -- ret 1
     exact by first | (exact absurd hc (by decide)) | (rw [getC_form (by omega) (by omega)]; exact TEnt.fin [] (by decide) (by simp) rfl ⟨rfl, trivial⟩) | (rw [getC_err (by omega)]; exact TEnt.fin [] (by decide) (by simp) rfl ⟨rfl, trivial⟩) | (rw [getC_ok (by omega) (by omega)]; exact TEnt.fin [] (by decide) (by simp) rfl ⟨rfl, trivial⟩)
    ·(try simp only [dE] at hc)
     refine T.skip ?_
     refine keepK hK13 [2, 5] (by dsimp) (by dsimp) ?_
     refine T.seq fun K16 hK16 => ?_
     refine T.region ?_ -- region 13
     refine ro rfl rfl (OpOk.step (ok_load rfl ti_api_Conf rfl rfl)) ?_
     refine ro rfl rfl (OpOk.step (ok_store rfl ti_api_Conf (by decide) rfl rfl rfl rfl rfl (by first | exact Nat.le_of_ble_eq_true rfl | simp) (by first | exact .inl ⟨rfl, rfl⟩ | exact .inr rfl))) ?_
     refine ro rfl rfl (OpOk.step (ok_move (.inr rfl))) ?_
     refine ro_nil ?_
     refine keepK hK16 [2, 3] (by dsimp) (by dsimp) ?_
     refine T.ret (hQ _ _ _ rfl ?_).1 -- ret 2
     exact by first | (exact absurd hc (by decide)) | (rw [getC_form (by omega) (by omega)]; exact TEnt.fin [] (by decide) (by simp) rfl ⟨rfl, trivial⟩) | (rw [getC_err (by omega)]; exact TEnt.fin [] (by decide) (by simp) rfl ⟨rfl, trivial⟩) | (rw [getC_ok (by omega) (by omega)]; exact TEnt.fin [] (by decide) (by simp) rfl ⟨rfl, trivial⟩)
   ·(try simp only [dE] at hc)
    refine T.skip ?_
    refine keepK hK11 [2, 5, 8] (by dsimp) (by dsimp) ?_
    refine T.seq fun K17 hK17 => ?_
    refine T.seq fun K18 hK18 => ?_
    refine T.region ?_ -- region 11
    refine ro rfl rfl (OpOk.step (ok_move (.inl rfl))) ?_
    refine ro rfl rfl (OpOk.step (ok_binOp rfl ti_api_Errno rfl)) ?_
    refine ro_nil ?_
    refine keepK hK18 [2, 5, 8, 35] (by dsimp) (by dsimp) ?_
    refine T.cond rfl (fun hc => ?_) (fun hc => ?_) -- cond 4
    ·(try simp only [dE] at hc)
     refine T.seq fun K19 hK19 => ?_
     refine T.region ?_ -- region 12
     refine ro rfl rfl (OpOk.step (ok_build rfl ti_api_Conf rfl)) ?_
     refine ro rfl rfl (OpOk.step (ok_move (.inl rfl))) ?_
     refine ro rfl rfl (OpOk.step (ok_store rfl ti_api_Conf (by decide) rfl rfl rfl rfl rfl (by first | exact Nat.le_of_ble_eq_true rfl | simp) (by first | exact .inl ⟨rfl, rfl⟩ | exact .inr rfl))) ?_
     refine ro rfl rfl (OpOk.step (ok_move (.inr rfl))) ?_
     refine ro_nil ?_
     refine keepK hK19 [2, 3] (by dsimp) (by dsimp) ?_
     refine T.ret (hQ _ _ _ rfl ?_).1 -- ret 3
     exact by first | (exact absurd hc (by decide)) | (rw [getC_form (by omega) (by omega)]; exact TEnt.fin [] (by decide) (by simp) rfl ⟨rfl, trivial⟩) | (rw [getC_err (by omega)]; exact TEnt.fin [] (by decide) (by simp) rfl ⟨rfl, trivial⟩) | (rw [getC_ok (by omega) (by omega)]; exact TEnt.fin [] (by decide) (by simp) rfl ⟨rfl, trivial⟩)
    ·(try simp only [dE] at hc)
     refine T.skip ?_
     refine keepK hK17 [2, 5] (by dsimp) (by dsimp) ?_
     refine T.seq fun K20 hK20 => ?_
     refine T.region ?_ -- region 13
     refine ro rfl rfl (OpOk.step (ok_load rfl ti_api_Conf rfl rfl)) ?_
     refine ro rfl rfl (OpOk.step (ok_store rfl ti_api_Conf (by decide) rfl rfl rfl rfl rfl (by first | exact Nat.le_of_ble_eq_true rfl | simp) (by first | exact .inl ⟨rfl, rfl⟩ | exact .inr rfl))) ?_
     refine ro rfl rfl (OpOk.step (ok_move (.inr rfl))) ?_
     refine ro_nil ?_
     refine keepK hK20 [2, 3] (by dsimp) (by dsimp) ?_
     refine T.ret (hQ _ _ _ rfl ?_).1 -- ret 4
     exact by first | (exact absurd hc (by decide)) | (rw [getC_form (by omega) (by omega)]; exact TEnt.fin [] (by decide) (by simp) rfl ⟨rfl, trivial⟩) | (rw [getC_err (by omega)]; exact TEnt.fin [] (by decide) (by simp) rfl ⟨rfl, trivial⟩) | (rw [getC_ok (by omega) (by omega)]; exact TEnt.fin [] (by decide) (by simp) rfl ⟨rfl, trivial⟩)
  ·(try simp only [dE] at hb)
   refine ro_skip rfl rfl ?_
   refine ro_skip rfl rfl ?_
   refine ro_skip rfl rfl ?_
   refine ro rfl rfl (OpOk.step (ok_pickb (t := false) (d := false) rfl rfl rfl)) ?_
   refine ro_nil ?_
   refine keepK hK12 [2, 5, 8, 33] (by dsimp) (by dsimp) ?_
   refine T.cond_false rfl ?_
   refine T.skip ?_
   refine keepK hK11 [2, 5, 8] (by dsimp) (by dsimp) ?_
   refine T.seq fun K21 hK21 => ?_
   refine T.seq fun K22 hK22 => ?_
   refine T.region ?_ -- region 11
   refine ro rfl rfl (OpOk.step (ok_move (.inl rfl))) ?_
   refine ro rfl rfl (OpOk.step (ok_binOp rfl ti_api_Errno rfl)) ?_
   refine ro_nil ?_
   refine keepK hK22 [2, 5, 8, 35] (by dsimp) (by dsimp) ?_
   refine T.cond rfl (fun hc => ?_) (fun hc => ?_) -- cond 5
   ·(try simp only [dE] at hc)
    refine T.seq fun K23 hK23 => ?_
    refine T.region ?_ -- region 12
    refine ro rfl rfl (OpOk.step (ok_build rfl ti_api_Conf rfl)) ?_
    refine ro rfl rfl (OpOk.step (ok_move (.inl rfl))) ?_
    refine ro rfl rfl (OpOk.step (ok_store rfl ti_api_Conf (by decide) rfl rfl rfl rfl rfl (by first | exact Nat.le_of_ble_eq_true rfl | simp) (by first | exact .inl ⟨rfl, rfl⟩ | exact .inr rfl))) ?_
    refine ro rfl rfl (OpOk.step (ok_move (.inr rfl))) ?_
    refine ro_nil ?_
    refine keepK hK23 [2, 3] (by dsimp) (by dsimp) ?_
    refine T.ret (hQ _ _ _ rfl ?_).1 -- ret 5
    exact by first | (exact absurd hc (by decide)) | (rw [getC_form (by omega) (by omega)]; exact TEnt.fin [] (by decide) (by simp) rfl ⟨rfl, trivial⟩) | (rw [getC_err (by omega)]; exact TEnt.fin [] (by decide) (by simp) rfl ⟨rfl, trivial⟩) | (rw [getC_ok (by omega) (by omega)]; exact TEnt.fin [] (by decide) (by simp) rfl ⟨rfl, trivial⟩)
   ·(try simp only [dE] at hc)
    refine T.skip ?_
    refine keepK hK21 [2, 5] (by dsimp) (by dsimp) ?_
    refine T.seq fun K24 hK24 => ?_
    refine T.region ?_ -- region 13
    refine ro rfl rfl (OpOk.step (ok_load rfl ti_api_Conf rfl rfl)) ?_
    refine ro rfl rfl (OpOk.step (ok_store rfl ti_api_Conf (by decide) rfl rfl rfl rfl rfl (by first | exact Nat.le_of_ble_eq_true rfl | simp) (by first | exact .inl ⟨rfl, rfl⟩ | exact .inr rfl))) ?_
    refine ro rfl rfl (OpOk.step (ok_move (.inr rfl))) ?_
    refine ro_nil ?_
    refine keepK hK24 [2, 3] (by dsimp) (by dsimp) ?_
    refine T.ret (hQ _ _ _ rfl ?_).1 -- ret 6
    exact by first | (exact absurd hc (by decide)) | (rw [getC_form (by omega) (by omega)]; exact TEnt.fin [] (by decide) (by simp) rfl ⟨rfl, trivial⟩) | (rw [getC_err (by omega)]; exact TEnt.fin [] (by decide) (by simp) rfl ⟨rfl, trivial⟩) | (rw [getC_ok (by omega) (by omega)]; exact TEnt.fin [] (by decide) (by simp) rfl ⟨rfl, trivial⟩)
abbrev plainC : Cf := ⟨7, 4, 2, 64, 24, 3, 1, 3, 2, 3, 7⟩
theorem plain_vals : chkC plainC = 0 ∧ rowC plainC = 6 ∧ stripesC plainC = 12 ∧ sizeC plainC = 72 ∧ allC plainC = 7 := by decide +kernel
def inR (a b x : Int) : Bool := decide (a ≤ x ∧ x ≤ b)
theorem ri_encs {L : List Int} {rest : List Int} {n : Nat} {x lo hi : Int} (hx : L[n]? = some x) (hv : I64 x) : ri (encs L ++ rest) (8 * n) 0 lo hi = (8 * n + 8, if x < lo ∨ hi < x then 13 else 0, if x < lo ∨ hi < x then 0 else x) := by
  have hn := (List.getElem?_eq_some_iff.1 hx).1
  have hL : L = L.take n ++ x :: L.drop (n + 1) := by
    have hxx : L[n] = x := (List.getElem?_eq_some_iff.1 hx).2
    rw [← hxx, ← List.drop_eq_getElem_cons hn, List.take_append_drop]
  refine ri_enc (a := encs (L.take n)) (b := encs (L.drop (n + 1)) ++ rest) (by rw [encs_len, List.length_take]; omega) ?_ hv
  conv => lhs; rw [hL]
  rw [encs_append]
  simp [encs]
theorem rdN_encs {L : List Int} {rest : List Int} {a b : Int} (hI : ∀ x ∈ L, I64 x) : ∀ n, n ≤ L.length →
    (((L.take n).all (inR a b) = true → rdN (encs L ++ rest) a b n = (8 * n, 0) ∧ ∀ j, j < n → rdV (encs L ++ rest) a b j = L.getD j 0) ∧ ((L.take n).all (inR a b) = false → (rdN (encs L ++ rest) a b n).2 ≠ 0))
  | 0, _ => ⟨fun _ => ⟨rfl, fun j hj => absurd hj (Nat.not_lt_zero _)⟩, fun h => by simp at h⟩
  | n + 1, h => by
    obtain ⟨ih1, ih2⟩ := rdN_encs (rest := rest) (a := a) (b := b) hI n (by omega)
    obtain ⟨x, hx⟩ : ∃ x, L[n]? = some x := ⟨_, List.getElem?_eq_getElem (by omega)⟩
    have hxI := hI x (List.mem_of_getElem? hx)
    have htk : (L.take (n + 1)).all (inR a b) = ((L.take n).all (inR a b) && inR a b x) := by rw [take_succ_get hx, List.all_append]; simp
    have hgd : L.getD n 0 = x := by rw [List.getD_eq_getElem?_getD, hx]; rfl
    cases hb : (L.take n).all (inR a b)
    · have hne := ih2 hb
      rw [hb] at htk
      refine ⟨fun h => (by rw [htk] at h; cases h), fun _ => ?_⟩
      show (ri _ _ (rdN (encs L ++ rest) a b n).2 a b).2.1 ≠ 0
      unfold ri
      rw [if_pos hne]
      exact hne
    · obtain ⟨h1, h2⟩ := ih1 hb
      have hr := ri_encs (rest := rest) (lo := a) (hi := b) hx hxI
      have hrd : rdN (encs L ++ rest) a b (n + 1) = (8 * n + 8, if x < a ∨ b < x then 13 else 0) := by
        show ((ri _ (rdN (encs L ++ rest) a b n).1 (rdN (encs L ++ rest) a b n).2 a b).1, (ri _ (rdN (encs L ++ rest) a b n).1 (rdN (encs L ++ rest) a b n).2 a b).2.1) = _
        rw [h1, hr]
      have hrv : rdV (encs L ++ rest) a b n = if x < a ∨ b < x then 0 else x := by
        show (ri _ (rdN (encs L ++ rest) a b n).1 (rdN (encs L ++ rest) a b n).2 a b).2.2 = _
        rw [h1, hr]
      rw [hb, Bool.true_and] at htk
      rw [htk, hrd]
      by_cases ho : x < a ∨ b < x
      · have : inR a b x = false := by simp [inR]; omega
        rw [if_pos ho]
        exact ⟨fun h => (by rw [this] at h; cases h), fun _ => by simp⟩
      · have : inR a b x = true := by simp [inR]; omega
        rw [if_neg ho]
        refine ⟨fun _ => ⟨rfl, fun j hj => ?_⟩, fun h => (by rw [this] at h; cases h)⟩
        rcases Nat.lt_or_ge j n with hjn | hjn
        · exact h2 j hjn
        · obtain rfl : j = n := by omega
          rw [hrv, if_neg ho, hgd]
theorem cf11_eq {f : Nat → Int} {c : Cf} (h : ∀ j, j < 11 → f j = c.l.getD j 0) : cf11 f = c := by
  cases c
  simp only [cf11, Cf.mk.injEq]
  exact ⟨h 0 (by decide), h 1 (by decide), h 2 (by decide), h 3 (by decide), h 4 (by decide), h 5 (by decide), h 6 (by decide), h 7 (by decide), h 8 (by decide), h 9 (by decide), h 10 (by decide)⟩
theorem getC_of {l : List Int} {c : Cf} {n : Nat} (h3 : rdN l gA gB 11 = (n, 0)) (hl : l.length = n) (h4 : ∀ j, j < 11 → rdV l gA gB j = c.l.getD j 0) : getC l = (c, 0) := by
  rw [getC_ok (by rw [h3]; simp) (by rw [h3, hl]; exact Nat.lt_irrefl _), cf11_eq h4]
theorem getC_no {l : List Int} (h : (rdN l gA gB 11).2 ≠ 0) : (getC l).2 ≠ 0 := by
  rw [getC_err h]; exact h
theorem getC_put {c : Cf} (hI : ∀ x ∈ c.l, I64 x) : (c.l.all (inR gA gB) = true → getC (encs c.l) = (c, 0)) ∧ (c.l.all (inR gA gB) = false → (getC (encs c.l)).2 ≠ 0) := by
  obtain ⟨k, hk⟩ : ∃ k, c.l.length = k := ⟨_, rfl⟩
  have hk11 : 11 = k := hk
  have h := rdN_encs (rest := []) (a := gA) (b := gB) hI k (Nat.le_of_eq hk.symm)
  rw [List.take_of_length_le (Nat.le_of_eq hk), List.append_nil] at h
  have hlen : (encs c.l).length = 8 * k := by rw [encs_len, hk]
  generalize encs c.l = l at h hlen ⊢
  subst hk11
  obtain ⟨h1, h2⟩ := h
  exact ⟨fun h => getC_of (h1 h).1 hlen (h1 h).2, fun h => getC_no (h2 h)⟩
theorem rput_frz (c : Cf) : CSpec Try.prog 80 [] [.agg (CC c)] [] (.fz 1 (ints .u8 (encs c.l))) := (rput_new c).frz rfl (renL_ints _ _ _)
theorem cfOf_wf {a : Cf11} (h : (Lit.int .i64 a.1).wf = true ∧ (Lit.int .i64 a.2.1).wf = true ∧ (Lit.int .i64 a.2.2.1).wf = true ∧ (Lit.int .i64 a.2.2.2.1).wf = true ∧ (Lit.int .i64 a.2.2.2.2.1).wf = true ∧ (Lit.int .i64 a.2.2.2.2.2.1).wf = true ∧ (Lit.int .i64 a.2.2.2.2.2.2.1).wf = true ∧ (Lit.int .i64 a.2.2.2.2.2.2.2.1).wf = true ∧ (Lit.int .i64 a.2.2.2.2.2.2.2.2.1).wf = true ∧ (Lit.int .i64 a.2.2.2.2.2.2.2.2.2.1).wf = true ∧ (Lit.int .i64 a.2.2.2.2.2.2.2.2.2.2).wf = true) : ∀ x ∈ (cfOf a).l, I64 x := by
  obtain ⟨h0, h1, h2, h3, h4, h5, h6, h7, h8, h9, h10⟩ := h
  intro x hx
  simp only [cfOf, Cf.l, List.mem_cons, List.not_mem_nil, or_false] at hx
  rcases hx with rfl | rfl | rfl | rfl | rfl | rfl | rfl | rfl | rfl | rfl | rfl
  all_goals (apply wf_i64; assumption)
end Go.Proofs.Ytlegolcbjjjofaa.AmF
