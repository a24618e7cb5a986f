/- Walks over the abstract machine: numbers, rows and truths laid and read again. -/
import Derived.Test.YtlegolcbjjjofaaAfPack
namespace Go.Proofs.Ytlegolcbjjjofaa.AmF
open Go Go.AM
set_option maxRecDepth 100000
set_option linter.unusedSimpArgs false
set_option linter.unusedVariables false
attribute [local simp] tkeep tget tput ev cav argsTM pickA normT putA splice AV.cells ints_length rowsA_length enc_len
def I64 (v : Int) : Prop := -9223372036854775808 ≤ v ∧ v ≤ 9223372036854775807
theorem enc_get (v : Int) (n i : Nat) (h : i < n) : (enc v n).getD i 0 = v / 2 ^ (8 * i) % 256 := by
  rw [List.getD_eq_getElem?_getD]
  simp [enc, h, wrap_u8]
theorem num_enc (v : Int) (n : Nat) : ∀ i, i ≤ n → (num (enc v n) i : Int) = v % 2 ^ (8 * i)
  | 0, _ => by simp [num, Int.emod_one]
  | i + 1, h => by
    have ih := num_enc v n i (by omega)
    have hg := enc_get v n i (by omega)
    have hA : (0 : Int) < 2 ^ (8 * i) := Int.pow_pos (by decide)
    have hs := emod_step v (2 ^ (8 * i)) hA
    have he : (2 : Int) ^ (8 * (i + 1)) = 2 ^ (8 * i) * 256 := by rw [Nat.mul_add, Int.pow_add, show (2 : Int) ^ (8 * 1) = 256 from by decide]
    have h0 := Int.emod_nonneg (v / 2 ^ (8 * i)) (show (256 : Int) ≠ 0 by decide)
    simp only [num, hg, he, hs]
    rw [Int.natCast_add, Int.natCast_mul, ih, Int.toNat_of_nonneg h0, Int.natCast_pow]
    exact Int.add_comm _ _
theorem enc_bytes (v : Int) (n : Nat) : Bytes (enc v n) := by
  intro x hx
  simp only [enc, List.mem_map] at hx
  obtain ⟨i, _, rfl⟩ := hx
  rw [wrap_u8]
  omega
theorem val8_enc {l a b : List Int} {v : Int} (hl : l = a ++ (enc v 8 ++ b)) (hv : I64 v) : val8 l a.length = v := by
  unfold val8
  subst hl
  rw [List.drop_left, List.take_left' (enc_len v 8), num_enc v 8 8 (Nat.le_refl _)]
  have he : (2 : Int) ^ (8 * 8) = 18446744073709551616 := by decide
  rw [he]
  obtain ⟨h1, h2⟩ := hv
  simp [IntKind.wrap, IntKind.bits, IntKind.signed]
  split <;> omega
theorem ri_enc {l a b : List Int} {v lo hi : Int} {p : Nat} (hp : p = a.length) (hl : l = a ++ (enc v 8 ++ b)) (hv : I64 v) : ri l p 0 lo hi = (p + 8, if v < lo ∨ hi < v then 13 else 0, if v < lo ∨ hi < v then 0 else v) := by
  have h8 := val8_enc hl hv
  rw [← hp] at h8
  have hlen : ¬ l.length < p + 8 := by rw [hl, hp]; simp
  unfold ri
  rw [if_neg (by simp), if_neg hlen, h8]
  by_cases h : v < lo ∨ hi < v
  · rw [if_pos h, if_pos h, if_pos h]
  · rw [if_neg h, if_neg h, if_neg h]
theorem rb_enc {l a b x : List Int} {m : Int} {p : Nat} (hp : p = a.length) (hl : l = a ++ (enc x.length 8 ++ (x ++ b))) (hx : (x.length : Int) ≤ m) (hx' : x.length ≤ 140737488355328) : rb l p 0 m = (p + 8 + x.length, 0, x) := by
  have h := ri_enc (lo := 0) (hi := m) hp hl (v := x.length) ⟨by omega, by omega⟩
  have hc : ¬ ((x.length : Int) < 0 ∨ m < (x.length : Int)) := by omega
  rw [if_neg hc, if_neg hc] at h
  unfold rb
  rw [h]
  have hlen : ¬ l.length < p + 8 + ((x.length : Nat) : Int).toNat := by rw [hl, hp]; simp; omega
  dsimp only
  rw [if_neg (by simp), if_neg hlen]
  have hd : l.drop (p + 8) = x ++ b := by
    rw [hl, ← List.append_assoc]
    exact List.drop_left' (by simp [hp])
  rw [hd]
  simp
theorem rf_enc {l a b : List Int} {c : Int} {p : Nat} (hp : p = a.length) (hl : l = a ++ (c :: b)) : rf l p 0 = (p + 1, if 1 < c then 13 else 0, c == 1) := by
  unfold rf
  have : l[p]? = some c := by rw [hl, hp]; simp
  simp [this]
theorem pkint_frz {l r : List Int} {v : Int} (hr : l ++ enc v 8 = r) (hl : l.length ≤ 1000000) : CSpec Try.prog 84 [] [.fz 1 (ints .u8 l), .int v] [] (.fz 1 (ints .u8 r)) := hr ▸ (pkint_new l v hl).frz (by simp) (renL_ints _ _ _)
theorem pkbytes_new (l x : List Int) (hl : l.length ≤ 1000000) (hx : x.length ≤ 1048576) : CSpec Try.prog 87 [] [.fz 1 (ints .u8 l), .fz 1 (ints .u8 x)] [some ⟨1, true, ints .u8 ((l ++ enc x.length 8) ++ x)⟩] (.sl 0 0 ((l ++ enc x.length 8) ++ x).length) := by
 refine CSpec.body Try.func87 rfl rfl rfl rfl rfl fun Q hQ => ?_
 refine T.seq fun K1 hK1 => ?_
 refine T.region ?_ -- region 0
 refine ro rfl rfl (OpOk.step (ok_move (.inr rfl))) ?_
 refine ro_nil ?_
 refine keepK hK1 [0, 1] (by dsimp) (by dsimp) ?_
 refine T.seq fun K2 hK2 => ?_
 refine T.region ?_ -- region 1
 refine ro rfl rfl (OpOk.step (ok_move (.inl rfl))) ?_
 refine ro rfl rfl (OpOk.step (ok_move (.inl rfl))) ?_
 refine ro rfl rfl (OpOk.step (ok_len' rfl rfl ti_Luint8 rfl (by first | exact ints_length _ _ | exact rowsA_length _ _ | exact Cms_len _ | exact mapLen _ | rfl))) ?_
 refine ro rfl rfl (ok_call rfl rfl rfl ((pkint_new l x.length (by omega)).fresh (x' := .sl 0 0 (l ++ enc x.length 8).length) (H' := [some ⟨1, true, ints .u8 (l ++ enc x.length 8)⟩]) (by simp [renL, AV.ren, renL_ints]) rfl (by simp [renH, Blk.ren, renL_ints]))) ?_
 refine ro rfl rfl (OpOk.step (ok_move (.inl rfl))) ?_
 refine ro rfl rfl (OpOk.step (by exact ok_append_ints (k := .u8) (xs := l ++ enc x.length 8) (ys := x) rfl ti_Luint8 rfl ti_uint8 rfl (by decide) rfl ti_Luint8 (by simp) rfl rfl rfl rfl rfl rfl rfl rfl rfl (by simp <;> omega))) ?_
 refine ro rfl rfl (OpOk.step (ok_move (.inr rfl))) ?_
 refine ro_nil ?_
 refine keepK hK2 [4] (by dsimp) (by dsimp) ?_
 refine T.ret (hQ _ _ _ rfl ?_).1 -- ret 1
 exact TEnt.fin [1] (by decide) (by simp) (by simp [normH, hget, Blk.ren, renL_ints]) ⟨rfl, trivial⟩
theorem pkflag_new (l : List Int) (is : Bool) (hl : l.length ≤ 1000000) : CSpec Try.prog 86 [] [.fz 1 (ints .u8 l), .b is] [some ⟨1, true, ints .u8 (l ++ [if is = true then 1 else 0])⟩] (.sl 0 0 (l ++ [if is = true then (1 : Int) else 0]).length) := by
 refine CSpec.body Try.func86 rfl rfl rfl rfl rfl fun Q hQ => ?_
 refine T.seq fun K1 hK1 => ?_
 refine T.region ?_ -- region 0
 refine ro rfl rfl (OpOk.step (ok_move (.inr rfl))) ?_
 refine ro_nil ?_
 refine keepK hK1 [0, 1] (by dsimp) (by dsimp) ?_
 refine T.seq fun K2 hK2 => ?_
 refine T.region ?_ -- region 1
 refine ro rfl rfl (OpOk.step (ok_move (.inr rfl))) ?_
 refine ro_nil ?_
 refine keepK hK2 [0, 1, 5] (by dsimp) (by dsimp) ?_
 refine T.seq fun K3 hK3 => ?_
 refine T.seq fun K4 hK4 => ?_
 refine T.region ?_ -- region 2
 refine ro rfl rfl (OpOk.step (ok_move (.inl rfl))) ?_
 refine ro_nil ?_
 refine keepK hK4 [0, 5, 6] (by dsimp) (by dsimp) ?_
 refine T.cond rfl (fun hc => ?_) (fun hc => ?_) -- cond 1
 ·(try simp only [dE] at hc)
  subst hc
  refine T.region ?_ -- region 3
  refine ro rfl rfl (OpOk.step (ok_move (.inr rfl))) ?_
  refine ro_nil ?_
  refine keepK hK3 [0, 5] (by dsimp) (by dsimp) ?_
  refine T.seq fun K5 hK5 => ?_
  refine T.region ?_ -- region 4
  refine ro rfl rfl (OpOk.step (ok_move (.inl rfl))) ?_
  refine ro rfl rfl (ok_call rfl rfl rfl ((clone_new l (by omega)).fresh (x' := .sl 0 0 l.length) (H' := [some ⟨1, true, ints .u8 l⟩]) (by simp [renL, AV.ren, renL_ints]) rfl (by simp [renH, Blk.ren, renL_ints]))) ?_
  refine ro rfl rfl (OpOk.step (ok_move (.inl rfl))) ?_
  refine ro rfl rfl (OpOk.step (ok_buildSlice (n := 1) (ps := #[(0, .tmp 9)]) rfl ti_Luint8 rfl ti_uint8 (by decide) rfl rfl (by decide) rfl rfl rfl)) ?_
  refine ro rfl rfl (OpOk.step (by exact ok_append_ints (k := .u8) (xs := l) (ys := [_]) rfl ti_Luint8 rfl ti_uint8 rfl (by decide) rfl ti_Luint8 (by simp) rfl rfl rfl rfl rfl rfl rfl rfl rfl (by simp <;> omega))) ?_
  refine ro rfl rfl (OpOk.step (ok_move (.inr rfl))) ?_
  refine ro_nil ?_
  refine keepK hK5 [4] (by dsimp) (by dsimp) ?_
  refine T.ret (hQ _ _ _ rfl ?_).1 -- ret 1
  exact TEnt.fin [2] (by decide) (by simp) (by simp [normH, hget, Blk.ren, renL_ints]) ⟨rfl, trivial⟩
 ·(try simp only [dE] at hc)
  subst hc
  refine T.skip ?_
  refine keepK hK3 [0, 5] (by dsimp) (by dsimp) ?_
  refine T.seq fun K6 hK6 => ?_
  refine T.region ?_ -- region 4
  refine ro rfl rfl (OpOk.step (ok_move (.inl rfl))) ?_
  refine ro rfl rfl (ok_call rfl rfl rfl ((clone_new l (by omega)).fresh (x' := .sl 0 0 l.length) (H' := [some ⟨1, true, ints .u8 l⟩]) (by simp [renL, AV.ren, renL_ints]) rfl (by simp [renH, Blk.ren, renL_ints]))) ?_
  refine ro rfl rfl (OpOk.step (ok_move (.inl rfl))) ?_
  refine ro rfl rfl (OpOk.step (ok_buildSlice (n := 1) (ps := #[(0, .tmp 9)]) rfl ti_Luint8 rfl ti_uint8 (by decide) rfl rfl (by decide) rfl rfl rfl)) ?_
  refine ro rfl rfl (OpOk.step (by exact ok_append_ints (k := .u8) (xs := l) (ys := [_]) rfl ti_Luint8 rfl ti_uint8 rfl (by decide) rfl ti_Luint8 (by simp) rfl rfl rfl rfl rfl rfl rfl rfl rfl (by simp <;> omega))) ?_
  refine ro rfl rfl (OpOk.step (ok_move (.inr rfl))) ?_
  refine ro_nil ?_
  refine keepK hK6 [4] (by dsimp) (by dsimp) ?_
  refine T.ret (hQ _ _ _ rfl ?_).1 -- ret 2
  exact TEnt.fin [2] (by decide) (by simp) (by simp [normH, hget, Blk.ren, renL_ints]) ⟨rfl, trivial⟩
theorem pkbytes_frz {l x r : List Int} (hr : (l ++ enc x.length 8) ++ x = r) (hl : l.length ≤ 1000000) (hx : x.length ≤ 1048576) : CSpec Try.prog 87 [] [.fz 1 (ints .u8 l), .fz 1 (ints .u8 x)] [] (.fz 1 (ints .u8 r)) := hr ▸ (pkbytes_new l x hl hx).frz (by simp) (renL_ints _ _ _)
theorem pkflag_frz {l r : List Int} {is : Bool} (hr : l ++ [if is = true then 1 else 0] = r) (hl : l.length ≤ 1000000) : CSpec Try.prog 86 [] [.fz 1 (ints .u8 l), .b is] [] (.fz 1 (ints .u8 r)) := hr ▸ (pkflag_new l is hl).frz (by simp) (renL_ints _ _ _)
theorem int_nil (a b : Int) : CSpec Try.prog 76 [] [.v (.pointer none), .int a, .int b] [] (.int 0) := by
 refine CSpec.body Try.func76 rfl rfl rfl rfl rfl fun Q hQ => ?_
 refine T.seq fun K1 hK1 => ?_
 refine T.region ?_ -- region 0
 refine ro rfl rfl (OpOk.step (ok_move (.inr rfl))) ?_
 refine ro_nil ?_
 refine keepK hK1 [0, 1, 2] (by dsimp) (by dsimp) ?_
 refine T.seq fun K2 hK2 => ?_
 refine T.seq fun K3 hK3 => ?_
 refine T.region ?_ -- region 1
 refine ro rfl rfl (OpOk.step (ok_move (.inl rfl))) ?_
 refine ro rfl rfl (OpOk.step (OpOk.bool (d := true) (ok_binOp rfl ti_Ppack_Reader rfl) (rfl))) ?_
 refine ro_nil ?_
 refine keepK hK3 [0, 1, 2, 11] (by dsimp) (by dsimp) ?_
 refine T.cond_true rfl ?_
 refine T.seq fun K4 hK4 => ?_
 refine T.region ?_ -- region 2
 refine ro rfl rfl (OpOk.step (ok_move (.inr rfl))) ?_
 refine ro_nil ?_
 refine keepK hK4 [6] (by dsimp) (by dsimp) ?_
 refine T.ret (hQ _ _ _ rfl ?_).1 -- ret 1
 exact TEnt.toH rfl ⟨rfl, trivial⟩
theorem bytes_nil (b : Int) : CSpec Try.prog 120 [] [.v (.pointer none), .int b] [] (.v (.slice none 0 0)) := by
 refine CSpec.body Try.func120 rfl rfl rfl rfl rfl fun Q hQ => ?_
 refine T.seq fun K1 hK1 => ?_
 refine T.region ?_ -- region 0
 refine ro rfl rfl (OpOk.step (ok_move (.inr rfl))) ?_
 refine ro_nil ?_
 refine keepK hK1 [0, 1] (by dsimp) (by dsimp) ?_
 refine T.seq fun K2 hK2 => ?_
 refine T.seq fun K3 hK3 => ?_
 refine T.region ?_ -- region 1
 refine ro rfl rfl (OpOk.step (ok_move (.inl rfl))) ?_
 refine ro rfl rfl (OpOk.step (OpOk.bool (d := true) (ok_binOp rfl ti_Ppack_Reader rfl) (rfl))) ?_
 refine ro_nil ?_
 refine keepK hK3 [0, 1, 7] (by dsimp) (by dsimp) ?_
 refine T.cond_true rfl ?_
 refine T.seq fun K4 hK4 => ?_
 refine T.region ?_ -- region 2
 refine ro rfl rfl (OpOk.step (ok_move (.inr rfl))) ?_
 refine ro_nil ?_
 refine keepK hK4 [4] (by dsimp) (by dsimp) ?_
 refine T.ret (hQ _ _ _ rfl ?_).1 -- ret 1
 exact TEnt.toH rfl ⟨rfl, trivial⟩
theorem flag_nil : CSpec Try.prog 119 [] [.v (.pointer none)] [] (.b false) := by
 refine CSpec.body Try.func119 rfl rfl rfl rfl rfl fun Q hQ => ?_
 refine T.seq fun K1 hK1 => ?_
 refine T.region ?_ -- region 0
 refine ro rfl rfl (OpOk.step (ok_moveb (c := false) (.inr rfl) rfl)) ?_
 refine ro_nil ?_
 refine keepK hK1 [0] (by dsimp) (by dsimp) ?_
 refine T.seq fun K2 hK2 => ?_
 refine T.seq fun K3 hK3 => ?_
 refine T.region ?_ -- region 1
 refine ro rfl rfl (OpOk.step (ok_move (.inl rfl))) ?_
 refine ro rfl rfl (OpOk.step (OpOk.bool (d := true) (ok_binOp rfl ti_Ppack_Reader rfl) (rfl))) ?_
 refine ro_nil ?_
 refine keepK hK3 [0, 5] (by dsimp) (by dsimp) ?_
 refine T.cond_true rfl ?_
 refine T.seq fun K4 hK4 => ?_
 refine T.region ?_ -- region 2
 refine ro rfl rfl (OpOk.step (ok_moveb (c := false) (.inr rfl) rfl)) ?_
 refine ro_nil ?_
 refine keepK hK4 [2] (by dsimp) (by dsimp) ?_
 refine T.ret (hQ _ _ _ rfl ?_).1 -- ret 1
 exact TEnt.toH rfl ⟨rfl, trivial⟩
theorem left_nil : CSpec Try.prog 79 [] [.v (.pointer none)] [] (.int 0) := by
 refine CSpec.body Try.func79 rfl rfl rfl rfl rfl fun Q hQ => ?_
 refine T.seq fun K1 hK1 => ?_
 refine T.region ?_ -- region 0
 refine ro rfl rfl (OpOk.step (ok_move (.inr rfl))) ?_
 refine ro_nil ?_
 refine keepK hK1 [0] (by dsimp) (by dsimp) ?_
 refine T.seq fun K2 hK2 => ?_
 refine T.seq fun K3 hK3 => ?_
 refine T.region ?_ -- region 1
 refine ro rfl rfl (OpOk.step (ok_move (.inl rfl))) ?_
 refine ro rfl rfl (OpOk.step (OpOk.bool (d := true) (ok_binOp rfl ti_Ppack_Reader rfl) (rfl))) ?_
 refine ro_nil ?_
 refine keepK hK3 [0, 4] (by dsimp) (by dsimp) ?_
 refine T.cond_true rfl ?_
 refine T.seq fun K4 hK4 => ?_
 refine T.region ?_ -- region 2
 refine ro rfl rfl (OpOk.step (ok_move (.inr rfl))) ?_
 refine ro_nil ?_
 refine keepK hK4 [2] (by dsimp) (by dsimp) ?_
 refine T.ret (hQ _ _ _ rfl ?_).1 -- ret 1
 exact TEnt.toH rfl ⟨rfl, trivial⟩
theorem err_nil : CSpec Try.prog 78 [] [.v (.pointer none)] [] (.int 16) := by
 refine CSpec.body Try.func78 rfl rfl rfl rfl rfl fun Q hQ => ?_
 refine T.seq fun K1 hK1 => ?_
 refine T.region ?_ -- region 0
 refine ro rfl rfl (OpOk.step (ok_move (.inr rfl))) ?_
 refine ro_nil ?_
 refine keepK hK1 [0] (by dsimp) (by dsimp) ?_
 refine T.seq fun K2 hK2 => ?_
 refine T.seq fun K3 hK3 => ?_
 refine T.region ?_ -- region 1
 refine ro rfl rfl (OpOk.step (ok_move (.inl rfl))) ?_
 refine ro rfl rfl (OpOk.step (OpOk.bool (d := true) (ok_binOp rfl ti_Ppack_Reader rfl) (rfl))) ?_
 refine ro_nil ?_
 refine keepK hK3 [0, 4] (by dsimp) (by dsimp) ?_
 refine T.cond_true rfl ?_
 refine T.seq fun K4 hK4 => ?_
 refine T.region ?_ -- region 2
 refine ro rfl rfl (OpOk.step (ok_move (.inr rfl))) ?_
 refine ro_nil ?_
 refine keepK hK4 [2] (by dsimp) (by dsimp) ?_
 refine T.ret (hQ _ _ _ rfl ?_).1 -- ret 1
 exact TEnt.toH rfl ⟨rfl, trivial⟩
end Go.Proofs.Ytlegolcbjjjofaa.AmF
