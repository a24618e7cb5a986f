/- Walks over the abstract machine: numbers, rows and truths laid and read again. -/
import Derived.Test.YtmegpanmiagheaaAfPack
namespace Go.Proofs.Ytmegpanmiagheaa.AmF
open Go Go.AM
set_option maxRecDepth 100000
set_option linter.unusedSimpArgs false
set_option linter.unusedVariables false
attribute [local simp] tkeep tget tput ev cav argsTM pickA normT putA splice AV.cells ints_length rowsA_length enc_len
def I64 (v : Int) : Prop := -9223372036854775808 ≤ v ∧ v ≤ 9223372036854775807
theorem enc_get (v : Int) (n i : Nat) (h : i < n) : (enc v n).getD i 0 = v / 2 ^ (8 * i) % 256 := by
  rw [List.getD_eq_getElem?_getD]
  simp [enc, h, wrap_u8]
theorem num_enc (v : Int) (n : Nat) : ∀ i, i ≤ n → (num (enc v n) i : Int) = v % 2 ^ (8 * i)
  | 0, _ => by simp [num, Int.emod_one]
  | i + 1, h => by
    have ih := num_enc v n i (by omega)
    have hg := enc_get v n i (by omega)
    have hA : (0 : Int) < 2 ^ (8 * i) := Int.pow_pos (by decide)
    have hs := emod_step v (2 ^ (8 * i)) hA
    have he : (2 : Int) ^ (8 * (i + 1)) = 2 ^ (8 * i) * 256 := by rw [Nat.mul_add, Int.pow_add, show (2 : Int) ^ (8 * 1) = 256 from by decide]
    have h0 := Int.emod_nonneg (v / 2 ^ (8 * i)) (show (256 : Int) ≠ 0 by decide)
    simp only [num, hg, he, hs]
    rw [Int.natCast_add, Int.natCast_mul, ih, Int.toNat_of_nonneg h0, Int.natCast_pow]
    exact Int.add_comm _ _
theorem enc_bytes (v : Int) (n : Nat) : Bytes (enc v n) := by
  intro x hx
  simp only [enc, List.mem_map] at hx
  obtain ⟨i, _, rfl⟩ := hx
  rw [wrap_u8]
  omega
theorem val8_enc {l a b : List Int} {v : Int} (hl : l = a ++ (enc v 8 ++ b)) (hv : I64 v) : val8 l a.length = v := by
  unfold val8
  subst hl
  rw [List.drop_left, List.take_left' (enc_len v 8), num_enc v 8 8 (Nat.le_refl _)]
  have he : (2 : Int) ^ (8 * 8) = 18446744073709551616 := by decide
  rw [he]
  obtain ⟨h1, h2⟩ := hv
  simp [IntKind.wrap, IntKind.bits, IntKind.signed]
  split <;> omega
theorem ri_enc {l a b : List Int} {v lo hi : Int} {p : Nat} (hp : p = a.length) (hl : l = a ++ (enc v 8 ++ b)) (hv : I64 v) : ri l p 0 lo hi = (p + 8, if v < lo ∨ hi < v then 13 else 0, if v < lo ∨ hi < v then 0 else v) := by
  have h8 := val8_enc hl hv
  rw [← hp] at h8
  have hlen : ¬ l.length < p + 8 := by rw [hl, hp]; simp
  unfold ri
  rw [if_neg (by simp), if_neg hlen, h8]
  by_cases h : v < lo ∨ hi < v
  · rw [if_pos h, if_pos h, if_pos h]
  · rw [if_neg h, if_neg h, if_neg h]
theorem rb_enc {l a b x : List Int} {m : Int} {p : Nat} (hp : p = a.length) (hl : l = a ++ (enc x.length 8 ++ (x ++ b))) (hx : (x.length : Int) ≤ m) (hx' : x.length ≤ 140737488355328) : rb l p 0 m = (p + 8 + x.length, 0, x) := by
  have h := ri_enc (lo := 0) (hi := m) hp hl (v := x.length) ⟨by omega, by omega⟩
  have hc : ¬ ((x.length : Int) < 0 ∨ m < (x.length : Int)) := by omega
  rw [if_neg hc, if_neg hc] at h
  unfold rb
  rw [h]
  have hlen : ¬ l.length < p + 8 + ((x.length : Nat) : Int).toNat := by rw [hl, hp]; simp; omega
  dsimp only
  rw [if_neg (by simp), if_neg hlen]
  have hd : l.drop (p + 8) = x ++ b := by
    rw [hl, ← List.append_assoc]
    exact List.drop_left' (by simp [hp])
  rw [hd]
  simp
theorem rf_enc {l a b : List Int} {c : Int} {p : Nat} (hp : p = a.length) (hl : l = a ++ (c :: b)) : rf l p 0 = (p + 1, if 1 < c then 13 else 0, c == 1) := by
  unfold rf
  have : l[p]? = some c := by rw [hl, hp]; simp
  simp [this]
theorem pkint_frz {l r : List Int} {v : Int} (hr : l ++ enc v 8 = r) (hl : l.length ≤ 1000000) : CSpec Try.prog 28 [] [.fz 1 (ints .u8 l), .int v] [] (.fz 1 (ints .u8 r)) := hr ▸ (pkint_new l v hl).frz (by simp) (renL_ints _ _ _)
theorem pkbytes_new (l x : List Int) (hl : l.length ≤ 1000000) (hx : x.length ≤ 1048576) : CSpec Try.prog 30 [] [.fz 1 (ints .u8 l), .fz 1 (ints .u8 x)] [some ⟨1, true, ints .u8 ((l ++ enc x.length 8) ++ x)⟩] (.sl 0 0 ((l ++ enc x.length 8) ++ x).length) := by
  refine CSpec.body Try.func30 rfl rfl rfl rfl rfl fun Q hQ => ?_
  refine T.seq fun K1 hK1 => ?_
  refine T.region ?_ -- region 0
  refine ro rfl rfl (OpOk.step (ok_move (.inr rfl))) ?_
  refine ro_nil ?_
  refine keepK hK1 [0, 1] (by dsimp) (by dsimp) ?_
  refine T.seq fun K2 hK2 => ?_
  refine T.region ?_ -- region 1
  refine ro rfl rfl (OpOk.step (ok_move (.inl rfl))) ?_
  refine ro rfl rfl (OpOk.step (ok_move (.inl rfl))) ?_
  refine ro rfl rfl (OpOk.step (ok_len' rfl rfl ti_Luint8 rfl (by first | exact ints_length _ _ | exact rowsA_length _ _ | rfl))) ?_
  refine ro rfl rfl (ok_call rfl rfl rfl ((pkint_new l x.length (by omega)).fresh (x' := .sl 0 0 (l ++ enc x.length 8).length) (H' := [some ⟨1, true, ints .u8 (l ++ enc x.length 8)⟩]) (by simp [renL, AV.ren, renL_ints]) rfl (by simp [renH, Blk.ren, renL_ints]))) ?_
  refine ro rfl rfl (OpOk.step (ok_move (.inl rfl))) ?_
  refine ro rfl rfl (OpOk.step (by exact ok_append_ints (k := .u8) (xs := l ++ enc x.length 8) (ys := x) rfl ti_Luint8 rfl ti_uint8 rfl (by decide) rfl ti_Luint8 (by simp) rfl rfl rfl rfl rfl rfl rfl rfl rfl (by simp <;> omega))) ?_
  refine ro rfl rfl (OpOk.step (ok_move (.inr rfl))) ?_
  refine ro_nil ?_
  refine keepK hK2 [4] (by dsimp) (by dsimp) ?_
  refine T.ret (hQ _ _ _ rfl ?_).1 -- ret 1
  exact TEnt.fin [1] (by decide) (by simp) (by simp [normH, hget, Blk.ren, renL_ints]) ⟨rfl, trivial⟩
theorem pkflag_new (l : List Int) (is : Bool) (hl : l.length ≤ 1000000) : CSpec Try.prog 29 [] [.fz 1 (ints .u8 l), .b is] [some ⟨1, true, ints .u8 (l ++ [if is = true then 1 else 0])⟩] (.sl 0 0 (l ++ [if is = true then (1 : Int) else 0]).length) := by
  refine CSpec.body Try.func29 rfl rfl rfl rfl rfl fun Q hQ => ?_
  refine T.seq fun K1 hK1 => ?_
  refine T.region ?_ -- region 0
  refine ro rfl rfl (OpOk.step (ok_move (.inr rfl))) ?_
  refine ro_nil ?_
  refine keepK hK1 [0, 1] (by dsimp) (by dsimp) ?_
  refine T.seq fun K2 hK2 => ?_
  refine T.region ?_ -- region 1
  refine ro rfl rfl (OpOk.step (ok_move (.inr rfl))) ?_
  refine ro_nil ?_
  refine keepK hK2 [0, 1, 5] (by dsimp) (by dsimp) ?_
  refine T.seq fun K3 hK3 => ?_
  refine T.seq fun K4 hK4 => ?_
  refine T.region ?_ -- region 2
  refine ro rfl rfl (OpOk.step (ok_move (.inl rfl))) ?_
  refine ro_nil ?_
  refine keepK hK4 [0, 5, 6] (by dsimp) (by dsimp) ?_
  refine T.cond rfl (fun hc => ?_) (fun hc => ?_) -- cond 1
  · (try simp only [decide_eq_true_eq, beq_iff_eq, bne_iff_ne, ne_eq, Bool.not_eq_true'] at hc)
    subst hc
    refine T.region ?_ -- region 3
    refine ro rfl rfl (OpOk.step (ok_move (.inr rfl))) ?_
    refine ro_nil ?_
    refine keepK hK3 [0, 5] (by dsimp) (by dsimp) ?_
    refine T.seq fun K5 hK5 => ?_
    refine T.region ?_ -- region 4
    refine ro rfl rfl (OpOk.step (ok_move (.inl rfl))) ?_
    refine ro rfl rfl (ok_call rfl rfl rfl ((clone_new l (by omega)).fresh (x' := .sl 0 0 l.length) (H' := [some ⟨1, true, ints .u8 l⟩]) (by simp [renL, AV.ren, renL_ints]) rfl (by simp [renH, Blk.ren, renL_ints]))) ?_
    refine ro rfl rfl (OpOk.step (ok_move (.inl rfl))) ?_
    refine ro rfl rfl (OpOk.step (ok_buildSlice (n := 1) (ps := #[(0, .tmp 9)]) rfl ti_Luint8 rfl ti_uint8 (by decide) rfl rfl (by decide) rfl rfl rfl)) ?_
    refine ro rfl rfl (OpOk.step (by exact ok_append_ints (k := .u8) (xs := l) (ys := [_]) rfl ti_Luint8 rfl ti_uint8 rfl (by decide) rfl ti_Luint8 (by simp) rfl rfl rfl rfl rfl rfl rfl rfl rfl (by simp <;> omega))) ?_
    refine ro rfl rfl (OpOk.step (ok_move (.inr rfl))) ?_
    refine ro_nil ?_
    refine keepK hK5 [4] (by dsimp) (by dsimp) ?_
    refine T.ret (hQ _ _ _ rfl ?_).1 -- ret 1
    exact TEnt.fin [2] (by decide) (by simp) (by simp [normH, hget, Blk.ren, renL_ints]) ⟨rfl, trivial⟩
  · (try simp only [decide_eq_false_iff_not, beq_eq_false_iff_ne, bne_eq_false_iff_eq, ne_eq, Bool.not_eq_false'] at hc)
    subst hc
    refine T.skip ?_
    refine keepK hK3 [0, 5] (by dsimp) (by dsimp) ?_
    refine T.seq fun K6 hK6 => ?_
    refine T.region ?_ -- region 4
    refine ro rfl rfl (OpOk.step (ok_move (.inl rfl))) ?_
    refine ro rfl rfl (ok_call rfl rfl rfl ((clone_new l (by omega)).fresh (x' := .sl 0 0 l.length) (H' := [some ⟨1, true, ints .u8 l⟩]) (by simp [renL, AV.ren, renL_ints]) rfl (by simp [renH, Blk.ren, renL_ints]))) ?_
    refine ro rfl rfl (OpOk.step (ok_move (.inl rfl))) ?_
    refine ro rfl rfl (OpOk.step (ok_buildSlice (n := 1) (ps := #[(0, .tmp 9)]) rfl ti_Luint8 rfl ti_uint8 (by decide) rfl rfl (by decide) rfl rfl rfl)) ?_
    refine ro rfl rfl (OpOk.step (by exact ok_append_ints (k := .u8) (xs := l) (ys := [_]) rfl ti_Luint8 rfl ti_uint8 rfl (by decide) rfl ti_Luint8 (by simp) rfl rfl rfl rfl rfl rfl rfl rfl rfl (by simp <;> omega))) ?_
    refine ro rfl rfl (OpOk.step (ok_move (.inr rfl))) ?_
    refine ro_nil ?_
    refine keepK hK6 [4] (by dsimp) (by dsimp) ?_
    refine T.ret (hQ _ _ _ rfl ?_).1 -- ret 2
    exact TEnt.fin [2] (by decide) (by simp) (by simp [normH, hget, Blk.ren, renL_ints]) ⟨rfl, trivial⟩
theorem pkbytes_frz {l x r : List Int} (hr : (l ++ enc x.length 8) ++ x = r) (hl : l.length ≤ 1000000) (hx : x.length ≤ 1048576) : CSpec Try.prog 30 [] [.fz 1 (ints .u8 l), .fz 1 (ints .u8 x)] [] (.fz 1 (ints .u8 r)) := hr ▸ (pkbytes_new l x hl hx).frz (by simp) (renL_ints _ _ _)
theorem pkflag_frz {l r : List Int} {is : Bool} (hr : l ++ [if is = true then 1 else 0] = r) (hl : l.length ≤ 1000000) : CSpec Try.prog 29 [] [.fz 1 (ints .u8 l), .b is] [] (.fz 1 (ints .u8 r)) := hr ▸ (pkflag_new l is hl).frz (by simp) (renL_ints _ _ _)
theorem int_nil (a b : Int) : CSpec Try.prog 19 [] [.v (.pointer none), .int a, .int b] [] (.int 0) := by
  refine CSpec.body Try.func19 rfl rfl rfl rfl rfl fun Q hQ => ?_
  refine T.seq fun K1 hK1 => ?_
  refine T.region ?_ -- region 0
  refine ro rfl rfl (OpOk.step (ok_move (.inr rfl))) ?_
  refine ro_nil ?_
  refine keepK hK1 [0, 1, 2] (by dsimp) (by dsimp) ?_
  refine T.seq fun K2 hK2 => ?_
  refine T.seq fun K3 hK3 => ?_
  refine T.region ?_ -- region 1
  refine ro rfl rfl (OpOk.step (ok_move (.inl rfl))) ?_
  refine ro rfl rfl (OpOk.step (OpOk.bool (d := true) (ok_binOp rfl ti_Ppack_Reader rfl) (rfl))) ?_
  refine ro_nil ?_
  refine keepK hK3 [0, 1, 2, 11] (by dsimp) (by dsimp) ?_
  refine T.cond_true rfl ?_
  refine T.seq fun K4 hK4 => ?_
  refine T.region ?_ -- region 2
  refine ro rfl rfl (OpOk.step (ok_move (.inr rfl))) ?_
  refine ro_nil ?_
  refine keepK hK4 [6] (by dsimp) (by dsimp) ?_
  refine T.ret (hQ _ _ _ rfl ?_).1 -- ret 1
  exact TEnt.toH rfl ⟨rfl, trivial⟩
theorem bytes_nil (b : Int) : CSpec Try.prog 21 [] [.v (.pointer none), .int b] [] (.v (.slice none 0 0)) := by
  refine CSpec.body Try.func21 rfl rfl rfl rfl rfl fun Q hQ => ?_
  refine T.seq fun K1 hK1 => ?_
  refine T.region ?_ -- region 0
  refine ro rfl rfl (OpOk.step (ok_move (.inr rfl))) ?_
  refine ro_nil ?_
  refine keepK hK1 [0, 1] (by dsimp) (by dsimp) ?_
  refine T.seq fun K2 hK2 => ?_
  refine T.seq fun K3 hK3 => ?_
  refine T.region ?_ -- region 1
  refine ro rfl rfl (OpOk.step (ok_move (.inl rfl))) ?_
  refine ro rfl rfl (OpOk.step (OpOk.bool (d := true) (ok_binOp rfl ti_Ppack_Reader rfl) (rfl))) ?_
  refine ro_nil ?_
  refine keepK hK3 [0, 1, 7] (by dsimp) (by dsimp) ?_
  refine T.cond_true rfl ?_
  refine T.seq fun K4 hK4 => ?_
  refine T.region ?_ -- region 2
  refine ro rfl rfl (OpOk.step (ok_move (.inr rfl))) ?_
  refine ro_nil ?_
  refine keepK hK4 [4] (by dsimp) (by dsimp) ?_
  refine T.ret (hQ _ _ _ rfl ?_).1 -- ret 1
  exact TEnt.toH rfl ⟨rfl, trivial⟩
theorem flag_nil : CSpec Try.prog 23 [] [.v (.pointer none)] [] (.b false) := by
  refine CSpec.body Try.func23 rfl rfl rfl rfl rfl fun Q hQ => ?_
  refine T.seq fun K1 hK1 => ?_
  refine T.region ?_ -- region 0
  refine ro rfl rfl (OpOk.step (ok_moveb (c := false) (.inr rfl) rfl)) ?_
  refine ro_nil ?_
  refine keepK hK1 [0] (by dsimp) (by dsimp) ?_
  refine T.seq fun K2 hK2 => ?_
  refine T.seq fun K3 hK3 => ?_
  refine T.region ?_ -- region 1
  refine ro rfl rfl (OpOk.step (ok_move (.inl rfl))) ?_
  refine ro rfl rfl (OpOk.step (OpOk.bool (d := true) (ok_binOp rfl ti_Ppack_Reader rfl) (rfl))) ?_
  refine ro_nil ?_
  refine keepK hK3 [0, 5] (by dsimp) (by dsimp) ?_
  refine T.cond_true rfl ?_
  refine T.seq fun K4 hK4 => ?_
  refine T.region ?_ -- region 2
  refine ro rfl rfl (OpOk.step (ok_moveb (c := false) (.inr rfl) rfl)) ?_
  refine ro_nil ?_
  refine keepK hK4 [2] (by dsimp) (by dsimp) ?_
  refine T.ret (hQ _ _ _ rfl ?_).1 -- ret 1
  exact TEnt.toH rfl ⟨rfl, trivial⟩
theorem left_nil : CSpec Try.prog 27 [] [.v (.pointer none)] [] (.int 0) := by
  refine CSpec.body Try.func27 rfl rfl rfl rfl rfl fun Q hQ => ?_
  refine T.seq fun K1 hK1 => ?_
  refine T.region ?_ -- region 0
  refine ro rfl rfl (OpOk.step (ok_move (.inr rfl))) ?_
  refine ro_nil ?_
  refine keepK hK1 [0] (by dsimp) (by dsimp) ?_
  refine T.seq fun K2 hK2 => ?_
  refine T.seq fun K3 hK3 => ?_
  refine T.region ?_ -- region 1
  refine ro rfl rfl (OpOk.step (ok_move (.inl rfl))) ?_
  refine ro rfl rfl (OpOk.step (OpOk.bool (d := true) (ok_binOp rfl ti_Ppack_Reader rfl) (rfl))) ?_
  refine ro_nil ?_
  refine keepK hK3 [0, 4] (by dsimp) (by dsimp) ?_
  refine T.cond_true rfl ?_
  refine T.seq fun K4 hK4 => ?_
  refine T.region ?_ -- region 2
  refine ro rfl rfl (OpOk.step (ok_move (.inr rfl))) ?_
  refine ro_nil ?_
  refine keepK hK4 [2] (by dsimp) (by dsimp) ?_
  refine T.ret (hQ _ _ _ rfl ?_).1 -- ret 1
  exact TEnt.toH rfl ⟨rfl, trivial⟩
theorem err_nil : CSpec Try.prog 26 [] [.v (.pointer none)] [] (.int 16) := by
  refine CSpec.body Try.func26 rfl rfl rfl rfl rfl fun Q hQ => ?_
  refine T.seq fun K1 hK1 => ?_
  refine T.region ?_ -- region 0
  refine ro rfl rfl (OpOk.step (ok_move (.inr rfl))) ?_
  refine ro_nil ?_
  refine keepK hK1 [0] (by dsimp) (by dsimp) ?_
  refine T.seq fun K2 hK2 => ?_
  refine T.seq fun K3 hK3 => ?_
  refine T.region ?_ -- region 1
  refine ro rfl rfl (OpOk.step (ok_move (.inl rfl))) ?_
  refine ro rfl rfl (OpOk.step (OpOk.bool (d := true) (ok_binOp rfl ti_Ppack_Reader rfl) (rfl))) ?_
  refine ro_nil ?_
  refine keepK hK3 [0, 4] (by dsimp) (by dsimp) ?_
  refine T.cond_true rfl ?_
  refine T.seq fun K4 hK4 => ?_
  refine T.region ?_ -- region 2
  refine ro rfl rfl (OpOk.step (ok_move (.inr rfl))) ?_
  refine ro_nil ?_
  refine keepK hK4 [2] (by dsimp) (by dsimp) ?_
  refine T.ret (hQ _ _ _ rfl ?_).1 -- ret 1
  exact TEnt.toH rfl ⟨rfl, trivial⟩
theorem back_ok (n : Int) (x : List Int) (is : Bool) (m : Int) (hn : I64 n) (hm : I64 m) (hB : Bytes x) (hx : x.length ≤ 140737488355328) : CSpec Try.prog 4 [] [.int n, .fz 1 (ints .u8 x), .b is, .int m] [] (.b true) := by
  refine CSpec.body Try.func4 rfl rfl rfl rfl rfl fun Q hQ => ?_
  refine T.seq fun K1 hK1 => ?_
  refine T.region ?_ -- region 0
  refine ro rfl rfl (OpOk.step (ok_moveb (c := false) (.inr rfl) rfl)) ?_
  refine ro_nil ?_
  refine keepK hK1 [0, 1, 2, 3] (by dsimp) (by dsimp) ?_
  refine T.seq fun K2 hK2 => ?_
  refine T.seq fun K3 hK3 => ?_
  refine T.region ?_ -- region 1
  refine ro rfl rfl (OpOk.step (ok_move (.inl rfl))) ?_
  refine ro rfl rfl (OpOk.step (ok_len' rfl rfl ti_Luint8 rfl (by first | exact ints_length _ _ | exact rowsA_length _ _ | rfl))) ?_
  refine ro rfl rfl (OpOk.step (ok_binOp rfl ti_int rfl)) ?_
  refine ro_nil ?_
  refine keepK hK3 [0, 1, 2, 3, 18] (by dsimp) (by dsimp) ?_
  refine T.cond rfl (fun hc => ?_) (fun hc => ?_) -- cond 1
  · (try simp only [decide_eq_true_eq, beq_iff_eq, bne_iff_ne, ne_eq, Bool.not_eq_true'] at hc)
    skip
    refine T.seq fun K4 hK4 => ?_
    refine T.region ?_ -- region 2
    refine ro rfl rfl (ok_call rfl rfl rfl (live01_ok.plain rfl rfl)) ?_
    refine ro rfl rfl (OpOk.step (ok_move (.inr rfl))) ?_
    refine ro_nil ?_
    refine keepK hK4 [8] (by dsimp) (by dsimp) ?_
    refine T.ret (hQ _ _ _ rfl ?_).1 -- ret 1
    exact TEnt.fin [] (by decide) (by simp) rfl ⟨rfl, trivial⟩
  · (try simp only [decide_eq_false_iff_not, beq_eq_false_iff_ne, bne_eq_false_iff_eq, ne_eq, Bool.not_eq_false'] at hc)
    obtain ⟨r1, hr1⟩ : ∃ r, ([] ++ enc n 8 : List Int) = r := ⟨_, rfl⟩
    obtain ⟨r2, hr2⟩ : ∃ r, (r1 ++ enc x.length 8) ++ x = r := ⟨_, rfl⟩
    obtain ⟨r3, hr3⟩ : ∃ r, r2 ++ [if is = true then 1 else 0] = r := ⟨_, rfl⟩
    obtain ⟨r4, hr4⟩ : ∃ r, r3 ++ enc m 8 = r := ⟨_, rfl⟩
    have hx5 : x.length ≤ 500 := by omega
    have l1 : r1.length = 8 := by rw [← hr1]; simp
    have l2 : r2.length = 16 + x.length := by rw [← hr2]; simp [l1]; omega
    have l3 : r3.length = 17 + x.length := by rw [← hr3]; simp [l2]; omega
    have l4 : r4.length = 25 + x.length := by rw [← hr4]; simp [l3]; omega
    have hB4 : Bytes r4 := by
      rw [← hr4, ← hr3, ← hr2, ← hr1]
      refine (((((Bytes.nil).append (enc_bytes _ _)).append (enc_bytes _ _)).append hB).append ?_).append (enc_bytes _ _)
      cases is <;> exact Bytes.cons (by decide) Bytes.nil
    have q1 : ri r4 0 0 n n = (8, 0, n) := by
      have h := ri_enc (l := r4) (a := []) (b := enc x.length 8 ++ x ++ [if is = true then 1 else 0] ++ enc m 8) (lo := n) (hi := n) (p := 0) rfl (by rw [← hr4, ← hr3, ← hr2, ← hr1]; simp) hn
      simpa using h
    have q2 : rb r4 8 0 x.length = (16 + x.length, 0, x) := by
      have h := rb_enc (l := r4) (a := r1) (x := x) (b := [if is = true then 1 else 0] ++ enc m 8) (m := x.length) (p := 8) l1.symm (by rw [← hr4, ← hr3, ← hr2]; simp) (Int.le_refl _) (by omega)
      rw [h]
    have q3 : rf r4 (16 + x.length) 0 = (17 + x.length, 0, is) := by
      have h := rf_enc (l := r4) (a := r2) (c := if is = true then 1 else 0) (b := enc m 8) (p := 16 + x.length) l2.symm (by rw [← hr4, ← hr3]; simp)
      rw [h]
      cases is <;> simp <;> omega
    have q4 : ri r4 (17 + x.length) 0 m m = (25 + x.length, 0, m) := by
      have h := ri_enc (l := r4) (a := r3) (b := []) (lo := m) (hi := m) (p := 17 + x.length) l3.symm (by rw [← hr4]; simp) hm
      rw [h]
      have hc : ¬ (m < m ∨ m < m) := by omega
      rw [if_neg hc, if_neg hc]
      congr 1
      omega
    have hl4 : r4.length ≤ 140737488355328 := by omega
    refine T.skip ?_
    refine keepK hK2 [0, 1, 2, 3] (by dsimp) (by dsimp) ?_
    refine T.seq fun K5 hK5 => ?_
    refine T.region ?_ -- region 3
    refine ro rfl rfl (OpOk.step (ok_move (.inl rfl))) ?_
    refine ro rfl rfl (ok_call rfl rfl rfl (((pkint_frz hr1 (by simp)).plain rfl (by simp [AV.ren, renL_ints])).view (EntL.cons (Ent.nil 1) (EntL.refl _)))) ?_
    refine ro rfl rfl (OpOk.step (ok_move (.inl rfl))) ?_
    refine ro rfl rfl (ok_call rfl rfl rfl ((pkbytes_frz hr2 (by omega) (by omega)).plain (by simp [renL, AV.ren, renL_ints]) (by simp [AV.ren, renL_ints]))) ?_
    refine ro rfl rfl (OpOk.step (ok_move (.inl rfl))) ?_
    refine ro rfl rfl (ok_call rfl rfl rfl ((pkflag_frz hr3 (by omega)).plain (by simp [renL, AV.ren, renL_ints]) (by simp [AV.ren, renL_ints]))) ?_
    refine ro rfl rfl (OpOk.step (ok_move (.inl rfl))) ?_
    refine ro rfl rfl (ok_call rfl rfl rfl ((pkint_frz hr4 (by omega)).plain (by simp [renL, AV.ren, renL_ints]) (by simp [AV.ren, renL_ints]))) ?_
    refine ro rfl rfl (ok_call rfl rfl rfl ((new_ok r4 hl4).fresh (x' := .ref 0 0 0) (H' := [some (R r4 0 0)]) (by simp [renL, AV.ren, renL_ints]) rfl (by simp [renH, R, Blk.ren, renL, AV.ren, renL_ints]))) ?_
    refine ro rfl rfl (OpOk.step (ok_move (.inr rfl))) ?_
    refine ro_nil ?_
    refine keepK hK5 [0, 1, 2, 3, 9] (by dsimp) (by dsimp) ?_
    refine T.seq fun K6 hK6 => ?_
    refine T.region ?_ -- region 4
    refine ro rfl rfl (OpOk.step (ok_move (.inl rfl))) ?_
    refine ro rfl rfl (OpOk.step (ok_move (.inl rfl))) ?_
    refine ro rfl rfl (OpOk.step (ok_move (.inl rfl))) ?_
    refine ro rfl rfl (ok_call rfl rfl rfl (((int_ok r4 0 0 n n hB4 (by omega) hl4).pass [0] (by decide) (by simp) (normR _ _ _) rfl).eq (x' := .int n) (H'' := [some (R r4 8 0)]) (by rw [q1]; rfl) (by rw [q1]; exact pass0 (H := []) _ _ _))) ?_
    refine ro rfl rfl (OpOk.step (ok_move (.inl rfl))) ?_
    refine ro rfl rfl (OpOk.step (ok_move (.inl rfl))) ?_
    refine ro rfl rfl (OpOk.step (ok_len' rfl rfl ti_Luint8 rfl (by first | exact ints_length _ _ | exact rowsA_length _ _ | rfl))) ?_
    refine ro rfl rfl (ok_call rfl rfl rfl (((bytes_ok r4 8 0 x.length hB4 (by omega) hl4).pass [0] (by decide) (by simp) (normR _ _ _) rfl).eq (x' := .fz 1 (ints .u8 x)) (H'' := [some (R r4 (16 + x.length) 0)]) (by rw [q2]; simp [AV.ren, renL_ints]) (by rw [q2]; exact pass0 (H := []) _ _ _))) ?_
    refine ro rfl rfl (OpOk.step (ok_move (.inl rfl))) ?_
    refine ro rfl rfl (ok_call rfl rfl rfl (((flag_ok r4 (16 + x.length) 0 (by omega) hl4).pass [0] (by decide) (by simp) (normR _ _ _) rfl).eq (x' := .b is) (H'' := [some (R r4 (17 + x.length) 0)]) (by rw [q3]; rfl) (by rw [q3]; exact pass0 (H := []) _ _ _))) ?_
    refine ro rfl rfl (OpOk.step (ok_move (.inl rfl))) ?_
    refine ro rfl rfl (OpOk.step (ok_move (.inl rfl))) ?_
    refine ro rfl rfl (OpOk.step (ok_move (.inl rfl))) ?_
    refine ro rfl rfl (ok_call rfl rfl rfl (((int_ok r4 (17 + x.length) 0 m m hB4 (by omega) hl4).pass [0] (by decide) (by simp) (normR _ _ _) rfl).eq (x' := .int m) (H'' := [some (R r4 (25 + x.length) 0)]) (by rw [q4]; rfl) (by rw [q4]; exact pass0 (H := []) _ _ _))) ?_
    refine ro rfl rfl (OpOk.step (ok_move (.inr rfl))) ?_
    refine ro rfl rfl (OpOk.step (ok_move (.inr rfl))) ?_
    refine ro rfl rfl (OpOk.step (ok_move (.inr rfl))) ?_
    refine ro rfl rfl (OpOk.step (ok_move (.inr rfl))) ?_
    refine ro_nil ?_
    refine keepK hK6 [0, 1, 2, 3, 9, 10, 11, 12, 13] (by dsimp) (by dsimp) ?_
    refine T.seq fun K7 hK7 => ?_
    refine T.region ?_ -- region 5
    refine ro rfl rfl (OpOk.step (ok_move (.inr rfl))) ?_
    refine ro_nil ?_
    refine keepK hK7 [0, 1, 2, 3, 9, 10, 11, 12, 13, 14] (by dsimp) (by dsimp) ?_
    refine T.seq fun K8 hK8 => ?_
    refine T.region ?_ -- region 6
    refine ro rfl rfl (OpOk.step (ok_move (.inl rfl))) ?_
    refine ro rfl rfl (ok_call rfl rfl rfl ((int_nil 0 9).plain rfl rfl)) ?_
    refine ro rfl rfl (OpOk.step (ok_move (.inl rfl))) ?_
    refine ro rfl rfl (ok_call rfl rfl rfl ((bytes_nil 9).plain rfl rfl)) ?_
    refine ro rfl rfl (OpOk.step (ok_len' rfl rfl ti_Luint8 rfl (by first | exact ints_length _ _ | exact rowsA_length _ _ | rfl))) ?_
    refine ro rfl rfl (OpOk.step (ok_add64 rfl ti_int rfl rfl (by omega) (by omega))) ?_
    refine ro rfl rfl (OpOk.step (ok_move (.inl rfl))) ?_
    refine ro rfl rfl (ok_call rfl rfl rfl (left_nil.plain rfl rfl)) ?_
    refine ro rfl rfl (OpOk.step (ok_add64 rfl ti_int rfl rfl (by omega) (by omega))) ?_
    refine ro rfl rfl (OpOk.step (ok_move (.inr rfl))) ?_
    refine ro_nil ?_
    refine keepK hK8 [0, 1, 2, 3, 9, 10, 11, 12, 13, 14, 15] (by dsimp) (by dsimp) ?_
    refine T.seq fun K9 hK9 => ?_
    refine T.region ?_ -- region 7
    refine ro rfl rfl (OpOk.step (ok_move (.inl rfl))) ?_
    refine ro rfl rfl (OpOk.step (ok_move (.inl rfl))) ?_
    refine ro rfl rfl (OpOk.step (OpOk.bool (d := true) (ok_binOp rfl ti_int rfl) (by simp))) ?_
    refine ro rfl rfl (OpOk.step (ok_moveb (c := true) (.inl rfl) rfl)) ?_
    refine ro rfl rfl (OpOk.step (ok_move (.inl rfl))) ?_
    refine ro rfl rfl (OpOk.step (ok_conv_str rfl ti_Luint8 ti_string rfl ti_uint8 rfl rfl rfl rfl (bytesOf_ints _))) ?_
    refine ro rfl rfl (OpOk.step (ok_move (.inl rfl))) ?_
    refine ro rfl rfl (OpOk.step (ok_conv_str rfl ti_Luint8 ti_string rfl ti_uint8 rfl rfl rfl rfl (bytesOf_ints _))) ?_
    refine ro rfl rfl (OpOk.step (OpOk.bool (d := true) (ok_binOp rfl ti_string rfl) (by simp))) ?_
    refine ro rfl rfl (OpOk.step (ok_pickb (t := true) (d := true) rfl rfl rfl)) ?_
    refine ro rfl rfl (OpOk.step (ok_moveb (c := true) (.inl rfl) rfl)) ?_
    refine ro rfl rfl (OpOk.step (ok_move (.inl rfl))) ?_
    refine ro rfl rfl (OpOk.step (ok_move (.inl rfl))) ?_
    refine ro rfl rfl (OpOk.step (OpOk.bool (d := true) (ok_binOp rfl ti_bool rfl) (by simp))) ?_
    refine ro rfl rfl (OpOk.step (ok_pickb (t := true) (d := true) rfl rfl rfl)) ?_
    refine ro rfl rfl (OpOk.step (ok_moveb (c := true) (.inl rfl) rfl)) ?_
    refine ro rfl rfl (OpOk.step (ok_move (.inl rfl))) ?_
    refine ro rfl rfl (OpOk.step (ok_move (.inl rfl))) ?_
    refine ro rfl rfl (OpOk.step (OpOk.bool (d := true) (ok_binOp rfl ti_int rfl) (by simp))) ?_
    refine ro rfl rfl (OpOk.step (ok_pickb (t := true) (d := true) rfl rfl rfl)) ?_
    refine ro rfl rfl (OpOk.step (ok_moveb (c := true) (.inl rfl) rfl)) ?_
    refine ro rfl rfl (OpOk.step (ok_move (.inl rfl))) ?_
    refine ro rfl rfl (ok_call rfl rfl rfl (((left_ok r4 (25 + x.length) 0 (by omega) hl4).pass [0] (by decide) (by simp) (normR _ _ _) rfl).eq (x' := .int 0) (H'' := [some (R r4 (25 + x.length) 0)]) (by rw [l4]; simp [AV.ren]) (pass0 (H := []) _ _ _))) ?_
    refine ro rfl rfl (OpOk.step (OpOk.bool (d := true) (ok_binOp rfl ti_int rfl) (by simp))) ?_
    refine ro rfl rfl (OpOk.step (ok_pickb (t := true) (d := true) rfl rfl rfl)) ?_
    refine ro rfl rfl (OpOk.step (ok_moveb (c := true) (.inl rfl) rfl)) ?_
    refine ro rfl rfl (OpOk.step (ok_move (.inl rfl))) ?_
    refine ro rfl rfl (ok_call rfl rfl rfl (((err_ok r4 (25 + x.length) 0).pass [0] (by decide) (by simp) (normR _ _ _) rfl).eq (x' := .int 0) (H'' := [some (R r4 (25 + x.length) 0)]) rfl (pass0 (H := []) _ _ _))) ?_
    refine ro rfl rfl (ok_call rfl rfl rfl ((code_ok 0).plain rfl rfl)) ?_
    refine ro rfl rfl (OpOk.step (OpOk.bool (d := true) (ok_binOp rfl ti_int rfl) (rfl))) ?_
    refine ro rfl rfl (OpOk.step (ok_pickb (t := true) (d := true) rfl rfl rfl)) ?_
    refine ro rfl rfl (OpOk.step (ok_moveb (c := true) (.inl rfl) rfl)) ?_
    refine ro rfl rfl (OpOk.step (ok_move (.inl rfl))) ?_
    refine ro rfl rfl (OpOk.step (OpOk.bool (d := true) (ok_binOp rfl ti_int rfl) (rfl))) ?_
    refine ro rfl rfl (OpOk.step (ok_pickb (t := true) (d := true) rfl rfl rfl)) ?_
    refine ro rfl rfl (OpOk.step (ok_moveb (c := true) (.inl rfl) rfl)) ?_
    refine ro rfl rfl (OpOk.step (ok_move (.inl rfl))) ?_
    refine ro rfl rfl (ok_call rfl rfl rfl (flag_nil.plain rfl rfl)) ?_
    refine ro rfl rfl (OpOk.step (OpOk.bool (d := true) (ok_unOp rfl rfl) (rfl))) ?_
    refine ro rfl rfl (OpOk.step (ok_pickb (t := true) (d := true) rfl rfl rfl)) ?_
    refine ro rfl rfl (OpOk.step (ok_moveb (c := true) (.inl rfl) rfl)) ?_
    refine ro rfl rfl (OpOk.step (ok_move (.inl rfl))) ?_
    refine ro rfl rfl (ok_call rfl rfl rfl (err_nil.plain rfl rfl)) ?_
    refine ro rfl rfl (ok_call rfl rfl rfl ((code_ok 16).plain rfl rfl)) ?_
    refine ro rfl rfl (OpOk.step (OpOk.bool (d := true) (ok_binOp rfl ti_int rfl) (rfl))) ?_
    refine ro rfl rfl (OpOk.step (ok_pickb (t := true) (d := true) rfl rfl rfl)) ?_
    refine ro rfl rfl (OpOk.step (ok_moveb (c := true) (.inl rfl) rfl)) ?_
    refine ro rfl rfl (ok_call rfl rfl rfl (live01_ok.plain rfl rfl)) ?_
    refine ro rfl rfl (OpOk.step (ok_pick rfl rfl)) ?_
    refine ro rfl rfl (OpOk.step (ok_move (.inr rfl))) ?_
    refine ro_nil ?_
    refine keepK hK9 [8] (by dsimp) (by dsimp) ?_
    refine T.ret (hQ _ _ _ rfl ?_).1 -- ret 2
    exact TEnt.fin [] (by decide) (by simp) rfl ⟨rfl, trivial⟩
end Go.Proofs.Ytmegpanmiagheaa.AmF
